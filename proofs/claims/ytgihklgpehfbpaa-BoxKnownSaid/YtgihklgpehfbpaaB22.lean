/-
  What is proved here: the program's plan, volume and value. Conditions: none; each contract states its own.
-/
import Derived.Test.YtgihklgpehfbpaaB21
namespace Go.Proofs.Ytgihklgpehfbpaa
open Go Go.TH
attribute [local irreducible] W WO pt
set_option maxRecDepth 10000
set_option maxHeartbeats 1000000
def planE (sp st : Int) (rows : List (List (Int × Int))) (what : Int) : Int := if chkHull sp st rows ≠ 0 then chkHull sp st rows else if what < 0 ∨ 2 < what then 3 else 0
section
variable {sp st : Int} {rows : List (List (Int × Int))} {what : Int}
theorem planE_1 (h : chkHull sp st rows ≠ 0) : chkHull sp st rows = planE sp st rows what := by rw [planE, if_pos h]
theorem planE_3 (h : ¬ chkHull sp st rows ≠ 0) (hw : what < 0 ∨ 2 < what) : 3 = planE sp st rows what := by rw [planE, if_neg h, if_pos hw]
theorem planE_0 (h : ¬ chkHull sp st rows ≠ 0) (hw : ¬ (what < 0 ∨ 2 < what)) : 0 = planE sp st rows what := by rw [planE, if_neg h, if_neg hw]
theorem planE_ok (h : planE sp st rows what = 0) : HV sp st rows ∧ 0 ≤ what ∧ what ≤ 2 := by
  unfold planE at h
  split at h
  · rename_i h1; exact absurd h h1
  split at h
  · omega
  · rename_i h1 h2; exact ⟨HV.of (Decidable.not_not.1 h1), by omega, by omega⟩
end
def planCs (sp st : Int) (o : Value) (what : Int) : List Value := [.int .i64 sp, .int .i64 st, o, .int .i64 what]
theorem c_newPlan (w : World) (sp st : Int) (o : Value) (rv : List Value) (rows : List (List (Int × Int))) (what : Int) (hR : RdR encP 2 w.heap.size w o rv rows) :
    Ct Try.prog 41 [.agg #[.int .i64 sp, .int .i64 st, o], .int .i64 what].toArray w fun v w' => ∃ Hq, (∃ pv, v = .tuple #[pv, .int .i64 (planE sp st rows what)] ∧ Hq = [PtrP pv (planE sp st rows what) (planCs sp st o what) 89]) ∧ Inv w [] Hq w' := by
  refine Ct.ofI mixed tyTab Try.func41 rfl rfl ?_
  replace hR : RdR encP 2 (fnCx mixed tyTab Try.f41.ntmps w).B (fnCx mixed tyTab Try.f41.ntmps w).w0 o rv rows := hR
  refine W.sreg ?_
  refine WO.boxA rfl rfl (fun b1 hb1 => ?_)
  refine WO.p rfl rfl (WO.p rfl rfl ?_)
  refine WO.nil ?_
  refine W.seq ?_
  refine W.sreg ?_
  refine WO.loadA rfl rfl (Cells.own Pick.head) rfl rfl ?_
  refine WO.callR (r := .int .i64 (chkHull sp st rows)) rfl Try.call18 (fun L w hi => c_CheckHull w sp st o rv rows (hR.later hi)) rfl ?_
  refine WO.p rfl rfl ?_
  refine WO.nil ?_
  refine W.sreg ?_
  refine WO.p rfl rfl (WO.p rfl rfl ?_)
  refine WO.nil ?_
  refine W.cond_bl rfl (fun c1 => ?_) (fun c1 => ?_)
  · first
    | (exfalso; omega)
    | (refine W.sreg ?_
       refine WO.p rfl rfl (WO.p rfl rfl (WO.p rfl rfl ?_))
       refine WO.nil ?_
       refine W.ret ?_
       refine fin.ret (Res.two rfl (RV.tmp rfl) (RV.tmp rfl)) ?_
       first | exact ⟨_, by rw [← planE_1 (by assumption)], fun h hs => Sub.sat (.cons .head .nil) (PtrP.no (by rw [← planE_1 (by assumption)]; assumption) h hs)⟩ | exact ⟨_, by rw [← planE_3 (by assumption) (by omega)], fun h hs => Sub.sat (.cons .head .nil) (PtrP.no (by rw [← planE_3 (by assumption) (by omega)]; omega) h hs)⟩ | exact ⟨_, by rw [← planE_0 (by assumption) (by omega)], fun h hs => Sub.sat (.cons .head .nil) (PtrP.yes .head h hs)⟩)
  · first
    | (exfalso; omega)
    | (refine W.skip ?_
       refine W.seq ?_
       refine W.sreg ?_
       refine WO.p rfl rfl (WO.p rfl rfl (WO.p rfl rfl ?_))
       refine WO.guard_bl rfl rfl (fun c2 => ?_) (fun c2 => ?_)
       · first
         | (exfalso; omega)
         | (refine WO.no rfl rfl (WO.no rfl rfl (WO.p rfl rfl ?_))
            refine WO.nil ?_
            refine W.cond_t rfl ?_
            refine W.sreg ?_
            refine WO.p rfl rfl (WO.p rfl rfl ?_)
            refine WO.nil ?_
            refine W.ret ?_
            refine fin.ret (Res.two rfl (RV.tmp rfl) (RV.tmp rfl)) ?_
            first | exact ⟨_, by rw [← planE_1 (by assumption)], fun h hs => Sub.sat (.cons .head .nil) (PtrP.no (by rw [← planE_1 (by assumption)]; assumption) h hs)⟩ | exact ⟨_, by rw [← planE_3 (by assumption) (by omega)], fun h hs => Sub.sat (.cons .head .nil) (PtrP.no (by rw [← planE_3 (by assumption) (by omega)]; omega) h hs)⟩ | exact ⟨_, by rw [← planE_0 (by assumption) (by omega)], fun h hs => Sub.sat (.cons .head .nil) (PtrP.yes .head h hs)⟩)
       · first
         | (exfalso; omega)
         | (refine WO.pg rfl rfl rfl (WO.pg rfl rfl rfl (WO.p rfl rfl ?_))
            refine WO.nil ?_
            refine W.cond_bl rfl (fun c3 => ?_) (fun c3 => ?_)
            · first
              | (exfalso; omega)
              | (refine W.sreg ?_
                 refine WO.p rfl rfl (WO.p rfl rfl ?_)
                 refine WO.nil ?_
                 refine W.ret ?_
                 refine fin.ret (Res.two rfl (RV.tmp rfl) (RV.tmp rfl)) ?_
                 first | exact ⟨_, by rw [← planE_1 (by assumption)], fun h hs => Sub.sat (.cons .head .nil) (PtrP.no (by rw [← planE_1 (by assumption)]; assumption) h hs)⟩ | exact ⟨_, by rw [← planE_3 (by assumption) (by omega)], fun h hs => Sub.sat (.cons .head .nil) (PtrP.no (by rw [← planE_3 (by assumption) (by omega)]; omega) h hs)⟩ | exact ⟨_, by rw [← planE_0 (by assumption) (by omega)], fun h hs => Sub.sat (.cons .head .nil) (PtrP.yes .head h hs)⟩)
            · first
              | (exfalso; omega)
              | (refine W.skip ?_
                 refine W.sreg ?_
                 refine WO.loadA rfl rfl (Cells.own Pick.head) rfl rfl (WO.p rfl rfl ?_)
                 refine' WO.build (cs := _) rfl rfl rfl ?hf rfl ?_
                 case hf => (conv => lhs; simp [-List.getD_eq_getElem?_getD, fillL, vcl, wrl, TTab.pl?.lget']) <;> rfl
                 refine WO.boxA rfl rfl (fun b2 hb2 => ?_)
                 refine WO.p rfl rfl (WO.p rfl rfl ?_)
                 refine WO.nil ?_
                 refine W.ret ?_
                 refine fin.ret (Res.two rfl (RV.tmp rfl) (RV.tmp rfl)) ?_
                 first | exact ⟨_, by rw [← planE_1 (by assumption)], fun h hs => Sub.sat (.cons .head .nil) (PtrP.no (by rw [← planE_1 (by assumption)]; assumption) h hs)⟩ | exact ⟨_, by rw [← planE_3 (by assumption) (by omega)], fun h hs => Sub.sat (.cons .head .nil) (PtrP.no (by rw [← planE_3 (by assumption) (by omega)]; omega) h hs)⟩ | exact ⟨_, by rw [← planE_0 (by assumption) (by omega)], fun h hs => Sub.sat (.cons .head .nil) (PtrP.yes .head h hs)⟩)))
theorem valE_0 {sp st : Int} {rows : List (List (Int × Int))} {ys : List (List Int)} {what : Int} (h : ¬ chkTrue sp st rows ys ≠ 0) : planE sp st rows what = valE sp st rows ys what := by
  have h0 := Decidable.not_not.1 h
  have hv := (TV.of h0).1.to
  unfold planE valE
  rw [if_neg (by simp [hv]), if_pos h0]
theorem valR_p {sp st : Int} {rows : List (List (Int × Int))} {ys : List (List Int)} {what : Int} (h : ¬ chkTrue sp st rows ys ≠ 0) (hp : planE sp st rows what ≠ 0) : .tuple #[.agg (encP (0, 0)).toArray, .int .i64 (planE sp st rows what)] = valR sp st rows ys what := by
  rw [valE_0 (ys := ys) h] at *
  unfold valR valV; rw [if_neg hp]
theorem valR_o {sp st : Int} {rows : List (List (Int × Int))} {ys : List (List Int)} {what : Int} (h : ¬ chkTrue sp st rows ys ≠ 0) (hp : ¬ planE sp st rows what ≠ 0) : .tuple #[.agg (encP (valQ sp st ys what)).toArray, .int .i64 0] = valR sp st rows ys what := by
  have hp' := Decidable.not_not.1 hp
  rw [valE_0 (ys := ys) h] at hp'
  unfold valR valV; rw [if_pos hp', hp']
theorem c_Volume (w : World) (sp st : Int) (o o' : Value) (rv rv' : List Value) (rows : List (List (Int × Int))) (ys : List (List Int)) (hR : RdR encP 2 w.heap.size w o rv rows) (hR' : RdR encI 1 w.heap.size w o' rv' ys) :
    Ret Try.prog 14 [.agg #[.int .i64 sp, .int .i64 st, o], o'].toArray w (volR sp st rows ys) := by
  refine Ret.of mixed tyTab Try.func14 rfl rfl ?_
  replace hR : RdR encP 2 (fnCx mixed tyTab Try.f14.ntmps w).B (fnCx mixed tyTab Try.f14.ntmps w).w0 o rv rows := hR
  replace hR' : RdR encI 1 (fnCx mixed tyTab Try.f14.ntmps w).B (fnCx mixed tyTab Try.f14.ntmps w).w0 o' rv' ys := hR'
  refine W.sreg ?_
  refine WO.boxA rfl rfl (fun b1 hb1 => ?_)
  refine WO.alloc rfl rfl rfl (fun b2 hb2 => ?_)
  refine WO.p rfl rfl ?_
  refine WO.nil ?_
  refine W.seq ?_
  refine W.sreg ?_
  refine WO.loadA rfl rfl (Cells.own (Pick.tail (Pick.head))) rfl rfl (WO.p rfl rfl ?_)
  refine WO.callR (r := .int .i64 (chkTrue sp st rows ys)) rfl Try.call20 (fun L w hi => c_CheckTrue w sp st o o' rv rv' rows ys (hR.later hi) (hR'.later hi)) rfl ?_
  refine WO.p rfl rfl ?_
  refine WO.nil ?_
  refine W.sreg ?_
  refine WO.p rfl rfl (WO.p rfl rfl ?_)
  refine WO.nil ?_
  refine W.cond_bl rfl (fun c1 => ?_) (fun c1 => ?_)
  · first
    | (exfalso; omega)
    | (refine W.sreg ?_
       refine' WO.build (cs := _) rfl rfl rfl ?hf rfl ?_
       case hf => (conv => lhs; simp [-List.getD_eq_getElem?_getD, fillL, vcl, wrl, TTab.pl?.lget']) <;> rfl
       refine WO.p rfl rfl (WO.storeA rfl rfl rfl rfl Pick.head rfl rfl (WO.p rfl rfl ?_))
       refine WO.nil ?_
       refine W.ret ?_
       refine fin.ret (Res.two rfl (RV.cell rfl rfl rfl (Cells.own Pick.head)) (RV.tmp rfl)) ?_
       first | exact volR_0 (by omega) | exact volR_1 (by omega))
  · first
    | (exfalso; omega)
    | (refine W.skip ?_
       refine W.sreg ?_
       refine WO.loadA rfl rfl (Cells.own (Pick.tail (Pick.head))) rfl rfl (WO.p rfl rfl ?_)
       obtain ⟨hv, tv⟩ := TV.of (sp := sp) (st := st) (rows := rows) (ys := ys) (by omega)
       refine WO.callR rfl Try.call39 (fun L w hi => c_volume w sp st o o' rv rv' rows ys (hR.later hi) (hR'.later hi) hv tv) rfl ?_
       refine WO.storeA rfl rfl rfl rfl Pick.head rfl rfl (WO.p rfl rfl ?_)
       refine WO.nil ?_
       refine W.ret ?_
       refine fin.ret (Res.two rfl (RV.cell rfl rfl rfl (Cells.own Pick.head)) (RV.tmp rfl)) ?_
       first | exact volR_0 (by omega) | exact volR_1 (by omega))
theorem c_Value (w : World) (sp st : Int) (o o' : Value) (rv rv' : List Value) (rows : List (List (Int × Int))) (ys : List (List Int)) (what : Int) (hR : RdR encP 2 w.heap.size w o rv rows) (hR' : RdR encI 1 w.heap.size w o' rv' ys) :
    Ret Try.prog 16 [.agg #[.int .i64 sp, .int .i64 st, o], o', .int .i64 what].toArray w (valR sp st rows ys what) := by
  refine Ret.of mixed tyTab Try.func16 rfl rfl ?_
  replace hR : RdR encP 2 (fnCx mixed tyTab Try.f16.ntmps w).B (fnCx mixed tyTab Try.f16.ntmps w).w0 o rv rows := hR
  replace hR' : RdR encI 1 (fnCx mixed tyTab Try.f16.ntmps w).B (fnCx mixed tyTab Try.f16.ntmps w).w0 o' rv' ys := hR'
  refine W.sreg ?_
  refine WO.boxA rfl rfl (fun b1 hb1 => ?_)
  refine WO.alloc rfl rfl rfl (fun b2 hb2 => ?_)
  refine WO.p rfl rfl ?_
  refine WO.nil ?_
  refine W.seq ?_
  refine W.sreg ?_
  refine WO.loadA rfl rfl (Cells.own (Pick.tail (Pick.head))) rfl rfl (WO.p rfl rfl ?_)
  refine WO.callR (r := .int .i64 (chkTrue sp st rows ys)) rfl Try.call20 (fun L w hi => c_CheckTrue w sp st o o' rv rv' rows ys (hR.later hi) (hR'.later hi)) rfl ?_
  refine WO.p rfl rfl ?_
  refine WO.nil ?_
  refine W.sreg ?_
  refine WO.p rfl rfl (WO.p rfl rfl ?_)
  refine WO.nil ?_
  refine W.cond_bl rfl (fun c1 => ?_) (fun c1 => ?_)
  · first
    | (exfalso; omega)
    | (refine W.sreg ?_
       refine' WO.build (cs := _) rfl rfl rfl ?hf rfl ?_
       case hf => (conv => lhs; simp [-List.getD_eq_getElem?_getD, fillL, vcl, wrl, TTab.pl?.lget']) <;> rfl
       refine WO.p rfl rfl (WO.storeA rfl rfl rfl rfl Pick.head rfl rfl (WO.p rfl rfl ?_))
       refine WO.nil ?_
       refine W.ret ?_
       refine fin.ret (Res.two rfl (RV.cell rfl rfl rfl (Cells.own Pick.head)) (RV.tmp rfl)) ?_
       first | exact valR_1 (by assumption) | exact valR_p (by assumption) (by assumption) | exact valR_o (by assumption) (by assumption))
  · first
    | (exfalso; omega)
    | (refine W.skip ?_
       refine W.sreg ?_
       refine WO.loadA rfl rfl (Cells.own (Pick.tail (Pick.head))) rfl rfl (WO.p rfl rfl ?_)
       refine WO.call (Post := fun v Hq => ∃ pv, v = .tuple #[pv, .int .i64 (planE sp st rows what)] ∧ Hq = [PtrP pv (planE sp st rows what) (planCs sp st o what) 89]) rfl Try.call41 (fun L w hi => c_newPlan w sp st o rv rows what (hR.later hi)) rfl ?_
       rintro _ _ ⟨pv, rfl, rfl⟩
       refine WO.p rfl rfl (WO.p rfl rfl (WO.p rfl rfl (WO.p rfl rfl (WO.p rfl rfl ?_))))
       refine WO.nil ?_
       refine W.seq ?_
       refine W.sreg ?_
       refine WO.p rfl rfl (WO.p rfl rfl ?_)
       refine WO.nil ?_
       refine W.cond_bl rfl (fun c2 => ?_) (fun c2 => ?_)
       · first
         | (exfalso; omega)
         | (refine W.sreg ?_
            refine' WO.build (cs := _) rfl rfl rfl ?hf rfl ?_
            case hf => (conv => lhs; simp [-List.getD_eq_getElem?_getD, fillL, vcl, wrl, TTab.pl?.lget']) <;> rfl
            refine WO.p rfl rfl (WO.storeA rfl rfl rfl rfl (Pick.tail (Pick.head)) rfl rfl (WO.p rfl rfl ?_))
            refine WO.nil ?_
            refine W.ret ?_
            refine fin.ret (Res.two rfl (RV.cell rfl rfl rfl (Cells.own Pick.head)) (RV.tmp rfl)) ?_
            first | exact valR_1 (by assumption) | exact valR_p (by assumption) (by assumption) | exact valR_o (by assumption) (by assumption))
       · first
         | (exfalso; omega)
         | (refine W.skip ?_
            refine W.chgE (PtrP.open (by repeat (first | exact Pick.head | apply Pick.tail)) (Decidable.not_not.1 (by assumption))) ?_
            rintro pb rfl
            refine W.sreg ?_
            refine WO.p rfl rfl (WO.p rfl rfl ?_)
            obtain ⟨hv, tv⟩ := TV.of (sp := sp) (st := st) (rows := rows) (ys := ys) (by omega)
            have hpo := planE_ok (sp := sp) (st := st) (rows := rows) (what := what) (by omega)
            refine WO.callR rfl Try.call42 (fun L w hi => c_value w _ sp st what o o' rv rv' rows ys (RdC.own .head hi) (hR.later hi) (hR'.later hi) hv tv hpo.2) rfl ?_
            refine WO.storeA rfl rfl rfl rfl (Pick.tail (Pick.head)) rfl rfl (WO.p rfl rfl ?_)
            refine WO.nil ?_
            refine W.ret ?_
            refine fin.ret (Res.two rfl (RV.cell rfl rfl rfl (Cells.own Pick.head)) (RV.tmp rfl)) ?_
            first | exact valR_1 (by assumption) | exact valR_p (by assumption) (by assumption) | exact valR_o (by assumption) (by assumption)))
theorem ends_row (rows : List (List (Int × Int))) (high : Bool) (i : Nat) : (endsOf high rows).getD i [] = (rows.getD i []).map (pickE high) := by
  unfold endsOf
  simp only [List.getD_eq_getElem?_getD, List.getElem?_map]
  cases rows[i]? <;> rfl
theorem ends_y (rows : List (List (Int × Int))) (high : Bool) {i k : Nat} (hk : k < (rows.getD i []).length) : yy (endsOf high rows) i k = pickE high ((rows.getD i []).getD k (0, 0)) := by
  unfold yy; rw [ends_row]
  rw [List.getD_eq_getElem?_getD, List.getElem?_map, getD_some hk (0, 0)]; rfl
theorem ends_tv {sp st : Int} {rows : List (List (Int × Int))} (hv : HV sp st rows) (high : Bool) : TV rows (endsOf high rows) := by
  have hl : (endsOf high rows).length = rows.length := by simp [endsOf]
  refine ⟨hl, fun i _ => by rw [ends_row, List.length_map], fun i k hi hk => ?_⟩
  rw [ends_row, List.length_map] at hk
  rw [ends_y rows high hk]
  have := hv.ok i k (by omega) hk
  unfold pickE
  split <;> omega
theorem vols_o {sp st : Int} {rows : List (List (Int × Int))} (hv : HV sp st rows) : .tuple #[.agg (encP (volQ sp st (endsOf false rows)) ++ encP (volQ sp st (endsOf true rows))).toArray, .int .i64 0] = volsR sp st rows := by
  rw [← volsR_0 hv.to]
  unfold volV
  rw [if_pos (TV.to hv (ends_tv hv false)), if_pos (TV.to hv (ends_tv hv true))]
theorem c_Volumes (w : World) (sp st : Int) (o : Value) (rv : List Value) (rows : List (List (Int × Int))) (hR : RdR encP 2 w.heap.size w o rv rows) :
    Ret Try.prog 34 [.agg #[.int .i64 sp, .int .i64 st, o]].toArray w (volsR sp st rows) := by
  refine Ret.of mixed tyTab Try.func34 rfl rfl ?_
  replace hR : RdR encP 2 (fnCx mixed tyTab Try.f34.ntmps w).B (fnCx mixed tyTab Try.f34.ntmps w).w0 o rv rows := hR
  refine W.sreg ?_
  refine WO.boxA rfl rfl (fun b1 hb1 => ?_)
  refine WO.alloc rfl rfl rfl (fun b2 hb2 => ?_)
  refine WO.p rfl rfl ?_
  refine WO.nil ?_
  refine W.seq ?_
  refine W.sreg ?_
  refine WO.loadA rfl rfl (Cells.own (Pick.tail (Pick.head))) rfl rfl ?_
  refine WO.callR (r := .int .i64 (chkHull sp st rows)) rfl Try.call18 (fun L w hi => c_CheckHull w sp st o rv rows (hR.later hi)) rfl ?_
  refine WO.p rfl rfl ?_
  refine WO.nil ?_
  refine W.sreg ?_
  refine WO.p rfl rfl (WO.p rfl rfl ?_)
  refine WO.nil ?_
  refine W.cond_bl rfl (fun c1 => ?_) (fun c1 => ?_)
  · first
    | (exfalso; omega)
    | (refine W.sreg ?_
       refine' WO.build (cs := _) rfl rfl rfl ?hf rfl ?_
       case hf => (conv => lhs; simp [-List.getD_eq_getElem?_getD, fillL, vcl, wrl, TTab.pl?.lget']) <;> rfl
       refine WO.p rfl rfl (WO.storeA rfl rfl rfl rfl Pick.head rfl rfl (WO.p rfl rfl ?_))
       refine WO.nil ?_
       refine W.ret ?_
       refine fin.ret (Res.two rfl (RV.cell rfl rfl rfl (Cells.own Pick.head)) (RV.tmp rfl)) ?_
       first | exact volsR_1 (by omega) | exact vols_o hv)
  · first
    | (exfalso; omega)
    | (refine W.skip ?_
       refine W.sreg ?_
       refine WO.loadA rfl rfl (Cells.own (Pick.tail (Pick.head))) rfl rfl ?_
       have hv := HV.of (sp := sp) (st := st) (rows := rows) (by omega)
       have hs := hv.small
       refine WO.call (Post := fun v Hq => ∃ rv', Hq = [OwC 53 1 v rows.length rv', RowsE encI 2 1 rv' (endsOf false rows)]) rfl Try.call51 (fun L w hi => c_pick w sp st o rv rows _ false ch_52 (hR.later hi) hs.1 hs.2) rfl ?_
       rintro v1 _ ⟨rv1, rfl⟩
       refine WO.p rfl rfl ?_
       refine WO.nil ?_
       refine W.sreg ?_
       refine WO.loadA rfl rfl (Cells.own (Pick.tail (Pick.tail (Pick.tail (Pick.head))))) rfl rfl ?_
       refine WO.call (Post := fun v Hq => ∃ rv', Hq = [OwC 53 1 v rows.length rv', RowsE encI 2 1 rv' (endsOf true rows)]) rfl Try.call51 (fun L w hi => c_pick w sp st o rv rows _ true ch_53 (hR.later hi) hs.1 hs.2) rfl ?_
       rintro v2 _ ⟨rv2, rfl⟩
       refine WO.p rfl rfl ?_
       refine WO.nil ?_
       refine W.seq ?_
       refine W.drawD 5 [.b 0 [], .r 1 [], .b 2 [], .b 3 [], .r 4 []] [] (A0 := []) (Sub.refl _) (by kernel_rfl) ?_ ?_
       · exact (ALok.b (ALok.r (ALok.b (ALok.b (ALok.r ALok.nil)))))
       refine' DT.b rfl rfl rfl ?hq ?_
       case hq =>
         refine WO.loadA rfl rfl (Cells.own (Pick.tail (Pick.tail (Pick.tail (Pick.tail (Pick.tail (Pick.head))))))) rfl rfl ?_
         exact WO.nil ⟨rfl, rfl⟩
       refine' DT.r rfl rfl rfl ?hq ?_
       case hq =>
         refine WO.p rfl rfl ?_
         exact WO.nil ⟨rfl, rfl⟩
       refine' DT.b rfl rfl rfl ?hq ?_
       case hq =>
         refine WO.callR rfl Try.call39 (fun L w hi => c_volume w sp st o v1 rv rv1 rows (endsOf false rows) (hR.later hi) (RdR.of_ow encI_ok (by repeat (first | exact Pick.head | apply Pick.tail)) (by repeat (first | exact Pick.head | apply Pick.tail)) hi) hv (ends_tv hv false)) rfl ?_
         exact WO.nil ⟨rfl, rfl⟩
       refine' DT.b rfl rfl rfl ?hq ?_
       case hq =>
         refine WO.loadA rfl rfl (Cells.own (Pick.tail (Pick.tail (Pick.tail (Pick.tail (Pick.tail (Pick.head))))))) rfl rfl ?_
         exact WO.nil ⟨rfl, rfl⟩
       refine' DT.r rfl rfl rfl ?hq ?_
       case hq =>
         refine WO.p rfl rfl ?_
         exact WO.nil ⟨rfl, rfl⟩
       refine DT.nil [_, _, _, _, _, _] rfl ?_
       refine WO.callR rfl Try.call39 (fun L w hi => c_volume w sp st o v2 rv rv2 rows (endsOf true rows) (hR.later hi) (RdR.of_ow encI_ok (by repeat (first | exact Pick.head | apply Pick.tail)) (by repeat (first | exact Pick.head | apply Pick.tail)) hi) hv (ends_tv hv true)) rfl ?_
       refine' WO.build (cs := _) rfl rfl rfl ?hf rfl ?_
       case hf => (conv => lhs; simp [-List.getD_eq_getElem?_getD, fillL, vcl, wrl, TTab.pl?.lget']) <;> rfl
       refine WO.storeA rfl rfl rfl rfl (Pick.tail (Pick.tail (Pick.tail (Pick.tail (Pick.head))))) rfl rfl (WO.p rfl rfl ?_)
       refine WO.nil ?_
       refine W.ret ?_
       refine fin.ret (Res.two rfl (RV.cell rfl rfl rfl (Cells.own Pick.head)) (RV.tmp rfl)) ?_
       first | exact volsR_1 (by omega) | exact vols_o hv)
end Go.Proofs.Ytgihklgpehfbpaa

