/-
  What is proved here: the program's span, its hulls at an end, and its test of a bound. Conditions: none; each contract states its own.
-/
import Derived.Test.YtgihklgpehfbpaaB26
namespace Go.Proofs.Ytgihklgpehfbpaa
open Go Go.TH
attribute [local irreducible] W WO pt
set_option maxRecDepth 10000
set_option maxHeartbeats 2000000
/-- what Span answers -/
noncomputable def spanV (sp st what : Int) (high : Bool) (rows : List (List (Int × Int))) : Int × Int := if planE sp st rows what = 0 then endV sp st what high rows else (0, 0)
noncomputable def spanR (sp st what : Int) (rows : List (List (Int × Int))) : Value := .tuple #[.agg (encP (spanV sp st what false rows) ++ encP (spanV sp st what true rows)).toArray, .int .i64 (planE sp st rows what)]
theorem spanR_0 {sp st what : Int} {rows : List (List (Int × Int))} (h : ¬ planE sp st rows what ≠ 0) : .tuple #[.agg (encP (endV sp st what false rows) ++ encP (endV sp st what true rows)).toArray, .int .i64 0] = spanR sp st what rows := by
  have h' := Decidable.not_not.1 h
  unfold spanR spanV; rw [if_pos h', if_pos h', h']
theorem spanR_1 {sp st what : Int} {rows : List (List (Int × Int))} (h : planE sp st rows what ≠ 0) : .tuple #[.agg (encP (0, 0) ++ encP (0, 0)).toArray, .int .i64 (planE sp st rows what)] = spanR sp st what rows := by
  unfold spanR spanV; rw [if_neg h, if_neg h]
theorem c_Span (w : World) (sp st what : Int) (o : Value) (rv : List Value) (rows : List (List (Int × Int))) (hR : RdR encP 2 w.heap.size w o rv rows) :
    Ret Try.prog 25 [.agg #[.int .i64 sp, .int .i64 st, o], .int .i64 what].toArray w (spanR sp st what rows) := by
  refine Ret.of mixed tyTab Try.func25 rfl rfl ?_
  replace hR : RdR encP 2 (fnCx mixed tyTab Try.f25.ntmps w).B (fnCx mixed tyTab Try.f25.ntmps w).w0 o rv rows := hR
  refine W.sreg ?_
  refine WO.boxA rfl rfl (fun b1 hb1 => ?_)
  refine WO.alloc rfl rfl rfl (fun b2 hb2 => ?_)
  refine WO.p rfl rfl ?_
  refine WO.nil ?_
  refine W.sreg ?_
  refine WO.loadA rfl rfl (Cells.own (Pick.tail (Pick.head))) rfl rfl (WO.p rfl rfl ?_)
  refine WO.call (Post := fun v Hq => ∃ pv, v = .tuple #[pv, .int .i64 (planE sp st rows what)] ∧ Hq = [PtrP pv (planE sp st rows what) (planCs sp st o what) 89]) rfl Try.call41 (fun L w hi => c_newPlan w sp st o rv rows what (hR.later hi)) rfl ?_
  rintro _ _ ⟨pv, rfl, rfl⟩
  refine WO.p rfl rfl (WO.p rfl rfl (WO.p rfl rfl (WO.p rfl rfl (WO.p rfl rfl ?_))))
  refine WO.nil ?_
  refine W.seq ?_
  refine W.sreg ?_
  refine WO.p rfl rfl (WO.p rfl rfl ?_)
  refine WO.nil ?_
  refine W.cond_bl rfl (fun c1 => ?_) (fun c1 => ?_)
  · first
    | (exfalso; omega)
    | (refine W.sreg ?_
       refine' WO.build (cs := _) rfl rfl rfl ?hf rfl ?_
       case hf => (conv => lhs; simp [-List.getD_eq_getElem?_getD, fillL, vcl, wrl, TTab.pl?.lget']) <;> rfl
       refine WO.p rfl rfl (WO.storeA rfl rfl rfl rfl (Pick.tail (Pick.head)) rfl rfl (WO.p rfl rfl ?_))
       refine WO.nil ?_
       refine W.ret ?_
       refine fin.ret (Res.two rfl (RV.cell rfl rfl rfl (Cells.own Pick.head)) (RV.tmp rfl)) ?_
       first | exact spanR_1 (by assumption) | exact spanR_0 (by assumption))
  · first
    | (exfalso; omega)
    | (refine W.skip ?_
       have hpo := planE_ok (sp := sp) (st := st) (rows := rows) (what := what) (by omega)
       refine W.chgE (PtrP.open (by repeat (first | exact Pick.head | apply Pick.tail)) (by omega)) ?_
       rintro pb rfl
       refine W.sreg ?_
       refine WO.p rfl rfl ?_
       refine WO.call (Post := fun v Hq => ∃ x : Value × List Value × List (List Int), (v = .tuple #[x.1, .agg (encP (endV sp st what false rows)).toArray] ∧ IsEnd sp st what false rows x.2.2) ∧ Hq = [OwC 53 1 x.1 rows.length x.2.1, RowsE encI 2 1 x.2.1 x.2.2]) rfl Try.call50 (fun L w hi => c_end w _ sp st what false o rv rows (RdC.own (b := pb) (by repeat (first | exact Pick.head | apply Pick.tail)) hi) (hR.later hi) hpo.1 hpo.2) rfl ?_
       rintro _ _ ⟨⟨v1, rv1, ys1⟩, ⟨rfl, h1⟩, rfl⟩
       refine WO.p rfl rfl (WO.p rfl rfl (WO.p rfl rfl ?_))
       refine WO.alloc rfl rfl rfl (fun b3 hb3 => ?_)
       refine WO.p rfl rfl (WO.storeA rfl rfl rfl rfl Pick.head rfl rfl ?_)
       refine WO.nil ?_
       refine W.sreg ?_
       refine WO.p rfl rfl ?_
       refine WO.call (Post := fun v Hq => ∃ x : Value × List Value × List (List Int), (v = .tuple #[x.1, .agg (encP (endV sp st what true rows)).toArray] ∧ IsEnd sp st what true rows x.2.2) ∧ Hq = [OwC 53 1 x.1 rows.length x.2.1, RowsE encI 2 1 x.2.1 x.2.2]) rfl Try.call50 (fun L w hi => c_end w _ sp st what true o rv rows (RdC.own (b := pb) (by repeat (first | exact Pick.head | apply Pick.tail)) hi) (hR.later hi) hpo.1 hpo.2) rfl ?_
       rintro _ _ ⟨⟨v2, rv2, ys2⟩, ⟨rfl, h2⟩, rfl⟩
       refine WO.p rfl rfl (WO.p rfl rfl (WO.p rfl rfl ?_))
       refine WO.alloc rfl rfl rfl (fun b4 hb4 => ?_)
       refine WO.p rfl rfl (WO.storeA rfl rfl rfl rfl Pick.head rfl rfl ?_)
       refine WO.nil ?_
       refine W.sreg ?_
       refine WO.loadA rfl rfl (Cells.own (Pick.tail (Pick.tail (Pick.tail (Pick.head))))) rfl rfl (WO.loadA rfl rfl (Cells.own Pick.head) rfl rfl ?_)
       refine' WO.build (cs := _) rfl rfl rfl ?hf rfl ?_
       case hf => (conv => lhs; simp [-List.getD_eq_getElem?_getD, fillL, vcl, wrl, TTab.pl?.lget']) <;> rfl
       refine WO.storeA rfl rfl rfl rfl (Pick.tail (Pick.tail (Pick.tail (Pick.tail (Pick.tail (Pick.tail (Pick.tail (Pick.head)))))))) rfl rfl (WO.p rfl rfl ?_)
       refine WO.nil ?_
       refine W.ret ?_
       refine fin.ret (Res.two rfl (RV.cell rfl rfl rfl (Cells.own Pick.head)) (RV.tmp rfl)) ?_
       first | exact spanR_1 (by assumption) | exact spanR_0 (by assumption))
theorem cbP {sp st what num den : Int} {high : Bool} {rows : List (List (Int × Int))} (h : planE sp st rows what ≠ 0) : planE sp st rows what = chkBound sp st what num den high rows := by
  unfold planE at *
  split at h
  · rename_i h1; rw [if_pos h1]; exact cb1 h1
  · rename_i h1
    split at h
    · rename_i h2; rw [if_neg h1, if_pos h2]; exact cb2 h1 h2
    · exact absurd rfl h
theorem plan_no {sp st what : Int} {rows : List (List (Int × Int))} (h : ¬ planE sp st rows what ≠ 0) : ¬ chkHull sp st rows ≠ 0 ∧ ¬ (what < 0 ∨ 2 < what) := by
  have := planE_ok (Decidable.not_not.1 h)
  exact ⟨by simpa using this.1.to, by omega⟩
theorem isB_no {num den : Int} (h : num < 0 ∨ 100000000000 < num ∨ den < 1 ∨ 100000000 < den) : isB (num, den) = false := by
  unfold isB; rw [decide_eq_false_iff_not]; intro h'; dsimp only at h'; omega
theorem isB_ne {num den : Int} (h : ((red num den).1, (red num den).2) ≠ (num, den)) : isB (num, den) = false := by
  unfold isB; rw [decide_eq_false_iff_not]; rintro ⟨_, _, _, _, h'⟩; exact h h'
theorem isB_yes {num den : Int} (h1 : ¬ num < 0) (h2 : ¬ 100000000000 < num) (h3 : ¬ den < 1) (h4 : ¬ 100000000 < den) (h : ¬ ((red num den).1, (red num den).2) ≠ (num, den)) : isB (num, den) = true := by
  unfold isB; rw [decide_eq_true_iff]; exact ⟨by dsimp only; omega, by dsimp only; omega, by dsimp only; omega, by dsimp only; omega, Decidable.not_not.1 h⟩
theorem sgn_t {high : Bool} (h : high = true) : sgn high = 1 := by rw [h]; rfl
theorem sgn_f {high : Bool} (h : high = false) : sgn high = -1 := by rw [h]; rfl
theorem c_CheckBound (w : World) (sp st what num den : Int) (high : Bool) (o : Value) (rv : List Value) (rows : List (List (Int × Int))) (hR : RdR encP 2 w.heap.size w o rv rows) :
    Ret Try.prog 22 [.agg #[.int .i64 sp, .int .i64 st, o], .int .i64 what, .agg #[.int .i64 num, .int .i64 den], .bool high].toArray w (.int .i64 (chkBound sp st what num den high rows)) := by
  refine Ret.of mixed tyTab Try.func22 rfl rfl ?_
  replace hR : RdR encP 2 (fnCx mixed tyTab Try.f22.ntmps w).B (fnCx mixed tyTab Try.f22.ntmps w).w0 o rv rows := hR
  refine W.sreg ?_
  refine WO.boxA rfl rfl (fun b1 hb1 => ?_)
  refine WO.boxA rfl rfl (fun b2 hb2 => ?_)
  refine WO.p rfl rfl ?_
  refine WO.nil ?_
  refine W.sreg ?_
  refine WO.loadA rfl rfl (Cells.own (Pick.tail (Pick.head))) rfl rfl (WO.p rfl rfl ?_)
  refine WO.call (Post := fun v Hq => ∃ pv, v = .tuple #[pv, .int .i64 (planE sp st rows what)] ∧ Hq = [PtrP pv (planE sp st rows what) (planCs sp st o what) 89]) rfl Try.call41 (fun L w hi => c_newPlan w sp st o rv rows what (hR.later hi)) rfl ?_
  rintro _ _ ⟨pv, rfl, rfl⟩
  refine WO.p rfl rfl (WO.p rfl rfl (WO.p rfl rfl (WO.p rfl rfl (WO.p rfl rfl ?_))))
  refine WO.nil ?_
  refine W.seq ?_
  refine W.block ?_
  refine W.sreg ?_
  refine WO.p rfl rfl (WO.p rfl rfl (WO.p rfl rfl ?_))
  refine WO.nil ?_
  refine W.cond_bl rfl (fun c1 => ?_) (fun c1 => ?_)
  · first
    | (exfalso; omega)
    | (refine W.sreg ?_
       refine WO.p rfl rfl (WO.p rfl rfl ?_)
       refine WO.nil ?_
       refine W.ret ?_
       refine fin.ret (Res.one rfl (RV.tmp rfl)) ?_
       refine congrArg (Value.int .i64) ?_
       first | exact cbP (by assumption) | exact cb3 (plan_no (by assumption)).1 (plan_no (by assumption)).2 (isB_no (by omega)) | exact cb3 (plan_no (by assumption)).1 (plan_no (by assumption)).2 (isB_ne (by assumption)) | exact cb4 (plan_no (by assumption)).1 (plan_no (by assumption)).2 (isB_yes (by assumption) (by assumption) (by assumption) (by assumption) (by assumption)) (by first | exact .inl ⟨by assumption, by omega⟩ | exact .inr ⟨by assumption, by omega⟩) | exact cb5 (plan_no (by assumption)).1 (plan_no (by assumption)).2 (isB_yes (by assumption) (by assumption) (by assumption) (by assumption) (by assumption)) (by rintro (h | h) <;> first | omega | (simp_all; done)))
  · first
    | (exfalso; omega)
    | (refine W.seq ?_
       refine W.drawD 25 [.r 0 [], .b 1 [], .r 2 [], .r 3 [], .r 4 [], .b 5 [], .r 6 [], .r 7 [], .r 8 [], .r 9 [], .b 10 [], .r 11 [], .r 12 [], .r 13 [], .r 14 [], .b 15 [], .r 16 [], .r 17 [], .r 18 [], .r 19 [], .b 20 [], .r 21 [], .b 22 [], .b 23 [], .b 24 []] [] (A0 := []) (Sub.refl _) (by kernel_rfl) ?_ ?_
       · exact (ALok.r (ALok.b (ALok.r (ALok.r (ALok.r (ALok.b (ALok.r (ALok.r (ALok.r (ALok.r (ALok.b (ALok.r (ALok.r (ALok.r (ALok.r (ALok.b (ALok.r (ALok.r (ALok.r (ALok.r (ALok.b (ALok.r (ALok.b (ALok.b (ALok.b ALok.nil)))))))))))))))))))))))))
       refine' DT.r rfl rfl rfl ?hq ?_
       case hq =>
         refine WO.field0 rfl rfl rfl ?_
         exact WO.nil ⟨rfl, rfl⟩
       refine' DT.b rfl rfl rfl ?hq ?_
       case hq =>
         refine WO.load rfl rfl (Cell.own (Pick.tail (Pick.head)) rfl) rfl ?_
         exact WO.nil ⟨rfl, rfl⟩
       refine' DT.r rfl rfl rfl ?hq ?_
       case hq =>
         refine WO.p rfl rfl ?_
         exact WO.nil ⟨rfl, rfl⟩
       refine' DT.rB rfl rfl rfl ?hq (fun c2 => ?_) (fun c2 => ?_)
       case hq =>
         refine WO.p rfl rfl ?_
         exact WO.nil ⟨rfl, rfl⟩
       · first
         | (exfalso; omega)
         | (refine' DT.r rfl rfl rfl ?hq ?_
            case hq =>
              refine WO.no rfl rfl ?_
              exact WO.nil ⟨rfl, rfl⟩
            refine' DT.b rfl rfl rfl ?hq ?_
            case hq =>
              refine WO.no rfl rfl ?_
              exact WO.nil ⟨rfl, rfl⟩
            refine' DT.r rfl rfl rfl ?hq ?_
            case hq =>
              refine WO.no rfl rfl ?_
              exact WO.nil ⟨rfl, rfl⟩
            refine' DT.r rfl rfl rfl ?hq ?_
            case hq =>
              refine WO.p rfl rfl ?_
              exact WO.nil ⟨rfl, rfl⟩
            refine' DT.r rfl rfl rfl ?hq ?_
            case hq =>
              refine WO.p rfl rfl ?_
              exact WO.nil ⟨rfl, rfl⟩
            refine' DT.r rfl rfl rfl ?hq ?_
            case hq =>
              refine WO.no rfl rfl ?_
              exact WO.nil ⟨rfl, rfl⟩
            refine' DT.b rfl rfl rfl ?hq ?_
            case hq =>
              refine WO.no rfl rfl ?_
              exact WO.nil ⟨rfl, rfl⟩
            refine' DT.r rfl rfl rfl ?hq ?_
            case hq =>
              refine WO.no rfl rfl ?_
              exact WO.nil ⟨rfl, rfl⟩
            refine' DT.r rfl rfl rfl ?hq ?_
            case hq =>
              refine WO.p rfl rfl ?_
              exact WO.nil ⟨rfl, rfl⟩
            refine' DT.r rfl rfl rfl ?hq ?_
            case hq =>
              refine WO.p rfl rfl ?_
              exact WO.nil ⟨rfl, rfl⟩
            refine' DT.r rfl rfl rfl ?hq ?_
            case hq =>
              refine WO.no rfl rfl ?_
              exact WO.nil ⟨rfl, rfl⟩
            refine' DT.b rfl rfl rfl ?hq ?_
            case hq =>
              refine WO.no rfl rfl ?_
              exact WO.nil ⟨rfl, rfl⟩
            refine' DT.r rfl rfl rfl ?hq ?_
            case hq =>
              refine WO.no rfl rfl ?_
              exact WO.nil ⟨rfl, rfl⟩
            refine' DT.r rfl rfl rfl ?hq ?_
            case hq =>
              refine WO.p rfl rfl ?_
              exact WO.nil ⟨rfl, rfl⟩
            refine' DT.r rfl rfl rfl ?hq ?_
            case hq =>
              refine WO.p rfl rfl ?_
              exact WO.nil ⟨rfl, rfl⟩
            refine' DT.r rfl rfl rfl ?hq ?_
            case hq =>
              refine WO.no rfl rfl ?_
              exact WO.nil ⟨rfl, rfl⟩
            refine' DT.b rfl rfl rfl ?hq ?_
            case hq =>
              refine WO.no rfl rfl ?_
              exact WO.nil ⟨rfl, rfl⟩
            refine' DT.r rfl rfl rfl ?hq ?_
            case hq =>
              refine WO.no rfl rfl ?_
              exact WO.nil ⟨rfl, rfl⟩
            refine' DT.b rfl rfl rfl ?hq ?_
            case hq =>
              refine WO.no rfl rfl ?_
              exact WO.nil ⟨rfl, rfl⟩
            refine' DT.b rfl rfl rfl ?hq ?_
            case hq =>
              refine WO.no rfl rfl ?_
              exact WO.nil ⟨rfl, rfl⟩
            refine' DT.b rfl rfl rfl ?hq ?_
            case hq =>
              refine WO.no rfl rfl ?_
              exact WO.nil ⟨rfl, rfl⟩
            refine DT.nil [_, _, _] rfl ?_
            refine WO.no rfl rfl (WO.p rfl rfl (WO.p rfl rfl ?_))
            refine WO.nil ?_
            refine W.cond_t rfl ?_
            refine W.sreg ?_
            refine WO.p rfl rfl ?_
            refine WO.nil ?_
            refine W.ret ?_
            refine fin.ret (Res.one rfl (RV.tmp rfl)) ?_
            refine congrArg (Value.int .i64) ?_
            first | exact cbP (by assumption) | exact cb3 (plan_no (by assumption)).1 (plan_no (by assumption)).2 (isB_no (by omega)) | exact cb3 (plan_no (by assumption)).1 (plan_no (by assumption)).2 (isB_ne (by assumption)) | exact cb4 (plan_no (by assumption)).1 (plan_no (by assumption)).2 (isB_yes (by assumption) (by assumption) (by assumption) (by assumption) (by assumption)) (by first | exact .inl ⟨by assumption, by omega⟩ | exact .inr ⟨by assumption, by omega⟩) | exact cb5 (plan_no (by assumption)).1 (plan_no (by assumption)).2 (isB_yes (by assumption) (by assumption) (by assumption) (by assumption) (by assumption)) (by rintro (h | h) <;> first | omega | (simp_all; done)))
       · first
         | (exfalso; omega)
         | (refine' DT.r rfl rfl rfl ?hq ?_
            case hq =>
              refine WO.go' rfl (WO.field0 rfl rfl rfl ?_)
              exact WO.nil ⟨rfl, rfl⟩
            refine' DT.b rfl rfl rfl ?hq ?_
            case hq =>
              refine WO.go' rfl (WO.load rfl rfl (Cell.own (Pick.tail (Pick.head)) rfl) rfl ?_)
              exact WO.nil ⟨rfl, rfl⟩
            refine' DT.r rfl rfl rfl ?hq ?_
            case hq =>
              refine WO.pg rfl rfl rfl ?_
              exact WO.nil ⟨rfl, rfl⟩
            refine' DT.r rfl rfl rfl ?hq ?_
            case hq =>
              refine WO.p rfl rfl ?_
              exact WO.nil ⟨rfl, rfl⟩
            refine' DT.rB rfl rfl rfl ?hq (fun c3 => ?_) (fun c3 => ?_)
            case hq =>
              refine WO.p rfl rfl ?_
              exact WO.nil ⟨rfl, rfl⟩
            · first
              | (exfalso; omega)
              | (refine' DT.r rfl rfl rfl ?hq ?_
                 case hq =>
                   refine WO.no rfl rfl ?_
                   exact WO.nil ⟨rfl, rfl⟩
                 refine' DT.b rfl rfl rfl ?hq ?_
                 case hq =>
                   refine WO.no rfl rfl ?_
                   exact WO.nil ⟨rfl, rfl⟩
                 refine' DT.r rfl rfl rfl ?hq ?_
                 case hq =>
                   refine WO.no rfl rfl ?_
                   exact WO.nil ⟨rfl, rfl⟩
                 refine' DT.r rfl rfl rfl ?hq ?_
                 case hq =>
                   refine WO.p rfl rfl ?_
                   exact WO.nil ⟨rfl, rfl⟩
                 refine' DT.r rfl rfl rfl ?hq ?_
                 case hq =>
                   refine WO.p rfl rfl ?_
                   exact WO.nil ⟨rfl, rfl⟩
                 refine' DT.r rfl rfl rfl ?hq ?_
                 case hq =>
                   refine WO.no rfl rfl ?_
                   exact WO.nil ⟨rfl, rfl⟩
                 refine' DT.b rfl rfl rfl ?hq ?_
                 case hq =>
                   refine WO.no rfl rfl ?_
                   exact WO.nil ⟨rfl, rfl⟩
                 refine' DT.r rfl rfl rfl ?hq ?_
                 case hq =>
                   refine WO.no rfl rfl ?_
                   exact WO.nil ⟨rfl, rfl⟩
                 refine' DT.r rfl rfl rfl ?hq ?_
                 case hq =>
                   refine WO.p rfl rfl ?_
                   exact WO.nil ⟨rfl, rfl⟩
                 refine' DT.r rfl rfl rfl ?hq ?_
                 case hq =>
                   refine WO.p rfl rfl ?_
                   exact WO.nil ⟨rfl, rfl⟩
                 refine' DT.r rfl rfl rfl ?hq ?_
                 case hq =>
                   refine WO.no rfl rfl ?_
                   exact WO.nil ⟨rfl, rfl⟩
                 refine' DT.b rfl rfl rfl ?hq ?_
                 case hq =>
                   refine WO.no rfl rfl ?_
                   exact WO.nil ⟨rfl, rfl⟩
                 refine' DT.r rfl rfl rfl ?hq ?_
                 case hq =>
                   refine WO.no rfl rfl ?_
                   exact WO.nil ⟨rfl, rfl⟩
                 refine' DT.b rfl rfl rfl ?hq ?_
                 case hq =>
                   refine WO.no rfl rfl ?_
                   exact WO.nil ⟨rfl, rfl⟩
                 refine' DT.b rfl rfl rfl ?hq ?_
                 case hq =>
                   refine WO.no rfl rfl ?_
                   exact WO.nil ⟨rfl, rfl⟩
                 refine' DT.b rfl rfl rfl ?hq ?_
                 case hq =>
                   refine WO.no rfl rfl ?_
                   exact WO.nil ⟨rfl, rfl⟩
                 refine DT.nil [_, _, _] rfl ?_
                 refine WO.no rfl rfl (WO.p rfl rfl (WO.p rfl rfl ?_))
                 refine WO.nil ?_
                 refine W.cond_t rfl ?_
                 refine W.sreg ?_
                 refine WO.p rfl rfl ?_
                 refine WO.nil ?_
                 refine W.ret ?_
                 refine fin.ret (Res.one rfl (RV.tmp rfl)) ?_
                 refine congrArg (Value.int .i64) ?_
                 first | exact cbP (by assumption) | exact cb3 (plan_no (by assumption)).1 (plan_no (by assumption)).2 (isB_no (by omega)) | exact cb3 (plan_no (by assumption)).1 (plan_no (by assumption)).2 (isB_ne (by assumption)) | exact cb4 (plan_no (by assumption)).1 (plan_no (by assumption)).2 (isB_yes (by assumption) (by assumption) (by assumption) (by assumption) (by assumption)) (by first | exact .inl ⟨by assumption, by omega⟩ | exact .inr ⟨by assumption, by omega⟩) | exact cb5 (plan_no (by assumption)).1 (plan_no (by assumption)).2 (isB_yes (by assumption) (by assumption) (by assumption) (by assumption) (by assumption)) (by rintro (h | h) <;> first | omega | (simp_all; done)))
            · first
              | (exfalso; omega)
              | (refine' DT.r rfl rfl rfl ?hq ?_
                 case hq =>
                   refine WO.go' rfl (WO.fieldL rfl rfl rfl ?_)
                   exact WO.nil ⟨rfl, rfl⟩
                 refine' DT.b rfl rfl rfl ?hq ?_
                 case hq =>
                   refine WO.go' rfl (WO.load rfl rfl (Cell.own (Pick.tail (Pick.head)) rfl) rfl ?_)
                   exact WO.nil ⟨rfl, rfl⟩
                 refine' DT.r rfl rfl rfl ?hq ?_
                 case hq =>
                   refine WO.pg rfl rfl rfl ?_
                   exact WO.nil ⟨rfl, rfl⟩
                 refine' DT.r rfl rfl rfl ?hq ?_
                 case hq =>
                   refine WO.p rfl rfl ?_
                   exact WO.nil ⟨rfl, rfl⟩
                 refine' DT.rB rfl rfl rfl ?hq (fun c4 => ?_) (fun c4 => ?_)
                 case hq =>
                   refine WO.p rfl rfl ?_
                   exact WO.nil ⟨rfl, rfl⟩
                 · first
                   | (exfalso; omega)
                   | (refine' DT.r rfl rfl rfl ?hq ?_
                      case hq =>
                        refine WO.no rfl rfl ?_
                        exact WO.nil ⟨rfl, rfl⟩
                      refine' DT.b rfl rfl rfl ?hq ?_
                      case hq =>
                        refine WO.no rfl rfl ?_
                        exact WO.nil ⟨rfl, rfl⟩
                      refine' DT.r rfl rfl rfl ?hq ?_
                      case hq =>
                        refine WO.no rfl rfl ?_
                        exact WO.nil ⟨rfl, rfl⟩
                      refine' DT.r rfl rfl rfl ?hq ?_
                      case hq =>
                        refine WO.p rfl rfl ?_
                        exact WO.nil ⟨rfl, rfl⟩
                      refine' DT.r rfl rfl rfl ?hq ?_
                      case hq =>
                        refine WO.p rfl rfl ?_
                        exact WO.nil ⟨rfl, rfl⟩
                      refine' DT.r rfl rfl rfl ?hq ?_
                      case hq =>
                        refine WO.no rfl rfl ?_
                        exact WO.nil ⟨rfl, rfl⟩
                      refine' DT.b rfl rfl rfl ?hq ?_
                      case hq =>
                        refine WO.no rfl rfl ?_
                        exact WO.nil ⟨rfl, rfl⟩
                      refine' DT.r rfl rfl rfl ?hq ?_
                      case hq =>
                        refine WO.no rfl rfl ?_
                        exact WO.nil ⟨rfl, rfl⟩
                      refine' DT.b rfl rfl rfl ?hq ?_
                      case hq =>
                        refine WO.no rfl rfl ?_
                        exact WO.nil ⟨rfl, rfl⟩
                      refine' DT.b rfl rfl rfl ?hq ?_
                      case hq =>
                        refine WO.no rfl rfl ?_
                        exact WO.nil ⟨rfl, rfl⟩
                      refine' DT.b rfl rfl rfl ?hq ?_
                      case hq =>
                        refine WO.no rfl rfl ?_
                        exact WO.nil ⟨rfl, rfl⟩
                      refine DT.nil [_, _, _] rfl ?_
                      refine WO.no rfl rfl (WO.p rfl rfl (WO.p rfl rfl ?_))
                      refine WO.nil ?_
                      refine W.cond_t rfl ?_
                      refine W.sreg ?_
                      refine WO.p rfl rfl ?_
                      refine WO.nil ?_
                      refine W.ret ?_
                      refine fin.ret (Res.one rfl (RV.tmp rfl)) ?_
                      refine congrArg (Value.int .i64) ?_
                      first | exact cbP (by assumption) | exact cb3 (plan_no (by assumption)).1 (plan_no (by assumption)).2 (isB_no (by omega)) | exact cb3 (plan_no (by assumption)).1 (plan_no (by assumption)).2 (isB_ne (by assumption)) | exact cb4 (plan_no (by assumption)).1 (plan_no (by assumption)).2 (isB_yes (by assumption) (by assumption) (by assumption) (by assumption) (by assumption)) (by first | exact .inl ⟨by assumption, by omega⟩ | exact .inr ⟨by assumption, by omega⟩) | exact cb5 (plan_no (by assumption)).1 (plan_no (by assumption)).2 (isB_yes (by assumption) (by assumption) (by assumption) (by assumption) (by assumption)) (by rintro (h | h) <;> first | omega | (simp_all; done)))
                 · first
                   | (exfalso; omega)
                   | (refine' DT.r rfl rfl rfl ?hq ?_
                      case hq =>
                        refine WO.go' rfl (WO.fieldL rfl rfl rfl ?_)
                        exact WO.nil ⟨rfl, rfl⟩
                      refine' DT.b rfl rfl rfl ?hq ?_
                      case hq =>
                        refine WO.go' rfl (WO.load rfl rfl (Cell.own (Pick.tail (Pick.head)) rfl) rfl ?_)
                        exact WO.nil ⟨rfl, rfl⟩
                      refine' DT.r rfl rfl rfl ?hq ?_
                      case hq =>
                        refine WO.pg rfl rfl rfl ?_
                        exact WO.nil ⟨rfl, rfl⟩
                      refine' DT.r rfl rfl rfl ?hq ?_
                      case hq =>
                        refine WO.p rfl rfl ?_
                        exact WO.nil ⟨rfl, rfl⟩
                      refine' DT.rB rfl rfl rfl ?hq (fun c5 => ?_) (fun c5 => ?_)
                      case hq =>
                        refine WO.p rfl rfl ?_
                        exact WO.nil ⟨rfl, rfl⟩
                      · first
                        | (exfalso; omega)
                        | (refine' DT.r rfl rfl rfl ?hq ?_
                           case hq =>
                             refine WO.no rfl rfl ?_
                             exact WO.nil ⟨rfl, rfl⟩
                           refine' DT.b rfl rfl rfl ?hq ?_
                           case hq =>
                             refine WO.no rfl rfl ?_
                             exact WO.nil ⟨rfl, rfl⟩
                           refine' DT.r rfl rfl rfl ?hq ?_
                           case hq =>
                             refine WO.no rfl rfl ?_
                             exact WO.nil ⟨rfl, rfl⟩
                           refine' DT.b rfl rfl rfl ?hq ?_
                           case hq =>
                             refine WO.no rfl rfl ?_
                             exact WO.nil ⟨rfl, rfl⟩
                           refine' DT.b rfl rfl rfl ?hq ?_
                           case hq =>
                             refine WO.no rfl rfl ?_
                             exact WO.nil ⟨rfl, rfl⟩
                           refine' DT.b rfl rfl rfl ?hq ?_
                           case hq =>
                             refine WO.no rfl rfl ?_
                             exact WO.nil ⟨rfl, rfl⟩
                           refine DT.nil [_, _, _] rfl ?_
                           refine WO.no rfl rfl (WO.p rfl rfl (WO.p rfl rfl ?_))
                           refine WO.nil ?_
                           refine W.cond_t rfl ?_
                           refine W.sreg ?_
                           refine WO.p rfl rfl ?_
                           refine WO.nil ?_
                           refine W.ret ?_
                           refine fin.ret (Res.one rfl (RV.tmp rfl)) ?_
                           refine congrArg (Value.int .i64) ?_
                           first | exact cbP (by assumption) | exact cb3 (plan_no (by assumption)).1 (plan_no (by assumption)).2 (isB_no (by omega)) | exact cb3 (plan_no (by assumption)).1 (plan_no (by assumption)).2 (isB_ne (by assumption)) | exact cb4 (plan_no (by assumption)).1 (plan_no (by assumption)).2 (isB_yes (by assumption) (by assumption) (by assumption) (by assumption) (by assumption)) (by first | exact .inl ⟨by assumption, by omega⟩ | exact .inr ⟨by assumption, by omega⟩) | exact cb5 (plan_no (by assumption)).1 (plan_no (by assumption)).2 (isB_yes (by assumption) (by assumption) (by assumption) (by assumption) (by assumption)) (by rintro (h | h) <;> first | omega | (simp_all; done)))
                      · first
                        | (exfalso; omega)
                        | (refine' DT.r rfl rfl rfl ?hq ?_
                           case hq =>
                             refine WO.go' rfl (WO.field0 rfl rfl rfl ?_)
                             exact WO.nil ⟨rfl, rfl⟩
                           refine' DT.b rfl rfl rfl ?hq ?_
                           case hq =>
                             refine WO.go' rfl (WO.load rfl rfl (Cell.own (Pick.tail (Pick.head)) rfl) rfl ?_)
                             exact WO.nil ⟨rfl, rfl⟩
                           refine' DT.r rfl rfl rfl ?hq ?_
                           case hq =>
                             refine WO.go' rfl (WO.fieldL rfl rfl rfl ?_)
                             exact WO.nil ⟨rfl, rfl⟩
                           refine' DT.b rfl rfl rfl ?hq ?_
                           case hq =>
                             refine WO.go' rfl (WO.load rfl rfl (Cell.own (Pick.tail (Pick.head)) rfl) rfl ?_)
                             exact WO.nil ⟨rfl, rfl⟩
                           refine' DT.b rfl rfl rfl ?hq ?_
                           case hq =>
                             refine WO.go' rfl ?_
                             refine WO.callR rfl Try.call47 (fun L w hi => c_fraction w num den (by omega) (by omega) (by unfold in64; omega) (by unfold in64; omega)) rfl ?_
                             exact WO.nil ⟨rfl, rfl⟩
                           refine' DT.b rfl rfl rfl ?hq ?_
                           case hq =>
                             refine WO.go' rfl (WO.loadA rfl rfl (Cells.own (Pick.tail (Pick.head))) rfl rfl ?_)
                             exact WO.nil ⟨rfl, rfl⟩
                           refine DT.nil [_, _, _] rfl ?_
                           refine WO.go' rfl ?_
                           refine WO.eqT rfl rfl (ne29 _ _ _ _) rfl ?_
                           refine WO.p rfl rfl (WO.p rfl rfl ?_)
                           refine WO.nil ?_
                           refine W.cond_bl rfl (fun c6 => ?_) (fun c6 => ?_)
                           · first
                             | (exfalso; omega)
                             | (refine W.sreg ?_
                                refine WO.p rfl rfl ?_
                                refine WO.nil ?_
                                refine W.ret ?_
                                refine fin.ret (Res.one rfl (RV.tmp rfl)) ?_
                                refine congrArg (Value.int .i64) ?_
                                first | exact cbP (by assumption) | exact cb3 (plan_no (by assumption)).1 (plan_no (by assumption)).2 (isB_no (by omega)) | exact cb3 (plan_no (by assumption)).1 (plan_no (by assumption)).2 (isB_ne (by assumption)) | exact cb4 (plan_no (by assumption)).1 (plan_no (by assumption)).2 (isB_yes (by assumption) (by assumption) (by assumption) (by assumption) (by assumption)) (by first | exact .inl ⟨by assumption, by omega⟩ | exact .inr ⟨by assumption, by omega⟩) | exact cb5 (plan_no (by assumption)).1 (plan_no (by assumption)).2 (isB_yes (by assumption) (by assumption) (by assumption) (by assumption) (by assumption)) (by rintro (h | h) <;> first | omega | (simp_all; done)))
                           · first
                             | (exfalso; omega)
                             | (refine W.skip ?_
                                refine W.sreg ?_
                                refine WO.p rfl rfl ?_
                                refine WO.nil ?_
                                refine W.seq ?_
                                refine W.sreg ?_
                                refine WO.p rfl rfl ?_
                                refine WO.nil ?_
                                refine W.cond rfl (fun c7 => ?_) (fun c7 => ?_)
                                · first
                                  | (exfalso; omega)
                                  | (refine W.region ?_
                                     refine WO.p rfl rfl ?_
                                     refine WO.nil ?_
                                     refine W.seq ?_
                                     have hpo := planE_ok (sp := sp) (st := st) (rows := rows) (what := what) (by omega)
                                     refine W.chgE (PtrP.open (by repeat (first | exact Pick.head | apply Pick.tail)) (by omega)) ?_
                                     rintro pb rfl
                                     refine W.sreg ?_
                                     refine WO.p rfl rfl (WO.loadA rfl rfl (Cells.own (Pick.tail (Pick.head))) rfl rfl (WO.p rfl rfl ?_))
                                     have hB : Bd num den := ⟨by omega, by omega, by omega, by omega⟩
                                     have hpB := hpo.1.partS hB what high (Nat.le_refl _)
                                     refine WO.call (Post := fun v Hq => ∃ x : Value × List Value, v = .tuple #[x.1, .int .i64 (partS what sp st num den high rows rows.length)] ∧ Hq = [OwC 53 1 x.1 rows.length x.2, RowsE encI 2 1 x.2 (exH what sp st num den high rows)]) rfl Try.call48 (fun L w hi => by have h := c_excess w ⟨pb, 0, none⟩ sp st what num den high o rv rows (RdC.own (b := pb) (by repeat (first | exact Pick.head | apply Pick.tail)) hi) (hR.later hi) hpo.1 hpo.2 hB; first | (rw [sgn_t (by assumption)] at h; exact h) | (rw [sgn_f (by assumption)] at h; exact h)) rfl ?_
                                     rintro _ _ ⟨⟨v2, rv2⟩, rfl, rfl⟩
                                     refine WO.p rfl rfl (WO.p rfl rfl (WO.p rfl rfl (WO.p rfl rfl (WO.p rfl rfl ?_))))
                                     refine WO.nil ?_
                                     refine W.sreg ?_
                                     refine WO.p rfl rfl (WO.p rfl rfl (WO.ar rfl rfl rfl (by (first | (unfold in64; omega))) rfl (WO.p rfl rfl ?_)))
                                     refine WO.nil ?_
                                     refine W.cond_bl rfl (fun c8 => ?_) (fun c8 => ?_)
                                     · first
                                       | (exfalso; omega)
                                       | (refine W.sreg ?_
                                          refine WO.p rfl rfl ?_
                                          refine WO.nil ?_
                                          refine W.ret ?_
                                          refine fin.ret (Res.one rfl (RV.tmp rfl)) ?_
                                          refine congrArg (Value.int .i64) ?_
                                          first | exact cbP (by assumption) | exact cb3 (plan_no (by assumption)).1 (plan_no (by assumption)).2 (isB_no (by omega)) | exact cb3 (plan_no (by assumption)).1 (plan_no (by assumption)).2 (isB_ne (by assumption)) | exact cb4 (plan_no (by assumption)).1 (plan_no (by assumption)).2 (isB_yes (by assumption) (by assumption) (by assumption) (by assumption) (by assumption)) (by first | exact .inl ⟨by assumption, by omega⟩ | exact .inr ⟨by assumption, by omega⟩) | exact cb5 (plan_no (by assumption)).1 (plan_no (by assumption)).2 (isB_yes (by assumption) (by assumption) (by assumption) (by assumption) (by assumption)) (by rintro (h | h) <;> first | omega | (simp_all; done)))
                                     · first
                                       | (exfalso; omega)
                                       | (refine W.skip ?_
                                          refine W.sreg ?_
                                          refine WO.p rfl rfl ?_
                                          refine WO.nil ?_
                                          refine W.ret ?_
                                          refine fin.ret (Res.one rfl (RV.tmp rfl)) ?_
                                          refine congrArg (Value.int .i64) ?_
                                          first | exact cbP (by assumption) | exact cb3 (plan_no (by assumption)).1 (plan_no (by assumption)).2 (isB_no (by omega)) | exact cb3 (plan_no (by assumption)).1 (plan_no (by assumption)).2 (isB_ne (by assumption)) | exact cb4 (plan_no (by assumption)).1 (plan_no (by assumption)).2 (isB_yes (by assumption) (by assumption) (by assumption) (by assumption) (by assumption)) (by first | exact .inl ⟨by assumption, by omega⟩ | exact .inr ⟨by assumption, by omega⟩) | exact cb5 (plan_no (by assumption)).1 (plan_no (by assumption)).2 (isB_yes (by assumption) (by assumption) (by assumption) (by assumption) (by assumption)) (by rintro (h | h) <;> first | omega | (simp_all; done))))
                                · first
                                  | (exfalso; omega)
                                  | (refine W.skip ?_
                                     refine W.seq ?_
                                     have hpo := planE_ok (sp := sp) (st := st) (rows := rows) (what := what) (by omega)
                                     refine W.chgE (PtrP.open (by repeat (first | exact Pick.head | apply Pick.tail)) (by omega)) ?_
                                     rintro pb rfl
                                     refine W.sreg ?_
                                     refine WO.p rfl rfl (WO.loadA rfl rfl (Cells.own (Pick.tail (Pick.head))) rfl rfl (WO.p rfl rfl ?_))
                                     have hB : Bd num den := ⟨by omega, by omega, by omega, by omega⟩
                                     have hpB := hpo.1.partS hB what high (Nat.le_refl _)
                                     refine WO.call (Post := fun v Hq => ∃ x : Value × List Value, v = .tuple #[x.1, .int .i64 (partS what sp st num den high rows rows.length)] ∧ Hq = [OwC 53 1 x.1 rows.length x.2, RowsE encI 2 1 x.2 (exH what sp st num den high rows)]) rfl Try.call48 (fun L w hi => by have h := c_excess w ⟨pb, 0, none⟩ sp st what num den high o rv rows (RdC.own (b := pb) (by repeat (first | exact Pick.head | apply Pick.tail)) hi) (hR.later hi) hpo.1 hpo.2 hB; first | (rw [sgn_t (by assumption)] at h; exact h) | (rw [sgn_f (by assumption)] at h; exact h)) rfl ?_
                                     rintro _ _ ⟨⟨v2, rv2⟩, rfl, rfl⟩
                                     refine WO.p rfl rfl (WO.p rfl rfl (WO.p rfl rfl (WO.p rfl rfl (WO.p rfl rfl ?_))))
                                     refine WO.nil ?_
                                     refine W.sreg ?_
                                     refine WO.p rfl rfl (WO.p rfl rfl (WO.ar rfl rfl rfl (by (first | (unfold in64; omega))) rfl (WO.p rfl rfl ?_)))
                                     refine WO.nil ?_
                                     refine W.cond_bl rfl (fun c9 => ?_) (fun c9 => ?_)
                                     · first
                                       | (exfalso; omega)
                                       | (refine W.sreg ?_
                                          refine WO.p rfl rfl ?_
                                          refine WO.nil ?_
                                          refine W.ret ?_
                                          refine fin.ret (Res.one rfl (RV.tmp rfl)) ?_
                                          refine congrArg (Value.int .i64) ?_
                                          first | exact cbP (by assumption) | exact cb3 (plan_no (by assumption)).1 (plan_no (by assumption)).2 (isB_no (by omega)) | exact cb3 (plan_no (by assumption)).1 (plan_no (by assumption)).2 (isB_ne (by assumption)) | exact cb4 (plan_no (by assumption)).1 (plan_no (by assumption)).2 (isB_yes (by assumption) (by assumption) (by assumption) (by assumption) (by assumption)) (by first | exact .inl ⟨by assumption, by omega⟩ | exact .inr ⟨by assumption, by omega⟩) | exact cb5 (plan_no (by assumption)).1 (plan_no (by assumption)).2 (isB_yes (by assumption) (by assumption) (by assumption) (by assumption) (by assumption)) (by rintro (h | h) <;> first | omega | (simp_all; done)))
                                     · first
                                       | (exfalso; omega)
                                       | (refine W.skip ?_
                                          refine W.sreg ?_
                                          refine WO.p rfl rfl ?_
                                          refine WO.nil ?_
                                          refine W.ret ?_
                                          refine fin.ret (Res.one rfl (RV.tmp rfl)) ?_
                                          refine congrArg (Value.int .i64) ?_
                                          first | exact cbP (by assumption) | exact cb3 (plan_no (by assumption)).1 (plan_no (by assumption)).2 (isB_no (by omega)) | exact cb3 (plan_no (by assumption)).1 (plan_no (by assumption)).2 (isB_ne (by assumption)) | exact cb4 (plan_no (by assumption)).1 (plan_no (by assumption)).2 (isB_yes (by assumption) (by assumption) (by assumption) (by assumption) (by assumption)) (by first | exact .inl ⟨by assumption, by omega⟩ | exact .inr ⟨by assumption, by omega⟩) | exact cb5 (plan_no (by assumption)).1 (plan_no (by assumption)).2 (isB_yes (by assumption) (by assumption) (by assumption) (by assumption) (by assumption)) (by rintro (h | h) <;> first | omega | (simp_all; done))))))))))
end Go.Proofs.Ytgihklgpehfbpaa

