/-
  What is proved here: the program's volume of a hull. Conditions: none; each contract states its own.
-/
import Derived.Test.YtgihklgpehfbpaaB18
namespace Go.Proofs.Ytgihklgpehfbpaa
open Go Go.TH
attribute [local irreducible] W WO pt
set_option maxRecDepth 10000
set_option maxHeartbeats 1000000
/-- what one place counts in the volume -/
def xwP (rows : List (List (Int × Int))) (ys : List (List Int)) (q : Nat × Nat) : Int := wgt q.1 rows.length * wgt q.2 (rows.getD q.1 []).length * yy ys q.1 q.2
section
variable {sp st : Int} {rows : List (List (Int × Int))} {ys : List (List Int)}
theorem TV.yB (hv : HV sp st rows) (tv : TV rows ys) {i k : Nat} (hi : i < rows.length) (hk : k < (rows.getD i []).length) : 0 ≤ yy ys i k ∧ yy ys i k ≤ 500 := by
  have hl := tv.len
  exact (tv.small hv).y i k (by omega) (by rw [tv.row i (by omega)]; exact hk)
theorem ps_congr {f g : Nat → Int} : ∀ {n : Nat}, (∀ i, i < n → f i = g i) → ps f n = ps g n
  | 0, _ => rfl
  | n + 1, h => by simp only [ps]; rw [ps_congr (n := n) (fun i hi => h i (by omega)), h n (by omega)]
theorem xwP_all (tv : TV rows ys) : pSum (xwP rows ys) (plc rows) = sAll ys ys.length := by
  unfold plc sAll
  rw [pSum_plc, tv.len]
  refine ps_congr fun i hi => ?_
  have hr := tv.row i (by rw [tv.len]; exact hi)
  rw [hr]
  refine ps_congr fun k hk => ?_
  unfold xwP xw; rw [hr, tv.len]
theorem xwP_bound (hv : HV sp st rows) (tv : TV rows ys) (q : Nat) : -120000 ≤ pSum (xwP rows ys) ((plc rows).take q) ∧ pSum (xwP rows ys) ((plc rows).take q) ≤ 120000 := by
  have h1 := pSum_bound (f := xwP rows ys) (l := (plc rows).take q) (A := 0) (B := 2000) fun x hx => by
    have hm := plc_mem (List.mem_of_mem_take hx)
    have hw := mulB (mulB (wgtB x.1 rows.length) (wgtB x.2 (rows.getD x.1 []).length)) (tv.yB hv hm.1 hm.2)
    unfold xwP; omega
  have h2 := plc_len hv
  have h3 : ((plc rows).take q).length ≤ 60 := by rw [List.length_take]; omega
  omega
end
theorem plcV_len (rows : List (List (Int × Int))) : (plcV rows).length = (plc rows).length := by simp [plcV]
theorem c_volume (w : World) (sp st : Int) (o o' : Value) (rv rv' : List Value) (rows : List (List (Int × Int))) (ys : List (List Int)) (hR : RdR encP 2 w.heap.size w o rv rows) (hR' : RdR encI 1 w.heap.size w o' rv' ys) (hv : HV sp st rows) (tv : TV rows ys) :
    Ret Try.prog 39 [.agg #[.int .i64 sp, .int .i64 st, o], o'].toArray w (.agg (encP (volQ sp st ys)).toArray) := by
  refine Ret.of mixed tyTab Try.func39 rfl rfl ?_
  replace hR : RdR encP 2 (fnCx mixed tyTab Try.f39.ntmps w).B (fnCx mixed tyTab Try.f39.ntmps w).w0 o rv rows := hR
  replace hR' : RdR encI 1 (fnCx mixed tyTab Try.f39.ntmps w).B (fnCx mixed tyTab Try.f39.ntmps w).w0 o' rv' ys := hR'
  have hlen := tv.len
  have ho' := hR'.sl.oc
  have hS := tv.small hv
  have ba := hS.all (Nat.le_refl _)
  have q1 := hv.sp
  have q2 := hv.st
  have p1 := mulB (A := 1000) (B := 100) ⟨by omega, q1.2⟩ ⟨by omega, q2.2⟩
  have p2 := mulB p1 ba
  refine W.sreg ?_
  refine WO.boxA rfl rfl (fun b1 hb1 => ?_)
  refine WO.box1 rfl (by first | rfl | assumption) rfl (fun b2 hb2 => ?_)
  refine WO.alloc rfl rfl rfl (fun b3 hb3 => ?_)
  refine WO.nil ?_
  refine W.sreg ?_
  refine WO.loadA rfl rfl (Cells.own (Pick.tail (Pick.tail (Pick.head)))) rfl rfl ?_
  refine' WO.build (cs := _) rfl rfl rfl ?hf rfl ?_
  case hf => (conv => lhs; simp [-List.getD_eq_getElem?_getD, fillL, vcl, wrl, TTab.pl?.lget']) <;> rfl
  refine WO.boxA rfl rfl (fun b4 hb4 => ?_)
  refine WO.p rfl rfl ?_
  refine WO.nil ?_
  refine W.sreg ?_
  refine WO.alloc rfl rfl rfl (fun b5 hb5 => ?_)
  refine WO.store1 rfl rfl rfl (by first | rfl | assumption) Pick.head rfl ?_
  refine WO.nil ?_
  refine W.seq ?_
  refine W.sreg ?_
  refine WO.p rfl rfl ?_
  refine WO.call (Post := fun v Hq => ∃ b1 b2, v = .func (.func 67) #[] #[.pointer (some ⟨b1, 0, none⟩), .pointer (some ⟨b2, 0, none⟩)] ∧ Hq = [pt b2 (.cells #[.func (.func 66) #[.agg #[.int .i64 1, .int .i64 2]] #[]] 95 (0, 0)), pt b1 (.cells #[.pointer (some ⟨b4, 0, none⟩)] 71 (0, 0))]) rfl Try.call56 (fun L w hi => c_places w _) rfl ?_
  rintro _ _ ⟨e1, e2, rfl, rfl⟩
  refine WO.nil ?_
  refine W.block ?_
  refine W.rangeFunc [pt e2 (.cells #[.func (.func 66) #[.agg #[.int .i64 1, .int .i64 2]] #[]] 95 (0, 0)), pt e1 (.cells #[.pointer (some ⟨b4, 0, none⟩)] 71 (0, 0)), pt b4 (.cells #[.int .i64 sp, .int .i64 st, o, .int .i64 0] 89 (0, 0))] (fun q => [pt b5 (.cells #[.int .i64 (pSum (xwP rows ys) ((plc rows).take q))] 2 (0, 0)), pt b1 (.cells #[.int .i64 sp, .int .i64 st, o] 24 (0, 0)), pt b2 (.cells #[o'] 25 (0, 0)), pt b3 (.cells #[.int .i64 0, .int .i64 0] 29 (0, 0))]) (plcV rows) rfl rfl rfl Try.call67 (by repeat (first | exact Sub.nil | refine Sub.cons (by repeat (first | exact Pick.head | apply Pick.tail)) ?_)) ?_ ?_ ?_
  · intro l Hc hy w1 M' hB hk hM hi
    exact c_places1 _ _ ⟨b4, 0, none⟩ sp st o rv rows _ hR hv l Hc hy e1 e2 w1 M' hB hk hM (fun _ s => by cases s with | cons p _ => rw [prt_eq]; exact Cell.own (off := 2) p rfl) hi
  · intro l w1 M hB hM hk q x hx
    obtain ⟨i, k, hq, hi, hk', rfl⟩ := plcV_some hx
    have hR2 : RdR encI 1 (rdCx (fnCx mixed tyTab Try.f39.ntmps w) l w1 M hB hM).B (rdCx (fnCx mixed tyTab Try.f39.ntmps w) l w1 M hB hM).w0 o' rv' ys := hR'.agree hk
    have hrl := tv.row i (by omega)
    have hyB := tv.yB hv hi hk'
    have hsB := xwP_bound hv tv q
    rw [pSum_take hq]
    refine W.region ?_
    refine WO.alloc rfl rfl rfl (fun b6 hb6 => ?_)
    refine WO.storeA rfl rfl rfl rfl Pick.head rfl rfl ?_
    refine WO.nil ?_
    refine W.block ?_
    refine W.drawD 13 [.b 0 [], .r 1 [], .b 2 [], .b 3 [], .r 4 [], .b 5 [], .r 6 [], .b 7 [], .r 8 [], .b 9 [], .r 10 [], .b 11 [], .r 12 []] [] (A0 := []) (Sub.refl _) (by kernel_rfl) ?_ ?_
    · exact (ALok.b (ALok.r (ALok.b (ALok.b (ALok.r (ALok.b (ALok.r (ALok.b (ALok.r (ALok.b (ALok.r (ALok.b (ALok.r ALok.nil)))))))))))))
    refine' DT.b rfl rfl rfl ?hq ?_
    case hq =>
      refine WO.load rfl rfl (Cell.own (Pick.tail (Pick.head)) rfl) rfl ?_
      exact WO.nil ⟨rfl, rfl⟩
    refine' DT.r rfl rfl rfl ?hq ?_
    case hq =>
      refine WO.fieldL rfl rfl rfl ?_
      exact WO.nil ⟨rfl, rfl⟩
    refine' DT.b rfl rfl rfl ?hq ?_
    case hq =>
      refine WO.load rfl rfl (Cell.own Pick.head rfl) rfl ?_
      exact WO.nil ⟨rfl, rfl⟩
    refine' DT.b rfl rfl rfl ?hq ?_
    case hq =>
      refine WO.load rfl rfl (Cell.own (Pick.tail (Pick.tail (Pick.tail (Pick.head)))) rfl) rfl ?_
      exact WO.nil ⟨rfl, rfl⟩
    refine' DT.r rfl rfl rfl ?hq ?_
    case hq =>
      refine WO.field0 rfl rfl rfl ?_
      exact WO.nil ⟨rfl, rfl⟩
    refine' DT.b rfl rfl rfl ?hq ?_
    case hq =>
      refine WO.load rfl rfl (Cell.own Pick.head rfl) rfl ?_
      exact WO.nil ⟨rfl, rfl⟩
    refine' DT.r rfl rfl rfl ?hq ?_
    case hq =>
      refine' WO.indexAddr (n := _) (i := _) rfl rfl rfl ?hs ?h1 rfl ?_
      case hs => (first | exact hR2.sl | (refine (hR2.row _ ?_).sl; omega))
      case h1 => (first | omega | (simp; omega))
      exact WO.nil ⟨rfl, rfl⟩
    refine' DT.b rfl rfl rfl ?hq ?_
    case hq =>
      refine' WO.load (v := _) rfl rfl ?hc rfl ?_
      case hc => (first | (refine hR2.cellV ?_; omega) | (refine (hR2.row _ ?_).cell0 ?_ 0 ?_ <;> first | rfl | omega))
      exact WO.nil ⟨rfl, rfl⟩
    refine' DT.r rfl rfl rfl ?hq ?_
    case hq =>
      refine WO.fieldL rfl rfl rfl ?_
      exact WO.nil ⟨rfl, rfl⟩
    refine' DT.b rfl rfl rfl ?hq ?_
    case hq =>
      refine WO.load rfl rfl (Cell.own Pick.head rfl) rfl ?_
      exact WO.nil ⟨rfl, rfl⟩
    refine' DT.r rfl rfl rfl ?hq ?_
    case hq =>
      refine' WO.indexAddr (n := _) (i := _) rfl rfl rfl ?hs ?h1 rfl ?_
      case hs => (first | exact hR2.sl | (refine (hR2.row _ ?_).sl; omega))
      case h1 => (first | omega | (simp; omega))
      exact WO.nil ⟨rfl, rfl⟩
    refine' DT.b rfl rfl rfl ?hq ?_
    case hq =>
      refine' WO.load (v := _) rfl rfl ?hc rfl ?_
      case hc => (first | (refine hR2.cellV ?_; omega) | (refine (hR2.row _ ?_).cell0 ?_ 0 ?_ <;> first | rfl | omega))
      exact WO.nil ⟨rfl, rfl⟩
    refine' DT.r rfl rfl rfl ?hq ?_
    case hq =>
      refine WO.ar rfl rfl rfl (by (first | exact in64B (mulB (mulB (wgtB _ _) (wgtB _ _)) hyB) (by decide))) rfl ?_
      exact WO.nil ⟨rfl, rfl⟩
    refine DT.nil [_, _, _, _, _] rfl ?_
    refine WO.ar rfl rfl rfl (by (first | have h1 := mulB (mulB (wgtB i rows.length) (wgtB k (rows.getD i []).length)) hyB; unfold yy at h1; unfold in64; omega)) rfl (WO.store1 rfl rfl rfl (by first | rfl | assumption) (Pick.tail (Pick.head)) rfl ?_)
    refine WO.nil ?_
    (repeat (first | exact Sub.nil | refine Sub.cons (by repeat (first | exact Pick.head | apply Pick.tail)) ?_))
  rw [plcV_len, List.take_length, xwP_all tv]
  refine W.sreg ?_
  refine WO.field0 rfl rfl rfl (WO.load rfl rfl (Cell.own (Pick.tail (Pick.tail (Pick.tail (Pick.tail (Pick.head))))) rfl) rfl (WO.fieldL rfl rfl rfl (WO.load rfl rfl (Cell.own (Pick.tail (Pick.tail (Pick.tail (Pick.tail (Pick.head))))) rfl) rfl (WO.ar rfl rfl rfl (by (first | exact in64B p1 (by decide))) rfl (WO.load rfl rfl (Cell.own (Pick.tail (Pick.tail (Pick.tail (Pick.head)))) rfl) rfl (WO.ar rfl rfl rfl (by (first | exact in64B p2 (by decide))) rfl ?_))))))
  refine WO.callR rfl Try.call47 (fun L w hi => c_fraction w _ _ p2.1 (by omega) (in64B p2 (by decide)) (by unfold in64; omega)) rfl ?_
  refine WO.storeA rfl rfl rfl rfl (Pick.tail (Pick.tail (Pick.tail (Pick.tail (Pick.tail (Pick.tail (Pick.head))))))) rfl rfl ?_
  refine WO.nil ?_
  refine W.ret ?_
  exact fin.ret (Res.one rfl (RV.cell rfl rfl rfl (Cells.own Pick.head))) rfl
end Go.Proofs.Ytgihklgpehfbpaa

