/-
  What is proved here: the program's excess. Conditions: none; each contract states its own.
-/
import Derived.Test.YtgihklgpehfbpaaB23
namespace Go.Proofs.Ytgihklgpehfbpaa
open Go Go.TH
attribute [local irreducible] W WO pt
set_option maxRecDepth 10000
set_option maxHeartbeats 2000000
theorem bestY_succ_t {f : Int → Int} {lo y b : Int} (hy : lo < y) (eb : b = bestY f lo (y - 1 - lo).toNat) (h : f b < f y) : y = bestY f lo (y + 1 - 1 - lo).toNat := by
  obtain ⟨j, hj⟩ : ∃ j : Nat, y = lo + (j + 1 : Nat) := ⟨(y - lo - 1).toNat, by omega⟩
  rw [show (y - 1 - lo).toNat = j by omega] at eb
  rw [show (y + 1 - 1 - lo).toNat = j + 1 by omega]
  simp only [bestY, ← eb, ← hj]
  rw [if_pos h]
theorem bestY_succ_f {f : Int → Int} {lo y b : Int} (hy : lo < y) (eb : b = bestY f lo (y - 1 - lo).toNat) (h : ¬ f b < f y) : b = bestY f lo (y + 1 - 1 - lo).toNat := by
  obtain ⟨j, hj⟩ : ∃ j : Nat, y = lo + (j + 1 : Nat) := ⟨(y - lo - 1).toNat, by omega⟩
  rw [show (y - 1 - lo).toNat = j by omega] at eb
  rw [show (y + 1 - 1 - lo).toNat = j + 1 by omega]
  simp only [bestY, ← eb, ← hj]
  rw [if_neg h]
theorem part3 {a b c d : Value} {j : Nat} {v : Value} (h : [a, b, c][j]? = some v) : [a, b, c, d][j]? = some v := by
  have hl := (List.getElem?_eq_some_iff.1 h).1
  rw [show [a, b, c, d] = [a, b, c] ++ [d] from rfl, List.getElem?_append_left hl]; exact h
theorem exY_of {what sp st num den : Int} {high : Bool} {rows : List (List (Int × Int))} {i k : Nat} {y b : Int} (h1 : ¬ y ≤ hi0 rows i k) (h2 : y ≤ hi0 rows i k + 1)
    (eb : b = bestY (fun y => sgn high * exT what sp st num den rows.length (rows.getD i []).length i k y) (lo0 rows i k) (y - 1 - lo0 rows i k).toNat) : b = exY what sp st num den high rows i k := by
  obtain rfl : y = hi0 rows i k + 1 := by omega
  rw [eb, exY, show hi0 rows i k + 1 - 1 - lo0 rows i k = hi0 rows i k - lo0 rows i k by omega]
theorem c_excess (w : World) (p : Addr) (sp st what num den : Int) (high : Bool) (o : Value) (rv : List Value) (rows : List (List (Int × Int))) (hP : RdC w.heap.size w p (planCs sp st o what)) (hR : RdR encP 2 w.heap.size w o rv rows) (hv : HV sp st rows) (hw : 0 ≤ what ∧ what ≤ 2) (hb : Bd num den) :
    Ct Try.prog 48 [.pointer (some p), .agg #[.int .i64 num, .int .i64 den], .int .i64 (sgn high)].toArray w fun v w' => ∃ Hq, (∃ x : Value × List Value, v = .tuple #[x.1, .int .i64 (partS what sp st num den high rows rows.length)] ∧ Hq = [OwC 53 1 x.1 rows.length x.2, RowsE encI 2 1 x.2 (exH what sp st num den high rows)]) ∧ Inv w [] Hq w' := by
  refine Ct.ofI mixed tyTab Try.func48 rfl rfl ?_
  replace hR : RdR encP 2 (fnCx mixed tyTab Try.f48.ntmps w).B (fnCx mixed tyTab Try.f48.ntmps w).w0 o rv rows := hR
  replace hP : RdC (fnCx mixed tyTab Try.f48.ntmps w).B (fnCx mixed tyTab Try.f48.ntmps w).w0 p (planCs sp st o what) := hP
  have hPp := hP.part (us := [.int .i64 sp, .int .i64 st, o]) (fun j v h => by simp only [planCs]; exact part3 h)
  have hn := hv.n
  have hm := hv.m
  have hs := hv.small
  refine W.sreg ?_
  refine WO.box1 rfl (by first | rfl | assumption) rfl (fun b1 hb1 => ?_)
  refine WO.boxA rfl rfl (fun b2 hb2 => ?_)
  refine WO.box1 rfl (by first | rfl | assumption) rfl (fun b3 hb3 => ?_)
  refine WO.p rfl rfl (WO.p rfl rfl ?_)
  refine WO.nil ?_
  refine W.sreg ?_
  refine WO.load rfl rfl (Cell.own (Pick.tail (Pick.tail (Pick.head))) rfl) rfl (WO.p rfl rfl (WO.field0 rfl rfl rfl ?_))
  refine' WO.loadA (vs := _) rfl rfl ?hc ?hl rfl ?_
  case hc => (first | exact hPp.cells | (refine (hR2.row _ ?_).cells ?_ (0, 0) <;> omega))
  case hl => rfl
  refine WO.call (Post := fun v Hq => ∃ rv', Hq = [OwC 53 1 v rows.length rv', RowsE encI 2 1 rv' (endsOf false rows)]) rfl Try.call51 (fun L w hi => c_pick w sp st o rv rows _ false ch_63 (hR.later hi) hs.1 hs.2) rfl ?_
  rintro v1 _ ⟨rv1, rfl⟩
  refine WO.fact (OwC.form (by repeat (first | exact Pick.head | apply Pick.tail))) (fun hf => ?_)
  obtain ⟨a0, c0, rfl⟩ := hf
  refine WO.alloc rfl rfl rfl (fun b4 hb4 => ?_)
  refine WO.store1 rfl rfl rfl (by first | rfl | assumption) Pick.head rfl ?_
  refine WO.nil ?_
  refine W.sreg ?_
  refine WO.alloc rfl rfl rfl (fun b5 hb5 => ?_)
  refine WO.store1 rfl rfl rfl (by first | rfl | assumption) Pick.head rfl ?_
  refine WO.nil ?_
  refine W.seq ?_
  refine W.sreg ?_
  refine WO.load rfl rfl (Cell.own (Pick.tail (Pick.tail (Pick.tail (Pick.tail (Pick.tail (Pick.tail (Pick.head))))))) rfl) rfl ?_
  refine WO.call (Post := fun v Hq => ∃ b1 b2, v = .func (.func 67) #[] #[.pointer (some ⟨b1, 0, none⟩), .pointer (some ⟨b2, 0, none⟩)] ∧ Hq = [pt b2 (.cells #[.func (.func 66) #[.agg #[.int .i64 1, .int .i64 2]] #[]] 95 (0, 0)), pt b1 (.cells #[.pointer (some p)] 71 (0, 0))]) rfl Try.call56 (fun L w hi => c_places w _) rfl ?_
  rintro _ _ ⟨e1, e2, rfl, rfl⟩
  refine WO.nil ?_
  refine W.block ?_
  refine W.chg satNil ?_
  rw [← exG_0 (what := what) (sp := sp) (st := st) (num := num) (den := den) (high := high)]
  refine W.rangeFunc [pt e2 (.cells #[.func (.func 66) #[.agg #[.int .i64 1, .int .i64 2]] #[]] 95 (0, 0)), pt e1 (.cells #[.pointer (some p)] 71 (0, 0)), sat []] (fun q => [pt b5 (.cells #[.int .i64 (pSum (fun q => best1 what sp st num den high rows q.1 q.2) ((plc rows).take q))] 2 (0, 0)), pt b4 (.cells #[.slice a0 rows.length c0] 25 (0, 0)), OwC 53 1 (.slice a0 rows.length c0) rows.length rv1, RowsE encI 2 1 rv1 (mk rows (exG what sp st num den high rows q)), pt b1 (.cells #[.pointer (some p)] 71 (0, 0)), pt b2 (.cells #[.int .i64 num, .int .i64 den] 29 (0, 0)), pt b3 (.cells #[.int .i64 (sgn high)] 2 (0, 0))]) (plcV rows) rfl rfl rfl Try.call67 (by repeat (first | exact Sub.nil | refine Sub.cons (by repeat (first | exact Pick.head | apply Pick.tail)) ?_)) ?_ ?_ ?_
  · intro l Hc hy w1 M' hB hk hM hi
    exact c_places1 _ _ p sp st o rv rows _ hR hv l Hc hy e1 e2 w1 M' hB hk hM (fun _ _ => (show RdC (itCx mixed tyTab Try.f67.ntmps w1 M' _ hB hM).B (itCx mixed tyTab Try.f67.ntmps w1 M' _ hB hM).w0 p (planCs sp st o what) from hP.agree hk).cellAt rfl) hi
  · intro l w1 M hB hM hk q x hx
    obtain ⟨i, k, hq, hi, hk', rfl⟩ := plcV_some hx
    have hR2 : RdR encP 2 (rdCx (fnCx mixed tyTab Try.f48.ntmps w) l w1 M hB hM).B (rdCx (fnCx mixed tyTab Try.f48.ntmps w) l w1 M hB hM).w0 o rv rows := hR.agree hk
    have hP2 : RdC (rdCx (fnCx mixed tyTab Try.f48.ntmps w) l w1 M hB hM).B (rdCx (fnCx mixed tyTab Try.f48.ntmps w) l w1 M hB hM).w0 p (planCs sp st o what) := hP.agree hk
    have hok := hv.ok i k hi hk'
    have hsB := sum_bound (what := what) (high := high) hv hb q
    rw [pSum_take hq]
    refine W.region ?_
    refine WO.alloc rfl rfl rfl (fun b6 hb6 => ?_)
    refine WO.storeA rfl rfl rfl rfl Pick.head rfl rfl ?_
    refine WO.nil ?_
    refine W.block ?_
    refine W.sreg ?_
    refine WO.p rfl rfl (WO.p rfl rfl ?_)
    refine WO.nil ?_
    refine W.seq ?_
    refine W.drawD 14 [.b 0 [], .r 1 [], .r 2 [], .r 3 [], .b 4 [], .r 5 [], .b 6 [], .r 7 [], .b 8 [], .r 9 [], .b 10 [], .r 11 [], .b 12 [], .a 13 12 (.cells #[.int .i64 0, .int .i64 0] 55 (0, 0))] [] (A0 := []) (Sub.refl _) (by kernel_rfl) ?_ ?_
    · exact (ALok.b (ALok.r (ALok.r (ALok.r (ALok.b (ALok.r (ALok.b (ALok.r (ALok.b (ALok.r (ALok.b (ALok.r (ALok.b (ALok.cons rfl rfl rfl rfl rfl ALok.nil))))))))))))))
    refine' DT.b rfl rfl rfl ?hq ?_
    case hq =>
      refine WO.load rfl rfl (Cell.own (Pick.tail (Pick.tail (Pick.tail (Pick.tail (Pick.tail (Pick.head)))))) rfl) rfl ?_
      exact WO.nil ⟨rfl, rfl⟩
    refine' DT.r rfl rfl rfl ?hq ?_
    case hq =>
      refine WO.p rfl rfl ?_
      exact WO.nil ⟨rfl, rfl⟩
    refine' DT.r rfl rfl rfl ?hq ?_
    case hq =>
      refine WO.field0 rfl rfl rfl ?_
      exact WO.nil ⟨rfl, rfl⟩
    refine' DT.r rfl rfl rfl ?hq ?_
    case hq =>
      refine WO.field rfl rfl rfl ?_
      exact WO.nil ⟨rfl, rfl⟩
    refine' DT.b rfl rfl rfl ?hq ?_
    case hq =>
      refine' WO.load (v := _) rfl rfl ?hc rfl ?_
      case hc => (first | (refine hP2.cellAt ?_; rfl) | (refine hR2.cellV ?_; omega) | (refine (hR2.row _ ?_).cell0 ?_ (0, 0) ?_ <;> first | rfl | omega) | (refine OwC.cell1s (e := 53) (n := rows.length) (cs := rv1) ?_ ?_; (repeat (first | exact Sub.nil | refine Sub.cons (by repeat (first | exact Pick.head | apply Pick.tail)) ?_)); omega))
      exact WO.nil ⟨rfl, rfl⟩
    refine' DT.r rfl rfl rfl ?hq ?_
    case hq =>
      refine WO.field0 rfl rfl rfl ?_
      exact WO.nil ⟨rfl, rfl⟩
    refine' DT.b rfl rfl rfl ?hq ?_
    case hq =>
      refine WO.load rfl rfl (Cell.own Pick.head rfl) rfl ?_
      exact WO.nil ⟨rfl, rfl⟩
    refine' DT.r rfl rfl rfl ?hq ?_
    case hq =>
      refine' WO.indexAddr (n := _) (i := _) rfl rfl rfl ?hs ?h1 rfl ?_
      case hs => (first | exact hR2.sl | exact hrs | exact hos | (refine (hR2.row _ ?_).sl; omega))
      case h1 => (first | omega | (simp; omega))
      exact WO.nil ⟨rfl, rfl⟩
    refine' DT.b rfl rfl rfl ?hq ?_
    case hq =>
      refine' WO.load (v := _) rfl rfl ?hc rfl ?_
      case hc => (first | (refine hP2.cellAt ?_; rfl) | (refine hR2.cellV ?_; omega) | (refine (hR2.row _ ?_).cell0 ?_ (0, 0) ?_ <;> first | rfl | omega) | (refine OwC.cell1s (e := 53) (n := rows.length) (cs := rv1) ?_ ?_; (repeat (first | exact Sub.nil | refine Sub.cons (by repeat (first | exact Pick.head | apply Pick.tail)) ?_)); omega))
      exact WO.nil ⟨rfl, rfl⟩
    refine' DT.r rfl rfl rfl ?hq ?_
    case hq =>
      refine WO.fieldL rfl rfl rfl ?_
      exact WO.nil ⟨rfl, rfl⟩
    refine' DT.b rfl rfl rfl ?hq ?_
    case hq =>
      refine WO.load rfl rfl (Cell.own Pick.head rfl) rfl ?_
      exact WO.nil ⟨rfl, rfl⟩
    refine' DT.r rfl rfl rfl ?hq ?_
    case hq =>
      refine' WO.indexAddr (n := _) (i := _) rfl rfl rfl ?hs ?h1 rfl ?_
      case hs => (first | exact hR2.sl | exact hrs | exact hos | (refine (hR2.row _ ?_).sl; omega))
      case h1 => (first | omega | (simp; omega))
      exact WO.nil ⟨rfl, rfl⟩
    refine' DT.b rfl rfl rfl ?hq ?_
    case hq =>
      refine' WO.loadA (vs := _) rfl rfl ?hc ?hl rfl ?_
      case hc => (first | exact hPp.cells | (refine (hR2.row _ ?_).cells ?_ (0, 0) <;> omega))
      case hl => rfl
      exact WO.nil ⟨rfl, rfl⟩
    refine DT.a (fun b7 => ?_)
    refine DT.nil [_, _, _, _, _, _, _, _, _] rfl ?_
    refine WO.storeA rfl rfl rfl rfl Pick.head rfl rfl ?_
    refine WO.nil ?_
    refine W.sreg ?_
    refine WO.field0 rfl rfl rfl (WO.load rfl rfl (Cell.own Pick.head rfl) rfl (WO.p rfl rfl ?_))
    refine WO.nil ?_
    refine W.seq ?_
    refine W.sreg ?_
    refine WO.field0 rfl rfl rfl (WO.load rfl rfl (Cell.own Pick.head rfl) rfl (WO.ar rfl rfl rfl (by (first | (unfold in64; omega))) rfl (WO.p rfl rfl ?_)))
    refine WO.nil ?_
    refine W.block ?_
    refine W.loop2 (fun (y : Int) (b : Int) => lo0 rows i k < y ∧ y ≤ hi0 rows i k + 1 ∧ b = bestY (fun y => sgn high * exT what sp st num den rows.length (rows.getD i []).length i k y) (lo0 rows i k) (y - 1 - lo0 rows i k).toNat)
      (fun (y : Int) (b : Int) => [(14, .int .i64 y), (13, .int .i64 b), (12, .pointer (some ⟨b7, 0, none⟩)), (11, .func (.func 64) #[] #[.pointer (some ⟨b1, 0, none⟩), .pointer (some ⟨b6, 0, none⟩), .pointer (some ⟨b2, 0, none⟩)]), (10, .pointer (some ⟨b6, 0, none⟩)), (9, .pointer (some ⟨b5, 0, none⟩)), (8, .pointer (some ⟨b4, 0, none⟩)), (5, .pointer (some ⟨b3, 0, none⟩))])
      (fun (y : Int) (b : Int) => [pt b7 (.cells #[.int .i64 (lo0 rows i k), .int .i64 (hi0 rows i k)] 55 (0, 0)), pt b6 (.cells #[.int .i64 (i : Int), .int .i64 (k : Int), .int .i64 (wgt i rows.length * wgt k (rows.getD i []).length), .int .i64 (wgt i rows.length), .bool (bl ((k : Int) = ((rows.getD i []).length : Int) - 1))] 94 (0, 0)), pt b5 (.cells #[.int .i64 (pSum (fun q => best1 what sp st num den high rows q.1 q.2) ((plc rows).take q))] 2 (0, 0)), pt b4 (.cells #[.slice a0 rows.length c0] 25 (0, 0)), OwC 53 1 (.slice a0 rows.length c0) rows.length rv1, RowsE encI 2 1 rv1 (mk rows (exG what sp st num den high rows q)), pt b1 (.cells #[.pointer (some p)] 71 (0, 0)), pt b2 (.cells #[.int .i64 num, .int .i64 den] 29 (0, 0)), pt b3 (.cells #[.int .i64 (sgn high)] 2 (0, 0))])
      (fun (y : Int) (b : Int) => (hi0 rows i k + 1 - y).toNat) (lo0 rows i k + 1) (lo0 rows i k)
      (by (have e1' : lo0 rows i k = ((rows.getD i []).getD k (0, 0)).1 := rfl; have e2' : hi0 rows i k = ((rows.getD i []).getD k (0, 0)).2 := rfl; exact ⟨by omega, by omega, by rw [show lo0 rows i k + 1 - 1 - lo0 rows i k = 0 by omega]; rfl⟩)) ⟨rfl, rfl, rfl, rfl, rfl, rfl, rfl, rfl, trivial⟩ (by repeat (first | exact Sub.nil | refine Sub.cons (by repeat (first | exact Pick.head | apply Pick.tail)) ?_)) ?_
    rintro y b ⟨hy1, hy2, eb⟩
    have hbI := bestY_in (f := fun y => sgn high * exT what sp st num den rows.length (rows.getD i []).length i k y) (lo := lo0 rows i k) (j := (y - 1 - lo0 rows i k).toNat)
    rw [← eb] at hbI
    refine W.seq ?_
    have e1' : lo0 rows i k = ((rows.getD i []).getD k (0, 0)).1 := rfl
    have e2' : hi0 rows i k = ((rows.getD i []).getD k (0, 0)).2 := rfl
    refine W.sreg ?_
    refine WO.p rfl rfl (WO.fieldL rfl rfl rfl (WO.load rfl rfl (Cell.own Pick.head rfl) rfl (WO.p rfl rfl ?_)))
    refine WO.nil ?_
    refine W.cond_bl rfl (fun c1 => ?_) (fun c1 => ?_)
    · first
      | (exfalso; omega)
      | (refine W.skip ?_
         refine W.seq ?_
         refine W.block ?_
         refine W.seq ?_
         have tfy := hv.tf (num := 0) (den := 0) (y := y) hi hk' ⟨by omega, by omega⟩
         have tfb := hv.tf (num := 0) (den := 0) (y := b) hi hk' ⟨by omega, by omega⟩
         have ey := ((hv.tf (num := num) (den := den) (y := y) hi hk' ⟨by omega, by omega⟩).ex hb what).2.2
         have eb2 := ((hv.tf (num := num) (den := den) (y := b) hi hk' ⟨by omega, by omega⟩).ex hb what).2.2
         refine W.drawD 10 [.b 0 [], .r 1 [], .r 2 [], .b 3 [], .r 4 [], .b 5 [], .r 6 [], .r 7 [], .b 8 [], .r 9 []] [] (A0 := []) (Sub.refl _) (by kernel_rfl) ?_ ?_
         · exact (ALok.b (ALok.r (ALok.r (ALok.b (ALok.r (ALok.b (ALok.r (ALok.r (ALok.b (ALok.r ALok.nil))))))))))
         refine' DT.b rfl rfl rfl ?hq ?_
         case hq =>
           refine WO.load rfl rfl (Cell.own (Pick.tail (Pick.tail (Pick.tail (Pick.tail (Pick.tail (Pick.tail (Pick.tail (Pick.tail (Pick.head))))))))) rfl) rfl ?_
           exact WO.nil ⟨rfl, rfl⟩
         refine' DT.r rfl rfl rfl ?hq ?_
         case hq =>
           refine WO.p rfl rfl ?_
           exact WO.nil ⟨rfl, rfl⟩
         refine' DT.r rfl rfl rfl ?hq ?_
         case hq =>
           refine WO.p rfl rfl ?_
           exact WO.nil ⟨rfl, rfl⟩
         refine' DT.b rfl rfl rfl ?hq ?_
         case hq =>
           refine WO.callCR (first := []) (captured := [.pointer (some ⟨b1, 0, none⟩), .pointer (some ⟨b6, 0, none⟩), .pointer (some ⟨b2, 0, none⟩)]) rfl rfl Try.call64 (fun L w hi2 => c_part w p _ _ _ sp st what num den o rows.length (rows.getD i []).length i k y (hP2.later hi2) (RdC.own (b := b1) (by repeat (first | exact Pick.head | apply Pick.tail)) hi2) (RdC.own (b := b6) (by repeat (first | exact Pick.head | apply Pick.tail)) hi2) (RdC.own (b := b2) (by repeat (first | exact Pick.head | apply Pick.tail)) hi2) hw hv.st tfy hb) rfl ?_
           exact WO.nil ⟨rfl, rfl⟩
         refine' DT.r rfl rfl rfl ?hq ?_
         case hq =>
           refine WO.ar rfl rfl rfl (by (first | exact sgn_in (by omega))) rfl ?_
           exact WO.nil ⟨rfl, rfl⟩
         refine' DT.b rfl rfl rfl ?hq ?_
         case hq =>
           refine WO.load rfl rfl (Cell.own (Pick.tail (Pick.tail (Pick.tail (Pick.tail (Pick.tail (Pick.tail (Pick.tail (Pick.tail (Pick.head))))))))) rfl) rfl ?_
           exact WO.nil ⟨rfl, rfl⟩
         refine' DT.r rfl rfl rfl ?hq ?_
         case hq =>
           refine WO.p rfl rfl ?_
           exact WO.nil ⟨rfl, rfl⟩
         refine' DT.r rfl rfl rfl ?hq ?_
         case hq =>
           refine WO.p rfl rfl ?_
           exact WO.nil ⟨rfl, rfl⟩
         refine' DT.b rfl rfl rfl ?hq ?_
         case hq =>
           refine WO.callCR (first := []) (captured := [.pointer (some ⟨b1, 0, none⟩), .pointer (some ⟨b6, 0, none⟩), .pointer (some ⟨b2, 0, none⟩)]) rfl rfl Try.call64 (fun L w hi2 => c_part w p _ _ _ sp st what num den o rows.length (rows.getD i []).length i k b (hP2.later hi2) (RdC.own (b := b1) (by repeat (first | exact Pick.head | apply Pick.tail)) hi2) (RdC.own (b := b6) (by repeat (first | exact Pick.head | apply Pick.tail)) hi2) (RdC.own (b := b2) (by repeat (first | exact Pick.head | apply Pick.tail)) hi2) hw hv.st tfb hb) rfl ?_
           exact WO.nil ⟨rfl, rfl⟩
         refine' DT.r rfl rfl rfl ?hq ?_
         case hq =>
           refine WO.ar rfl rfl rfl (by (first | exact sgn_in (by omega))) rfl ?_
           exact WO.nil ⟨rfl, rfl⟩
         refine DT.nil [_, _, _, _, _, _, _, _, _] rfl ?_
         refine WO.p rfl rfl ?_
         refine WO.nil ?_
         refine W.cond_bl rfl (fun c2 => ?_) (fun c2 => ?_)
         · first
           | (exfalso; omega)
           | (refine W.region ?_
              refine WO.p rfl rfl (WO.p rfl rfl ?_)
              refine WO.nil ?_
              refine W.region ?_
              refine WO.p rfl rfl (WO.ar rfl rfl rfl (by (first | (unfold in64; omega))) rfl (WO.p rfl rfl ?_))
              refine WO.nil ?_
              refine' ⟨y + 1, _, ?hp, ?hmu, ⟨rfl, rfl, rfl, rfl, rfl, rfl, rfl, rfl, trivial⟩, ?hS⟩
              case hS => repeat (first | exact Sub.nil | refine Sub.cons (by repeat (first | exact Pick.head | apply Pick.tail)) ?_)
              case hp => first | exact ⟨by omega, by omega, bestY_succ_t hy1 eb (by assumption)⟩ | exact ⟨by omega, by omega, bestY_succ_f hy1 eb (by assumption)⟩
              case hmu => omega)
         · first
           | (exfalso; omega)
           | (refine W.skip ?_
              refine W.region ?_
              refine WO.p rfl rfl (WO.ar rfl rfl rfl (by (first | (unfold in64; omega))) rfl (WO.p rfl rfl ?_))
              refine WO.nil ?_
              refine' ⟨y + 1, _, ?hp, ?hmu, ⟨rfl, rfl, rfl, rfl, rfl, rfl, rfl, rfl, trivial⟩, ?hS⟩
              case hS => repeat (first | exact Sub.nil | refine Sub.cons (by repeat (first | exact Pick.head | apply Pick.tail)) ?_)
              case hp => first | exact ⟨by omega, by omega, bestY_succ_t hy1 eb (by assumption)⟩ | exact ⟨by omega, by omega, bestY_succ_f hy1 eb (by assumption)⟩
              case hmu => omega))
    · first
      | (exfalso; omega)
      | (refine W.exit (blk_same ?_)
         refine W.seq ?_
         refine W.fact (RowsE.rowSl (by repeat (first | exact Pick.head | apply Pick.tail)) (i := i) (by rw [mk_len]; exact hi)) (fun hrs => ?_)
         rw [mk_rowLen hi] at hrs
         refine W.fact (RowsE.rowsLen (by repeat (first | exact Pick.head | apply Pick.tail))) (fun hrl => ?_)
         rw [mk_len] at hrl
         refine W.fact (OwC.sl (by repeat (first | exact Pick.head | apply Pick.tail))) (fun hos => ?_)
         obtain rfl := exY_of (what := what) (sp := sp) (st := st) (num := num) (den := den) (high := high) (by assumption) hy2 eb
         refine W.drawD 8 [.b 0 [], .r 1 [], .b 2 [], .r 3 [], .b 4 [], .r 5 [], .b 6 [], .r 7 []] [] (A0 := [_]) (H0 := [_, _, _, _, _, _, _, _]) (.cons (Pick.tail (Pick.tail (Pick.tail (Pick.tail (Pick.tail .head))))) (.cons .head (.cons .head (.cons .head (.cons .head (.cons .head (.cons .head (.cons .head (.cons .head .nil))))))))) (by kernel_rfl) ?_ ?_
         · exact (ALok.b (ALok.r (ALok.b (ALok.r (ALok.b (ALok.r (ALok.b (ALok.r ALok.nil))))))))
         refine' DT.b rfl rfl rfl ?hq ?_
         case hq =>
           refine WO.load rfl rfl (Cell.own (Pick.tail (Pick.tail (Pick.tail (Pick.head)))) rfl) rfl ?_
           exact WO.nil ⟨rfl, rfl⟩
         refine' DT.r rfl rfl rfl ?hq ?_
         case hq =>
           refine WO.field0 rfl rfl rfl ?_
           exact WO.nil ⟨rfl, rfl⟩
         refine' DT.b rfl rfl rfl ?hq ?_
         case hq =>
           refine WO.load rfl rfl (Cell.own (Pick.tail (Pick.head)) rfl) rfl ?_
           exact WO.nil ⟨rfl, rfl⟩
         refine' DT.r rfl rfl rfl ?hq ?_
         case hq =>
           refine' WO.indexAddr (n := _) (i := _) rfl rfl rfl ?hs ?h1 rfl ?_
           case hs => (first | exact hR2.sl | exact hrs | exact hos | (refine (hR2.row _ ?_).sl; omega))
           case h1 => (first | omega | (simp; omega))
           exact WO.nil ⟨rfl, rfl⟩
         refine' DT.b rfl rfl rfl ?hq ?_
         case hq =>
           refine' WO.load (v := _) rfl rfl ?hc rfl ?_
           case hc => (first | (refine hP2.cellAt ?_; rfl) | (refine hR2.cellV ?_; omega) | (refine (hR2.row _ ?_).cell0 ?_ (0, 0) ?_ <;> first | rfl | omega) | (refine OwC.cell1s (e := 53) (n := rows.length) (cs := rv1) ?_ ?_; (repeat (first | exact Sub.nil | refine Sub.cons (by repeat (first | exact Pick.head | apply Pick.tail)) ?_)); omega))
           exact WO.nil ⟨rfl, rfl⟩
         refine' DT.r rfl rfl rfl ?hq ?_
         case hq =>
           refine WO.fieldL rfl rfl rfl ?_
           exact WO.nil ⟨rfl, rfl⟩
         refine' DT.b rfl rfl rfl ?hq ?_
         case hq =>
           refine WO.load rfl rfl (Cell.own (Pick.tail (Pick.head)) rfl) rfl ?_
           exact WO.nil ⟨rfl, rfl⟩
         refine' DT.r rfl rfl rfl ?hq ?_
         case hq =>
           refine WO.p rfl rfl ?_
           exact WO.nil ⟨rfl, rfl⟩
         refine DT.nil [_, _, _, _, _, _, _, _, _] rfl ?_
         refine' WO.indexAddr (n := _) (i := _) rfl rfl rfl ?hs ?h1 rfl ?_
         case hs => (first | exact hR2.sl | exact hrs | exact hos | (refine (hR2.row _ ?_).sl; omega))
         case h1 => (first | omega | (simp; omega))
         refine WO.storeRow encI_ok rfl rfl rfl rfl (by repeat (first | exact Pick.head | apply Pick.tail)) (by rw [mk_len]; exact hi) (by rw [mk_rowLen hi]; exact hk') ?_
         rw [exG_succ hq hi]
         refine WO.nil ?_
         have be := hv.best1 hb what high hi hk'
         have tfx := hv.tf (num := 0) (den := 0) (y := exY what sp st num den high rows i k) hi hk' ⟨by omega, by omega⟩
         refine W.drawD 4 [.f 0 [], .r 1 [], .r 2 [], .b 3 []] [] (A0 := [_]) (H0 := [_, _, _, _, _, _, _, _]) (.cons (Pick.tail (Pick.tail (Pick.tail .head))) (.cons .head (.cons .head (.cons .head (.cons .head (.cons .head (.cons .head (.cons .head (.cons .head .nil))))))))) (by kernel_rfl) ?_ ?_
         · exact (ALok.f (ALok.r (ALok.r (ALok.b ALok.nil))))
         refine' DT.f [_, _, _, _, _, _, _, _, _] rfl rfl rfl rfl ?hq ?_
         case hq =>
           refine WO.load rfl rfl (Cell.own Pick.head rfl) rfl ?_
           exact WO.nil ⟨rfl, rfl⟩
         refine' DT.r rfl rfl rfl ?hq ?_
         case hq =>
           refine WO.p rfl rfl ?_
           exact WO.nil ⟨rfl, rfl⟩
         refine' DT.r rfl rfl rfl ?hq ?_
         case hq =>
           refine WO.p rfl rfl ?_
           exact WO.nil ⟨rfl, rfl⟩
         refine' DT.b rfl rfl rfl ?hq ?_
         case hq =>
           refine WO.callCR (first := []) (captured := [.pointer (some ⟨b1, 0, none⟩), .pointer (some ⟨b6, 0, none⟩), .pointer (some ⟨b2, 0, none⟩)]) (r := .int .i64 (best1 what sp st num den high rows i k)) rfl rfl Try.call64 (fun L w hi2 => by rw [← exY_best]; exact c_part w p _ _ _ sp st what num den o rows.length (rows.getD i []).length i k (exY what sp st num den high rows i k) (hP2.later hi2) (RdC.own (b := b1) (by repeat (first | exact Pick.head | apply Pick.tail)) hi2) (RdC.own (b := b6) (by repeat (first | exact Pick.head | apply Pick.tail)) hi2) (RdC.own (b := b2) (by repeat (first | exact Pick.head | apply Pick.tail)) hi2) hw hv.st tfx hb) rfl ?_
           exact WO.nil ⟨rfl, rfl⟩
         refine DT.nil [_, _, _, _, _, _, _, _, _] rfl ?_
         refine WO.ar rfl rfl rfl (by (first | (unfold in64; omega))) rfl (WO.store1 rfl rfl rfl (by first | rfl | assumption) Pick.head rfl ?_)
         refine WO.nil ?_
         (repeat (first | exact Sub.nil | refine Sub.cons (by repeat (first | exact Pick.head | apply Pick.tail)) ?_)))
  refine W.seq ?_
  rw [plcV_len, List.take_length, sum_best, exG_all]
  refine W.drawD 3 [.b 0 [], .b 1 [6], .r 2 [6]] [6] (A0 := []) (Sub.refl _) (by kernel_rfl) ?_ ?_
  · exact (ALok.b (ALok.b (ALok.r ALok.nil)))
  refine' DT.b rfl rfl rfl ?hq ?_
  case hq =>
    refine WO.load rfl rfl (Cell.own (Pick.tail (Pick.tail (Pick.tail (Pick.tail (Pick.head))))) rfl) rfl ?_
    exact WO.nil ⟨rfl, rfl⟩
  refine' DT.b rfl rfl rfl ?hq ?_
  case hq =>
    refine WO.load rfl rfl (Cell.own (Pick.tail (Pick.tail (Pick.tail (Pick.head)))) rfl) rfl ?_
    exact WO.nil ⟨rfl, rfl⟩
  refine' DT.r rfl rfl rfl ?hq ?_
  case hq =>
    refine WO.p rfl rfl ?_
    exact WO.nil ⟨rfl, rfl⟩
  refine DT.nil [_, _, _, _, _, _, _, _, _, _] rfl ?_
  refine WO.p rfl rfl ?_
  refine WO.nil ?_
  refine W.ret ?_
  exact fin.ret (Res.two rfl (RV.tmp rfl) (RV.tmp rfl)) ⟨(_, rv1), rfl, fun h hs => Sub.sat (.cons (by repeat (first | exact Pick.head | apply Pick.tail)) (.cons (by repeat (first | exact Pick.head | apply Pick.tail)) .nil)) hs⟩
end Go.Proofs.Ytgihklgpehfbpaa

