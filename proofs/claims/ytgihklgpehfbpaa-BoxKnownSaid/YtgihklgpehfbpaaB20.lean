/-
  What is proved here: the program's value of a hull. Conditions: none; each contract states its own.
-/
import Derived.Test.YtgihklgpehfbpaaB19
namespace Go.Proofs.Ytgihklgpehfbpaa
open Go Go.TH
attribute [local irreducible] W WO pt
set_option maxRecDepth 10000
set_option maxHeartbeats 1000000
/-- what one place adds above, and below -/
def tAP (what sp st : Int) (rows : List (List (Int × Int))) (ys : List (List Int)) (q : Nat × Nat) : Int := tA what sp st rows.length (rows.getD q.1 []).length q.1 q.2 (yy ys q.1 q.2)
def tBP (what st : Int) (rows : List (List (Int × Int))) (ys : List (List Int)) (q : Nat × Nat) : Int := tB what st rows.length (rows.getD q.1 []).length q.1 q.2 (yy ys q.1 q.2)
theorem ps_mul (c : Int) (f : Nat → Int) : ∀ n, ps (fun i => c * f i) n = c * ps f n
  | 0 => by simp [ps]
  | n + 1 => by simp only [ps]; rw [ps_mul c f n, Int.mul_add]
theorem ps_add (f g : Nat → Int) : ∀ n, ps (fun i => f i + g i) n = ps f n + ps g n
  | 0 => by simp [ps]
  | n + 1 => by simp only [ps]; rw [ps_add f g n]; omega
theorem ps_last (g : Int) : ∀ n, 0 < n → ps (fun k => if k + 1 = n then g else 0) n = g := by
  intro n hn
  obtain ⟨m, rfl⟩ : ∃ m, n = m + 1 := ⟨n - 1, by omega⟩
  simp only [ps]
  have key : ∀ j, j ≤ m → ps (fun k => if k + 1 = m + 1 then g else 0) j = 0 := by
    intro j
    induction j with
    | zero => intro _; rfl
    | succ j ih => intro h; simp only [ps]; rw [ih (by omega), if_neg (by omega)]; rfl
  have := key m (Nat.le_refl _); simp at this ⊢; omega
section
variable {sp st : Int} {rows : List (List (Int × Int))} {ys : List (List Int)} {what : Int}
theorem tBP_all (tv : TV rows ys) (hw : 0 ≤ what ∧ what ≤ 2) : pSum (tBP what st rows ys) (plc rows) = tD st ys what := by
  have h0 : pSum (xwP rows ys) (plc rows) = sAll ys ys.length := xwP_all tv
  unfold plc at *
  rw [pSum_plc] at h0 ⊢
  unfold tD
  rw [← h0]
  by_cases h2 : what = 2
  · rw [if_neg (by omega), if_neg (by omega), ← ps_mul]
    refine ps_congr fun i hi => ?_
    rw [← ps_mul]
    refine ps_congr fun k hk => ?_
    unfold tBP tB xwP; rw [if_pos h2]; simp only [Int.mul_assoc]
  · have e : (if what = 0 then ps (fun i => ps (fun k => xwP rows ys (i, k)) (rows.getD i []).length) rows.length else if what = 1 then ps (fun i => ps (fun k => xwP rows ys (i, k)) (rows.getD i []).length) rows.length else 3 * st * ps (fun i => ps (fun k => xwP rows ys (i, k)) (rows.getD i []).length) rows.length) = ps (fun i => ps (fun k => xwP rows ys (i, k)) (rows.getD i []).length) rows.length := by
      split
      · rfl
      · rw [if_pos (by omega)]
    rw [e]
    refine ps_congr fun i hi => ps_congr fun k hk => ?_
    unfold tBP tB xwP; rw [if_neg h2]
theorem lastY_eq (ys : List (List Int)) (i : Nat) : lastY ys i = yy ys i ((ys.getD i []).length - 1) := by
  unfold lastY
  congr 1
  omega
theorem tAP_all (hv : HV sp st rows) (tv : TV rows ys) (hw : 0 ≤ what ∧ what ≤ 2) : pSum (tAP what sp st rows ys) (plc rows) = tN sp st ys what := by
  unfold plc
  rw [pSum_plc]
  unfold tN sAlong sAbove sCubes
  rw [tv.len]
  have hr : ∀ i, i < rows.length → (ys.getD i []).length = (rows.getD i []).length := fun i hi => tv.row i (by rw [tv.len]; exact hi)
  by_cases h0 : what = 0
  · rw [if_pos h0, ← ps_mul]
    refine ps_congr fun i hi => ?_
    rw [← ps_mul, hr i hi]
    refine ps_congr fun k hk => ?_
    unfold tAP tA xw; rw [if_neg (by omega), if_neg (by omega), hr i hi, tv.len]; simp only [Int.mul_assoc]
  · rw [if_neg h0]
    by_cases h1 : what = 1
    · rw [if_pos h1, ← ps_mul]
      refine ps_congr fun i hi => ?_
      rw [← ps_mul, hr i hi]
      refine ps_congr fun k hk => ?_
      unfold tAP tA xw; rw [if_neg (by omega), if_pos h1, hr i hi, tv.len]; simp only [Int.mul_assoc]
    · rw [if_neg h1, ← ps_mul, ← ps_mul, ← ps_add]
      refine ps_congr fun i hi => ?_
      have hm := hv.eq i hi
      have hm2 := hv.m
      rw [← ps_mul, hr i hi, ← ps_last (2 * (wgt i rows.length * lastY ys i * lastY ys i * lastY ys i)) (rows.getD i []).length (by omega), ← ps_add]
      refine ps_congr fun k hk => ?_
      unfold tAP tA xw; rw [if_pos (by omega), hr i hi, tv.len]
      by_cases hk' : k + 1 = (rows.getD i []).length
      · rw [if_pos hk', if_pos hk', lastY_eq, hr i hi, show (rows.getD i []).length - 1 = k by omega]; simp only [Int.mul_assoc]
      · rw [if_neg hk', if_neg hk']; simp only [Int.mul_assoc]
theorem TV.tf (hv : HV sp st rows) (tv : TV rows ys) (num den : Int) {i k : Nat} (hi : i < rows.length) (hk : k < (rows.getD i []).length) : TF sp st num den rows.length (rows.getD i []).length i k (yy ys i k) := by
  have h1 := hv.n; have h2 := hv.m; have h3 := hv.eq i hi
  exact TF.of hv.sp hv.st (by omega) (by omega) (tv.yB hv hi hk)
theorem tP_bound (hv : HV sp st rows) (tv : TV rows ys) (q : Nat) : (-100000000000 ≤ pSum (tAP what sp st rows ys) ((plc rows).take q) ∧ pSum (tAP what sp st rows ys) ((plc rows).take q) ≤ 100000000000) ∧ -100000000000 ≤ pSum (tBP what st rows ys) ((plc rows).take q) ∧ pSum (tBP what st rows ys) ((plc rows).take q) ≤ 100000000000 := by
  have h2 := plc_len hv
  have h3 : ((plc rows).take q).length ≤ 60 := by rw [List.length_take]; omega
  have h1 := pSum_bound (f := tAP what sp st rows ys) (l := (plc rows).take q) (A := 0) (B := 800000000) fun x hx => by
    have hm := plc_mem (List.mem_of_mem_take hx)
    have := (tv.tf hv 0 0 hm.1 hm.2).ab what
    unfold tAP; omega
  have h1' := pSum_bound (f := tBP what st rows ys) (l := (plc rows).take q) (A := 0) (B := 600000) fun x hx => by
    have hm := plc_mem (List.mem_of_mem_take hx)
    have := (tv.tf hv 0 0 hm.1 hm.2).ab what
    unfold tBP; omega
  omega
/-- what is asked, above and below: how great they are -/
theorem tN_bound (hv : HV sp st rows) (tv : TV rows ys) (what : Int) : (0 ≤ tN sp st ys what ∧ tN sp st ys what ≤ 100000000000) ∧ 0 < tD st ys what ∧ tD st ys what ≤ 100000000 := by
  have hS := tv.small hv
  have ba := hS.all (Nat.le_refl _)
  have bl' := hS.along (Nat.le_refl _)
  have bb := hS.above (Nat.le_refl _)
  have bc := hS.cubes (Nat.le_refl _)
  have hp := tv.pos hv
  have hsp := hv.sp; have hst := hv.st
  have p1 := mulB (A := 1000) (B := 1200000) ⟨by omega, hsp.2⟩ bl'
  have p2 := mulB (A := 100) (B := 720000) ⟨by omega, hst.2⟩ bb
  have p3 : 0 ≤ 3 * st ∧ 3 * st ≤ 300 := by omega
  have p4 := mulB (A := 300) (B := 100) p3 ⟨by omega, hst.2⟩
  have p5 := mulB p4 bb
  have p6 := mulB p3 ba
  have p7 : 0 < 3 * st * sAll ys ys.length := Int.mul_pos (by omega) hp
  unfold tN tD
  refine ⟨?_, ?_⟩
  · split
    · omega
    · split <;> omega
  · split
    · omega
    · split <;> omega
end
theorem c_value (w : World) (p : Addr) (sp st what : Int) (o o' : Value) (rv rv' : List Value) (rows : List (List (Int × Int))) (ys : List (List Int)) (hP : RdC w.heap.size w p [.int .i64 sp, .int .i64 st, o, .int .i64 what]) (hR : RdR encP 2 w.heap.size w o rv rows) (hR' : RdR encI 1 w.heap.size w o' rv' ys) (hv : HV sp st rows) (tv : TV rows ys) (hw : 0 ≤ what ∧ what ≤ 2) :
    Ret Try.prog 42 [.pointer (some p), o'].toArray w (.agg (encP (valQ sp st ys what)).toArray) := by
  refine Ret.of mixed tyTab Try.func42 rfl rfl ?_
  replace hR : RdR encP 2 (fnCx mixed tyTab Try.f42.ntmps w).B (fnCx mixed tyTab Try.f42.ntmps w).w0 o rv rows := hR
  replace hR' : RdR encI 1 (fnCx mixed tyTab Try.f42.ntmps w).B (fnCx mixed tyTab Try.f42.ntmps w).w0 o' rv' ys := hR'
  replace hP : RdC (fnCx mixed tyTab Try.f42.ntmps w).B (fnCx mixed tyTab Try.f42.ntmps w).w0 p [.int .i64 sp, .int .i64 st, o, .int .i64 what] := hP
  have hlen := tv.len
  have ho' := hR'.sl.oc
  have hst := hv.st
  obtain ⟨bN, bD⟩ := tN_bound hv tv what
  refine W.sreg ?_
  refine WO.box1 rfl (by first | rfl | assumption) rfl (fun b1 hb1 => ?_)
  refine WO.box1 rfl (by first | rfl | assumption) rfl (fun b2 hb2 => ?_)
  refine WO.alloc rfl rfl rfl (fun b3 hb3 => ?_)
  refine WO.nil ?_
  refine W.sreg ?_
  refine WO.alloc rfl rfl rfl (fun b4 hb4 => ?_)
  refine WO.alloc rfl rfl rfl (fun b5 hb5 => ?_)
  refine WO.store1 rfl rfl rfl (by first | rfl | assumption) (Pick.tail (Pick.head)) rfl (WO.store1 rfl rfl rfl (by first | rfl | assumption) (Pick.tail (Pick.head)) rfl ?_)
  refine WO.nil ?_
  refine W.seq ?_
  refine W.sreg ?_
  refine WO.load rfl rfl (Cell.own (Pick.tail (Pick.tail (Pick.tail (Pick.tail (Pick.head))))) rfl) rfl ?_
  refine WO.call (Post := fun v Hq => ∃ b1 b2, v = .func (.func 67) #[] #[.pointer (some ⟨b1, 0, none⟩), .pointer (some ⟨b2, 0, none⟩)] ∧ Hq = [pt b2 (.cells #[.func (.func 66) #[.agg #[.int .i64 1, .int .i64 2]] #[]] 95 (0, 0)), pt b1 (.cells #[.pointer (some p)] 71 (0, 0))]) rfl Try.call56 (fun L w hi => c_places w _) rfl ?_
  rintro _ _ ⟨e1, e2, rfl, rfl⟩
  refine WO.nil ?_
  refine W.block ?_
  refine W.rangeFunc [pt e2 (.cells #[.func (.func 66) #[.agg #[.int .i64 1, .int .i64 2]] #[]] 95 (0, 0)), pt e1 (.cells #[.pointer (some p)] 71 (0, 0)), pt b3 (.cells #[.int .i64 0, .int .i64 0] 29 (0, 0))] (fun q => [pt b4 (.cells #[.int .i64 (pSum (tAP what sp st rows ys) ((plc rows).take q))] 2 (0, 0)), pt b5 (.cells #[.int .i64 (pSum (tBP what st rows ys) ((plc rows).take q))] 2 (0, 0)), pt b1 (.cells #[.pointer (some p)] 71 (0, 0)), pt b2 (.cells #[o'] 25 (0, 0))]) (plcV rows) rfl rfl rfl Try.call67 (by repeat (first | exact Sub.nil | refine Sub.cons (by repeat (first | exact Pick.head | apply Pick.tail)) ?_)) ?_ ?_ ?_
  · intro l Hc hy w1 M' hB hk hM hi
    exact c_places1 _ _ p sp st o rv rows _ hR hv l Hc hy e1 e2 w1 M' hB hk hM (fun _ _ => (show RdC (itCx mixed tyTab Try.f67.ntmps w1 M' _ hB hM).B (itCx mixed tyTab Try.f67.ntmps w1 M' _ hB hM).w0 p [.int .i64 sp, .int .i64 st, o, .int .i64 what] from hP.agree hk).cellAt rfl) hi
  · intro l w1 M hB hM hk q x hx
    obtain ⟨i, k, hq, hi, hk', rfl⟩ := plcV_some hx
    have hR2 : RdR encI 1 (rdCx (fnCx mixed tyTab Try.f42.ntmps w) l w1 M hB hM).B (rdCx (fnCx mixed tyTab Try.f42.ntmps w) l w1 M hB hM).w0 o' rv' ys := hR'.agree hk
    have hP2 : RdC (rdCx (fnCx mixed tyTab Try.f42.ntmps w) l w1 M hB hM).B (rdCx (fnCx mixed tyTab Try.f42.ntmps w) l w1 M hB hM).w0 p [.int .i64 sp, .int .i64 st, o, .int .i64 what] := hP.agree hk
    have hrl := tv.row i (by omega)
    have tf := tv.tf hv 0 0 hi hk'
    have hab := tf.ab what
    have hsB := tP_bound (what := what) hv tv q
    rw [pSum_take hq, pSum_take hq]
    refine W.region ?_
    refine WO.alloc rfl rfl rfl (fun b6 hb6 => ?_)
    refine WO.storeA rfl rfl rfl rfl Pick.head rfl rfl ?_
    refine WO.nil ?_
    refine W.block ?_
    refine W.seq ?_
    refine W.drawD 16 [.b 0 [], .b 1 [], .b 2 [], .r 3 [], .b 4 [], .r 5 [], .b 6 [], .r 7 [], .b 8 [], .r 9 [], .b 10 [], .b 11 [], .r 12 [], .r 13 [], .r 14 [], .r 15 []] [] (A0 := []) (Sub.refl _) (by kernel_rfl) ?_ ?_
    · exact (ALok.b (ALok.b (ALok.b (ALok.r (ALok.b (ALok.r (ALok.b (ALok.r (ALok.b (ALok.r (ALok.b (ALok.b (ALok.r (ALok.r (ALok.r (ALok.r ALok.nil))))))))))))))))
    refine' DT.b rfl rfl rfl ?hq ?_
    case hq =>
      refine WO.load rfl rfl (Cell.own (Pick.tail (Pick.tail (Pick.tail (Pick.head)))) rfl) rfl ?_
      exact WO.nil ⟨rfl, rfl⟩
    refine' DT.b rfl rfl rfl ?hq ?_
    case hq =>
      refine WO.loadA rfl rfl (Cells.own Pick.head) rfl rfl ?_
      exact WO.nil ⟨rfl, rfl⟩
    refine' DT.b rfl rfl rfl ?hq ?_
    case hq =>
      refine WO.load rfl rfl (Cell.own (Pick.tail (Pick.tail (Pick.tail (Pick.tail (Pick.head))))) rfl) rfl ?_
      exact WO.nil ⟨rfl, rfl⟩
    refine' DT.r rfl rfl rfl ?hq ?_
    case hq =>
      refine WO.field0 rfl rfl rfl ?_
      exact WO.nil ⟨rfl, rfl⟩
    refine' DT.b rfl rfl rfl ?hq ?_
    case hq =>
      refine WO.load rfl rfl (Cell.own Pick.head rfl) rfl ?_
      exact WO.nil ⟨rfl, rfl⟩
    refine' DT.r rfl rfl rfl ?hq ?_
    case hq =>
      refine' WO.indexAddr (n := _) (i := _) rfl rfl rfl ?hs ?h1 rfl ?_
      case hs => (first | exact hR2.sl | (refine (hR2.row _ ?_).sl; omega))
      case h1 => (first | omega | (simp; omega))
      exact WO.nil ⟨rfl, rfl⟩
    refine' DT.b rfl rfl rfl ?hq ?_
    case hq =>
      refine' WO.load (v := _) rfl rfl ?hc rfl ?_
      case hc => (first | (refine hR2.cellV ?_; omega) | (refine (hR2.row _ ?_).cell0 ?_ 0 ?_ <;> first | rfl | omega))
      exact WO.nil ⟨rfl, rfl⟩
    refine' DT.r rfl rfl rfl ?hq ?_
    case hq =>
      refine WO.fieldL rfl rfl rfl ?_
      exact WO.nil ⟨rfl, rfl⟩
    refine' DT.b rfl rfl rfl ?hq ?_
    case hq =>
      refine WO.load rfl rfl (Cell.own Pick.head rfl) rfl ?_
      exact WO.nil ⟨rfl, rfl⟩
    refine' DT.r rfl rfl rfl ?hq ?_
    case hq =>
      refine' WO.indexAddr (n := _) (i := _) rfl rfl rfl ?hs ?h1 rfl ?_
      case hs => (first | exact hR2.sl | (refine (hR2.row _ ?_).sl; omega))
      case h1 => (first | omega | (simp; omega))
      exact WO.nil ⟨rfl, rfl⟩
    refine' DT.b rfl rfl rfl ?hq ?_
    case hq =>
      refine' WO.load (v := _) rfl rfl ?hc rfl ?_
      case hc => (first | (refine hR2.cellV ?_; omega) | (refine (hR2.row _ ?_).cell0 ?_ 0 ?_ <;> first | rfl | omega))
      exact WO.nil ⟨rfl, rfl⟩
    refine' DT.b rfl rfl rfl ?hq ?_
    case hq =>
      refine WO.callR rfl Try.call58 (fun L w hi => c_terms w p sp st what o rows.length (rows.getD i []).length i k (yy ys i k) (hP2.later hi) hw tf (by omega) hst.2) rfl ?_
      exact WO.nil ⟨rfl, rfl⟩
    refine' DT.r rfl rfl rfl ?hq ?_
    case hq =>
      refine WO.p rfl rfl ?_
      exact WO.nil ⟨rfl, rfl⟩
    refine' DT.r rfl rfl rfl ?hq ?_
    case hq =>
      refine WO.p rfl rfl ?_
      exact WO.nil ⟨rfl, rfl⟩
    refine' DT.r rfl rfl rfl ?hq ?_
    case hq =>
      refine WO.p rfl rfl ?_
      exact WO.nil ⟨rfl, rfl⟩
    refine' DT.r rfl rfl rfl ?hq ?_
    case hq =>
      refine WO.p rfl rfl ?_
      exact WO.nil ⟨rfl, rfl⟩
    refine DT.nil [_, _, _, _, _] rfl ?_
    refine WO.p rfl rfl ?_
    refine WO.nil ?_
    refine W.drawD 7 [.f 0 [], .r 1 [], .r 2 [], .g 3 [] (pt b5 (.cells #[.int .i64 (pSum (tBP what st rows ys) ((plc rows).take q))] 2 (0, 0))), .r 4 [], .r 5 [], .s 6 []] [] (A0 := [_, _]) (H0 := [_, _, _]) (.cons (Pick.tail .head) (.cons (Pick.tail .head) (.cons .head (.cons .head (.cons .head .nil))))) (by kernel_rfl) ?_ ?_
    · exact (ALok.f (ALok.r (ALok.r (ALok.g (ALok.r (ALok.r (ALok.s ALok.nil)))))))
    refine' DT.f [_, _, _, _, _] rfl rfl rfl rfl ?hq ?_
    case hq =>
      refine WO.load rfl rfl (Cell.own Pick.head rfl) rfl ?_
      exact WO.nil ⟨rfl, rfl⟩
    refine' DT.r rfl rfl rfl ?hq ?_
    case hq =>
      refine WO.p rfl rfl ?_
      exact WO.nil ⟨rfl, rfl⟩
    refine' DT.r rfl rfl rfl ?hq ?_
    case hq =>
      refine WO.ar rfl rfl rfl (by (first | (unfold in64; omega) | (unfold in64; omega))) rfl ?_
      exact WO.nil ⟨rfl, rfl⟩
    refine' DT.g (by repeat (first | exact Pick.head | apply Pick.tail)) rfl rfl rfl ?hq ?_
    case hq =>
      refine WO.load rfl rfl (Cell.own Pick.head rfl) rfl ?_
      exact WO.nil ⟨rfl, rfl⟩
    refine' DT.r rfl rfl rfl ?hq ?_
    case hq =>
      refine WO.p rfl rfl ?_
      exact WO.nil ⟨rfl, rfl⟩
    refine' DT.r rfl rfl rfl ?hq ?_
    case hq =>
      refine WO.ar rfl rfl rfl (by (first | (unfold in64; omega) | (unfold in64; omega))) rfl ?_
      exact WO.nil ⟨rfl, rfl⟩
    refine DT.s [_, _, _, _, _] rfl rfl rfl ?_
    refine WO.store1 rfl rfl rfl (by first | rfl | assumption) Pick.head rfl ?_
    refine WO.nil ⟨[_, _], rfl, rfl, (Keep.r (Keep.r (Keep.g (.inr ⟨_, by repeat (first | exact Pick.head | apply Pick.tail)⟩) (Keep.r (Keep.r (Keep.f Keep.nil)))))), ?_⟩
    refine DT.nil [_, _, _, _, _] rfl ?_
    refine WO.store1 rfl rfl rfl (by first | rfl | assumption) (Pick.tail (Pick.head)) rfl ?_
    refine WO.nil ?_
    (repeat (first | exact Sub.nil | refine Sub.cons (by repeat (first | exact Pick.head | apply Pick.tail)) ?_))
  rw [plcV_len, List.take_length, tAP_all hv tv hw, tBP_all tv hw]
  refine W.sreg ?_
  refine WO.load rfl rfl (Cell.own (Pick.tail (Pick.tail (Pick.tail (Pick.head)))) rfl) rfl (WO.load rfl rfl (Cell.own (Pick.tail (Pick.tail (Pick.tail (Pick.tail (Pick.head))))) rfl) rfl ?_)
  refine WO.callR rfl Try.call47 (fun L w hi => c_fraction w _ _ bN.1 bD.1 (by unfold in64; omega) (by unfold in64; omega)) rfl ?_
  refine WO.storeA rfl rfl rfl rfl (Pick.tail (Pick.tail (Pick.head))) rfl rfl ?_
  refine WO.nil ?_
  refine W.ret ?_
  exact fin.ret (Res.one rfl (RV.cell rfl rfl rfl (Cells.own Pick.head))) rfl
end Go.Proofs.Ytgihklgpehfbpaa

