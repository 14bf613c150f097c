/-
  What is proved here: the smallest circles that grow. Conditions: none; each contract states its own.
  What is proved here: the reference: all circles of a track, and the smallest one. Conditions: none; each contract states its own.
  What is proved here: the reference: the smallest circle of a track. Conditions: none; each contract states its own.
  What is proved here: rims: the lists, and the function that yields them. Conditions: none; each contract states its own.
  What is proved here: the circle that a rim proves: what goes through parts of it. Conditions: none; each contract states its own.
  What is proved here: the circle that a rim proves. Conditions: none; each contract states its own.
  What is proved here: the circle that a rim proves. Conditions: none; each contract states its own.
  What is proved here: which rims prove which circles. Conditions: none; each contract states its own.
  What is proved here: trees keyed by numbers; values of an evaluator and how they stand for the model's values. Conditions: none; each lemma states its own.
  What is proved here: states of an evaluator, how they stand for worlds, and steps between them. Conditions: none; each lemma states its own.
-/
import Derived.Test.YtnehaifgcegemaaGreatM3
import Derived.Test.YtnehaifgcegemaaGreatM2
set_option linter.unusedVariables false
set_option linter.unusedSimpArgs false
namespace Go.Proofs.YtnehaifgcegemaaGreat.Tu
open Go Go.TH
attribute [local irreducible] W WO pt
set_option maxRecDepth 10000
set_option maxHeartbeats 1000000
theorem OwE.cellsP {C : Cx Tryz.prog} {H : List HP} {e : Nat} {v : Value} {l : Pts} {i : Nat} (s : Sub H [OwE encP e 2 v l]) (hi : i < l.length) : Cells C H (elt v i 2) [.int .i64 (l.at i).1, .int .i64 (l.at i).2] := by
 cases s with
 | cons p _ => exact OwE.cells encP_ok p hi (0, 0)
theorem take_at {l : Pts} {j : Nat} (h : j < l.length) : l.take (j + 1) = l.take j ++ [l.at j] := take_succ_getD h _
theorem mem_take {l : Pts} {j : Nat} : ∀ p ∈ l.take j, p ∈ l := fun _ h => List.mem_of_mem_take h
theorem take_take {l : Pts} {i j : Nat} (h : i ≤ j) : ∀ p ∈ l.take i, p ∈ l.take j := fun p hp => by
 rw [← Nat.min_eq_left h, ← List.take_take] at hp
 exact List.mem_of_mem_take hp
theorem Missed.at {l R : Pts} {c : Cir} {m : Int} {i : Nat} (hM : Missed c l m) (h0 : 0 ≤ m) (hS : Sm (l.take i) R c) : ∃ j : Nat, m = j ∧ j < l.length ∧ 0 < whr c (l.at j) ∧ Sm (l.take j) R c ∧ i ≤ j := by
 rcases hM with ⟨rfl, _⟩ | ⟨j, rfl, hj, hp, hh⟩
 ·omega
 ·rcases Nat.lt_or_ge j i with g | g
  ·have : l.at j ∈ l.take i := by
    have : l.at j ∈ l.take (j + 1) := by rw [take_at hj]; simp
    exact take_take (by omega) _ this
   have := hS.hold _ this
   omega
  ·exact ⟨j, rfl, hj, hp, hS.more (take_take g) hh, g⟩
theorem Missed.end {l R : Pts} {c : Cir} {m : Int} {i : Nat} (hM : Missed c l m) (h0 : ¬ 0 ≤ m) (hS : Sm (l.take i) R c) : Sm l R c := by
 rcases hM with ⟨rfl, h⟩ | ⟨j, rfl, _⟩
 ·exact hS.more mem_take h
 ·omega
theorem Missed.next {l R : Pts} {c : Cir} {m : Int} {i : Nat} (hM : Missed c l m) (hS : Sm (l.take i) R c) (h0 : 0 ≤ m) : (i : Int) ≤ m := by
 obtain ⟨j, rfl, _, _, _, h⟩ := hM.at h0 hS
 omega
def left (l : Pts) (m : Int) : Nat := if m < 0 then 0 else l.length + 1 - m.toNat
theorem left_lt {l : Pts} {j : Nat} {m' : Int} (hj : j < l.length) (h : 0 ≤ m' → ((j + 1 : Nat) : Int) ≤ m') : left l m' < left l (j : Int) := by
 unfold left
 rw [if_neg (show ¬ (j : Int) < 0 by omega)]
 split
 ·omega
 ·have := h (by omega); omega
theorem c_both (w : World) (v : Value) (l : Pts) (p q : Int × Int) (hR : RdF encP 2 w.heap.size w v l) (hl : OkL l) (hp : OkP p) (hq : OkP q) (hn : p ≠ q) (he : Ex l [p, q]) :
 RetE Tryz.prog 228 [v, .agg #[.int .i64 p.1, .int .i64 p.2], .agg #[.int .i64 q.1, .int .i64 q.2]].toArray w (fun r => ∃ c, Sm l [p, q] c ∧ RingR c r) := by
 refine RetE.of mixed tyTab Tryz.func228 rfl rfl ?_
 replace hR : RdF encP 2 (fnCx mixed tyTab Tryz.f228.ntmps w).B (fnCx mixed tyTab Tryz.f228.ntmps w).w0 v l := hR
 have hle := hR.sl.le
 refine W.sreg (WO.boxA rfl rfl (fun b1 hb1 => (WO.boxA rfl rfl (fun b2 hb2 => (WO.alloc rfl rfl rfl (fun b3 hb3 => (WO.nil (W.sreg (WO.loadA rfl rfl (Cells.own (Pick.tail (Pick.tail (Pick.head)))) rfl rfl (WO.loadA rfl rfl (Cells.own (Pick.tail (Pick.head))) rfl rfl (WO.callE rfl Tryz.call250 (fun L w hi => c_between w p q hp hq) rfl ?_)))))))))))
 rintro _ ⟨a0, n0, k0, rfl⟩
 refine WO.alloc rfl rfl rfl (fun b4 hb4 => (WO.storeA rfl rfl rfl rfl Pick.head rfl rfl (WO.nil (W.seq (W.sreg (WO.loadA rfl rfl (Cells.own Pick.head) rfl rfl (WO.p rfl rfl (WO.callE rfl Tryz.call144 (fun L w hi => c_missed w (betwC p q) _ rfl v l (hR.later hi) (Sm.betw hp hq).ok hl) rfl ?_))))))))
 rintro _ ⟨m0, rfl, hm0⟩
 refine WO.p rfl rfl (WO.nil (W.block ?_))
 refine W.loop5 (fun (c : Cir) (a : Option Addr) (n : Nat) (k : Nat) (m : Int) => (∃ i, i ≤ l.length ∧ Sm (l.take i) [p, q] c) ∧ Missed c l m)
  (fun (c : Cir) (a : Option Addr) (n : Nat) (k : Nat) (m : Int) => [(8, .int .i64 m), (7, .pointer (some ⟨b4, 0, none⟩)), (6, .pointer (some ⟨b3, 0, none⟩)), (5, .pointer (some ⟨b2, 0, none⟩)), (4, .pointer (some ⟨b1, 0, none⟩)), (0, v)])
  (fun (c : Cir) (a : Option Addr) (n : Nat) (k : Nat) (m : Int) => [pt b4 (.cells #[.int .i64 c.x, .int .i64 c.y, .int .i64 c.den, .int .i64 c.n, .int .i64 c.d, .slice a n k] 118 (0, 0)), pt b3 (.cells #[.int .i64 0, .int .i64 0, .int .i64 0, .int .i64 0, .int .i64 0, .slice none 0 0] 118 (0, 0)), pt b2 (.cells #[.int .i64 q.1, .int .i64 q.2] 152 (0, 0)), pt b1 (.cells #[.int .i64 p.1, .int .i64 p.2] 152 (0, 0))])
  (fun (c : Cir) (a : Option Addr) (n : Nat) (k : Nat) (m : Int) => left l m) (betwC p q) a0 n0 k0 m0
  (by exact ⟨⟨0, by omega, Sm.betw hp hq⟩, hm0⟩) ⟨rfl, rfl, rfl, rfl, rfl, rfl, trivial⟩ (by repeat (first | exact Sub.nil | refine Sub.cons (by repeat first | exact .head | apply Pick.tail) ?_)) ?_
 rintro c a n k m ⟨hSm, hM⟩
 refine W.seq (W.sreg (WO.p rfl rfl (WO.p rfl rfl (WO.nil ?_))))
 refine W.cond_bl rfl (fun c1 => ?_) (fun c1 => ?_)
 ·refine W.skip (W.seq (W.block ?_))
  obtain ⟨i, hi, hS⟩ := hSm
  obtain ⟨j, rfl, hj, hw, hS2, hij⟩ := hM.at (by omega) hS
  have hT := hS2.thr hp hq (at_ok hl hj) hn hw (by rw [← take_at hj]; exact he.sub mem_take)
  rw [← take_at hj] at hT
  refine W.drawD 11 [.r 0 [], .r 1 [], .r 2 [], .b 3 [], .b 4 [], .b 5 [], .c 6 [], .r 7 [], .r 8 [], .r 9 [], .s 10 []] [] (A0 := [_]) (H0 := [_, _, _]) (.cons .head (.cons .head (.cons .head (.cons .head .nil)))) (by kernel_rfl) ?_ ?_
  ·exact (ALok.r (ALok.r (ALok.r (ALok.b (ALok.b (ALok.b (ALok.c (ALok.r (ALok.r (ALok.r (ALok.s ALok.nil)))))))))))
  refine DT.r rfl rfl rfl (WO.p rfl rfl (WO.nil ⟨rfl, rfl⟩)) (DT.r rfl rfl rfl (WO.p rfl rfl (WO.nil ⟨rfl, rfl⟩)) ?_)
  refine' DT.r rfl rfl rfl ?hq ?_
  case hq =>
   refine' WO.indexAddr (n := _) (i := _) rfl rfl rfl ?hs ?h1 rfl ?_
   case hs => exact hR.sl
   case h1 => (first | omega | (simp; omega))
   exact WO.nil ⟨rfl, rfl⟩
  refine' DT.b rfl rfl rfl ?hq ?_
  case hq =>
   refine' WO.loadA (vs := _) rfl rfl ?hc ?hl rfl ?_
   case hc => exact RdF.cells2 hR (i := j) (by omega)
   case hl => rfl
   exact WO.nil ⟨rfl, rfl⟩
  refine DT.b rfl rfl rfl (WO.loadA rfl rfl (Cells.own (Pick.tail (Pick.tail (Pick.head)))) rfl rfl (WO.nil ⟨rfl, rfl⟩)) (DT.b rfl rfl rfl (WO.loadA rfl rfl (Cells.own (Pick.tail (Pick.head))) rfl rfl (WO.nil ⟨rfl, rfl⟩)) (DT.c [_, _, _, _] rfl rfl rfl rfl (WO.callE rfl Tryz.call86 (fun L w hi => c_through w (l.at j) p q (at_ok hl hj) hp hq) rfl ?_)))
  rintro _ ⟨c', a', n', k', rfl, hcx⟩
  obtain rfl := hcx hT.1
  refine WO.nil ⟨_, [_], rfl, rfl, (Keep.b (Keep.b (Keep.b (Keep.r (Keep.r (Keep.r Keep.nil)))))), ?_⟩
  refine DT.r rfl rfl rfl (WO.p rfl rfl (WO.nil ⟨rfl, rfl⟩)) (DT.r rfl rfl rfl (WO.p rfl rfl (WO.nil ⟨rfl, rfl⟩)) (DT.r rfl rfl rfl (WO.p rfl rfl (WO.nil ⟨rfl, rfl⟩)) (DT.s [_, _, _, _] rfl rfl rfl (WO.storeA rfl rfl rfl rfl Pick.head rfl rfl ?_))))
  refine WO.nil ⟨[_], rfl, rfl, (Keep.r (Keep.r (Keep.r (Keep.c (Keep.b (Keep.b (Keep.b (Keep.r (Keep.r (Keep.r Keep.nil)))))))))), ?_⟩
  refine DT.nil [_, _, _, _] rfl (WO.nil (W.region (WO.loadA rfl rfl (Cells.own Pick.head) rfl rfl (WO.p rfl rfl (WO.callE rfl Tryz.call144 (fun L w hi => c_missed w (thrC (l.at j) p q) _ rfl v l (hR.later hi) hT.2.ok hl) rfl ?_)))))
  rintro _ ⟨m', rfl, hm'⟩
  refine WO.p rfl rfl (WO.nil ?_)
  refine' ⟨_, _, _, _, _, ?hp, ?hmu, ⟨rfl, rfl, rfl, rfl, rfl, rfl, trivial⟩, ?hS⟩
  case hS => repeat (first | exact Sub.nil | refine Sub.cons (by repeat first | exact .head | apply Pick.tail) ?_)
  case hp => exact ⟨⟨j + 1, by omega, hT.2⟩, hm'⟩
  case hmu => exact left_lt hj (hm'.next hT.2)
 ·refine W.exit (blk_same (W.sreg (WO.loadA rfl rfl (Cells.own Pick.head) rfl rfl (WO.storeA rfl rfl rfl rfl (Pick.tail (Pick.head)) rfl rfl (WO.nil (W.ret ?_))))))
  exact fin.ret (Res.one rfl (RV.cell rfl rfl rfl (Cells.own (by repeat first | exact .head | apply Pick.tail)))) ⟨c, by obtain ⟨i, hi, hS⟩ := hSm; exact hM.end (by omega) hS, _, _, _, rfl⟩
theorem c_with (w : World) (av : Option Addr) (cv : Nat) (l : Pts) (p : Int × Int) (hcap : l.length ≤ cv) (hR : RdF encP 2 w.heap.size w (.slice av l.length cv) l) (hl : OkL l) (hp : OkP p) (he : Ex l [p]) :
 RetE Tryz.prog 145 [.slice av l.length cv, .agg #[.int .i64 p.1, .int .i64 p.2]].toArray w (fun r => ∃ c, Sm l [p] c ∧ RingR c r) := by
 refine RetE.of mixed tyTab Tryz.func145 rfl rfl ?_
 replace hR : RdF encP 2 (fnCx mixed tyTab Tryz.f145.ntmps w).B (fnCx mixed tyTab Tryz.f145.ntmps w).w0 (.slice av l.length cv) l := hR
 have hle := hR.sl.le
 refine W.sreg (WO.boxA rfl rfl (fun b1 hb1 => (WO.alloc rfl rfl rfl (fun b2 hb2 => (WO.nil (W.sreg (WO.loadA rfl rfl (Cells.own (Pick.tail (Pick.head))) rfl rfl (WO.callE rfl Tryz.call143 (fun L w hi => c_alone w p hp) rfl ?_))))))))
 rintro _ ⟨a0, n0, k0, rfl⟩
 refine WO.alloc rfl rfl rfl (fun b3 hb3 => (WO.storeA rfl rfl rfl rfl Pick.head rfl rfl (WO.nil (W.seq (W.sreg (WO.loadA rfl rfl (Cells.own Pick.head) rfl rfl (WO.p rfl rfl (WO.callE rfl Tryz.call144 (fun L w hi => c_missed w (aloneC p) _ rfl _ l (hR.later hi) (Sm.alone hp).ok hl) rfl ?_))))))))
 rintro _ ⟨m0, rfl, hm0⟩
 refine WO.p rfl rfl (WO.nil (W.block ?_))
 refine W.loop5 (fun (c : Cir) (a : Option Addr) (n : Nat) (k : Nat) (m : Int) => (∃ i, i ≤ l.length ∧ Sm (l.take i) [p] c) ∧ Missed c l m)
  (fun (c : Cir) (a : Option Addr) (n : Nat) (k : Nat) (m : Int) => [(6, .int .i64 m), (5, .pointer (some ⟨b3, 0, none⟩)), (4, .pointer (some ⟨b2, 0, none⟩)), (3, .pointer (some ⟨b1, 0, none⟩)), (0, .slice av l.length cv)])
  (fun (c : Cir) (a : Option Addr) (n : Nat) (k : Nat) (m : Int) => [pt b3 (.cells #[.int .i64 c.x, .int .i64 c.y, .int .i64 c.den, .int .i64 c.n, .int .i64 c.d, .slice a n k] 118 (0, 0)), pt b2 (.cells #[.int .i64 0, .int .i64 0, .int .i64 0, .int .i64 0, .int .i64 0, .slice none 0 0] 118 (0, 0)), pt b1 (.cells #[.int .i64 p.1, .int .i64 p.2] 152 (0, 0))])
  (fun (c : Cir) (a : Option Addr) (n : Nat) (k : Nat) (m : Int) => left l m) (aloneC p) a0 n0 k0 m0
  (by exact ⟨⟨0, by omega, Sm.alone hp⟩, hm0⟩) ⟨rfl, rfl, rfl, rfl, rfl, trivial⟩ (by repeat (first | exact Sub.nil | refine Sub.cons (by repeat first | exact .head | apply Pick.tail) ?_)) ?_
 rintro c a n k m ⟨hSm, hM⟩
 refine W.seq (W.sreg (WO.p rfl rfl (WO.p rfl rfl (WO.nil ?_))))
 refine W.cond_bl rfl (fun c1 => ?_) (fun c1 => ?_)
 ·refine W.skip (W.seq (W.block ?_))
  obtain ⟨i, hi, hS⟩ := hSm
  obtain ⟨j, rfl, hj, hw, hS2, hij⟩ := hM.at (by omega) hS
  have hX := hS2.next hw (by rw [← take_at hj]; exact he.sub mem_take)
  refine W.drawD 9 [.r 0 [], .r 1 [], .r 2 [], .r 3 [], .r 4 [], .r 5 [], .r 6 [], .b 7 [], .b 8 []] [] (A0 := [_]) (H0 := [_, _]) (.cons .head (.cons .head (.cons .head .nil))) (by kernel_rfl) ?_ ?_
  ·repeat constructor
  refine DT.r rfl rfl rfl (WO.p rfl rfl (WO.nil ⟨rfl, rfl⟩)) (DT.r rfl rfl rfl (WO.p rfl rfl (WO.nil ⟨rfl, rfl⟩)) (DT.r rfl rfl rfl (WO.p rfl rfl (WO.nil ⟨rfl, rfl⟩)) (DT.r rfl rfl rfl (WO.slSl (lo := 0) (hi := j) (mx := j) rfl rfl bnd.no (bnd.at rfl) (bnd.at rfl) (fun _ => rfl) (by omega) (by omega) (by omega) rfl (WO.nil ⟨rfl, rfl⟩)) (DT.r rfl rfl rfl (WO.p rfl rfl (WO.nil ⟨rfl, rfl⟩)) (DT.r rfl rfl rfl (WO.p rfl rfl (WO.nil ⟨rfl, rfl⟩)) ?_)))))
  refine' DT.r rfl rfl rfl ?hq ?_
  case hq =>
   refine' WO.indexAddr (n := _) (i := _) rfl rfl rfl ?hs ?h1 rfl ?_
   case hs => exact hR.sl
   case h1 => (first | omega | (simp; omega))
   exact WO.nil ⟨rfl, rfl⟩
  refine' DT.b rfl rfl rfl ?hq ?_
  case hq =>
   refine' WO.loadA (vs := _) rfl rfl ?hc ?hl rfl ?_
   case hc => exact RdF.cells2 hR (i := j) (by omega)
   case hl => rfl
   exact WO.nil ⟨rfl, rfl⟩
  refine DT.b rfl rfl rfl (WO.loadA rfl rfl (Cells.own (Pick.tail (Pick.head))) rfl rfl (WO.nil ⟨rfl, rfl⟩)) (DT.nil [_, _, _] rfl (WO.callE rfl Tryz.call228 (fun L w hi => c_both w _ (l.take j) (l.at j) p ((hR.later hi).sub (lo := 0) (hi := j) (mx := j) (by omega) (by omega) (by omega)) (fun x hx => hl x (mem_take x hx)) (at_ok hl hj) hp (hS2.ne (by simp) hw) hX) rfl ?_))
  rintro _ ⟨c', hT, a', n', k', rfl⟩
  have hG := hS2.grow hw hT
  rw [← take_at hj] at hG
  refine WO.storeA rfl rfl rfl rfl Pick.head rfl rfl (WO.nil (W.region (WO.loadA rfl rfl (Cells.own Pick.head) rfl rfl (WO.p rfl rfl (WO.callE rfl Tryz.call144 (fun L w hi => c_missed w c' _ rfl _ l (hR.later hi) hG.ok hl) rfl ?_)))))
  rintro _ ⟨m', rfl, hm'⟩
  refine WO.p rfl rfl (WO.nil ?_)
  refine' ⟨_, _, _, _, _, ?hp, ?hmu, ⟨rfl, rfl, rfl, rfl, rfl, trivial⟩, ?hS⟩
  case hS => repeat (first | exact Sub.nil | refine Sub.cons (by repeat first | exact .head | apply Pick.tail) ?_)
  case hp => exact ⟨⟨j + 1, by omega, hG⟩, hm'⟩
  case hmu => exact left_lt hj (hm'.next hG)
 ·refine W.exit (blk_same (W.sreg (WO.loadA rfl rfl (Cells.own Pick.head) rfl rfl (WO.storeA rfl rfl rfl rfl (Pick.tail (Pick.head)) rfl rfl (WO.nil (W.ret ?_))))))
  exact fin.ret (Res.one rfl (RV.cell rfl rfl rfl (Cells.own (by repeat first | exact .head | apply Pick.tail)))) ⟨c, by obtain ⟨i, hi, hS⟩ := hSm; exact hM.end (by omega) hS, _, _, _, rfl⟩
theorem c_grown (w : World) (v : Value) (l : Pts) (hR : RdF encP 2 w.heap.size w v l) (hl : OkL l) (h0 : 0 < l.length) (h1 : l.length ≤ 24) :
 RetE Tryz.prog 62 [v].toArray w (RingR (lst l)) := by
 refine RetE.of mixed tyTab Tryz.func62 rfl rfl ?_
 replace hR : RdF encP 2 (fnCx mixed tyTab Tryz.f62.ntmps w).B (fnCx mixed tyTab Tryz.f62.ntmps w).w0 v l := hR
 have hle := hR.sl.le
 have hne : l ≠ [] := List.length_pos_iff.1 h0
 have hp := at_ok hl h0
 have hb : Sm (l.take 1) [] (aloneC (l.at 0)) := by rw [show l.take 1 = l.take (0 + 1) from rfl, take_at h0]; exact Sm.alone1 hp
 refine W.sreg (WO.alloc rfl rfl rfl (fun b1 hb1 => (WO.nil (W.sreg (WO.p rfl rfl ?_)))))
 refine' WO.len (n := _) rfl rfl ?hs rfl ?_
 case hs => exact hR.sl
 refine WO.makeEN (z := (0, 0)) encP_ok rfl rfl rfl rfl rfl (by omega) (by omega) rfl (fun lb => (WO.p rfl rfl (WO.nil (W.sreg (WO.p rfl rfl (WO.p rfl rfl (WO.copyEN (m := l.length) (xs := List.replicate l.length (0, 0)) (ys := l) encP_ok rfl rfl rfl (by repeat first | exact .head | apply Pick.tail) hR.sl (by simp) (by simp; omega) (by simp) (hR.flat encP_ok) rfl (WO.nil (W.sreg (WO.p rfl rfl ?_))))))))))
 refine' WO.indexAddr (n := _) (i := 0) rfl rfl rfl ?hs ?h1 rfl ?_
 case hs => exact isSl_lit (by omega) (fun _ => ⟨_, _, rfl⟩)
 case h1 => (first | omega | (simp; omega))
 refine' WO.loadA (vs := _) rfl rfl ?hc ?hl rfl ?_
 case hc => (first | (refine OwE.cellsP (e := 152) (i := 0) ?_ h0; repeat (first | exact Sub.nil | refine Sub.cons (by repeat first | exact .head | apply Pick.tail) ?_)))
 case hl => rfl
 refine WO.callE rfl Tryz.call143 (fun L w hi => c_alone w (l.at 0) hp) rfl ?_
 rintro _ ⟨a0, n0, k0, rfl⟩
 refine WO.alloc rfl rfl rfl (fun b2 hb2 => (WO.storeA rfl rfl rfl rfl Pick.head rfl rfl (WO.nil (W.seq (W.sreg (WO.loadA rfl rfl (Cells.own Pick.head) rfl rfl (WO.p rfl rfl (WO.callE rfl Tryz.call144 (fun L w hi => c_missed w (aloneC (l.at 0)) _ rfl _ l (RdF.of_ow (e := 152) encP_ok (by repeat first | exact .head | apply Pick.tail) hi) hb.ok hl) rfl ?_))))))))
 rintro _ ⟨m0, rfl, hm0⟩
 refine WO.p rfl rfl (WO.nil (W.block ?_))
 refine W.loop5 (fun (c : Cir) (a : Option Addr) (n : Nat) (k : Nat) (m : Int) => (∃ i, i ≤ l.length ∧ Sm (l.take i) [] c) ∧ Missed c l m)
  (fun (c : Cir) (a : Option Addr) (n : Nat) (k : Nat) (m : Int) => [(5, .int .i64 m), (4, .pointer (some ⟨b2, 0, none⟩)), (3, .slice (some ⟨lb, 0, none⟩) l.length l.length), (2, .pointer (some ⟨b1, 0, none⟩))])
  (fun (c : Cir) (a : Option Addr) (n : Nat) (k : Nat) (m : Int) => [pt b2 (.cells #[.int .i64 c.x, .int .i64 c.y, .int .i64 c.den, .int .i64 c.n, .int .i64 c.d, .slice a n k] 118 (0, 0)), OwE encP 152 2 (.slice (some ⟨lb, 0, none⟩) l.length l.length) l, pt b1 (.cells #[.int .i64 0, .int .i64 0, .int .i64 0, .int .i64 0, .int .i64 0, .slice none 0 0] 118 (0, 0))])
  (fun (c : Cir) (a : Option Addr) (n : Nat) (k : Nat) (m : Int) => left l m) (aloneC (l.at 0)) a0 n0 k0 m0
  (by exact ⟨⟨1, by omega, hb⟩, hm0⟩) ⟨rfl, rfl, rfl, rfl, trivial⟩ (by repeat (first | exact Sub.nil | refine Sub.cons (by repeat first | exact .head | apply Pick.tail) ?_)) ?_
 rintro c a n k m ⟨hSm, hM⟩
 refine W.seq (W.sreg (WO.p rfl rfl (WO.p rfl rfl (WO.nil ?_))))
 refine W.cond_bl rfl (fun c1 => ?_) (fun c1 => ?_)
 ·refine W.skip (W.seq (W.block ?_))
  obtain ⟨i, hi, hS⟩ := hSm
  obtain ⟨j, rfl, hj, hw, hS2, hij⟩ := hM.at (by omega) hS
  have hX := hS2.next hw (Ex.nil _)
  refine W.drawD 8 [.r 0 [], .r 1 [], .r 2 [], .r 3 [], .r 4 [], .r 5 [], .r 6 [], .b 7 []] [] (A0 := [_]) (H0 := [_, _]) (.cons .head (.cons .head (.cons .head .nil))) (by kernel_rfl) ?_ ?_
  ·repeat constructor
  refine DT.r rfl rfl rfl (WO.p rfl rfl (WO.nil ⟨rfl, rfl⟩)) (DT.r rfl rfl rfl (WO.p rfl rfl (WO.nil ⟨rfl, rfl⟩)) (DT.r rfl rfl rfl (WO.p rfl rfl (WO.nil ⟨rfl, rfl⟩)) (DT.r rfl rfl rfl (WO.slSl (lo := 0) (hi := j) (mx := j) rfl rfl bnd.no (bnd.at rfl) (bnd.at rfl) (fun _ => rfl) (by omega) (by omega) (by omega) rfl (WO.nil ⟨rfl, rfl⟩)) (DT.r rfl rfl rfl (WO.p rfl rfl (WO.nil ⟨rfl, rfl⟩)) (DT.r rfl rfl rfl (WO.p rfl rfl (WO.nil ⟨rfl, rfl⟩)) ?_)))))
  refine' DT.r rfl rfl rfl ?hq ?_
  case hq =>
   refine' WO.indexAddr (n := _) (i := _) rfl rfl rfl ?hs ?h1 rfl ?_
   case hs => exact isSl_lit (by omega) (fun _ => ⟨_, _, rfl⟩)
   case h1 => (first | omega | (simp; omega))
   exact WO.nil ⟨rfl, rfl⟩
  refine' DT.b rfl rfl rfl ?hq ?_
  case hq =>
   refine' WO.loadA (vs := _) rfl rfl ?hc ?hl rfl ?_
   case hc => (first | (refine OwE.cellsP (e := 152) (i := j) ?_ hj; repeat (first | exact Sub.nil | refine Sub.cons (by repeat first | exact .head | apply Pick.tail) ?_)))
   case hl => rfl
   exact WO.nil ⟨rfl, rfl⟩
  refine DT.nil [_, _, _] rfl (WO.callE rfl Tryz.call145 (fun L w hi => by have hh := c_with w _ j (l.take j) (l.at j) (by rw [List.length_take]; omega) (by rw [List.length_take, Nat.min_eq_left (by omega)]; exact (RdF.of_ow (e := 152) encP_ok (by repeat first | exact .head | apply Pick.tail) hi).sub (lo := 0) (hi := j) (mx := j) (by omega) (by omega) (by omega)) (fun x hx => hl x (mem_take x hx)) (at_ok hl hj) hX; rw [List.length_take, Nat.min_eq_left (by omega)] at hh; exact hh) rfl ?_)
  rintro _ ⟨c', hT, a', n', k', rfl⟩
  have hG := hS2.grow hw hT
  rw [← take_at hj] at hG
  refine WO.storeA rfl rfl rfl rfl Pick.head rfl rfl (WO.nil (W.region (WO.loadA rfl rfl (Cells.own Pick.head) rfl rfl (WO.p rfl rfl (WO.callE rfl Tryz.call144 (fun L w hi => c_missed w c' _ rfl _ l (RdF.of_ow (e := 152) encP_ok (by repeat first | exact .head | apply Pick.tail) hi) hG.ok hl) rfl ?_)))))
  rintro _ ⟨m', rfl, hm'⟩
  refine WO.p rfl rfl (WO.nil ?_)
  refine' ⟨_, _, _, _, _, ?hp, ?hmu, ⟨rfl, rfl, rfl, rfl, trivial⟩, ?hS⟩
  case hS => repeat (first | exact Sub.nil | refine Sub.cons (by repeat first | exact .head | apply Pick.tail) ?_)
  case hp => exact ⟨⟨j + 1, by omega, hG⟩, hm'⟩
  case hmu => exact left_lt hj (hm'.next hG)
 ·refine W.exit (blk_same (W.sreg (WO.loadA rfl rfl (Cells.own Pick.head) rfl rfl (WO.storeA rfl rfl rfl rfl (Pick.tail (Pick.tail (Pick.head))) rfl rfl (WO.nil (W.ret ?_))))))
  obtain ⟨i, hi, hS⟩ := hSm
  obtain rfl := (hM.end (by omega) hS).lst hl hne
  exact fin.ret (Res.one rfl (RV.cell rfl rfl rfl (Cells.own (by repeat first | exact .head | apply Pick.tail)))) ⟨_, _, _, rfl⟩
theorem c_Smallest (w : World) (v : Value) (l : Pts) (hR : RdF encP 2 w.heap.size w v l) : Ret Tryz.prog 20 [v].toArray w (.tuple #[cirV (if chkL l = 0 then lst l else ⟨0, 0, 0, 0, 0⟩), .int .i64 (chkL l)]) := by
 refine Ret.of mixed tyTab Tryz.func20 rfl rfl ?_
 replace hR : RdF encP 2 (fnCx mixed tyTab Tryz.f20.ntmps w).B (fnCx mixed tyTab Tryz.f20.ntmps w).w0 v l := hR
 refine W.sreg (WO.alloc rfl rfl rfl (fun b1 hb1 => (WO.p rfl rfl (WO.nil (W.seq (W.sreg (WO.p rfl rfl (WO.callR rfl Tryz.call61 (fun L w hi => c_CheckTrack w v l (hR.later hi)) rfl (WO.p rfl rfl (WO.nil (W.sreg (WO.p rfl rfl (WO.p rfl rfl (WO.nil ?_))))))))))))))
 refine W.cond_bl rfl (fun c1 => ?_) (fun c1 => ?_)
 ·refine W.sreg ?_
  refine' WO.build (cs := _) rfl rfl rfl ?hf rfl ?_
  case hf => (conv => lhs; simp [-List.getD_eq_getElem?_getD, fillL, vcl, wrl, TTab.pl?.lget']) <;> rfl
  refine WO.p rfl rfl (WO.storeA rfl rfl rfl rfl Pick.head rfl rfl (WO.p rfl rfl (WO.nil (W.ret (fin.ret (Res.two rfl (RV.cell rfl rfl rfl (Cells.own (by repeat first | exact .head | apply Pick.tail))) (RV.tmp rfl)) ?_)))))
  first | (rw [if_neg (by assumption)]; done) | (have e : chkL l = 0 := (by omega); rw [if_pos e, e]; rfl)
 ·refine W.skip (W.sreg (WO.p rfl rfl ?_))
  have hok := chkL0.1 (show chkL l = 0 by omega)
  refine WO.call (Post := fun r Hq => Hq = [OwE encP 152 2 r l]) rfl Tryz.call63 (fun L w hi => c_points w v l (hR.later hi) (by omega)) rfl ?_
  rintro pv _ rfl
  refine WO.callE rfl Tryz.call62 (fun L w hi => c_grown w pv l (RdF.of_ow (e := 152) encP_ok (by repeat first | exact .head | apply Pick.tail) hi) hok.2 (by omega) (by omega)) rfl ?_
  rintro _ ⟨a, n, k, rfl⟩
  refine WO.fieldN rfl rfl rfl rfl rfl (WO.storeA rfl rfl rfl rfl (Pick.tail (Pick.head)) rfl rfl (WO.p rfl rfl (WO.nil (W.ret (fin.ret (Res.two rfl (RV.cell rfl rfl rfl (Cells.own (by repeat first | exact .head | apply Pick.tail))) (RV.tmp rfl)) ?_)))))
  first | (rw [if_neg (by assumption)]; done) | (have e : chkL l = 0 := (by omega); rw [if_pos e, e]; rfl)
end Go.Proofs.YtnehaifgcegemaaGreat.Tu
namespace Go.Proofs.YtnehaifgcegemaaGreat.Tu
open Go Go.TH
attribute [local irreducible] W WO pt
set_option maxRecDepth 10000
set_option maxHeartbeats 1000000
theorem encC_ok : EncOk encC 5 := ⟨fun _ => rfl, fun x u hu => by simp [encC] at hu; rcases hu with rfl | rfl | rfl | rfl | rfl <;> rfl, by omega⟩
def lK (l : Pts) (i k : Nat) : List Cir := candI l i ++ aloneC (l.at i) :: candK l i k
def lM (l : Pts) (i k m : Nat) : List Cir := lK l i k ++ betwC (l.at i) (l.at k) :: candM l i k m
theorem lK_0 (l : Pts) (i : Nat) : candI l i ++ [aloneC (l.at i)] = lK l i 0 := rfl
theorem lM_0 (l : Pts) (i k : Nat) : lK l i k ++ [betwC (l.at i) (l.at k)] = lM l i k 0 := rfl
theorem candM_succ (l : Pts) (i k n : Nat) : candM l i k (n + 1) = candM l i k n ++ (if cross (l.at i) (l.at k) (l.at n) = 0 then [] else [thrC (l.at i) (l.at k) (l.at n)]) := by
 unfold candM; rw [List.range_succ, List.flatMap_append]; simp
theorem candK_succ (l : Pts) (i n : Nat) : candK l i (n + 1) = candK l i n ++ betwC (l.at i) (l.at n) :: candM l i n n := by
 unfold candK; rw [List.range_succ, List.flatMap_append]; simp
theorem candI_succ (l : Pts) (n : Nat) : candI l (n + 1) = candI l n ++ aloneC (l.at n) :: candK l n n := by
 unfold candI; rw [List.range_succ, List.flatMap_append]; simp
theorem lM_end (l : Pts) (i k : Nat) : lM l i k k = lK l i (k + 1) := by unfold lM lK; rw [candK_succ]; simp
theorem lK_end (l : Pts) (i : Nat) : lK l i i = candI l (i + 1) := by unfold lK; rw [candI_succ]
theorem lM_no {l : Pts} {i k m : Nat} (h : cross (l.at i) (l.at k) (l.at m) = 0) : lM l i k m = lM l i k (m + 1) := by unfold lM; rw [candM_succ, if_pos h]; simp
theorem lM_yes {l : Pts} {i k m : Nat} (h : cross (l.at i) (l.at k) (l.at m) ≠ 0) : lM l i k m ++ [thrC (l.at i) (l.at k) (l.at m)] = lM l i k (m + 1) := by unfold lM; rw [candM_succ, if_neg h]; simp
theorem candM_len (l : Pts) (i k : Nat) : ∀ n, (candM l i k n).length ≤ n
 | 0 => by simp [candM]
 | n + 1 => by
  have := candM_len l i k n
  rw [candM_succ, List.length_append]
  split <;> simp <;> omega
theorem candK_len (l : Pts) (i : Nat) : ∀ n, n ≤ 24 → (candK l i n).length ≤ n * 25
 | 0, _ => by simp [candK]
 | n + 1, h => by
  have := candK_len l i n (by omega)
  have := candM_len l i n n
  rw [candK_succ, List.length_append, List.length_cons]
  omega
theorem candI_len (l : Pts) : ∀ n, n ≤ 24 → (candI l n).length ≤ n * 601
 | 0, _ => by simp [candI]
 | n + 1, h => by
  have := candI_len l n (by omega)
  have := candK_len l n n (by omega)
  rw [candI_succ, List.length_append, List.length_cons]
  omega
theorem lK_len {l : Pts} {i k : Nat} (hi : i < 24) (hk : k ≤ i) : (lK l i k).length ≤ 20000 := by
 have := candI_len l i (by omega)
 have := candK_len l i k (by omega)
 unfold lK; rw [List.length_append, List.length_cons]; omega
theorem lM_len {l : Pts} {i k m : Nat} (hi : i < 24) (hk : k ≤ i) (hm : m ≤ k) : (lM l i k m).length ≤ 21000 := by
 have := lK_len (l := l) hi hk
 have := candM_len l i k m
 unfold lM; rw [List.length_append, List.length_cons]; omega
def thO (a b c : Int × Int) : Cir := if cross a b c = 0 then ⟨0, 0, 0, 0, 0⟩ else thrC a b c
def thE (a b c : Int × Int) : Int := if cross a b c = 0 then 5 else 0
theorem thrV_ok {a b c : Int × Int} (ha : OkP a) (hb : OkP b) (hc : OkP c) : thrV a b c = .tuple #[cirV (thO a b c), .int .i64 (thE a b c)] := by
 unfold thrV thO thE; rw [if_pos ⟨ha, hb, hc⟩]; split <;> rfl
theorem thE_0 {a b c : Int × Int} (h : thE a b c = 0) : cross a b c ≠ 0 := fun e => by unfold thE at h; rw [if_pos e] at h; cases h
theorem thE_5 {a b c : Int × Int} (h : ¬ thE a b c = 0) : cross a b c = 0 := Decidable.not_not.1 fun e => h (by unfold thE; rw [if_neg e])
theorem thO_eq {a b c : Int × Int} (h : cross a b c ≠ 0) : thO a b c = thrC a b c := by unfold thO; rw [if_neg h]
theorem ref_candidates (w : World) (v : Value) (l : Pts) (hR : RdF encP 2 w.heap.size w v l) (hl : OkL l) (h1 : l.length ≤ 24) : Ct Tryz.prog 89 [v].toArray w fun r w' => ∃ Hq, (Hq = [OwE encC 54 5 r (cands l)]) ∧ Inv w [] Hq w' := by
 refine Ct.of mixed tyTab Tryz.func89 rfl rfl ?_
 replace hR : RdF encP 2 (fnCx mixed tyTab Tryz.f89.ntmps w).B (fnCx mixed tyTab Tryz.f89.ntmps w).w0 v l := hR
 have hle := hR.sl.le
 refine W.sreg (WO.p rfl rfl (WO.nil (W.sreg (WO.p rfl rfl (WO.nil (W.seq (W.sreg (WO.p rfl rfl (WO.nil (W.block (W.chg (owNil (enc := encC) (e := 54) (sz := 5)) ?_)))))))))))
 refine W.loop2 (fun (i : Nat) (x : Value) => i ≤ l.length)
  (fun (i : Nat) (x : Value) => [(4, .int .i64 (i : Int)), (0, v), (3, x)])
  (fun (i : Nat) (x : Value) => [OwE encC 54 5 x (candI l i)])
  (fun (i : Nat) (x : Value) => l.length - i) 0 (.slice none 0 0)
  (by omega) ⟨rfl, rfl, rfl, trivial⟩ (by repeat (first | exact Sub.nil | refine Sub.cons (by repeat first | exact .head | apply Pick.tail) ?_)) ?_
 rintro i x hi0
 refine W.seq (W.sreg (WO.p rfl rfl (WO.p rfl rfl (WO.len rfl rfl hR.sl rfl (WO.p rfl rfl (WO.nil ?_))))))
 refine W.cond_bl rfl (fun c1 => ?_) (fun c1 => ?_)
 ·refine W.skip (W.seq (W.block (W.seq ?_)))
  refine W.drawD 17 [.r 0 [], .r 1 [], .r 2 [], .r 3 [], .r 4 [], .b 5 [], .r 6 [], .r 7 [], .r 8 [], .r 9 [], .b 10 [], .r 11 [], .r 12 [], .r 13 [], .b 14 [], .b 15 [], .c 16 []] [] (A0 := [_]) (H0 := []) (.cons .head .nil) (by kernel_rfl) ?_ ?_
  ·repeat constructor
  refine DT.r rfl rfl rfl (WO.p rfl rfl (WO.nil ⟨rfl, rfl⟩)) (DT.r rfl rfl rfl (WO.p rfl rfl (WO.nil ⟨rfl, rfl⟩)) (DT.r rfl rfl rfl (WO.p rfl rfl (WO.nil ⟨rfl, rfl⟩)) (DT.r rfl rfl rfl (WO.indexAddr rfl rfl rfl hR.sl (by first | omega | (simp; omega)) rfl (WO.nil ⟨rfl, rfl⟩)) (DT.r rfl rfl rfl (WO.field0 rfl rfl rfl (WO.nil ⟨rfl, rfl⟩)) ?_))))
  refine' DT.b rfl rfl rfl ?hq ?_
  case hq =>
   refine' WO.load (v := _) rfl rfl ?hc rfl ?_
   case hc => (first | (refine hR.cellAt (i := i) ?_ (0, 0) ?_ <;> first | rfl | omega) | (refine hR.cell0 (i := i) ?_ (0, 0) ?_ <;> first | rfl | omega))
   exact WO.nil ⟨rfl, rfl⟩
  refine DT.r rfl rfl rfl (WO.p rfl rfl (WO.nil ⟨rfl, rfl⟩)) (DT.r rfl rfl rfl (WO.p rfl rfl (WO.nil ⟨rfl, rfl⟩)) (DT.r rfl rfl rfl (WO.indexAddr rfl rfl rfl hR.sl (by first | omega | (simp; omega)) rfl (WO.nil ⟨rfl, rfl⟩)) (DT.r rfl rfl rfl (WO.field rfl rfl rfl (WO.nil ⟨rfl, rfl⟩)) ?_)))
  refine' DT.b rfl rfl rfl ?hq ?_
  case hq =>
   refine' WO.load (v := _) rfl rfl ?hc rfl ?_
   case hc => (first | (refine hR.cellAt (i := i) ?_ (0, 0) ?_ <;> first | rfl | omega) | (refine hR.cell0 (i := i) ?_ (0, 0) ?_ <;> first | rfl | omega))
   exact WO.nil ⟨rfl, rfl⟩
  refine DT.r rfl rfl rfl (WO.p rfl rfl (WO.nil ⟨rfl, rfl⟩)) (DT.r rfl rfl rfl (WO.p rfl rfl (WO.nil ⟨rfl, rfl⟩)) (DT.r rfl rfl rfl (WO.indexAddr rfl rfl rfl hR.sl (by first | omega | (simp; omega)) rfl (WO.nil ⟨rfl, rfl⟩)) (DT.b rfl rfl rfl (WO.loadA rfl rfl (RdF.cells2 hR (i := i) (by omega)) rfl rfl (WO.nil ⟨rfl, rfl⟩)) ?_)))
  refine' DT.b rfl rfl rfl ?hq ?_
  case hq =>
   have hpi := at_ok hl (show i < l.length by omega)
   obtain ⟨p1, p2⟩ := id hpi
   refine WO.callR (r := cirV (aloneC (l.at i))) rfl Tryz.call178 (fun L w hi => ref_circle w (l.at i).1 (l.at i).2 1 (l.at i) hpi (by omega) (by omega) (by omega) (by omega)) rfl ?_
   exact WO.nil ⟨rfl, rfl⟩
  refine DT.c [_] rfl rfl rfl rfl (WO.buildSl rfl rfl rfl rfl rfl rfl rfl rfl rfl (fun v1 => ?_))
  refine WO.nil ⟨_, [_, _], rfl, rfl, (Keep.b (Keep.b (Keep.r (Keep.r (Keep.r (Keep.b (Keep.r (Keep.r (Keep.r (Keep.r (Keep.b (Keep.r (Keep.r (Keep.r (Keep.r (Keep.r Keep.nil)))))))))))))))), ?_⟩
  refine DT.nil [_, _] rfl ?_
  have hb := candI_len l i (by omega)
  refine' WO.appendE (enc := encC) (m := 1) (ys := [aloneC (l.at i)]) encC_ok rfl rfl rfl rfl rfl (by repeat first | exact .head | apply Pick.tail) (isSl_lit (by omega) (fun _ => ⟨_, _, rfl⟩)) (by omega) rfl (OwC.cells .head) (by omega) (by omega) rfl (fun g c => ?_)
  rw [lK_0]
  refine WO.p rfl rfl (WO.nil (W.sreg (WO.p rfl rfl (WO.nil (W.block ?_)))))
  refine W.loop2 (fun (k : Nat) (x : Value) => k ≤ i)
   (fun (k : Nat) (x : Value) => [(5, .int .i64 (k : Int)), (4, .int .i64 (i : Int)), (0, v), (3, x)])
   (fun (k : Nat) (x : Value) => [OwE encC 54 5 x (lK l i k)])
   (fun (k : Nat) (x : Value) => i - k) 0 _
   (by omega) ⟨rfl, rfl, rfl, rfl, trivial⟩ (by repeat (first | exact Sub.nil | refine Sub.cons (by repeat first | exact .head | apply Pick.tail) ?_)) ?_
  rintro k x hk0
  refine W.seq (W.sreg (WO.p rfl rfl (WO.p rfl rfl (WO.p rfl rfl (WO.nil ?_)))))
  refine W.cond_bl rfl (fun c2 => ?_) (fun c2 => ?_)
  ·refine W.skip (W.seq (W.block (W.seq ?_)))
   refine W.drawD 11 [.r 0 [], .r 1 [], .r 2 [], .r 3 [], .b 4 [], .r 5 [], .r 6 [], .r 7 [], .b 8 [], .b 9 [], .c 10 []] [] (A0 := [_]) (H0 := []) (.cons .head .nil) (by kernel_rfl) ?_ ?_
   ·repeat constructor
   refine DT.r rfl rfl rfl (WO.p rfl rfl (WO.nil ⟨rfl, rfl⟩)) (DT.r rfl rfl rfl (WO.p rfl rfl (WO.nil ⟨rfl, rfl⟩)) (DT.r rfl rfl rfl (WO.p rfl rfl (WO.nil ⟨rfl, rfl⟩)) (DT.r rfl rfl rfl (WO.indexAddr rfl rfl rfl hR.sl (by first | omega | (simp; omega)) rfl (WO.nil ⟨rfl, rfl⟩)) (DT.b rfl rfl rfl (WO.loadA rfl rfl (RdF.cells2 hR (i := i) (by omega)) rfl rfl (WO.nil ⟨rfl, rfl⟩)) (DT.r rfl rfl rfl (WO.p rfl rfl (WO.nil ⟨rfl, rfl⟩)) (DT.r rfl rfl rfl (WO.p rfl rfl (WO.nil ⟨rfl, rfl⟩)) (DT.r rfl rfl rfl (WO.indexAddr rfl rfl rfl hR.sl (by first | omega | (simp; omega)) rfl (WO.nil ⟨rfl, rfl⟩)) ?_)))))))
   refine DT.b rfl rfl rfl (WO.loadA rfl rfl (RdF.cells2 hR (i := k) (by omega)) rfl rfl (WO.nil ⟨rfl, rfl⟩)) (DT.b rfl rfl rfl (WO.callR (r := cirV (betwC (l.at i) (l.at k))) rfl Tryz.call179 (fun L w hi => ref_Between w (l.at i) (l.at k) (at_ok hl (by omega)) (at_ok hl (by omega))) rfl (WO.nil ⟨rfl, rfl⟩)) (DT.c [_] rfl rfl rfl rfl (WO.buildSl rfl rfl rfl rfl rfl rfl rfl rfl rfl (fun v2 => ?_))))
   refine WO.nil ⟨_, [_, _], rfl, rfl, (Keep.b (Keep.b (Keep.r (Keep.r (Keep.r (Keep.b (Keep.r (Keep.r (Keep.r (Keep.r Keep.nil)))))))))), ?_⟩
   refine DT.nil [_, _] rfl ?_
   have hb := lK_len (l := l) (i := i) (k := k) (by omega) (by omega)
   refine' WO.appendE (enc := encC) (m := 1) (ys := [betwC (l.at i) (l.at k)]) encC_ok rfl rfl rfl rfl rfl (by repeat first | exact .head | apply Pick.tail) (isSl_lit (by omega) (fun _ => ⟨_, _, rfl⟩)) (by omega) rfl (OwC.cells .head) (by omega) (by omega) rfl (fun g c => ?_)
   rw [lM_0]
   refine WO.p rfl rfl (WO.nil (W.sreg (WO.p rfl rfl (WO.nil (W.block ?_)))))
   refine W.loop2 (fun (m : Nat) (x : Value) => m ≤ k)
    (fun (m : Nat) (x : Value) => [(6, .int .i64 (m : Int)), (5, .int .i64 (k : Int)), (4, .int .i64 (i : Int)), (0, v), (3, x)])
    (fun (m : Nat) (x : Value) => [OwE encC 54 5 x (lM l i k m)])
    (fun (m : Nat) (x : Value) => k - m) 0 _
    (by omega) ⟨rfl, rfl, rfl, rfl, rfl, trivial⟩ (by repeat (first | exact Sub.nil | refine Sub.cons (by repeat first | exact .head | apply Pick.tail) ?_)) ?_
   rintro m x hm0
   refine W.seq (W.sreg (WO.p rfl rfl (WO.p rfl rfl (WO.p rfl rfl (WO.nil ?_)))))
   refine W.cond_bl rfl (fun c3 => ?_) (fun c3 => ?_)
   ·refine W.skip (W.seq (W.block (W.seq ?_)))
    refine W.drawD 18 [.r 0 [], .r 1 [], .r 2 [], .b 3 [], .r 4 [], .r 5 [], .r 6 [], .b 7 [], .r 8 [], .r 9 [], .r 10 [], .b 11 [], .b 12 [], .r 13 [], .r 14 [], .r 15 [], .a 16 7 (.cells #[.int .i64 0, .int .i64 0, .int .i64 0, .int .i64 0, .int .i64 0] 54 (0, 0)), .s 17 []] [] (A0 := []) (Sub.refl _) (by kernel_rfl) ?_ ?_
    ·exact (ALok.r (ALok.r (ALok.r (ALok.b (ALok.r (ALok.r (ALok.r (ALok.b (ALok.r (ALok.r (ALok.r (ALok.b (ALok.b (ALok.r (ALok.r (ALok.r (ALok.cons rfl rfl rfl rfl rfl (ALok.s ALok.nil))))))))))))))))))
    refine DT.r rfl rfl rfl (WO.p rfl rfl (WO.nil ⟨rfl, rfl⟩)) (DT.r rfl rfl rfl (WO.p rfl rfl (WO.nil ⟨rfl, rfl⟩)) (DT.r rfl rfl rfl (WO.indexAddr rfl rfl rfl hR.sl (by first | omega | (simp; omega)) rfl (WO.nil ⟨rfl, rfl⟩)) (DT.b rfl rfl rfl (WO.loadA rfl rfl (RdF.cells2 hR (i := i) (by omega)) rfl rfl (WO.nil ⟨rfl, rfl⟩)) (DT.r rfl rfl rfl (WO.p rfl rfl (WO.nil ⟨rfl, rfl⟩)) (DT.r rfl rfl rfl (WO.p rfl rfl (WO.nil ⟨rfl, rfl⟩)) (DT.r rfl rfl rfl (WO.indexAddr rfl rfl rfl hR.sl (by first | omega | (simp; omega)) rfl (WO.nil ⟨rfl, rfl⟩)) (DT.b rfl rfl rfl (WO.loadA rfl rfl (RdF.cells2 hR (i := k) (by omega)) rfl rfl (WO.nil ⟨rfl, rfl⟩)) ?_)))))))
    refine DT.r rfl rfl rfl (WO.p rfl rfl (WO.nil ⟨rfl, rfl⟩)) (DT.r rfl rfl rfl (WO.p rfl rfl (WO.nil ⟨rfl, rfl⟩)) (DT.r rfl rfl rfl (WO.indexAddr rfl rfl rfl hR.sl (by first | omega | (simp; omega)) rfl (WO.nil ⟨rfl, rfl⟩)) (DT.b rfl rfl rfl (WO.loadA rfl rfl (RdF.cells2 hR (i := m) (by omega)) rfl rfl (WO.nil ⟨rfl, rfl⟩)) (DT.b rfl rfl rfl (WO.callR (r := .tuple #[cirV (thO (l.at i) (l.at k) (l.at m)), .int .i64 (thE (l.at i) (l.at k) (l.at m))]) rfl Tryz.call180 (fun L w hi => by rw [← thrV_ok (at_ok hl (by omega)) (at_ok hl (by omega)) (at_ok hl (by omega))]; exact ref_Through w _ _ _) rfl (WO.nil ⟨rfl, rfl⟩)) (DT.r rfl rfl rfl (WO.p rfl rfl (WO.nil ⟨rfl, rfl⟩)) ?_)))))
    refine DT.r rfl rfl rfl (WO.p rfl rfl (WO.nil ⟨rfl, rfl⟩)) (DT.r rfl rfl rfl (WO.p rfl rfl (WO.nil ⟨rfl, rfl⟩)) (DT.a (fun b3 => (DT.s [_, _] rfl rfl rfl (WO.storeA rfl rfl rfl rfl Pick.head rfl rfl ?_)))))
    refine WO.nil ⟨[_], rfl, rfl, (Keep.a (Keep.r (Keep.r (Keep.r (Keep.b (Keep.b (Keep.r (Keep.r (Keep.r (Keep.b (Keep.r (Keep.r (Keep.r (Keep.b (Keep.r (Keep.r (Keep.r Keep.nil))))))))))))))))), ?_⟩
    refine DT.nil [_, _] rfl (WO.p rfl rfl (WO.nil (W.sreg (WO.p rfl rfl (WO.p rfl rfl (WO.nil ?_))))))
    refine W.cond_bl rfl (fun c4 => ?_) (fun c4 => ?_)
    ·have hx := thE_0 (by assumption)
     rw [thO_eq hx]
     refine W.region (WO.p rfl rfl (WO.loadA rfl rfl (Cells.own Pick.head) rfl rfl (WO.buildSl rfl rfl rfl rfl rfl rfl rfl rfl rfl (fun v4 => ?_))))
     have hb := lM_len (l := l) (i := i) (k := k) (m := m) (by omega) (by omega) (by omega)
     refine' WO.appendE (enc := encC) (m := 1) (ys := [thrC (l.at i) (l.at k) (l.at m)]) encC_ok rfl rfl rfl rfl rfl (by repeat first | exact .head | apply Pick.tail) (isSl_lit (by omega) (fun _ => ⟨_, _, rfl⟩)) (by omega) rfl (OwC.cells .head) (by omega) (by omega) rfl (fun g c => ?_)
     rw [lM_yes hx]
     refine WO.p rfl rfl (WO.nil ?_)
     (try rw [lM_no (thE_5 (by assumption))])
     refine W.region (WO.p rfl rfl (WO.ar rfl rfl rfl (by unfold in64; omega) rfl (WO.p rfl rfl (WO.nil ?_))))
     refine' ⟨m + 1, _, ?hp, ?hmu, ⟨rfl, rfl, rfl, rfl, rfl, trivial⟩, ?hS⟩
     case hS => repeat (first | exact Sub.nil | refine Sub.cons (by repeat first | exact .head | apply Pick.tail) ?_)
     case hp => omega
     case hmu => omega
    ·refine W.skip ?_
     (try rw [lM_no (thE_5 (by assumption))])
     refine W.region (WO.p rfl rfl (WO.ar rfl rfl rfl (by unfold in64; omega) rfl (WO.p rfl rfl (WO.nil ?_))))
     refine' ⟨m + 1, _, ?hp, ?hmu, ⟨rfl, rfl, rfl, rfl, rfl, trivial⟩, ?hS⟩
     case hS => repeat (first | exact Sub.nil | refine Sub.cons (by repeat first | exact .head | apply Pick.tail) ?_)
     case hp => omega
     case hmu => omega
   ·refine W.exit (blk_same ?_)
    obtain rfl : k = m := by omega
    rw [lM_end]
    refine W.region (WO.p rfl rfl (WO.ar rfl rfl rfl (by unfold in64; omega) rfl (WO.p rfl rfl (WO.nil ?_))))
    refine' ⟨k + 1, _, ?hp, ?hmu, ⟨rfl, rfl, rfl, rfl, trivial⟩, ?hS⟩
    case hS => repeat (first | exact Sub.nil | refine Sub.cons (by repeat first | exact .head | apply Pick.tail) ?_)
    case hp => omega
    case hmu => omega
  ·refine W.exit (blk_same ?_)
   obtain rfl : i = k := by omega
   rw [lK_end]
   refine W.region (WO.p rfl rfl (WO.ar rfl rfl rfl (by unfold in64; omega) rfl (WO.p rfl rfl (WO.nil ?_))))
   refine' ⟨i + 1, _, ?hp, ?hmu, ⟨rfl, rfl, rfl, trivial⟩, ?hS⟩
   case hS => repeat (first | exact Sub.nil | refine Sub.cons (by repeat first | exact .head | apply Pick.tail) ?_)
   case hp => omega
   case hmu => omega
 ·refine W.exit (blk_same ?_)
  obtain rfl : i = l.length := by omega
  refine W.sreg (WO.p rfl rfl (WO.p rfl rfl (WO.nil (W.ret ?_))))
  exact fin.ret (Res.one rfl (RV.tmp rfl)) rfl
end Go.Proofs.YtnehaifgcegemaaGreat.Tu
namespace Go.Proofs.YtnehaifgcegemaaGreat.Tu
open Go Go.TH
attribute [local irreducible] W WO pt
set_option maxRecDepth 10000
set_option maxHeartbeats 1000000
def c00 : Cir := ⟨0, 0, 0, 0, 0⟩
def bo (cs : List Cir) (b : Int) : Option Cir := if b < 0 then none else some (cs.getD b.toNat c00)
theorem pick_yes {l : Pts} {cs : List Cir} {i : Nat} {b : Int} (h : PickO l (cs.take i) (bo cs b)) (hi : i < cs.length) (hk : ∀ c ∈ cs, OkC c) (hh : holdL (cs.getD i c00) l) (hl : b < 0 ∨ lessC (cs.getD i c00) (cs.getD b.toNat c00)) : PickO l (cs.take (i + 1)) (bo cs (i : Int)) := by
 have := h.snoc (fun c hc => hk c (List.mem_of_mem_take hc)) (hk _ (getD_mem hi c00))
 rw [take_succ_getD hi c00]
 have e : pickC l (bo cs b) (cs.getD i c00) = bo cs (i : Int) := by
  unfold bo
  rw [if_neg (show ¬ (i : Int) < 0 by omega), Int.toNat_natCast]
  split
  ·simp only [pickC]; rw [if_pos hh]
  ·simp only [pickC]; rw [if_pos ⟨hl.resolve_left (by assumption), hh⟩]
 rw [← e]; exact this
theorem pick_no {l : Pts} {cs : List Cir} {i : Nat} {b : Int} (h : PickO l (cs.take i) (bo cs b)) (hi : i < cs.length) (hk : ∀ c ∈ cs, OkC c) (hn : ¬ holdL (cs.getD i c00) l ∨ (¬ b < 0 ∧ ¬ lessC (cs.getD i c00) (cs.getD b.toNat c00))) : PickO l (cs.take (i + 1)) (bo cs b) := by
 have := h.snoc (fun c hc => hk c (List.mem_of_mem_take hc)) (hk _ (getD_mem hi c00))
 rw [take_succ_getD hi c00]
 have e : pickC l (bo cs b) (cs.getD i c00) = bo cs b := by
  unfold bo
  split
  ·simp only [pickC]; rw [if_neg (hn.resolve_right (fun h => h.1 (by assumption)))]
  ·simp only [pickC]; rw [if_neg (fun h => by rcases hn with g | g; exact g h.2; exact g.2 h.1)]
 rw [← e]; exact this
theorem pick_end {l : Pts} {b : Int} (hl : OkL l) (h0 : l ≠ []) (h : PickO l (cands l) (bo (cands l) b)) : 0 ≤ b ∧ (cands l).getD b.toNat c00 = lst l := by
 obtain ⟨c0, hc0, hs⟩ := sm_cand hl h0
 unfold bo at h
 split at h
 ·exact absurd hs.hold (h c0 hc0)
 ·exact ⟨by omega, (Pick1.sm h (cands_ok hl) hc0 hs).lst hl h0⟩
section
variable {P : Program} {C : Cx P} {H : List HP}
theorem Cells.prt {p : Addr} {vs us : List Value} {o : Nat} (h : Cells C H p vs) (hs : ∀ (j : Nat) (v : Value), us[j]? = some v → vs[o + j]? = some v) : Cells C H (prt p o) us := fun j v hv => by
 have := h (o + j) v (hs j v hv)
 rw [prt_eq, addr_add_add]; exact this
theorem OwE.cellsC {e : Nat} {v : Value} {l : List Cir} {i : Nat} (s : Sub H [OwE encC e 5 v l]) (hi : i < l.length) : Cells C H (elt v i 5) [.int .i64 (l.getD i c00).x, .int .i64 (l.getD i c00).y, .int .i64 (l.getD i c00).den, .int .i64 (l.getD i c00).n, .int .i64 (l.getD i c00).d] := by
 cases s with
 | cons p _ => exact OwE.cells encC_ok p hi c00
theorem OwE.cellsQ {e : Nat} {v : Value} {l : List Cir} {i : Nat} (s : Sub H [OwE encC e 5 v l]) (hi : i < l.length) : Cells C H (TH.prt (elt v i 5) 3) [.int .i64 (l.getD i c00).n, .int .i64 (l.getD i c00).d] :=
 Cells.prt (OwE.cellsC s hi) fun j v hv => by
  match j with
  | 0 => exact hv
  | 1 => exact hv
  | j + 2 => simp at hv
end
theorem ref_Least (w : World) (v : Value) (l : Pts) (hR : RdF encP 2 w.heap.size w v l) (hl : OkL l) (h0 : 0 < l.length) (h1 : l.length ≤ 24) : Ret Tryz.prog 40 [v].toArray w (cirV (lst l)) := by
 refine Ret.of mixed tyTab Tryz.func40 rfl rfl ?_
 replace hR : RdF encP 2 (fnCx mixed tyTab Tryz.f40.ntmps w).B (fnCx mixed tyTab Tryz.f40.ntmps w).w0 v l := hR
 have hne : l ≠ [] := List.length_pos_iff.1 h0
 have hk := cands_ok hl
 have hlen : (cands l).length ≤ 20000 := by have := candI_len l l.length h1; unfold cands; omega
 refine W.sreg (WO.alloc rfl rfl rfl (fun b1 hb1 => (WO.nil (W.sreg (WO.p rfl rfl (WO.call (Post := fun r Hq => Hq = [OwE encC 54 5 r (cands l)]) rfl Tryz.call89 (fun L w hi => ref_candidates w v l (hR.later hi) hl h1) rfl ?_))))))
 rintro cv _ rfl
 refine WO.fact (OwE.sl (enc := encC) (e := 54) (sz := 5) (v := cv) (xs := cands l) Pick.head) (fun hsl => (WO.p rfl rfl (WO.nil (W.sreg (WO.p rfl rfl (WO.nil (W.seq (W.sreg (WO.p rfl rfl (WO.nil (W.block ?_)))))))))))
 refine W.loop2 (fun (i : Nat) (b : Int) => i ≤ (cands l).length ∧ -1 ≤ b ∧ b < i ∧ PickO l ((cands l).take i) (bo (cands l) b))
  (fun (i : Nat) (b : Int) => [(5, .int .i64 (i : Int)), (4, .int .i64 b), (3, cv), (2, .pointer (some ⟨b1, 0, none⟩)), (0, v)])
  (fun (i : Nat) (b : Int) => [pt b1 (.cells #[.int .i64 0, .int .i64 0, .int .i64 0, .int .i64 0, .int .i64 0] 54 (0, 0)), OwE encC 54 5 cv (cands l)])
  (fun (i : Nat) (b : Int) => (cands l).length - i) 0 (-1)
  (by exact ⟨by omega, by omega, by omega, fun c hc => by simp at hc⟩) ⟨rfl, rfl, rfl, rfl, rfl, trivial⟩ (by repeat (first | exact Sub.nil | refine Sub.cons (by repeat first | exact .head | apply Pick.tail) ?_)) ?_
 rintro i b ⟨hi0, hb1', hb2', hpk⟩
 refine W.seq (W.sreg (WO.p rfl rfl (WO.p rfl rfl (WO.len rfl rfl hsl rfl (WO.p rfl rfl (WO.nil ?_))))))
 refine W.cond_bl rfl (fun c1 => ?_) (fun c1 => ?_)
 ·refine W.skip (W.seq (W.block (W.seq ?_)))
  refine W.drawD 21 [.r 0 [], .r 1 [], .r 2 [], .r 3 [], .r 4 [], .r 5 [], .r 6 [], .b 7 [], .r 8 [], .r 9 [], .r 10 [], .r 11 [], .b 12 [], .b 13 [], .r 14 [], .r 15 [], .r 16 [], .r 17 [], .r 18 [], .b 19 [], .r 20 []] [] (A0 := []) (Sub.refl _) (by kernel_rfl) ?_ ?_
  ·repeat constructor
  refine DT.r rfl rfl rfl (WO.p rfl rfl (WO.nil ⟨rfl, rfl⟩)) (DT.r rfl rfl rfl (WO.p rfl rfl (WO.nil ⟨rfl, rfl⟩)) ?_)
  refine DT.rB rfl rfl rfl (WO.p rfl rfl (WO.nil ⟨rfl, rfl⟩)) (fun c2 => ?_) (fun c2 => ?_)
  ·refine DT.r rfl rfl rfl (WO.no rfl rfl (WO.nil ⟨rfl, rfl⟩)) (DT.r rfl rfl rfl (WO.no rfl rfl (WO.nil ⟨rfl, rfl⟩)) (DT.r rfl rfl rfl (WO.no rfl rfl (WO.nil ⟨rfl, rfl⟩)) (DT.r rfl rfl rfl (WO.no rfl rfl (WO.nil ⟨rfl, rfl⟩)) (DT.b rfl rfl rfl (WO.no rfl rfl (WO.nil ⟨rfl, rfl⟩)) (DT.r rfl rfl rfl (WO.no rfl rfl (WO.nil ⟨rfl, rfl⟩)) (DT.r rfl rfl rfl (WO.no rfl rfl (WO.nil ⟨rfl, rfl⟩)) (DT.r rfl rfl rfl (WO.no rfl rfl (WO.nil ⟨rfl, rfl⟩)) (DT.r rfl rfl rfl (WO.no rfl rfl (WO.nil ⟨rfl, rfl⟩)) (DT.b rfl rfl rfl (WO.no rfl rfl (WO.nil ⟨rfl, rfl⟩)) (DT.b rfl rfl rfl (WO.no rfl rfl (WO.nil ⟨rfl, rfl⟩)) (DT.r rfl rfl rfl (WO.p rfl rfl (WO.nil ⟨rfl, rfl⟩)) ?_)))))))))))
   refine DT.r rfl rfl rfl (WO.p rfl rfl (WO.nil ⟨rfl, rfl⟩)) (DT.r rfl rfl rfl (WO.pg rfl rfl rfl (WO.nil ⟨rfl, rfl⟩)) (DT.r rfl rfl rfl (WO.pg rfl rfl rfl (WO.nil ⟨rfl, rfl⟩)) (DT.r rfl rfl rfl (WO.go' rfl (WO.indexAddr rfl rfl rfl hsl (by first | omega | (simp; omega)) rfl (WO.nil ⟨rfl, rfl⟩))) ?_)))
   refine' DT.b rfl rfl rfl ?hq ?_
   case hq =>
    refine WO.go' rfl ?_
    refine' WO.loadA (vs := _) rfl rfl ?hc ?hl rfl ?_
    case hc => (first | (refine OwE.cellsC (e := 54) (l := cands l) (i := i) ?_ (by omega); repeat (first | exact Sub.nil | refine Sub.cons (by repeat first | exact .head | apply Pick.tail) ?_)))
    case hl => rfl
    exact WO.nil ⟨rfl, rfl⟩
   refine DT.r rfl rfl rfl (WO.pg rfl rfl rfl (WO.nil ⟨rfl, rfl⟩)) (DT.nil [_, _] rfl (WO.go' rfl (WO.callR rfl Tryz.call83 (fun L w hi => ref_All w ((cands l).getD i c00) v l (hR.later hi) (hk _ (getD_mem (by omega) c00)).ok hl) rfl (WO.p rfl rfl (WO.nil ?_)))))
   refine W.cond_bl rfl (fun c3 => ?_) (fun c3 => ?_)
   ·refine W.region (WO.p rfl rfl (WO.p rfl rfl (WO.nil (W.region (WO.p rfl rfl (WO.ar rfl rfl rfl (by unfold in64; omega) rfl (WO.p rfl rfl (WO.nil ?_))))))))
    refine' ⟨i + 1, _, ?hp, ?hmu, ⟨rfl, rfl, rfl, rfl, rfl, trivial⟩, ?hS⟩
    case hS => repeat (first | exact Sub.nil | refine Sub.cons (by repeat first | exact .head | apply Pick.tail) ?_)
    case hp => first | exact ⟨by omega, by omega, by omega, pick_yes hpk (by omega) hk (by assumption) (by first | (left; omega) | (right; assumption))⟩ | exact ⟨by omega, by omega, by omega, pick_no hpk (by omega) hk (by first | (left; assumption) | (right; exact ⟨by omega, by assumption⟩))⟩
    case hmu => omega
   ·refine W.skip (W.region (WO.p rfl rfl (WO.ar rfl rfl rfl (by unfold in64; omega) rfl (WO.p rfl rfl (WO.nil ?_)))))
    refine' ⟨i + 1, _, ?hp, ?hmu, ⟨rfl, rfl, rfl, rfl, rfl, trivial⟩, ?hS⟩
    case hS => repeat (first | exact Sub.nil | refine Sub.cons (by repeat first | exact .head | apply Pick.tail) ?_)
    case hp => first | exact ⟨by omega, by omega, by omega, pick_yes hpk (by omega) hk (by assumption) (by first | (left; omega) | (right; assumption))⟩ | exact ⟨by omega, by omega, by omega, pick_no hpk (by omega) hk (by first | (left; assumption) | (right; exact ⟨by omega, by assumption⟩))⟩
    case hmu => omega
  ·refine DT.r rfl rfl rfl (WO.pg rfl rfl rfl (WO.nil ⟨rfl, rfl⟩)) (DT.r rfl rfl rfl (WO.pg rfl rfl rfl (WO.nil ⟨rfl, rfl⟩)) (DT.r rfl rfl rfl (WO.go' rfl (WO.indexAddr rfl rfl rfl hsl (by first | omega | (simp; omega)) rfl (WO.nil ⟨rfl, rfl⟩))) (DT.r rfl rfl rfl (WO.go' rfl (WO.field rfl rfl rfl (WO.nil ⟨rfl, rfl⟩))) ?_)))
   refine' DT.b rfl rfl rfl ?hq ?_
   case hq =>
    refine WO.go' rfl ?_
    refine' WO.loadA (vs := _) rfl rfl ?hc ?hl rfl ?_
    case hc => (first | (refine OwE.cellsQ (e := 54) (l := cands l) (i := i) ?_ (by omega); repeat (first | exact Sub.nil | refine Sub.cons (by repeat first | exact .head | apply Pick.tail) ?_)))
    case hl => rfl
    exact WO.nil ⟨rfl, rfl⟩
   refine DT.r rfl rfl rfl (WO.pg rfl rfl rfl (WO.nil ⟨rfl, rfl⟩)) (DT.r rfl rfl rfl (WO.pg rfl rfl rfl (WO.nil ⟨rfl, rfl⟩)) ?_)
   refine' DT.r rfl rfl rfl ?hq ?_
   case hq =>
    refine WO.go' rfl ?_
    refine' WO.indexAddrZ (n := _) rfl rfl rfl ?hs ?h00 ?h1 rfl ?_
    case hs => exact hsl
    case h00 => omega
    case h1 => (first | omega | (simp; omega))
    exact WO.nil ⟨rfl, rfl⟩
   refine DT.r rfl rfl rfl (WO.go' rfl (WO.field rfl rfl rfl (WO.nil ⟨rfl, rfl⟩))) ?_
   refine' DT.b rfl rfl rfl ?hq ?_
   case hq =>
    refine WO.go' rfl ?_
    refine' WO.loadA (vs := _) rfl rfl ?hc ?hl rfl ?_
    case hc => (first | (refine OwE.cellsQ (e := 54) (l := cands l) (i := b.toNat) ?_ (by omega); repeat (first | exact Sub.nil | refine Sub.cons (by repeat first | exact .head | apply Pick.tail) ?_)))
    case hl => rfl
    exact WO.nil ⟨rfl, rfl⟩
   refine DT.b rfl rfl rfl (WO.go' rfl (WO.callR rfl Tryz.call37 (fun L w hi => ref_LessC w _ _ (hk _ (getD_mem (by omega) c00)).ok (hk _ (getD_mem (by omega) c00)).ok) rfl (WO.nil ⟨rfl, rfl⟩))) (DT.r rfl rfl rfl (WO.p rfl rfl (WO.nil ⟨rfl, rfl⟩)) ?_)
   refine DT.rB rfl rfl rfl (WO.p rfl rfl (WO.nil ⟨rfl, rfl⟩)) (fun c4 => ?_) (fun c4 => ?_)
   ·refine DT.r rfl rfl rfl (WO.pg rfl rfl rfl (WO.nil ⟨rfl, rfl⟩)) (DT.r rfl rfl rfl (WO.pg rfl rfl rfl (WO.nil ⟨rfl, rfl⟩)) (DT.r rfl rfl rfl (WO.go' rfl (WO.indexAddr rfl rfl rfl hsl (by first | omega | (simp; omega)) rfl (WO.nil ⟨rfl, rfl⟩))) ?_))
    refine' DT.b rfl rfl rfl ?hq ?_
    case hq =>
     refine WO.go' rfl ?_
     refine' WO.loadA (vs := _) rfl rfl ?hc ?hl rfl ?_
     case hc => (first | (refine OwE.cellsC (e := 54) (l := cands l) (i := i) ?_ (by omega); repeat (first | exact Sub.nil | refine Sub.cons (by repeat first | exact .head | apply Pick.tail) ?_)))
     case hl => rfl
     exact WO.nil ⟨rfl, rfl⟩
    refine DT.r rfl rfl rfl (WO.pg rfl rfl rfl (WO.nil ⟨rfl, rfl⟩)) (DT.nil [_, _] rfl (WO.go' rfl (WO.callR rfl Tryz.call83 (fun L w hi => ref_All w ((cands l).getD i c00) v l (hR.later hi) (hk _ (getD_mem (by omega) c00)).ok hl) rfl (WO.p rfl rfl (WO.nil ?_)))))
    refine W.cond_bl rfl (fun c5 => ?_) (fun c5 => ?_)
    ·refine W.region (WO.p rfl rfl (WO.p rfl rfl (WO.nil (W.region (WO.p rfl rfl (WO.ar rfl rfl rfl (by unfold in64; omega) rfl (WO.p rfl rfl (WO.nil ?_))))))))
     refine' ⟨i + 1, _, ?hp, ?hmu, ⟨rfl, rfl, rfl, rfl, rfl, trivial⟩, ?hS⟩
     case hS => repeat (first | exact Sub.nil | refine Sub.cons (by repeat first | exact .head | apply Pick.tail) ?_)
     case hp => first | exact ⟨by omega, by omega, by omega, pick_yes hpk (by omega) hk (by assumption) (by first | (left; omega) | (right; assumption))⟩ | exact ⟨by omega, by omega, by omega, pick_no hpk (by omega) hk (by first | (left; assumption) | (right; exact ⟨by omega, by assumption⟩))⟩
     case hmu => omega
    ·refine W.skip (W.region (WO.p rfl rfl (WO.ar rfl rfl rfl (by unfold in64; omega) rfl (WO.p rfl rfl (WO.nil ?_)))))
     refine' ⟨i + 1, _, ?hp, ?hmu, ⟨rfl, rfl, rfl, rfl, rfl, trivial⟩, ?hS⟩
     case hS => repeat (first | exact Sub.nil | refine Sub.cons (by repeat first | exact .head | apply Pick.tail) ?_)
     case hp => first | exact ⟨by omega, by omega, by omega, pick_yes hpk (by omega) hk (by assumption) (by first | (left; omega) | (right; assumption))⟩ | exact ⟨by omega, by omega, by omega, pick_no hpk (by omega) hk (by first | (left; assumption) | (right; exact ⟨by omega, by assumption⟩))⟩
     case hmu => omega
   ·refine DT.r rfl rfl rfl (WO.no rfl rfl (WO.nil ⟨rfl, rfl⟩)) (DT.r rfl rfl rfl (WO.no rfl rfl (WO.nil ⟨rfl, rfl⟩)) (DT.r rfl rfl rfl (WO.no rfl rfl (WO.nil ⟨rfl, rfl⟩)) (DT.b rfl rfl rfl (WO.no rfl rfl (WO.nil ⟨rfl, rfl⟩)) (DT.r rfl rfl rfl (WO.no rfl rfl (WO.nil ⟨rfl, rfl⟩)) (DT.nil [_, _] rfl (WO.no rfl rfl (WO.p rfl rfl (WO.nil (W.cond_f rfl (W.skip (W.region (WO.p rfl rfl (WO.ar rfl rfl rfl (by unfold in64; omega) rfl (WO.p rfl rfl (WO.nil ?_)))))))))))))))
    refine' ⟨i + 1, _, ?hp, ?hmu, ⟨rfl, rfl, rfl, rfl, rfl, trivial⟩, ?hS⟩
    case hS => repeat (first | exact Sub.nil | refine Sub.cons (by repeat first | exact .head | apply Pick.tail) ?_)
    case hp => first | exact ⟨by omega, by omega, by omega, pick_yes hpk (by omega) hk (by assumption) (by first | (left; omega) | (right; assumption))⟩ | exact ⟨by omega, by omega, by omega, pick_no hpk (by omega) hk (by first | (left; assumption) | (right; exact ⟨by omega, by assumption⟩))⟩
    case hmu => omega
 ·refine W.exit (blk_same ?_)
  obtain rfl : (cands l).length = i := by omega
  rw [List.take_length] at hpk
  obtain ⟨hb0, hbe⟩ := pick_end hl hne hpk
  refine W.sreg (WO.p rfl rfl (WO.p rfl rfl ?_))
  refine' WO.indexAddrZ (n := _) rfl rfl rfl ?hs ?h00 ?h1 rfl ?_
  case hs => exact hsl
  case h00 => omega
  case h1 => (first | omega | (simp; omega))
  refine' WO.loadA (vs := _) rfl rfl ?hc ?hl rfl ?_
  case hc => (first | (refine OwE.cellsC (e := 54) (l := cands l) (i := b.toNat) ?_ (by omega); repeat (first | exact Sub.nil | refine Sub.cons (by repeat first | exact .head | apply Pick.tail) ?_)))
  case hl => rfl
  refine WO.storeA rfl rfl rfl rfl Pick.head rfl rfl (WO.nil (W.ret (fin.ret (Res.one rfl (RV.cell rfl rfl rfl (Cells.own (by repeat first | exact .head | apply Pick.tail)))) ?_)))
  rw [hbe]
end Go.Proofs.YtnehaifgcegemaaGreat.Tu
namespace Go.Proofs.YtnehaifgcegemaaGreat.Tu
open Go Go.TH
attribute [local irreducible] W WO pt
set_option maxRecDepth 10000
set_option maxHeartbeats 1000000
def seg {β : Type} (lo hi : Nat) (g : Nat → List β) : List β := (List.range (hi - lo)).flatMap fun t => g (lo + t)
theorem seg_none {β : Type} (lo : Nat) (g : Nat → List β) : seg lo lo g = [] := by unfold seg; simp
theorem seg_succ {β : Type} {lo hi : Nat} (h : lo ≤ hi) (g : Nat → List β) : seg lo (hi + 1) g = seg lo hi g ++ g hi := by
 unfold seg; rw [show hi + 1 - lo = (hi - lo) + 1 by omega, List.range_succ, List.flatMap_append]; simp [show lo + (hi - lo) = hi by omega]
theorem seg_get {β : Type} {lo i t : Nat} {g : Nat → List β} {x : β} (h1 : lo ≤ i) (ht : (g i)[t]? = some x) : ∀ {hi : Nat}, i < hi → (seg lo hi g)[(seg lo i g).length + t]? = some x
 | 0, h => by omega
 | hi + 1, h => by
  rw [seg_succ (by omega)]
  rcases Nat.lt_or_ge i hi with g1 | g1
  ·have := seg_get (lo := lo) h1 ht (hi := hi) g1
   rw [List.getElem?_append_left (List.getElem?_eq_some_iff.1 this).1]; exact this
  ·obtain rfl : i = hi := by omega
   rw [List.getElem?_append_right (by omega), Nat.add_sub_cancel_left]; exact ht
theorem seg_one {β : Type} (lo : Nat) (g : Nat → β) : ∀ {hi : Nat}, lo ≤ hi → (seg lo hi fun i => [g i]).length = hi - lo
 | 0, h => by obtain rfl : lo = 0 := (by omega); rw [seg_none]; rfl
 | hi + 1, h => by
  rcases Nat.lt_or_ge hi lo with g1 | g1
  ·obtain rfl : lo = hi + 1 := (by omega); rw [seg_none]; simp
  ·rw [seg_succ g1, List.length_append, seg_one lo g g1]; simp; omega
theorem mem_seg {β : Type} {lo hi : Nat} {g : Nat → List β} {x : β} : x ∈ seg lo hi g ↔ ∃ i, lo ≤ i ∧ i < hi ∧ x ∈ g i := by
 unfold seg
 simp only [List.mem_flatMap, List.mem_range]
 constructor
 ·rintro ⟨t, ht, hx⟩; exact ⟨lo + t, by omega, by omega, hx⟩
 ·rintro ⟨i, h1, h2, hx⟩; exact ⟨i - lo, by omega, by rw [show lo + (i - lo) = i by omega]; exact hx⟩
def nxt (bs : List Int) : Nat := (bs.getLast?.getD (-1) + 1).toNat
def rimsL : Nat → Nat → List Int → List (List Int)
 | 0, _, bs => [bs]
 | m + 1, n, bs => seg (nxt bs) n fun i => rimsL m n (bs ++ [(i : Int)])
theorem rims1_a (n a : Nat) : rimsL 1 n [(a : Int)] = seg (a + 1) n fun b => [[(a : Int), (b : Int)]] := rfl
theorem rims1_ab (n a b : Nat) : rimsL 1 n [(a : Int), (b : Int)] = seg (b + 1) n fun c => [[(a : Int), (b : Int), (c : Int)]] := rfl
theorem rims2_a (n a : Nat) : rimsL 2 n [(a : Int)] = seg (a + 1) n fun b => rimsL 1 n [(a : Int), (b : Int)] := rfl
theorem rimsT1 (n : Nat) : rimsL 1 n [] = seg 0 n fun a => [[(a : Int)]] := rfl
theorem rimsT2 (n : Nat) : rimsL 2 n [] = seg 0 n fun a => rimsL 1 n [(a : Int)] := rfl
theorem rimsT3 (n : Nat) : rimsL 3 n [] = seg 0 n fun a => rimsL 2 n [(a : Int)] := rfl
def q1 (a : Nat) : Nat := a
def q2 (n a : Nat) : Nat := (seg 0 a fun a => rimsL 1 n [(a : Int)]).length
def q3 (n a : Nat) : Nat := (seg 0 a fun a => rimsL 2 n [(a : Int)]).length
def q4 (n a b : Nat) : Nat := (seg (a + 1) b fun b => rimsL 1 n [(a : Int), (b : Int)]).length
theorem q1_get {n a : Nat} (h : a < n) : (rimsL 1 n [])[q1 a]? = some [(a : Int)] := by
 rw [rimsT1]
 have := seg_get (lo := 0) (i := a) (t := 0) (g := fun a => [[(a : Int)]]) (x := [(a : Int)]) (by omega) rfl (hi := n) h
 rw [seg_one (lo := 0) (fun a : Nat => [(a : Int)]) (by omega)] at this
 simpa [q1] using this
theorem q2_succ {n a : Nat} (h : a < n) : q2 n (a + 1) = q2 n a + (n - (a + 1)) := by
 unfold q2; rw [seg_succ (by omega), List.length_append, rims1_a, seg_one (a + 1) (fun b : Nat => [(a : Int), (b : Int)]) (by omega)]
theorem q2_get {n a b : Nat} (ha : a < n) (h1 : a + 1 ≤ b) (h2 : b < n) : (rimsL 2 n [])[q2 n a + (b - (a + 1))]? = some [(a : Int), (b : Int)] := by
 rw [rimsT2]
 refine seg_get (by omega) ?_ ha
 rw [rims1_a]
 have := seg_get (lo := a + 1) (i := b) (t := 0) (g := fun b : Nat => [[(a : Int), (b : Int)]]) (x := [(a : Int), (b : Int)]) h1 rfl (hi := n) h2
 rw [seg_one (a + 1) (fun b : Nat => [(a : Int), (b : Int)]) (by omega)] at this
 exact this
theorem q4_succ {n a b : Nat} (h1 : a + 1 ≤ b) (h : b < n) : q4 n a (b + 1) = q4 n a b + (n - (b + 1)) := by
 unfold q4; rw [seg_succ (by omega), List.length_append, rims1_ab, seg_one (b + 1) (fun c : Nat => [(a : Int), (b : Int), (c : Int)]) (by omega)]
theorem q3_succ {n a : Nat} : q3 n (a + 1) = q3 n a + q4 n a n := by
 unfold q3 q4; rw [seg_succ (by omega), List.length_append, rims2_a]
theorem q4_0 (n a : Nat) : q4 n a (a + 1) = 0 := by unfold q4; rw [seg_none]; rfl
theorem q3_get {n a b c : Nat} (ha : a < n) (h1 : a + 1 ≤ b) (h2 : b < n) (h3 : b + 1 ≤ c) (h4 : c < n) : (rimsL 3 n [])[q3 n a + (q4 n a b + (c - (b + 1)))]? = some [(a : Int), (b : Int), (c : Int)] := by
 rw [rimsT3]
 refine seg_get (by omega) ?_ ha
 rw [rims2_a]
 refine seg_get h1 ?_ h2
 rw [rims1_ab]
 have := seg_get (lo := b + 1) (i := c) (t := 0) (g := fun c : Nat => [[(a : Int), (b : Int), (c : Int)]]) (x := [(a : Int), (b : Int), (c : Int)]) h3 rfl (hi := n) h4
 rw [seg_one (b + 1) (fun c : Nat => [(a : Int), (b : Int), (c : Int)]) (by omega)] at this
 exact this
theorem rims1_len (n : Nat) : (rimsL 1 n []).length = q1 n := by rw [rimsT1, seg_one 0 (fun a : Nat => [(a : Int)]) (by omega)]; rfl
theorem rims2_len (n : Nat) : (rimsL 2 n []).length = q2 n n := rfl
theorem rims3_len (n : Nat) : (rimsL 3 n []).length = q3 n n := rfl
theorem c_rims (w : World) (n m : Int) : Ct Tryz.prog 174 [.int .i64 n, .int .i64 m].toArray w fun v w' => ∃ Hq, (∃ b1 b2, v = .func (.func 249) #[] #[.pointer (some ⟨b1, 0, none⟩), .pointer (some ⟨b2, 0, none⟩)] ∧
 Hq = [pt b2 (.cells #[.int .i64 m] 3 (0, 0)), pt b1 (.cells #[.int .i64 n] 3 (0, 0))]) ∧ Inv w [] Hq w' := by
 refine Ct.of mixed tyTab Tryz.func174 rfl rfl (W.sreg (WO.box1 rfl (by first | rfl | assumption) rfl (fun b1 hb1 => (WO.box1 rfl (by first | rfl | assumption) rfl (fun b2 hb2 => (WO.p rfl rfl (WO.nil (W.sreg (WO.p rfl rfl (WO.p rfl rfl (WO.nil (W.ret ?_))))))))))))
 exact fin.ret (Res.one rfl (RV.tmp rfl)) ⟨b1, b2, rfl, rfl⟩
theorem c_rims1_1 (B : Nat) (wr : World) (n : Nat) (hn : n ≤ 1000) (last : Nat) (l : Nat) (Hc : Nat → List HP) (hy : ∀ k x v, (rimsL 1 n [])[k]? = some x → k ≤ last → YieldB Tryz.prog B wr l #[v] (bl (k < last)) (OwE encI 3 1 v x :: Hc k) (Hc (k + 1))) (b1 b2 : Nat) (w : World) (M' : List Nat) (hB : B ≤ w.heap.size) (hk : ∀ k, k < B → w.heap[k]? = wr.heap[k]?) (hM : ∀ b ∈ M', B ≤ b)
 (hi : Inv w M' ([pt b2 (.cells #[.int .i64 1] 3 (0, 0)), pt b1 (.cells #[.int .i64 (n : Int)] 3 (0, 0))] ++ Hc 0) w) :
 Ct Tryz.prog 249 ([.func (.yield l) #[] #[], .pointer (some ⟨b1, 0, none⟩), .pointer (some ⟨b2, 0, none⟩)] : List Value).toArray w fun _ w' => Inv w M' ([pt b2 (.cells #[.int .i64 1] 3 (0, 0)), pt b1 (.cells #[.int .i64 (n : Int)] 3 (0, 0))] ++ Hc (min (rimsL 1 n []).length (last + 1))) w' := by
 refine Iter.of mixed tyTab hB hM Tryz.func249 rfl rfl hi (W.sreg (WO.load rfl rfl (Cell.own (Pick.tail (Pick.head)) rfl) rfl (WO.p rfl rfl (WO.nil (W.block ?_)))))
 rw [show Hc 0 = Hc (q1 0) by rw [show q1 0 = 0 from rfl]]
 refine W.loop (fun (a : Nat) => a ≤ n ∧ q1 a ≤ last)
  (fun (a : Nat) => [(8, .int .i64 (a : Int)), (7, .int .i64 (n : Int)), (0, .func (.yield l) #[] #[]), (1, .pointer (some ⟨b1, 0, none⟩)), (2, .pointer (some ⟨b2, 0, none⟩))])
  (fun (a : Nat) => [pt b1 (.cells #[.int .i64 (n : Int)] 3 (0, 0)), pt b2 (.cells #[.int .i64 1] 3 (0, 0)), sat (Hc (q1 a))])
  (fun (a : Nat) => n - a) 0
  (by exact ⟨by omega, by show q1 0 ≤ last; exact Nat.zero_le _⟩) ⟨rfl, rfl, rfl, rfl, rfl, trivial⟩ (by repeat (first | exact Sub.nil | refine Sub.cons (by repeat first | exact .head | apply Pick.tail) ?_)) ?_
 rintro a ⟨ha, hal⟩
 refine W.sreg (WO.p rfl rfl (WO.nil (W.seq ?_)))
 refine W.cond_bl rfl (fun c1 => ?_) (fun c1 => ?_)
 ·refine W.skip (W.seq (W.block (W.sreg (WO.p rfl rfl (WO.p rfl rfl (WO.nil (W.seq (W.sreg (WO.load rfl rfl (Cell.own (Pick.tail (Pick.head)) rfl) rfl (WO.p rfl rfl (WO.p rfl rfl ?_)))))))))))
  refine WO.guard_bl rfl rfl (fun c2 => ?_) (fun c2 => ?_)
  ·refine WO.pg rfl rfl rfl (WO.pg rfl rfl rfl (WO.go' rfl (WO.buildSl rfl rfl rfl rfl rfl rfl rfl rfl rfl (fun v1 => (WO.go' rfl (WO.yieldB (go := bl (q1 a < last)) rfl rfl (by repeat first | exact .head | apply Pick.tail) (by repeat first | exact .head | apply Pick.tail) (((hy _ _ _ (q1_get (by omega)) (by omega)).one).agree hk) rfl ?_))))))
   have hget := (List.getElem?_eq_some_iff.1 (q1_get (by omega) : (rimsL 1 n [])[q1 a]? = some _)).1
   refine WO.pg rfl rfl rfl (WO.p rfl rfl (WO.nil ?_))
   refine W.cond_nbl rfl (fun c3 => ?_) (fun c3 => ?_)
   ·refine W.ret (fin.ret (Res.none rfl) ?_)
    rw [show min (rimsL 1 n []).length (last + 1) = q1 a + 1 by omega]
    repeat (first | exact Sub.nil | refine Sub.cons (by repeat first | exact .head | apply Pick.tail) ?_)
   ·refine W.skip (W.sreg (WO.p rfl rfl (WO.ar rfl rfl rfl (by unfold in64; omega) rfl (WO.p rfl rfl (WO.nil (W.block ?_))))))
    refine W.loop (fun (b : Nat) => a + 1 ≤ b ∧ b ≤ n ∧ b = a + 1 ∧ q1 (a + 1) ≤ last)
     (fun (b : Nat) => [(8, .int .i64 (a : Int)), (7, .int .i64 (n : Int)), (4, .int .i64 (a : Int)), (5, .int .i64 (b : Int)), (0, .func (.yield l) #[] #[]), (1, .pointer (some ⟨b1, 0, none⟩)), (2, .pointer (some ⟨b2, 0, none⟩))])
     (fun (b : Nat) => [pt b1 (.cells #[.int .i64 (n : Int)] 3 (0, 0)), pt b2 (.cells #[.int .i64 1] 3 (0, 0)), sat (Hc (q1 (a + 1)))])
     (fun (b : Nat) => n - b) (a + 1)
     (by exact ⟨by omega, by omega, rfl, by show a + 1 ≤ last; have : a < last := (by assumption); omega⟩) ⟨rfl, rfl, rfl, rfl, rfl, rfl, rfl, trivial⟩ (by repeat (first | exact Sub.nil | refine Sub.cons (by repeat first | exact .head | apply Pick.tail) ?_)) ?_
    rintro b ⟨hb1, hb2, hb3, hbl⟩
    refine W.seq (W.sreg (WO.p rfl rfl (WO.load rfl rfl (Cell.own Pick.head rfl) rfl (WO.p rfl rfl (WO.p rfl rfl ?_)))))
    refine WO.guard_bl rfl rfl (fun c4 => ?_) (fun c4 => ?_)
    ·refine WO.go' rfl (WO.load rfl rfl (Cell.own (Pick.tail (Pick.head)) rfl) rfl (WO.pg rfl rfl rfl (WO.p rfl rfl (WO.nil ?_))))
     refine W.cond_bl rfl (fun c5 => ?_) (fun c5 => ?_)
     ·exfalso; omega
     ·refine W.exit (blk_same ?_)
      have hnx : q1 (a + 1) ≤ last := hbl
      refine W.region (WO.ar rfl rfl rfl (by unfold in64; omega) rfl (WO.p rfl rfl (WO.nil ?_)))
      refine' ⟨a + 1, ?hp, ?hmu, ⟨rfl, rfl, rfl, rfl, rfl, trivial⟩, ?hS⟩
      case hS => repeat (first | exact Sub.nil | refine Sub.cons (by repeat first | exact .head | apply Pick.tail) ?_)
      case hp => exact ⟨by omega, hnx⟩
      case hmu => omega
    ·refine WO.no rfl rfl (WO.no rfl rfl (WO.p rfl rfl (WO.nil (W.cond_f rfl (W.exit (blk_same ?_))))))
     have hnx : q1 (a + 1) ≤ last := hbl
     refine W.region (WO.ar rfl rfl rfl (by unfold in64; omega) rfl (WO.p rfl rfl (WO.nil ?_)))
     refine' ⟨a + 1, ?hp, ?hmu, ⟨rfl, rfl, rfl, rfl, rfl, trivial⟩, ?hS⟩
     case hS => repeat (first | exact Sub.nil | refine Sub.cons (by repeat first | exact .head | apply Pick.tail) ?_)
     case hp => exact ⟨by omega, hnx⟩
     case hmu => omega
  ·exfalso; omega
 ·refine W.exit (blk_same ?_)
  obtain rfl : n = a := by omega
  refine fin.normal (Res.none rfl) ?_
  rw [rims1_len, show min (q1 n) (last + 1) = q1 n by omega]
  repeat (first | exact Sub.nil | refine Sub.cons (by repeat first | exact .head | apply Pick.tail) ?_)
theorem c_rims1_2 (B : Nat) (wr : World) (n : Nat) (hn : n ≤ 1000) (last : Nat) (l : Nat) (Hc : Nat → List HP) (hy : ∀ k x v, (rimsL 2 n [])[k]? = some x → k ≤ last → YieldB Tryz.prog B wr l #[v] (bl (k < last)) (OwE encI 3 1 v x :: Hc k) (Hc (k + 1))) (b1 b2 : Nat) (w : World) (M' : List Nat) (hB : B ≤ w.heap.size) (hk : ∀ k, k < B → w.heap[k]? = wr.heap[k]?) (hM : ∀ b ∈ M', B ≤ b)
 (hi : Inv w M' ([pt b2 (.cells #[.int .i64 2] 3 (0, 0)), pt b1 (.cells #[.int .i64 (n : Int)] 3 (0, 0))] ++ Hc 0) w) :
 Ct Tryz.prog 249 ([.func (.yield l) #[] #[], .pointer (some ⟨b1, 0, none⟩), .pointer (some ⟨b2, 0, none⟩)] : List Value).toArray w fun _ w' => Inv w M' ([pt b2 (.cells #[.int .i64 2] 3 (0, 0)), pt b1 (.cells #[.int .i64 (n : Int)] 3 (0, 0))] ++ Hc (min (rimsL 2 n []).length (last + 1))) w' := by
 refine Iter.of mixed tyTab hB hM Tryz.func249 rfl rfl hi (W.sreg (WO.load rfl rfl (Cell.own (Pick.tail (Pick.head)) rfl) rfl (WO.p rfl rfl (WO.nil (W.block ?_)))))
 rw [show Hc 0 = Hc (q2 n 0) by rw [show q2 n 0 = 0 from rfl]]
 refine W.loop (fun (a : Nat) => a ≤ n ∧ q2 n a ≤ last)
  (fun (a : Nat) => [(8, .int .i64 (a : Int)), (7, .int .i64 (n : Int)), (0, .func (.yield l) #[] #[]), (1, .pointer (some ⟨b1, 0, none⟩)), (2, .pointer (some ⟨b2, 0, none⟩))])
  (fun (a : Nat) => [pt b1 (.cells #[.int .i64 (n : Int)] 3 (0, 0)), pt b2 (.cells #[.int .i64 2] 3 (0, 0)), sat (Hc (q2 n a))])
  (fun (a : Nat) => n - a) 0
  (by exact ⟨by omega, by show q2 n 0 ≤ last; exact Nat.zero_le _⟩) ⟨rfl, rfl, rfl, rfl, rfl, trivial⟩ (by repeat (first | exact Sub.nil | refine Sub.cons (by repeat first | exact .head | apply Pick.tail) ?_)) ?_
 rintro a ⟨ha, hal⟩
 refine W.sreg (WO.p rfl rfl (WO.nil (W.seq ?_)))
 refine W.cond_bl rfl (fun c1 => ?_) (fun c1 => ?_)
 ·refine W.skip (W.seq (W.block (W.sreg (WO.p rfl rfl (WO.p rfl rfl (WO.nil (W.seq (W.sreg (WO.load rfl rfl (Cell.own (Pick.tail (Pick.head)) rfl) rfl (WO.p rfl rfl (WO.p rfl rfl ?_)))))))))))
  refine WO.guard_bl rfl rfl (fun c2 => ?_) (fun c2 => ?_)
  ·exfalso; omega
  ·refine WO.no rfl rfl (WO.no rfl rfl (WO.no rfl rfl (WO.no rfl rfl (WO.no rfl rfl (WO.p rfl rfl (WO.nil (W.cond_f rfl (W.skip (W.sreg (WO.p rfl rfl (WO.ar rfl rfl rfl (by unfold in64; omega) rfl (WO.p rfl rfl (WO.nil (W.block ?_))))))))))))))
   rw [show q2 n a = q2 n a + (a + 1 - (a + 1)) by omega]
   refine W.loop (fun (b : Nat) => a + 1 ≤ b ∧ b ≤ n ∧ q2 n a + (b - (a + 1)) ≤ last)
    (fun (b : Nat) => [(8, .int .i64 (a : Int)), (7, .int .i64 (n : Int)), (4, .int .i64 (a : Int)), (5, .int .i64 (b : Int)), (0, .func (.yield l) #[] #[]), (1, .pointer (some ⟨b1, 0, none⟩)), (2, .pointer (some ⟨b2, 0, none⟩))])
    (fun (b : Nat) => [pt b1 (.cells #[.int .i64 (n : Int)] 3 (0, 0)), pt b2 (.cells #[.int .i64 2] 3 (0, 0)), sat (Hc (q2 n a + (b - (a + 1))))])
    (fun (b : Nat) => n - b) (a + 1)
    (by exact ⟨by omega, by omega, by omega⟩) ⟨rfl, rfl, rfl, rfl, rfl, rfl, rfl, trivial⟩ (by repeat (first | exact Sub.nil | refine Sub.cons (by repeat first | exact .head | apply Pick.tail) ?_)) ?_
   rintro b ⟨hb1, hb2, hbl⟩
   refine W.seq (W.sreg (WO.p rfl rfl (WO.load rfl rfl (Cell.own Pick.head rfl) rfl (WO.p rfl rfl (WO.p rfl rfl ?_)))))
   refine WO.guard_bl rfl rfl (fun c3 => ?_) (fun c3 => ?_)
   ·refine WO.go' rfl (WO.load rfl rfl (Cell.own (Pick.tail (Pick.head)) rfl) rfl (WO.pg rfl rfl rfl (WO.p rfl rfl (WO.nil ?_))))
    refine W.cond_bl rfl (fun c4 => ?_) (fun c4 => ?_)
    ·refine W.skip (W.seq (W.block (W.seq (W.sreg (WO.load rfl rfl (Cell.own (Pick.tail (Pick.head)) rfl) rfl (WO.p rfl rfl (WO.p rfl rfl ?_)))))))
     refine WO.guard_bl rfl rfl (fun c5 => ?_) (fun c5 => ?_)
     ·refine WO.pg rfl rfl rfl (WO.pg rfl rfl rfl (WO.pg rfl rfl rfl (WO.go' rfl (WO.buildSl rfl rfl rfl rfl rfl rfl rfl rfl rfl (fun v2 => (WO.go' rfl (WO.yieldB (go := bl (q2 n a + (b - (a + 1)) < last)) rfl rfl (by repeat first | exact .head | apply Pick.tail) (by repeat first | exact .head | apply Pick.tail) (((hy _ _ _ (q2_get (by omega) (by omega) (by omega)) (by omega)).one).agree hk) rfl ?_)))))))
      have hget := (List.getElem?_eq_some_iff.1 (q2_get (by omega) (by omega) (by omega) : (rimsL 2 n [])[q2 n a + (b - (a + 1))]? = some _)).1
      refine WO.pg rfl rfl rfl (WO.p rfl rfl (WO.nil ?_))
      refine W.cond_nbl rfl (fun c6 => ?_) (fun c6 => ?_)
      ·refine W.ret (fin.ret (Res.none rfl) ?_)
       rw [show min (rimsL 2 n []).length (last + 1) = q2 n a + (b - (a + 1)) + 1 by omega]
       repeat (first | exact Sub.nil | refine Sub.cons (by repeat first | exact .head | apply Pick.tail) ?_)
      ·refine W.skip (W.sreg (WO.p rfl rfl (WO.ar rfl rfl rfl (by unfold in64; omega) rfl (WO.p rfl rfl (WO.nil (W.block ?_))))))
       rw [show q2 n a + (b - (a + 1)) + 1 = q2 n a + (b + 1 - (a + 1)) by omega]
       refine W.loop (fun (c : Nat) => b + 1 ≤ c ∧ c ≤ n ∧ c = b + 1 ∧ q2 n a + ((b + 1) - (a + 1)) ≤ last)
        (fun (c : Nat) => [(8, .int .i64 (a : Int)), (7, .int .i64 (n : Int)), (4, .int .i64 (a : Int)), (5, .int .i64 (b : Int)), (6, .int .i64 (c : Int)), (0, .func (.yield l) #[] #[]), (1, .pointer (some ⟨b1, 0, none⟩)), (2, .pointer (some ⟨b2, 0, none⟩))])
        (fun (c : Nat) => [pt b1 (.cells #[.int .i64 (n : Int)] 3 (0, 0)), pt b2 (.cells #[.int .i64 2] 3 (0, 0)), sat (Hc (q2 n a + ((b + 1) - (a + 1))))])
        (fun (c : Nat) => n - c) (b + 1)
        (by exact ⟨by omega, by omega, rfl, by omega⟩) ⟨rfl, rfl, rfl, rfl, rfl, rfl, rfl, rfl, trivial⟩ (by repeat (first | exact Sub.nil | refine Sub.cons (by repeat first | exact .head | apply Pick.tail) ?_)) ?_
       rintro c ⟨hc1, hc2, hc3, hcl⟩
       refine W.seq (W.sreg (WO.p rfl rfl (WO.load rfl rfl (Cell.own Pick.head rfl) rfl (WO.p rfl rfl (WO.p rfl rfl ?_)))))
       refine WO.guard_bl rfl rfl (fun c7 => ?_) (fun c7 => ?_)
       ·refine WO.go' rfl (WO.load rfl rfl (Cell.own (Pick.tail (Pick.head)) rfl) rfl (WO.pg rfl rfl rfl (WO.p rfl rfl (WO.nil ?_))))
        refine W.cond_bl rfl (fun c8 => ?_) (fun c8 => ?_)
        ·exfalso; omega
        ·refine W.exit (blk_same ?_)
         have hnx2 := hcl
         refine W.region (WO.p rfl rfl (WO.ar rfl rfl rfl (by unfold in64; omega) rfl (WO.p rfl rfl (WO.nil ?_))))
         refine' ⟨b + 1, ?hp, ?hmu, ⟨rfl, rfl, rfl, rfl, rfl, rfl, rfl, trivial⟩, ?hS⟩
         case hS => repeat (first | exact Sub.nil | refine Sub.cons (by repeat first | exact .head | apply Pick.tail) ?_)
         case hp => exact ⟨by omega, by omega, hnx2⟩
         case hmu => omega
       ·refine WO.no rfl rfl (WO.no rfl rfl (WO.p rfl rfl (WO.nil (W.cond_f rfl (W.exit (blk_same ?_))))))
        have hnx2 := hcl
        refine W.region (WO.p rfl rfl (WO.ar rfl rfl rfl (by unfold in64; omega) rfl (WO.p rfl rfl (WO.nil ?_))))
        refine' ⟨b + 1, ?hp, ?hmu, ⟨rfl, rfl, rfl, rfl, rfl, rfl, rfl, trivial⟩, ?hS⟩
        case hS => repeat (first | exact Sub.nil | refine Sub.cons (by repeat first | exact .head | apply Pick.tail) ?_)
        case hp => exact ⟨by omega, by omega, hnx2⟩
        case hmu => omega
     ·exfalso; omega
    ·exfalso; omega
   ·refine WO.no rfl rfl (WO.no rfl rfl (WO.p rfl rfl (WO.nil (W.cond_f rfl (W.exit (blk_same ?_))))))
    obtain rfl : n = b := by omega
    rw [show q2 n a + (n - (a + 1)) = q2 n (a + 1) from (q2_succ (by omega)).symm] at hbl ⊢
    have hnx := hbl
    refine W.region (WO.ar rfl rfl rfl (by unfold in64; omega) rfl (WO.p rfl rfl (WO.nil ?_)))
    refine' ⟨a + 1, ?hp, ?hmu, ⟨rfl, rfl, rfl, rfl, rfl, trivial⟩, ?hS⟩
    case hS => repeat (first | exact Sub.nil | refine Sub.cons (by repeat first | exact .head | apply Pick.tail) ?_)
    case hp => exact ⟨by omega, hnx⟩
    case hmu => omega
 ·refine W.exit (blk_same ?_)
  obtain rfl : n = a := by omega
  refine fin.normal (Res.none rfl) ?_
  rw [rims2_len, show min (q2 n n) (last + 1) = q2 n n by omega]
  repeat (first | exact Sub.nil | refine Sub.cons (by repeat first | exact .head | apply Pick.tail) ?_)
theorem c_rims1_3 (B : Nat) (wr : World) (n : Nat) (hn : n ≤ 1000) (last : Nat) (l : Nat) (Hc : Nat → List HP) (hy : ∀ k x v, (rimsL 3 n [])[k]? = some x → k ≤ last → YieldB Tryz.prog B wr l #[v] (bl (k < last)) (OwE encI 3 1 v x :: Hc k) (Hc (k + 1))) (b1 b2 : Nat) (w : World) (M' : List Nat) (hB : B ≤ w.heap.size) (hk : ∀ k, k < B → w.heap[k]? = wr.heap[k]?) (hM : ∀ b ∈ M', B ≤ b)
 (hi : Inv w M' ([pt b2 (.cells #[.int .i64 3] 3 (0, 0)), pt b1 (.cells #[.int .i64 (n : Int)] 3 (0, 0))] ++ Hc 0) w) :
 Ct Tryz.prog 249 ([.func (.yield l) #[] #[], .pointer (some ⟨b1, 0, none⟩), .pointer (some ⟨b2, 0, none⟩)] : List Value).toArray w fun _ w' => Inv w M' ([pt b2 (.cells #[.int .i64 3] 3 (0, 0)), pt b1 (.cells #[.int .i64 (n : Int)] 3 (0, 0))] ++ Hc (min (rimsL 3 n []).length (last + 1))) w' := by
 refine Iter.of mixed tyTab hB hM Tryz.func249 rfl rfl hi (W.sreg (WO.load rfl rfl (Cell.own (Pick.tail (Pick.head)) rfl) rfl (WO.p rfl rfl (WO.nil (W.block ?_)))))
 rw [show Hc 0 = Hc (q3 n 0) by rw [show q3 n 0 = 0 from rfl]]
 refine W.loop (fun (a : Nat) => a ≤ n ∧ q3 n a ≤ last)
  (fun (a : Nat) => [(8, .int .i64 (a : Int)), (7, .int .i64 (n : Int)), (0, .func (.yield l) #[] #[]), (1, .pointer (some ⟨b1, 0, none⟩)), (2, .pointer (some ⟨b2, 0, none⟩))])
  (fun (a : Nat) => [pt b1 (.cells #[.int .i64 (n : Int)] 3 (0, 0)), pt b2 (.cells #[.int .i64 3] 3 (0, 0)), sat (Hc (q3 n a))])
  (fun (a : Nat) => n - a) 0
  (by exact ⟨by omega, by show q3 n 0 ≤ last; exact Nat.zero_le _⟩) ⟨rfl, rfl, rfl, rfl, rfl, trivial⟩ (by repeat (first | exact Sub.nil | refine Sub.cons (by repeat first | exact .head | apply Pick.tail) ?_)) ?_
 rintro a ⟨ha, hal⟩
 refine W.sreg (WO.p rfl rfl (WO.nil (W.seq ?_)))
 refine W.cond_bl rfl (fun c1 => ?_) (fun c1 => ?_)
 ·refine W.skip (W.seq (W.block (W.sreg (WO.p rfl rfl (WO.p rfl rfl (WO.nil (W.seq (W.sreg (WO.load rfl rfl (Cell.own (Pick.tail (Pick.head)) rfl) rfl (WO.p rfl rfl (WO.p rfl rfl ?_)))))))))))
  refine WO.guard_bl rfl rfl (fun c2 => ?_) (fun c2 => ?_)
  ·exfalso; omega
  ·refine WO.no rfl rfl (WO.no rfl rfl (WO.no rfl rfl (WO.no rfl rfl (WO.no rfl rfl (WO.p rfl rfl (WO.nil (W.cond_f rfl (W.skip (W.sreg (WO.p rfl rfl (WO.ar rfl rfl rfl (by unfold in64; omega) rfl (WO.p rfl rfl (WO.nil (W.block ?_))))))))))))))
   rw [show q3 n a = q3 n a + q4 n a (a + 1) by rw [q4_0]; rfl]
   refine W.loop (fun (b : Nat) => a + 1 ≤ b ∧ b ≤ n ∧ q3 n a + q4 n a b ≤ last)
    (fun (b : Nat) => [(8, .int .i64 (a : Int)), (7, .int .i64 (n : Int)), (4, .int .i64 (a : Int)), (5, .int .i64 (b : Int)), (0, .func (.yield l) #[] #[]), (1, .pointer (some ⟨b1, 0, none⟩)), (2, .pointer (some ⟨b2, 0, none⟩))])
    (fun (b : Nat) => [pt b1 (.cells #[.int .i64 (n : Int)] 3 (0, 0)), pt b2 (.cells #[.int .i64 3] 3 (0, 0)), sat (Hc (q3 n a + q4 n a b))])
    (fun (b : Nat) => n - b) (a + 1)
    (by exact ⟨by omega, by omega, by rw [q4_0]; exact hal⟩) ⟨rfl, rfl, rfl, rfl, rfl, rfl, rfl, trivial⟩ (by repeat (first | exact Sub.nil | refine Sub.cons (by repeat first | exact .head | apply Pick.tail) ?_)) ?_
   rintro b ⟨hb1, hb2, hbl⟩
   refine W.seq (W.sreg (WO.p rfl rfl (WO.load rfl rfl (Cell.own Pick.head rfl) rfl (WO.p rfl rfl (WO.p rfl rfl ?_)))))
   refine WO.guard_bl rfl rfl (fun c3 => ?_) (fun c3 => ?_)
   ·refine WO.go' rfl (WO.load rfl rfl (Cell.own (Pick.tail (Pick.head)) rfl) rfl (WO.pg rfl rfl rfl (WO.p rfl rfl (WO.nil ?_))))
    refine W.cond_bl rfl (fun c4 => ?_) (fun c4 => ?_)
    ·refine W.skip (W.seq (W.block (W.seq (W.sreg (WO.load rfl rfl (Cell.own (Pick.tail (Pick.head)) rfl) rfl (WO.p rfl rfl (WO.p rfl rfl ?_)))))))
     refine WO.guard_bl rfl rfl (fun c5 => ?_) (fun c5 => ?_)
     ·exfalso; omega
     ·refine WO.no rfl rfl (WO.no rfl rfl (WO.no rfl rfl (WO.no rfl rfl (WO.no rfl rfl (WO.no rfl rfl (WO.p rfl rfl (WO.nil (W.cond_f rfl (W.skip (W.sreg (WO.p rfl rfl (WO.ar rfl rfl rfl (by unfold in64; omega) rfl (WO.p rfl rfl (WO.nil (W.block ?_)))))))))))))))
      rw [show q3 n a + q4 n a b = q3 n a + (q4 n a b + (b + 1 - (b + 1))) by omega]
      refine W.loop (fun (c : Nat) => b + 1 ≤ c ∧ c ≤ n ∧ q3 n a + (q4 n a b + (c - (b + 1))) ≤ last)
       (fun (c : Nat) => [(8, .int .i64 (a : Int)), (7, .int .i64 (n : Int)), (4, .int .i64 (a : Int)), (5, .int .i64 (b : Int)), (6, .int .i64 (c : Int)), (0, .func (.yield l) #[] #[]), (1, .pointer (some ⟨b1, 0, none⟩)), (2, .pointer (some ⟨b2, 0, none⟩))])
       (fun (c : Nat) => [pt b1 (.cells #[.int .i64 (n : Int)] 3 (0, 0)), pt b2 (.cells #[.int .i64 3] 3 (0, 0)), sat (Hc (q3 n a + (q4 n a b + (c - (b + 1)))))])
       (fun (c : Nat) => n - c) (b + 1)
       (by exact ⟨by omega, by omega, by omega⟩) ⟨rfl, rfl, rfl, rfl, rfl, rfl, rfl, rfl, trivial⟩ (by repeat (first | exact Sub.nil | refine Sub.cons (by repeat first | exact .head | apply Pick.tail) ?_)) ?_
      rintro c ⟨hc1, hc2, hcl⟩
      refine W.seq (W.sreg (WO.p rfl rfl (WO.load rfl rfl (Cell.own Pick.head rfl) rfl (WO.p rfl rfl (WO.p rfl rfl ?_)))))
      refine WO.guard_bl rfl rfl (fun c6 => ?_) (fun c6 => ?_)
      ·refine WO.go' rfl (WO.load rfl rfl (Cell.own (Pick.tail (Pick.head)) rfl) rfl (WO.pg rfl rfl rfl (WO.p rfl rfl (WO.nil ?_))))
       refine W.cond_bl rfl (fun c7 => ?_) (fun c7 => ?_)
       ·refine W.skip (W.seq (W.block (W.sreg (WO.p rfl rfl (WO.p rfl rfl (WO.p rfl rfl (WO.p rfl rfl (WO.buildSl rfl rfl rfl rfl rfl rfl rfl rfl rfl (fun v3 => (WO.yieldB (go := bl (q3 n a + (q4 n a b + (c - (b + 1))) < last)) rfl rfl (by repeat first | exact .head | apply Pick.tail) (by repeat first | exact .head | apply Pick.tail) (((hy _ _ _ (q3_get (by omega) (by omega) (by omega) (by omega) (by omega)) (by omega)).one).agree hk) rfl ?_))))))))))
        have hget := (List.getElem?_eq_some_iff.1 (q3_get (by omega) (by omega) (by omega) (by omega) (by omega) : (rimsL 3 n [])[q3 n a + (q4 n a b + (c - (b + 1)))]? = some _)).1
        refine WO.p rfl rfl (WO.nil ?_)
        refine W.cond_nbl rfl (fun c8 => ?_) (fun c8 => ?_)
        ·refine W.ret (fin.ret (Res.none rfl) ?_)
         rw [show min (rimsL 3 n []).length (last + 1) = q3 n a + (q4 n a b + (c - (b + 1))) + 1 by omega]
         repeat (first | exact Sub.nil | refine Sub.cons (by repeat first | exact .head | apply Pick.tail) ?_)
        ·refine W.skip ?_
         have e3 : q3 n a + (q4 n a b + (c - (b + 1))) + 1 = q3 n a + (q4 n a b + (c + 1 - (b + 1))) := by omega
         rw [e3]
         have hnx3 : q3 n a + (q4 n a b + (c + 1 - (b + 1))) ≤ last := by omega
         refine W.region (WO.p rfl rfl (WO.ar rfl rfl rfl (by unfold in64; omega) rfl (WO.p rfl rfl (WO.nil ?_))))
         refine' ⟨c + 1, ?hp, ?hmu, ⟨rfl, rfl, rfl, rfl, rfl, rfl, rfl, rfl, trivial⟩, ?hS⟩
         case hS => repeat (first | exact Sub.nil | refine Sub.cons (by repeat first | exact .head | apply Pick.tail) ?_)
         case hp => exact ⟨by omega, by omega, hnx3⟩
         case hmu => omega
       ·exfalso; omega
      ·refine WO.no rfl rfl (WO.no rfl rfl (WO.p rfl rfl (WO.nil (W.cond_f rfl (W.exit (blk_same ?_))))))
       obtain rfl : n = c := by omega
       rw [← q4_succ (by omega) (by omega)] at hcl ⊢
       have hnx2 := hcl
       refine W.region (WO.p rfl rfl (WO.ar rfl rfl rfl (by unfold in64; omega) rfl (WO.p rfl rfl (WO.nil ?_))))
       refine' ⟨b + 1, ?hp, ?hmu, ⟨rfl, rfl, rfl, rfl, rfl, rfl, rfl, trivial⟩, ?hS⟩
       case hS => repeat (first | exact Sub.nil | refine Sub.cons (by repeat first | exact .head | apply Pick.tail) ?_)
       case hp => exact ⟨by omega, by omega, hnx2⟩
       case hmu => omega
    ·exfalso; omega
   ·refine WO.no rfl rfl (WO.no rfl rfl (WO.p rfl rfl (WO.nil (W.cond_f rfl (W.exit (blk_same ?_))))))
    obtain rfl : n = b := by omega
    rw [← q3_succ] at hbl ⊢
    have hnx := hbl
    refine W.region (WO.ar rfl rfl rfl (by unfold in64; omega) rfl (WO.p rfl rfl (WO.nil ?_)))
    refine' ⟨a + 1, ?hp, ?hmu, ⟨rfl, rfl, rfl, rfl, rfl, trivial⟩, ?hS⟩
    case hS => repeat (first | exact Sub.nil | refine Sub.cons (by repeat first | exact .head | apply Pick.tail) ?_)
    case hp => exact ⟨by omega, hnx⟩
    case hmu => omega
 ·refine W.exit (blk_same ?_)
  obtain rfl : n = a := by omega
  refine fin.normal (Res.none rfl) ?_
  rw [rims3_len, show min (q3 n n) (last + 1) = q3 n n by omega]
  repeat (first | exact Sub.nil | refine Sub.cons (by repeat first | exact .head | apply Pick.tail) ?_)
end Go.Proofs.YtnehaifgcegemaaGreat.Tu
namespace Go.Proofs.YtnehaifgcegemaaGreat.Tu
open Go Go.TH
attribute [local irreducible] W WO pt
set_option maxRecDepth 10000
set_option maxHeartbeats 1000000
def encG (x : Cir × Option Addr × Nat × Nat) : List Value := [.int .i64 x.1.x, .int .i64 x.1.y, .int .i64 x.1.den, .int .i64 x.1.n, .int .i64 x.1.d, .slice x.2.1 x.2.2.1 x.2.2.2]
theorem encG_ok : EncOk encG 6 := ⟨fun _ => rfl, fun x u hu => by simp [encG] at hu; rcases hu with rfl | rfl | rfl | rfl | rfl | rfl <;> rfl, by omega⟩
def arL (l : Pts) : List Int → List Cir
 | [a] => [aloneC (l.at a.toNat)]
 | [a, b] => [betwC (l.at a.toNat) (l.at b.toNat)]
 | [a, b, c] => if cross (l.at a.toNat) (l.at b.toNat) (l.at c.toNat) = 0 then [] else [thrC (l.at a.toNat) (l.at b.toNat) (l.at c.toNat)]
 | _ => []
def goodL (l : Pts) (rim : List Int) : List Cir := (arL l rim).filter fun c => decide (holdL c l)
def goodTo (l : Pts) (k : Nat) : List Cir := (List.range k).flatMap fun m => (rimsL (m + 1) l.length []).flatMap (goodL l)
theorem goodTo_succ (l : Pts) (k : Nat) : goodTo l (k + 1) = goodTo l k ++ (rimsL (k + 1) l.length []).flatMap (goodL l) := by
 unfold goodTo; rw [List.range_succ, List.flatMap_append]; simp
structure Rm (n : Nat) (rim : List Int) : Prop where
 len : 1 ≤ rim.length ∧ rim.length ≤ 3
 rng : ∀ x ∈ rim, 0 ≤ x ∧ x < n
theorem mem_rims1 {n : Nat} {r : List Int} (h : r ∈ rimsL 1 n []) : ∃ a : Nat, a < n ∧ r = [(a : Int)] := by
 rw [rimsT1] at h
 obtain ⟨a, h1, h2, h3⟩ := mem_seg.1 h
 exact ⟨a, h2, by simpa using h3⟩
theorem mem_rims2 {n : Nat} {r : List Int} : r ∈ rimsL 2 n [] ↔ ∃ a b : Nat, a < b ∧ b < n ∧ r = [(a : Int), (b : Int)] := by
 rw [rimsT2]
 constructor
 ·intro h
  obtain ⟨a, h1, h2, h3⟩ := mem_seg.1 h
  rw [rims1_a] at h3
  obtain ⟨b, h4, h5, h6⟩ := mem_seg.1 h3
  exact ⟨a, b, by omega, h5, by simpa using h6⟩
 ·rintro ⟨a, b, h1, h2, rfl⟩
  exact mem_seg.2 ⟨a, by omega, by omega, by rw [rims1_a]; exact mem_seg.2 ⟨b, by omega, h2, by simp⟩⟩
theorem mem_rims3 {n : Nat} {r : List Int} : r ∈ rimsL 3 n [] ↔ ∃ a b c : Nat, a < b ∧ b < c ∧ c < n ∧ r = [(a : Int), (b : Int), (c : Int)] := by
 rw [rimsT3]
 constructor
 ·intro h
  obtain ⟨a, h1, h2, h3⟩ := mem_seg.1 h
  rw [rims2_a] at h3
  obtain ⟨b, h4, h5, h6⟩ := mem_seg.1 h3
  rw [rims1_ab] at h6
  obtain ⟨c, h7, h8, h9⟩ := mem_seg.1 h6
  exact ⟨a, b, c, by omega, by omega, h8, by simpa using h9⟩
 ·rintro ⟨a, b, c, h1, h2, h3, rfl⟩
  exact mem_seg.2 ⟨a, by omega, by omega, by rw [rims2_a]; exact mem_seg.2 ⟨b, by omega, by omega, by rw [rims1_ab]; exact mem_seg.2 ⟨c, by omega, h3, by simp⟩⟩⟩
theorem rims_rm {n m : Nat} (hm : m < 3) {r : List Int} (h : r ∈ rimsL (m + 1) n []) : Rm n r ∧ r.length = m + 1 := by
 match m, hm, h with
 | 0, _, h => obtain ⟨a, h1, rfl⟩ := mem_rims1 h; exact ⟨⟨by simp, by simp; omega⟩, rfl⟩
 | 1, _, h => obtain ⟨a, b, h1, h2, rfl⟩ := mem_rims2.1 h; exact ⟨⟨by simp, by simp; omega⟩, rfl⟩
 | 2, _, h => obtain ⟨a, b, c, h1, h2, h3, rfl⟩ := mem_rims3.1 h; exact ⟨⟨by simp, by simp; omega⟩, rfl⟩
def AroR (l : Pts) (rim : List Int) (r : Value) : Prop := ∃ (c' : Cir) (x : Option Addr) (n k : Nat), r = .tuple #[ringV c' (.slice x n k), .bool (bl (arL l rim ≠ []))] ∧ (arL l rim ≠ [] → arL l rim = [c'])
theorem at_okZ {l : Pts} {a : Int} (hl : OkL l) (h : 0 ≤ a ∧ a < l.length) : OkP (l.at a.toNat) := at_ok hl (by omega)
theorem arL_ok {l : Pts} {rim : List Int} (hl : OkL l) (hr : ∀ x ∈ rim, 0 ≤ x ∧ x < l.length) : ∀ c ∈ arL l rim, OkC c := by
 intro c hc
 match rim, hr, hc with
 | [], _, hc => simp [arL] at hc
 | [a], hr, hc =>
  have ha := at_okZ hl (hr a (by simp))
  have : c = aloneC (l.at a.toNat) := by simpa [arL] using hc
  subst this; exact ⟨mkR_can _ (by omega), aloneC_ok ha⟩
 | [a, b], hr, hc =>
  have ha := at_okZ hl (hr a (by simp))
  have hb := at_okZ hl (hr b (by simp))
  have : c = betwC (l.at a.toNat) (l.at b.toNat) := by simpa [arL] using hc
  subst this; exact ⟨mkR_can _ (by omega), betwC_ok ha hb⟩
 | [a, b, d], hr, hc =>
  have ha := at_okZ hl (hr a (by simp))
  have hb := at_okZ hl (hr b (by simp))
  have hd := at_okZ hl (hr d (by simp))
  replace hc : c ∈ (if cross (l.at a.toNat) (l.at b.toNat) (l.at d.toNat) = 0 then [] else [thrC (l.at a.toNat) (l.at b.toNat) (l.at d.toNat)]) := hc
  split at hc
  ·simp at hc
  ·rename_i hx
   have : c = thrC (l.at a.toNat) (l.at b.toNat) (l.at d.toNat) := by simpa using hc
   subst this; exact ⟨mkR_can _ (by omega), thrC_ok ha hb hd hx⟩
 | _ :: _ :: _ :: _ :: _, _, hc => simp [arL] at hc
theorem goodL_ok {l : Pts} {rim : List Int} (hl : OkL l) (hr : ∀ x ∈ rim, 0 ≤ x ∧ x < l.length) : ∀ c ∈ goodL l rim, OkC c := fun c hc => arL_ok hl hr c (List.mem_filter.1 hc).1
theorem goodTo_ok {l : Pts} {k : Nat} (hl : OkL l) (hk : k ≤ 3) : ∀ c ∈ goodTo l k, OkC c := fun c hc => by
 unfold goodTo at hc
 obtain ⟨m, hm, h2⟩ := List.mem_flatMap.1 hc
 obtain ⟨r, hr, h3⟩ := List.mem_flatMap.1 h2
 exact goodL_ok hl (rims_rm (by have := List.mem_range.1 hm; omega) hr).1.rng c h3
theorem goodTo_hold {l : Pts} {k : Nat} : ∀ c ∈ goodTo l k, holdL c l := fun c hc => by
 unfold goodTo at hc
 obtain ⟨m, hm, h2⟩ := List.mem_flatMap.1 hc
 obtain ⟨r, hr, h3⟩ := List.mem_flatMap.1 h2
 simpa using (List.mem_filter.1 h3).2
theorem good_of {l : Pts} {m : Nat} {r : List Int} {c : Cir} {k : Nat} (hm : m < k) (hr : r ∈ rimsL (m + 1) l.length []) (hc : c ∈ arL l r) (hh : holdL c l) : c ∈ goodTo l k := by
 unfold goodTo
 exact List.mem_flatMap.2 ⟨m, List.mem_range.2 hm, List.mem_flatMap.2 ⟨r, hr, List.mem_filter.2 ⟨hc, by simpa using hh⟩⟩⟩
theorem good_sm {l : Pts} (hl : OkL l) (h0 : l ≠ []) (h3 : l.length ≤ 3) : ∃ c ∈ goodTo l l.length, Sm l [] c := by
 obtain ⟨c, hc, hs⟩ := sm_cand hl h0
 refine ⟨c, ?_, hs⟩
 obtain ⟨i, hi, rfl | ⟨k, hk, rfl | ⟨m, hm, hx, rfl⟩⟩⟩ := mem_candI.1 hc
 ·refine good_of (m := 0) (r := [(i : Int)]) (by omega) ?_ (by simp [arL]) hs.hold
  rw [rimsT1]; exact mem_seg.2 ⟨i, by omega, hi, by simp⟩
 ·exact good_of (m := 1) (r := [(k : Int), (i : Int)]) (by omega) (mem_rims2.2 ⟨k, i, hk, hi, rfl⟩) (by simp only [arL, Int.toNat_natCast, List.mem_singleton]; exact betwC_comm) hs.hold
 ·refine good_of (m := 2) (r := [(m : Int), (k : Int), (i : Int)]) (by omega) (mem_rims3.2 ⟨m, k, i, hm, hk, hi, rfl⟩) ?_ hs.hold
  have hx' : cross (l.at m) (l.at k) (l.at i) ≠ 0 := by rw [(cross_perm (l.at i) (l.at k) (l.at m)).2.2.2.2]; omega
  simp only [arL, Int.toNat_natCast, if_neg hx', List.mem_singleton]
  exact thrC_perm hx hx' (by simp)
theorem len1 {r : List Int} (h : r.length = 1) : r = [r.getD 0 0] := by
 match r, h with
 | [a], _ => rfl
theorem len2 {r : List Int} (h : r.length = 2) : r = [r.getD 0 0, r.getD 1 0] := by
 match r, h with
 | [a, b], _ => rfl
theorem len3 {r : List Int} (h : r.length = 3) : r = [r.getD 0 0, r.getD 1 0, r.getD 2 0] := by
 match r, h with
 | [a, b, c], _ => rfl
theorem aro_1 {l : Pts} {r : List Int} {x : Option Addr} {n k : Nat} (h : r.length = 1) : AroR l r (.tuple #[ringV (aloneC (l.at (r.getD 0 0).toNat)) (.slice x n k), .bool true]) := by
 have e : arL l r = [aloneC (l.at (r.getD 0 0).toNat)] := by rw [len1 h]; rfl
 exact ⟨_, _, _, _, by rw [bl_t.2 (by rw [e]; simp)], fun _ => e⟩
theorem aro_2 {l : Pts} {r : List Int} {x : Option Addr} {n k : Nat} (h : r.length = 2) : AroR l r (.tuple #[ringV (betwC (l.at (r.getD 0 0).toNat) (l.at (r.getD 1 0).toNat)) (.slice x n k), .bool true]) := by
 have e : arL l r = [betwC (l.at (r.getD 0 0).toNat) (l.at (r.getD 1 0).toNat)] := by rw [len2 h]; rfl
 exact ⟨_, _, _, _, by rw [bl_t.2 (by rw [e]; simp)], fun _ => e⟩
theorem aro_3 {l : Pts} {r : List Int} {c' : Cir} {x : Option Addr} {n k : Nat} (h : r.length = 3) (hc : cross (l.at (r.getD 0 0).toNat) (l.at (r.getD 1 0).toNat) (l.at (r.getD 2 0).toNat) ≠ 0 → c' = thrC (l.at (r.getD 0 0).toNat) (l.at (r.getD 1 0).toNat) (l.at (r.getD 2 0).toNat)) :
 AroR l r (.tuple #[ringV c' (.slice x n k), .bool (bl (cross (l.at (r.getD 0 0).toNat) (l.at (r.getD 1 0).toNat) (l.at (r.getD 2 0).toNat) ≠ 0))]) := by
 have e : arL l r = if cross (l.at (r.getD 0 0).toNat) (l.at (r.getD 1 0).toNat) (l.at (r.getD 2 0).toNat) = 0 then [] else [thrC (l.at (r.getD 0 0).toNat) (l.at (r.getD 1 0).toNat) (l.at (r.getD 2 0).toNat)] := by
  conv => lhs; rw [len3 h]
  rfl
 rcases Decidable.em (cross (l.at (r.getD 0 0).toNat) (l.at (r.getD 1 0).toNat) (l.at (r.getD 2 0).toNat) = 0) with h0 | h0
 ·rw [if_pos h0] at e
  exact ⟨_, _, _, _, by rw [bl_f.2 (fun g => g h0), bl_f.2 (fun g => g e)], fun g => absurd e g⟩
 ·rw [if_neg h0] at e
  exact ⟨_, _, _, _, by rw [bl_t.2 h0, bl_t.2 (by rw [e]; simp)], fun _ => by rw [e, hc h0]⟩
theorem c_around (w : World) (v o : Value) (l : Pts) (rim : List Int) (hR : RdF encP 2 w.heap.size w v l) (hI : RdF encI 1 w.heap.size w o rim) (hl : OkL l) (hr : Rm l.length rim) :
 RetE Tryz.prog 175 [v, o].toArray w (AroR l rim) := by
 refine RetE.of mixed tyTab Tryz.func175 rfl rfl ?_
 replace hR : RdF encP 2 (fnCx mixed tyTab Tryz.f175.ntmps w).B (fnCx mixed tyTab Tryz.f175.ntmps w).w0 v l := hR
 replace hI : RdF encI 1 (fnCx mixed tyTab Tryz.f175.ntmps w).B (fnCx mixed tyTab Tryz.f175.ntmps w).w0 o rim := hI
 have hle := hR.sl.le
 have hle2 := hI.sl.le
 have hln := hr.len
 have r0 : 0 ≤ rim.getD 0 0 ∧ rim.getD 0 0 < l.length := hr.rng _ (getD_mem (by omega) 0)
 have r1 : 2 ≤ rim.length → 0 ≤ rim.getD 1 0 ∧ rim.getD 1 0 < l.length := fun h => hr.rng _ (getD_mem (by omega) 0)
 have r2 : 3 ≤ rim.length → 0 ≤ rim.getD 2 0 ∧ rim.getD 2 0 < l.length := fun h => hr.rng _ (getD_mem (by omega) 0)
 refine W.sreg (WO.alloc rfl rfl rfl (fun b1 hb1 => (WO.p rfl rfl (WO.nil (W.seq (W.sreg (WO.p rfl rfl (WO.len rfl rfl hI.sl rfl (WO.nil (W.block (W.sreg (WO.p rfl rfl (WO.p rfl rfl (WO.nil ?_))))))))))))))
 refine W.cond_bl rfl (fun c1 => ?_) (fun c1 => ?_)
 ·refine W.sreg (WO.p rfl rfl (WO.p rfl rfl (WO.indexAddr (i := 0) rfl rfl rfl hI.sl (by first | omega | (simp; omega)) rfl ?_)))
  refine' WO.load (v := _) rfl rfl ?hc rfl ?_
  case hc => (first | (refine hI.cell0 (i := 0) ?_ 0 ?_ <;> first | rfl | omega))
  refine' WO.indexAddrZ (n := _) rfl rfl rfl ?hs ?h00 ?h1 rfl ?_
  case hs => exact hR.sl
  case h00 => omega
  case h1 => (first | omega | (simp; omega))
  refine WO.loadA rfl rfl (RdF.cells2 hR (i := (rim.getD 0 0).toNat) (by omega)) rfl rfl (WO.callE rfl Tryz.call143 (fun L w hi => c_alone w (l.at (rim.getD 0 0).toNat) (at_okZ hl r0)) rfl ?_)
  rintro _ ⟨a, n, k, rfl⟩
  refine WO.storeA rfl rfl rfl rfl Pick.head rfl rfl (WO.p rfl rfl (WO.nil (W.ret (fin.ret (Res.two rfl (RV.cell rfl rfl rfl (Cells.own (by repeat first | exact .head | apply Pick.tail))) (RV.tmp rfl)) ?_))))
  first | exact aro_1 (by omega) | exact aro_2 (by omega) | exact aro_3 (by omega) hcx
 ·refine W.sreg (WO.p rfl rfl (WO.p rfl rfl (WO.nil ?_)))
  refine W.cond_bl rfl (fun c2 => ?_) (fun c2 => ?_)
  ·refine W.seq ?_
   have r1' := r1 (by omega)
   refine W.drawD 12 [.r 0 [], .r 1 [], .r 2 [], .b 3 [], .r 4 [], .b 5 [], .r 6 [], .r 7 [], .r 8 [], .b 9 [], .r 10 [], .b 11 []] [] (A0 := [_]) (H0 := []) (.cons .head .nil) (by kernel_rfl) ?_ ?_
   ·repeat constructor
   refine DT.r rfl rfl rfl (WO.p rfl rfl (WO.nil ⟨rfl, rfl⟩)) (DT.r rfl rfl rfl (WO.p rfl rfl (WO.nil ⟨rfl, rfl⟩)) (DT.r rfl rfl rfl (WO.indexAddr (i := 0) rfl rfl rfl hI.sl (by first | omega | (simp; omega)) rfl (WO.nil ⟨rfl, rfl⟩)) ?_))
   refine' DT.b rfl rfl rfl ?hq ?_
   case hq =>
    refine' WO.load (v := _) rfl rfl ?hc rfl ?_
    case hc => (first | (refine hI.cell0 (i := 0) ?_ 0 ?_ <;> first | rfl | omega))
    exact WO.nil ⟨rfl, rfl⟩
   refine' DT.r rfl rfl rfl ?hq ?_
   case hq =>
    refine' WO.indexAddrZ (n := _) rfl rfl rfl ?hs ?h00 ?h1 rfl ?_
    case hs => exact hR.sl
    case h00 => omega
    case h1 => (first | omega | (simp; omega))
    exact WO.nil ⟨rfl, rfl⟩
   refine DT.b rfl rfl rfl (WO.loadA rfl rfl (RdF.cells2 hR (i := (rim.getD 0 0).toNat) (by omega)) rfl rfl (WO.nil ⟨rfl, rfl⟩)) (DT.r rfl rfl rfl (WO.p rfl rfl (WO.nil ⟨rfl, rfl⟩)) (DT.r rfl rfl rfl (WO.p rfl rfl (WO.nil ⟨rfl, rfl⟩)) (DT.r rfl rfl rfl (WO.indexAddr (i := 1) rfl rfl rfl hI.sl (by first | omega | (simp; omega)) rfl (WO.nil ⟨rfl, rfl⟩)) ?_)))
   refine' DT.b rfl rfl rfl ?hq ?_
   case hq =>
    refine' WO.load (v := _) rfl rfl ?hc rfl ?_
    case hc => (first | (refine hI.cell0 (i := 1) ?_ 0 ?_ <;> first | rfl | omega))
    exact WO.nil ⟨rfl, rfl⟩
   refine' DT.r rfl rfl rfl ?hq ?_
   case hq =>
    refine' WO.indexAddrZ (n := _) rfl rfl rfl ?hs ?h00 ?h1 rfl ?_
    case hs => exact hR.sl
    case h00 => omega
    case h1 => (first | omega | (simp; omega))
    exact WO.nil ⟨rfl, rfl⟩
   refine DT.b rfl rfl rfl (WO.loadA rfl rfl (RdF.cells2 hR (i := (rim.getD 1 0).toNat) (by omega)) rfl rfl (WO.nil ⟨rfl, rfl⟩)) (DT.nil [_] rfl (WO.callE rfl Tryz.call250 (fun L w hi => c_between w (l.at (rim.getD 0 0).toNat) (l.at (rim.getD 1 0).toNat) (at_okZ hl r0) (at_okZ hl r1')) rfl ?_))
   rintro _ ⟨a, n, k, rfl⟩
   refine WO.storeA rfl rfl rfl rfl Pick.head rfl rfl (WO.p rfl rfl (WO.nil (W.ret (fin.ret (Res.two rfl (RV.cell rfl rfl rfl (Cells.own (by repeat first | exact .head | apply Pick.tail))) (RV.tmp rfl)) ?_))))
   first | exact aro_1 (by omega) | exact aro_2 (by omega) | exact aro_3 (by omega) hcx
  ·refine W.skip (W.seq ?_)
   have r1' := r1 (by omega)
   have r2' := r2 (by omega)
   refine W.drawD 21 [.r 0 [], .r 1 [], .r 2 [], .b 3 [], .r 4 [], .b 5 [], .r 6 [], .r 7 [], .r 8 [], .b 9 [], .r 10 [], .b 11 [], .r 12 [], .r 13 [], .r 14 [], .b 15 [], .r 16 [], .b 17 [], .c 18 [], .r 19 [], .r 20 []] [] (A0 := [_]) (H0 := []) (.cons .head .nil) (by kernel_rfl) ?_ ?_
   ·repeat constructor
   refine DT.r rfl rfl rfl (WO.p rfl rfl (WO.nil ⟨rfl, rfl⟩)) (DT.r rfl rfl rfl (WO.p rfl rfl (WO.nil ⟨rfl, rfl⟩)) (DT.r rfl rfl rfl (WO.indexAddr (i := 0) rfl rfl rfl hI.sl (by first | omega | (simp; omega)) rfl (WO.nil ⟨rfl, rfl⟩)) ?_))
   refine' DT.b rfl rfl rfl ?hq ?_
   case hq =>
    refine' WO.load (v := _) rfl rfl ?hc rfl ?_
    case hc => (first | (refine hI.cell0 (i := 0) ?_ 0 ?_ <;> first | rfl | omega))
    exact WO.nil ⟨rfl, rfl⟩
   refine' DT.r rfl rfl rfl ?hq ?_
   case hq =>
    refine' WO.indexAddrZ (n := _) rfl rfl rfl ?hs ?h00 ?h1 rfl ?_
    case hs => exact hR.sl
    case h00 => omega
    case h1 => (first | omega | (simp; omega))
    exact WO.nil ⟨rfl, rfl⟩
   refine DT.b rfl rfl rfl (WO.loadA rfl rfl (RdF.cells2 hR (i := (rim.getD 0 0).toNat) (by omega)) rfl rfl (WO.nil ⟨rfl, rfl⟩)) (DT.r rfl rfl rfl (WO.p rfl rfl (WO.nil ⟨rfl, rfl⟩)) (DT.r rfl rfl rfl (WO.p rfl rfl (WO.nil ⟨rfl, rfl⟩)) (DT.r rfl rfl rfl (WO.indexAddr (i := 1) rfl rfl rfl hI.sl (by first | omega | (simp; omega)) rfl (WO.nil ⟨rfl, rfl⟩)) ?_)))
   refine' DT.b rfl rfl rfl ?hq ?_
   case hq =>
    refine' WO.load (v := _) rfl rfl ?hc rfl ?_
    case hc => (first | (refine hI.cell0 (i := 1) ?_ 0 ?_ <;> first | rfl | omega))
    exact WO.nil ⟨rfl, rfl⟩
   refine' DT.r rfl rfl rfl ?hq ?_
   case hq =>
    refine' WO.indexAddrZ (n := _) rfl rfl rfl ?hs ?h00 ?h1 rfl ?_
    case hs => exact hR.sl
    case h00 => omega
    case h1 => (first | omega | (simp; omega))
    exact WO.nil ⟨rfl, rfl⟩
   refine DT.b rfl rfl rfl (WO.loadA rfl rfl (RdF.cells2 hR (i := (rim.getD 1 0).toNat) (by omega)) rfl rfl (WO.nil ⟨rfl, rfl⟩)) (DT.r rfl rfl rfl (WO.p rfl rfl (WO.nil ⟨rfl, rfl⟩)) (DT.r rfl rfl rfl (WO.p rfl rfl (WO.nil ⟨rfl, rfl⟩)) (DT.r rfl rfl rfl (WO.indexAddr (i := 2) rfl rfl rfl hI.sl (by first | omega | (simp; omega)) rfl (WO.nil ⟨rfl, rfl⟩)) ?_)))
   refine' DT.b rfl rfl rfl ?hq ?_
   case hq =>
    refine' WO.load (v := _) rfl rfl ?hc rfl ?_
    case hc => (first | (refine hI.cell0 (i := 2) ?_ 0 ?_ <;> first | rfl | omega))
    exact WO.nil ⟨rfl, rfl⟩
   refine' DT.r rfl rfl rfl ?hq ?_
   case hq =>
    refine' WO.indexAddrZ (n := _) rfl rfl rfl ?hs ?h00 ?h1 rfl ?_
    case hs => exact hR.sl
    case h00 => omega
    case h1 => (first | omega | (simp; omega))
    exact WO.nil ⟨rfl, rfl⟩
   refine DT.b rfl rfl rfl (WO.loadA rfl rfl (RdF.cells2 hR (i := (rim.getD 2 0).toNat) (by omega)) rfl rfl (WO.nil ⟨rfl, rfl⟩)) (DT.c [_] rfl rfl rfl rfl (WO.callE rfl Tryz.call86 (fun L w hi => c_through w (l.at (rim.getD 0 0).toNat) (l.at (rim.getD 1 0).toNat) (l.at (rim.getD 2 0).toNat) (at_okZ hl r0) (at_okZ hl r1') (at_okZ hl r2')) rfl ?_))
   rintro _ ⟨c', a, n, k, rfl, hcx⟩
   refine WO.nil ⟨_, [_], rfl, rfl, (Keep.b (Keep.r (Keep.b (Keep.r (Keep.r (Keep.r (Keep.b (Keep.r (Keep.b (Keep.r (Keep.r (Keep.r (Keep.b (Keep.r (Keep.b (Keep.r (Keep.r (Keep.r Keep.nil)))))))))))))))))), ?_⟩
   refine DT.r rfl rfl rfl (WO.p rfl rfl (WO.nil ⟨rfl, rfl⟩)) (DT.r rfl rfl rfl (WO.p rfl rfl (WO.nil ⟨rfl, rfl⟩)) (DT.nil [_] rfl (WO.storeA rfl rfl rfl rfl Pick.head rfl rfl (WO.p rfl rfl (WO.nil (W.ret (fin.ret (Res.two rfl (RV.cell rfl rfl rfl (Cells.own (by repeat first | exact .head | apply Pick.tail))) (RV.tmp rfl)) ?_)))))))
   first | exact aro_1 (by omega) | exact aro_2 (by omega) | exact aro_3 (by omega) hcx
end Go.Proofs.YtnehaifgcegemaaGreat.Tu
namespace Go.Proofs.YtnehaifgcegemaaGreat.Tu
open Go Go.TH
attribute [local irreducible] W WO pt
set_option maxRecDepth 10000
set_option maxHeartbeats 1000000
abbrev Rng := Cir × Option Addr × Nat × Nat
abbrev Rings := List Rng
abbrev Rings.at (xs : Rings) (i : Nat) : Cir × Option Addr × Nat × Nat := xs.getD i (c00, none, 0, 0)
theorem RdF.cellsG {C : Cx Tryz.prog} {H : List HP} {o : Value} {xs : Rings} (h : RdF encG 6 C.B C.w0 o xs) {i : Nat} (h1 : i < xs.length) : Cells C H (elt o i 6) [.int .i64 (xs.at i).1.x, .int .i64 (xs.at i).1.y, .int .i64 (xs.at i).1.den, .int .i64 (xs.at i).1.n, .int .i64 (xs.at i).1.d, .slice (xs.at i).2.1 (xs.at i).2.2.1 (xs.at i).2.2.2] := RdF.cells h h1 _
theorem tail_at {xs : Rings} {i : Nat} {n : Nat} (h : n = xs.length) : Rings.at ((xs.drop 1).take (n - 1)) i = xs.at (i + 1) ∨ xs.length ≤ i + 1 := by
 subst h
 rcases Nat.lt_or_ge (i + 1) xs.length with g | g
 ·refine .inl ?_
  simp only [Rings.at, List.getD_eq_getElem?_getD]
  rw [List.getElem?_take_of_lt (by omega), List.getElem?_drop, Nat.add_comm]
 ·exact .inr g
structure FirstI (xs : Rings) (n : Nat) (x : Cir × Option Addr × Nat × Nat) : Prop where
 mem : x ∈ xs
 min : ∀ j, j < n → j < xs.length → ¬ lessC (xs.at j).1 x.1
theorem first_no {xs : Rings} {i : Nat} {x : Cir × Option Addr × Nat × Nat} (h : FirstI xs (i + 1) x) (hn : ¬ lessC (xs.at (i + 1)).1 x.1) : FirstI xs (i + 1 + 1) x :=
 ⟨h.mem, fun j hj hl => by
  rcases Nat.lt_or_ge j (i + 1) with g | g
  ·exact h.min j g hl
  ·obtain rfl : j = i + 1 := by omega
   exact hn⟩
theorem first_yes {xs : Rings} {i : Nat} {x : Cir × Option Addr × Nat × Nat} (h : FirstI xs (i + 1) x) (hk : ∀ x ∈ xs, OkC x.1) (hi : i + 1 < xs.length) (hn : lessC (xs.at (i + 1)).1 x.1) : FirstI xs (i + 1 + 1) (xs.at (i + 1)) :=
 ⟨getD_mem hi _, fun j hj hl => by
  rcases Nat.lt_or_ge j (i + 1) with g | g
  ·have := h.min j g hl
   have k1 := (hk _ h.mem).can.d
   have k2 := (hk _ (getD_mem hi (c00, none, 0, 0))).can.d
   have k3 := (hk _ (getD_mem hl (c00, none, 0, 0))).can.d
   unfold lessC at this hn ⊢
   rw [cmp_neg] at this hn ⊢
   exact cmp_trans k2 k1 k3 hn this
  ·obtain rfl : j = i + 1 := by omega
   unfold lessC; rw [cmp_neg]; omega⟩
theorem c_first (w : World) (a : Option Addr) (c : Nat) (xs : Rings) (hR : RdF encG 6 w.heap.size w (.slice a xs.length c) xs) (hcap : xs.length ≤ c) (h0 : 0 < xs.length) (hk : ∀ x ∈ xs, OkC x.1) :
 RetE Tryz.prog 176 [.slice a xs.length c, .func (.func 177) #[] #[]].toArray w (fun r => ∃ x, FirstI xs xs.length x ∧ r = .agg (encG x).toArray) := by
 refine RetE.of mixed tyTab Tryz.func176 rfl rfl ?_
 replace hR : RdF encG 6 (fnCx mixed tyTab Tryz.f176.ntmps w).B (fnCx mixed tyTab Tryz.f176.ntmps w).w0 (.slice a xs.length c) xs := hR
 have hle := hR.sl.le
 have hT := hR.sub (lo := 1) (hi := xs.length) (mx := c) (by omega) hcap (Nat.le_refl _)
 generalize hsv : (Value.slice (if c = 1 then a else ofs a (1 * 6)) (xs.length - 1) (c - 1)) = sv at hT
 have hTl : ((xs.drop 1).take (xs.length - 1)).length = xs.length - 1 := by rw [List.length_take, List.length_drop]; omega
 have hTs : IsSl sv (xs.length - 1) := hTl ▸ hT.sl
 refine W.sreg (WO.alloc rfl rfl rfl (fun b1 hb1 => (WO.nil (W.sreg (WO.p rfl rfl (WO.indexAddr (i := 0) rfl rfl rfl hR.sl (by first | omega | (simp; omega)) rfl (WO.loadA rfl rfl (RdF.cellsG hR (i := 0) h0) rfl rfl (WO.alloc rfl rfl rfl (fun b2 hb2 => (WO.storeA rfl rfl rfl rfl Pick.head rfl rfl (WO.nil (W.seq (W.sreg (WO.p rfl rfl (WO.slSl (lo := 1) (hi := xs.length) (mx := c) rfl rfl (bnd.at (n := 1) rfl) bnd.no bnd.no (fun h => (by cases h)) (by omega) hcap (Nat.le_refl _) rfl ?_)))))))))))))))
 rw [hsv]
 refine WO.len rfl rfl hTs rfl (WO.p rfl rfl (WO.nil (W.block ?_)))
 refine W.loop2 (fun (i : Nat) (x : Rng) => i ≤ xs.length - 1 ∧ FirstI xs (i + 1) x)
  (fun (i : Nat) (x : Rng) => [(14, .int .i64 (i : Int)), (13, .int .i64 ((xs.length - 1 : Nat) : Int)), (12, sv), (5, .pointer (some ⟨b2, 0, none⟩)), (4, .pointer (some ⟨b1, 0, none⟩)), (1, .func (.func 177) #[] #[])])
  (fun (i : Nat) (x : Rng) => [pt b2 (.cells #[.int .i64 x.1.x, .int .i64 x.1.y, .int .i64 x.1.den, .int .i64 x.1.n, .int .i64 x.1.d, .slice x.2.1 x.2.2.1 x.2.2.2] 118 (0, 0)), pt b1 (.cells #[.int .i64 0, .int .i64 0, .int .i64 0, .int .i64 0, .int .i64 0, .slice none 0 0] 118 (0, 0))])
  (fun (i : Nat) (x : Rng) => xs.length - 1 - i) 0 (xs.at 0)
  (by exact ⟨by omega, getD_mem h0 _, fun j hj _ => by obtain rfl : j = 0 := (by omega); unfold lessC; rw [cmp_neg]; omega⟩) ⟨rfl, rfl, rfl, rfl, rfl, rfl, trivial⟩ (by repeat (first | exact Sub.nil | refine Sub.cons (by repeat first | exact .head | apply Pick.tail) ?_)) ?_
 rintro i x ⟨hi0, hF⟩
 refine W.sreg (WO.p rfl rfl (WO.nil (W.seq ?_)))
 refine W.cond_bl rfl (fun c1 => ?_) (fun c1 => ?_)
 ·refine W.skip (W.seq (W.block ?_))
  have ht := (tail_at (xs := xs) (i := i) rfl).resolve_right (by omega)
  refine W.sreg (WO.indexAddr rfl rfl rfl hTs (by first | omega | (simp; omega)) rfl (WO.loadA rfl rfl (RdF.cellsG hT (i := i) (by omega)) rfl rfl (WO.alloc rfl rfl rfl (fun b3 hb3 => (WO.storeA rfl rfl rfl rfl Pick.head rfl rfl (WO.nil (W.sreg (WO.p rfl rfl (WO.loadA rfl rfl (Cells.own Pick.head) rfl rfl (WO.loadA rfl rfl (Cells.own (Pick.tail (Pick.head))) rfl rfl (WO.callCR (first := []) (captured := []) rfl rfl Tryz.call177 (fun L w hi' => by rw [ht]; exact c_smaller w (xs.at (i + 1)).1 x.1 _ _ rfl rfl (hk _ (getD_mem (by omega) _)).ok (hk _ hF.mem).ok) rfl (WO.nil ?_))))))))))))
  refine W.cond_bl rfl (fun c2 => ?_) (fun c2 => ?_)
  ·refine W.region (WO.loadA rfl rfl (Cells.own Pick.head) rfl rfl (WO.storeA rfl rfl rfl rfl (Pick.tail (Pick.head)) rfl rfl (WO.nil (W.region (WO.ar rfl rfl rfl (by unfold in64; omega) rfl (WO.p rfl rfl (WO.nil ?_)))))))
   refine' ⟨i + 1, _, ?hp, ?hmu, ⟨rfl, rfl, rfl, rfl, rfl, rfl, trivial⟩, ?hS⟩
   case hS => repeat (first | exact Sub.nil | refine Sub.cons (by repeat first | exact .head | apply Pick.tail) ?_)
   case hp => first | exact ⟨by omega, first_no hF (by assumption)⟩ | exact ⟨by omega, by rw [ht]; exact first_yes hF hk (by omega) (by assumption)⟩
   case hmu => omega
  ·refine W.skip (W.region (WO.ar rfl rfl rfl (by unfold in64; omega) rfl (WO.p rfl rfl (WO.nil ?_))))
   refine' ⟨i + 1, _, ?hp, ?hmu, ⟨rfl, rfl, rfl, rfl, rfl, rfl, trivial⟩, ?hS⟩
   case hS => repeat (first | exact Sub.nil | refine Sub.cons (by repeat first | exact .head | apply Pick.tail) ?_)
   case hp => first | exact ⟨by omega, first_no hF (by assumption)⟩ | exact ⟨by omega, by rw [ht]; exact first_yes hF hk (by omega) (by assumption)⟩
   case hmu => omega
 ·refine W.exit (blk_same (W.sreg (WO.loadA rfl rfl (Cells.own Pick.head) rfl rfl (WO.storeA rfl rfl rfl rfl (Pick.tail (Pick.head)) rfl rfl (WO.nil (W.ret ?_))))))
  obtain rfl : i = xs.length - 1 := by omega
  refine fin.ret (Res.one rfl (RV.cell rfl rfl rfl (Cells.own (by repeat first | exact .head | apply Pick.tail)))) ⟨x, ?_, rfl⟩
  rw [show xs.length - 1 + 1 = xs.length by omega] at hF; exact hF
def ofL (l : Pts) (rim : List Int) : Pts := rim.map fun i => l.at i.toNat
theorem ofL_take (l : Pts) (rim : List Int) {i : Nat} (h : i < rim.length) : ofL l (rim.take (i + 1)) = ofL l (rim.take i) ++ [l.at (rim.getD i 0).toNat] := by
 unfold ofL; rw [take_succ_getD h 0, List.map_append]; rfl
theorem ofL_ok {l : Pts} {rim : List Int} (hl : OkL l) (hr : ∀ x ∈ rim, 0 ≤ x ∧ x < l.length) : OkL (ofL l rim) := fun p hp => by
 obtain ⟨x, hx, rfl⟩ := List.mem_map.1 hp
 exact at_okZ hl (hr x hx)
theorem ofL_len (l : Pts) (rim : List Int) : (ofL l rim).length = rim.length := by unfold ofL; simp
def GoodP (b : Nat) (cs : List Cir) : HP := fun h => ∃ (gv : Value) (xs : Rings), xs.map (·.1) = cs ∧ sat [pt b (.cells #[gv] 246 (0, 0)), OwE encG 118 6 gv xs] h
theorem good_open {b : Nat} {cs : List Cir} {H H' : List HP} (p : Pick (GoodP b cs) H H') : ∀ h, sat H h → ∃ x : Value × Rings, x.2.map (·.1) = cs ∧ sat (pt b (.cells #[x.1] 246 (0, 0)) :: OwE encG 118 6 x.1 x.2 :: H') h := fun h hs => by
 obtain ⟨h1, h2, s, ⟨gv, xs, e, hp⟩, hr⟩ := p.sat hs
 exact ⟨(gv, xs), e, sat_join (H1 := [_, _]) s hp hr⟩
theorem good_pack {b : Nat} {gv : Value} {xs : Rings} {cs : List Cir} {H Hr : List HP} (s : Sub H (pt b (.cells #[gv] 246 (0, 0)) :: OwE encG 118 6 gv xs :: Hr)) (e : xs.map (·.1) = cs) : ∀ h, sat H h → sat (GoodP b cs :: Hr) h := fun h hs => by
 obtain ⟨h1, h2, s2, hp, hr⟩ := sat_app (H1 := [_, _]) (s.sat hs)
 exact ⟨h1, h2, s2, ⟨gv, xs, e, hp⟩, hr⟩
theorem good_nil {b : Nat} {H : List HP} : ∀ h, sat (pt b (.cells #[.slice none 0 0] 246 (0, 0)) :: H) h → sat (GoodP b [] :: H) h := fun h hs =>
 good_pack (xs := []) (.cons (.tail .head) (.cons .head (Sub.refl _))) rfl h (owNil (enc := encG) (e := 118) (sz := 6) h hs)
theorem c_rims1 (m : Nat) (hm : 1 ≤ m ∧ m ≤ 3) (B : Nat) (wr : World) (n : Nat) (hn : n ≤ 1000) (last : Nat) (l : Nat) (Hc : Nat → List HP) (hy : ∀ k x v, (rimsL m n [])[k]? = some x → k ≤ last → YieldB Tryz.prog B wr l #[v] (bl (k < last)) (OwE encI 3 1 v x :: Hc k) (Hc (k + 1))) (b1 b2 : Nat) (w : World) (M' : List Nat) (hB : B ≤ w.heap.size) (hk : ∀ k, k < B → w.heap[k]? = wr.heap[k]?) (hM : ∀ b ∈ M', B ≤ b)
 (hi : Inv w M' ([pt b2 (.cells #[.int .i64 (m : Int)] 3 (0, 0)), pt b1 (.cells #[.int .i64 (n : Int)] 3 (0, 0))] ++ Hc 0) w) :
 Ct Tryz.prog 249 ([.func (.yield l) #[] #[], .pointer (some ⟨b1, 0, none⟩), .pointer (some ⟨b2, 0, none⟩)] : List Value).toArray w fun _ w' => Inv w M' ([pt b2 (.cells #[.int .i64 (m : Int)] 3 (0, 0)), pt b1 (.cells #[.int .i64 (n : Int)] 3 (0, 0))] ++ Hc (min (rimsL m n []).length (last + 1))) w' := by
 obtain ⟨h1, h2⟩ := hm
 match m, h1, h2 with
 | 1, _, _ => exact c_rims1_1 B wr n hn last l Hc hy b1 b2 w M' hB hk hM hi
 | 2, _, _ => exact c_rims1_2 B wr n hn last l Hc hy b1 b2 w M' hB hk hM hi
 | 3, _, _ => exact c_rims1_3 B wr n hn last l Hc hy b1 b2 w M' hB hk hM hi
theorem flatMap_take {α β : Type} {l : List α} {f : α → List β} {i : Nat} {x : α} (h : l[i]? = some x) : (l.take (i + 1)).flatMap f = (l.take i).flatMap f ++ f x := by
 rw [List.take_add_one, h, List.flatMap_append]; simp
end Go.Proofs.YtnehaifgcegemaaGreat.Tu
namespace Go.Proofs.YtnehaifgcegemaaGreat.Tu
open Go Go.TH
attribute [local irreducible] W WO pt
set_option maxRecDepth 10000
set_option maxHeartbeats 1000000
theorem goodL_no {l : Pts} {r : List Int} {c : Cir} (h : arL l r ≠ [] → arL l r = [c]) (hn : arL l r = [] ∨ ¬ holdL c l) : goodL l r = [] := by
 unfold goodL
 rcases Decidable.em (arL l r = []) with e | e
 ·rw [e]; rfl
 ·rw [h e]; simp [hn.resolve_left e]
theorem goodL_yes {l : Pts} {r : List Int} {c : Cir} (h : arL l r = [c]) (hh : holdL c l) : goodL l r = [c] := by
 unfold goodL; rw [h]; simp [hh]
theorem goodL_len (l : Pts) (r : List Int) : (goodL l r).length ≤ 1 := by
 have h : (arL l r).length ≤ 1 := by
  match r with
  | [] => simp [arL]
  | [a] => simp [arL]
  | [a, b] => simp [arL]
  | [a, b, c] =>
   show (if cross (l.at a.toNat) (l.at b.toNat) (l.at c.toNat) = 0 then [] else [thrC (l.at a.toNat) (l.at b.toNat) (l.at c.toNat)]).length ≤ 1
   split <;> simp
  | _ :: _ :: _ :: _ :: _ => simp [arL]
 have := List.length_filter_le (fun c => decide (holdL c l)) (arL l r)
 unfold goodL; omega
theorem flat_len1 {α β : Type} {f : α → List β} (h : ∀ x, (f x).length ≤ 1) : ∀ l : List α, (l.flatMap f).length ≤ l.length
 | [] => by simp
 | x :: l => by have := flat_len1 h l; have := h x; rw [List.flatMap_cons, List.length_append, List.length_cons]; omega
theorem rims_len {n m : Nat} (hn : n ≤ 3) (hm : m < 3) : (rimsL (m + 1) n []).length ≤ 4 := by
 match n, m, hn, hm with
 | 0, 0, _, _ => decide
 | 1, 0, _, _ => decide
 | 2, 0, _, _ => decide
 | 3, 0, _, _ => decide
 | 0, 1, _, _ => decide
 | 1, 1, _, _ => decide
 | 2, 1, _, _ => decide
 | 3, 1, _, _ => decide
 | 0, 2, _, _ => decide
 | 1, 2, _, _ => decide
 | 2, 2, _, _ => decide
 | 3, 2, _, _ => decide
theorem goodTo_len {l : Pts} (hl : l.length ≤ 3) : ∀ k, k ≤ 3 → (goodTo l k).length ≤ k * 4
 | 0, _ => by simp [goodTo]
 | k + 1, h => by
  have := goodTo_len hl k (by omega)
  have h2 := flat_len1 (goodL_len l) (rimsL (k + 1) l.length [])
  have h3 := rims_len hl (show k < 3 by omega)
  rw [goodTo_succ, List.length_append]; omega
def goodAt (l : Pts) (k t : Nat) : List Cir := goodTo l k ++ ((rimsL (k + 1) l.length []).take t).flatMap (goodL l)
theorem goodAt_0 (l : Pts) (k : Nat) : goodAt l k 0 = goodTo l k := by unfold goodAt; simp
theorem goodAt_end (l : Pts) (k : Nat) : goodAt l k (rimsL (k + 1) l.length []).length = goodTo l (k + 1) := by unfold goodAt; rw [List.take_length, goodTo_succ]
theorem goodAt_succ {l : Pts} {k t : Nat} {r : List Int} (h : (rimsL (k + 1) l.length [])[t]? = some r) : goodAt l k (t + 1) = goodAt l k t ++ goodL l r := by
 unfold goodAt; rw [flatMap_take h, List.append_assoc]
theorem goodAt_len {l : Pts} (hl : l.length ≤ 3) {k : Nat} (hk : k < 3) (t : Nat) : (goodAt l k t).length ≤ 16 := by
 have := goodTo_len hl k (by omega)
 have h2 := flat_len1 (goodL_len l) ((rimsL (k + 1) l.length []).take t)
 have h3 := rims_len hl hk
 have : ((rimsL (k + 1) l.length []).take t).length ≤ (rimsL (k + 1) l.length []).length := by rw [List.length_take]; omega
 unfold goodAt; rw [List.length_append]; omega
theorem OwE.formCap {α : Type} {P : Program} {C : Cx P} {H H' : List HP} {enc : α → List Value} {e sz : Nat} {v : Value} {xs : List α} (p : Pick (OwE enc e sz v xs) H H') : ∀ (L : List HP) w, Inv C.w0 C.M (L ++ H) w → ∃ a c, v = .slice a xs.length c ∧ xs.length ≤ c := fun L w hi => by
 obtain ⟨_, hcase⟩ := OwC.open (hi.pickL p)
 rcases hcase with ⟨h1, h2, _⟩ | ⟨g, cap, cur, rfl, q1, _⟩
 ·exact ⟨none, 0, by rw [h1, h2], by omega⟩
 ·exact ⟨_, _, rfl, q1⟩
theorem first_lst {l : Pts} {xs : Rings} {x : Rng} (hl : OkL l) (h0 : l ≠ []) (h3 : l.length ≤ 3) (e : xs.map (·.1) = goodTo l l.length) (h : FirstI xs xs.length x) : x.1 = lst l := by
 obtain ⟨c0, hc0, hs⟩ := good_sm hl h0 h3
 have hm : x.1 ∈ goodTo l l.length := by rw [← e]; exact List.mem_map_of_mem h.mem
 have hp : Pick1 l (goodTo l l.length) x.1 := ⟨hm, goodTo_hold _ hm, fun c' hc' _ => by
  rw [← e] at hc'
  obtain ⟨y, hy, rfl⟩ := List.mem_map.1 hc'
  obtain ⟨j, hj, ej⟩ := List.getElem_of_mem hy
  have := h.min j hj hj
  rw [show xs.at j = y by simp [Rings.at, hj, ej]] at this
  exact this⟩
 exact (hp.sm (goodTo_ok hl h3) hc0 hs).lst hl h0
theorem c_proved (w : World) (v o : Value) (l : Pts) (rim : List Int) (hR : RdF encP 2 w.heap.size w v l) (hI : RdF encI 1 w.heap.size w o rim) (hl : OkL l) (hr : Rm l.length rim) :
 RetE Tryz.prog 88 [v, o].toArray w (RingR (lst (ofL l rim))) := by
 refine RetE.of mixed tyTab Tryz.func88 rfl rfl ?_
 replace hR : RdF encP 2 (fnCx mixed tyTab Tryz.f88.ntmps w).B (fnCx mixed tyTab Tryz.f88.ntmps w).w0 v l := hR
 replace hI : RdF encI 1 (fnCx mixed tyTab Tryz.f88.ntmps w).B (fnCx mixed tyTab Tryz.f88.ntmps w).w0 o rim := hI
 have hle := hR.sl.le
 have hln := hr.len
 have hSl := ofL_len l rim
 have hSok := ofL_ok hl hr.rng
 have hS0 : ofL l rim ≠ [] := List.length_pos_iff.1 (by omega)
 refine W.sreg (WO.alloc rfl rfl rfl (fun b1 hb1 => (WO.nil (W.sreg (WO.alloc rfl rfl rfl (fun b2 hb2 => (WO.nil (W.seq (W.sreg (WO.p rfl rfl (WO.len rfl rfl hI.sl rfl (WO.p rfl rfl (WO.nil (W.block (W.chg (owNil (enc := encP) (e := 152) (sz := 2)) ?_)))))))))))))))
 refine W.loop2 (fun (i : Nat) (x : Value) => i ≤ rim.length)
  (fun (i : Nat) (x : Value) => [(15, .int .i64 (i : Int)), (14, .int .i64 (rim.length : Int)), (13, o), (5, .pointer (some ⟨b2, 0, none⟩)), (4, .pointer (some ⟨b1, 0, none⟩)), (0, v)])
  (fun (i : Nat) (x : Value) => [pt b2 (.cells #[x] 116 (0, 0)), OwE encP 152 2 x (ofL l (rim.take i)), pt b1 (.cells #[.int .i64 0, .int .i64 0, .int .i64 0, .int .i64 0, .int .i64 0, .slice none 0 0] 118 (0, 0))])
  (fun (i : Nat) (x : Value) => rim.length - i) 0 (.slice none 0 0)
  (by omega) ⟨rfl, rfl, rfl, rfl, rfl, rfl, trivial⟩ (by repeat (first | exact Sub.nil | refine Sub.cons (by repeat first | exact .head | apply Pick.tail) ?_)) ?_
 rintro i x hi0
 refine W.sreg (WO.p rfl rfl (WO.nil (W.seq ?_)))
 refine W.cond_bl rfl (fun c1 => ?_) (fun c1 => ?_)
 ·refine W.skip (W.seq (W.block (W.sreg (WO.indexAddr rfl rfl rfl hI.sl (by first | omega | (simp; omega)) rfl ?_))))
  refine' WO.load (v := _) rfl rfl ?hc rfl ?_
  case hc => (first | (refine hI.cell0 (i := i) ?_ 0 ?_ <;> first | rfl | omega))
  refine WO.p rfl rfl (WO.nil ?_)
  have hri := hr.rng _ (getD_mem (show i < rim.length by omega) 0)
  refine W.drawD 6 [.g 0 [] (pt b2 (.cells #[x] 116 (0, 0))), .r 1 [], .r 2 [], .r 3 [], .b 4 [], .c 5 []] [] (A0 := [_, _]) (H0 := [_]) (.cons .head (.cons .head (.cons .head .nil))) (by kernel_rfl) ?_ ?_
  ·exact (ALok.g (ALok.r (ALok.r (ALok.r (ALok.b (ALok.c ALok.nil))))))
  refine DT.g (by repeat first | exact .head | apply Pick.tail) rfl rfl rfl (WO.load rfl rfl (Cell.own Pick.head rfl) rfl (WO.nil ⟨rfl, rfl⟩)) (DT.r rfl rfl rfl (WO.p rfl rfl (WO.nil ⟨rfl, rfl⟩)) (DT.r rfl rfl rfl (WO.p rfl rfl (WO.nil ⟨rfl, rfl⟩)) ?_))
  refine' DT.r rfl rfl rfl ?hq ?_
  case hq =>
   refine' WO.indexAddrZ (n := _) rfl rfl rfl ?hs ?h00 ?h1 rfl ?_
   case hs => exact hR.sl
   case h00 => omega
   case h1 => (first | omega | (simp; omega))
   exact WO.nil ⟨rfl, rfl⟩
  refine DT.b rfl rfl rfl (WO.loadA rfl rfl (RdF.cells2 hR (i := (rim.getD i 0).toNat) (by omega)) rfl rfl (WO.nil ⟨rfl, rfl⟩)) (DT.c [_, _, _] rfl rfl rfl rfl (WO.buildSl rfl rfl rfl rfl rfl rfl rfl rfl rfl (fun v3 => ?_)))
  refine WO.nil ⟨_, [_, _, _], rfl, rfl, (Keep.b (Keep.r (Keep.r (Keep.r (Keep.g (.inr ⟨_, by repeat (first | exact Pick.head | apply Pick.tail)⟩) Keep.nil))))), ?_⟩
  refine DT.nil [_, _, _, _] rfl ?_
  refine' WO.appendE (enc := encP) (m := 1) (ys := [l.at (rim.getD i 0).toNat]) encP_ok rfl rfl rfl rfl rfl (by repeat first | exact .head | apply Pick.tail) (isSl_lit (by omega) (fun _ => ⟨_, _, rfl⟩)) (by omega) rfl (OwC.cells .head) (by rw [ofL_len, List.length_take]; omega) (by rw [ofL_len, List.length_take]; omega) rfl (fun g c => ?_)
  rw [← ofL_take l rim (by omega)]
  refine WO.store1 rfl rfl rfl (by first | rfl | assumption) (Pick.tail (Pick.tail (Pick.head))) rfl (WO.nil (W.region (WO.ar rfl rfl rfl (by unfold in64; omega) rfl (WO.p rfl rfl (WO.nil ?_)))))
  refine' ⟨i + 1, _, ?hp, ?hmu, ⟨rfl, rfl, rfl, rfl, rfl, rfl, trivial⟩, ?hS⟩
  case hS => repeat (first | exact Sub.nil | refine Sub.cons (by repeat first | exact .head | apply Pick.tail) ?_)
  case hp => omega
  case hmu => omega
 ·refine W.exit (blk_same ?_)
  obtain rfl : rim.length = i := by omega
  rw [List.take_length]
  refine W.fact (OwE.sl (enc := encP) (e := 152) (sz := 2) (v := x) (xs := ofL l rim) (by repeat first | exact .head | apply Pick.tail)) (fun hss => (W.sreg (WO.alloc rfl rfl rfl (fun b4 hb4 => (WO.nil (W.seq (W.sreg (WO.p rfl rfl (WO.nil (W.block (W.chg good_nil ?_)))))))))))
  refine W.loop (fun (k : Nat) => k ≤ rim.length)
   (fun (k : Nat) => [(9, .int .i64 ((k : Int) + 1)), (8, .pointer (some ⟨b4, 0, none⟩)), (5, .pointer (some ⟨b2, 0, none⟩)), (4, .pointer (some ⟨b1, 0, none⟩))])
   (fun (k : Nat) => [GoodP b4 (goodAt (ofL l rim) k 0), OwE encP 152 2 x (ofL l rim), pt b2 (.cells #[x] 116 (0, 0)), pt b1 (.cells #[.int .i64 0, .int .i64 0, .int .i64 0, .int .i64 0, .int .i64 0, .slice none 0 0] 118 (0, 0))])
   (fun (k : Nat) => rim.length - k) 0
   (by omega) ⟨rfl, rfl, rfl, rfl, trivial⟩ (by repeat (first | exact Sub.nil | refine Sub.cons (by repeat first | exact .head | apply Pick.tail) ?_)) ?_
  rintro k hk0
  refine W.seq (W.sreg (WO.p rfl rfl (WO.load rfl rfl (Cell.own (Pick.tail (Pick.tail (Pick.head))) rfl) rfl (WO.len rfl rfl hss rfl (WO.p rfl rfl (WO.nil ?_))))))
  refine W.cond_bl rfl (fun c2 => ?_) (fun c2 => ?_)
  ·refine W.skip (W.seq (W.block (W.sreg (WO.load rfl rfl (Cell.own (Pick.tail (Pick.tail (Pick.head))) rfl) rfl (WO.len rfl rfl hss rfl (WO.p rfl rfl (WO.call (Post := fun v Hq => ∃ b1 b2, v = .func (.func 249) #[] #[.pointer (some ⟨b1, 0, none⟩), .pointer (some ⟨b2, 0, none⟩)] ∧ Hq = [pt b2 (.cells #[.int .i64 ((k : Int) + 1)] 3 (0, 0)), pt b1 (.cells #[.int .i64 ((ofL l rim).length : Int)] 3 (0, 0))]) rfl Tryz.call174 (fun L w hi => c_rims w _ _) rfl ?_)))))))
   rintro _ _ ⟨b5, b6, rfl, rfl⟩
   refine WO.nil (W.block ?_)
   refine W.rangeFuncB (Jmp.ret) [pt b6 (.cells #[.int .i64 ((k + 1 : Nat) : Int)] 3 (0, 0)), pt b5 (.cells #[.int .i64 ((ofL l rim).length : Int)] 3 (0, 0))] (fun t => [GoodP b4 (goodAt (ofL l rim) k t), OwE encP 152 2 x (ofL l rim), pt b2 (.cells #[x] 116 (0, 0)), pt b1 (.cells #[.int .i64 0, .int .i64 0, .int .i64 0, .int .i64 0, .int .i64 0, .slice none 0 0] 118 (0, 0))]) (rimsL (k + 1) (ofL l rim).length []) (fun rim1 v1 => OwE encI 3 1 v1 rim1) ((rimsL (k + 1) (ofL l rim).length []).length) rfl rfl rfl Tryz.call249 (by repeat (first | exact Sub.nil | refine Sub.cons (by repeat first | exact .head | apply Pick.tail) ?_)) ?_ ?_ ?_ ?_
   ·intro ll Hc hy w1 M1 hB1 hk1 hM1 hi1
    exact c_rims1 (k + 1) (by omega) _ _ (ofL l rim).length (by omega) _ ll Hc hy b5 b6 w1 M1 hB1 hk1 hM1 hi1
   ·intro ll w1 M1 hB1 hM1 hk1 t rim1 v1 hx hle1
    have hlt := (List.getElem?_eq_some_iff.1 hx).1
    have hrm := (rims_rm (m := k) (by omega) (List.mem_of_getElem? hx)).1
    refine W.region (WO.p rfl rfl (WO.nil (W.block (W.sreg (WO.load rfl rfl (Cell.own (Pick.tail (Pick.tail (Pick.tail (Pick.head)))) rfl) rfl (WO.p rfl rfl (WO.callE rfl Tryz.call175 (fun L w hi => c_around w x v1 (ofL l rim) rim1 (RdF.of_ow (e := 152) encP_ok (by repeat first | exact .head | apply Pick.tail) hi) (RdF.of_ow (e := 3) encI_ok (by repeat first | exact .head | apply Pick.tail) hi) hSok hrm) rfl ?_)))))))
    rintro _ ⟨c', xa, xn, xk, rfl, hac⟩
    refine WO.p rfl rfl (WO.p rfl rfl (WO.p rfl rfl (WO.alloc rfl rfl rfl (fun b5 hb5 => (WO.storeA rfl rfl rfl rfl Pick.head rfl rfl (WO.p rfl rfl (WO.nil (W.sreg (WO.p rfl rfl (WO.p rfl rfl ?_))))))))))
    refine WO.guard_bl rfl rfl (fun c3 => ?_) (fun c3 => ?_)
    ·refine WO.go' rfl (WO.loadA rfl rfl (Cells.own Pick.head) rfl rfl (WO.go' rfl (WO.load rfl rfl (Cell.own (Pick.tail (Pick.tail (Pick.tail (Pick.tail (Pick.head))))) rfl) rfl (WO.go' rfl (WO.callE rfl Tryz.call144 (fun L w hi => c_missed w c' _ rfl x (ofL l rim) (RdF.of_ow (e := 152) encP_ok (by repeat first | exact .head | apply Pick.tail) hi) (arL_ok hSok hrm.rng c' (by rw [hac (by assumption)]; simp)).ok hSok) rfl ?_)))))
     rintro _ ⟨n, rfl, hn⟩
     refine WO.pg rfl rfl rfl (WO.p rfl rfl (WO.nil ?_))
     refine W.cond_bl rfl (fun c4 => ?_) (fun c4 => ?_)
     ·refine W.chgE (good_open (b := b4) (cs := goodAt (ofL l rim) k t) (by repeat first | exact .head | apply Pick.tail)) ?_
      rintro ⟨gv, gxs⟩ hgx
      have hgl : gxs.length ≤ 16 := by rw [← List.length_map (f := fun x : Rng => x.1), hgx]; exact goodAt_len (by omega) (by omega) t
      refine W.region (WO.load rfl rfl (Cell.own Pick.head rfl) rfl (WO.loadA rfl rfl (Cells.own (Pick.tail (Pick.tail (Pick.head)))) rfl rfl (WO.buildSl rfl rfl rfl rfl rfl rfl rfl rfl rfl (fun v6 => ?_))))
      refine' WO.appendE (enc := encG) (m := 1) (xs := gxs) (ys := [(c', xa, xn, xk)]) encG_ok rfl rfl rfl rfl rfl (by repeat first | exact .head | apply Pick.tail) (isSl_lit (by omega) (fun _ => ⟨_, _, rfl⟩)) (by omega) rfl (OwC.cells .head) (by omega) (by omega) rfl (fun g c => ?_)
      refine WO.store1 rfl rfl rfl (by first | rfl | assumption) (Pick.tail (Pick.tail (Pick.head))) rfl (WO.nil (endR.go (bl_t.2 hlt) ?_))
      first
      |(rw [goodAt_succ hx, goodL_no hac (.inl (Decidable.not_not.1 (by assumption))), List.append_nil]; exact fun h hs => Sub.sat (by repeat (first | exact Sub.nil | refine Sub.cons (by repeat first | exact .head | apply Pick.tail) ?_)) hs)
      |(rw [goodAt_succ hx, goodL_no hac (.inr (hn.neg.1 (by omega))), List.append_nil]; exact fun h hs => Sub.sat (by repeat (first | exact Sub.nil | refine Sub.cons (by repeat first | exact .head | apply Pick.tail) ?_)) hs)
      |(rw [goodAt_succ hx, goodL_yes (hac (by assumption)) (Decidable.not_not.1 (fun q => absurd (hn.neg.2 q) (by omega)))]; exact good_pack (gv := .slice (some ⟨g, 0, none⟩) (gxs.length + 1) c) (xs := gxs ++ [(c', xa, xn, xk)]) (by repeat (first | exact Sub.nil | refine Sub.cons (by repeat first | exact .head | apply Pick.tail) ?_)) (by rw [List.map_append, hgx]; rfl))
     ·refine W.skip (endR.go (bl_t.2 hlt) ?_)
      first
      |(rw [goodAt_succ hx, goodL_no hac (.inl (Decidable.not_not.1 (by assumption))), List.append_nil]; exact fun h hs => Sub.sat (by repeat (first | exact Sub.nil | refine Sub.cons (by repeat first | exact .head | apply Pick.tail) ?_)) hs)
      |(rw [goodAt_succ hx, goodL_no hac (.inr (hn.neg.1 (by omega))), List.append_nil]; exact fun h hs => Sub.sat (by repeat (first | exact Sub.nil | refine Sub.cons (by repeat first | exact .head | apply Pick.tail) ?_)) hs)
      |(rw [goodAt_succ hx, goodL_yes (hac (by assumption)) (Decidable.not_not.1 (fun q => absurd (hn.neg.2 q) (by omega)))]; exact good_pack (gv := .slice (some ⟨g, 0, none⟩) (gxs.length + 1) c) (xs := gxs ++ [(c', xa, xn, xk)]) (by repeat (first | exact Sub.nil | refine Sub.cons (by repeat first | exact .head | apply Pick.tail) ?_)) (by rw [List.map_append, hgx]; rfl))
    ·refine WO.no rfl rfl (WO.no rfl rfl (WO.no rfl rfl (WO.no rfl rfl (WO.p rfl rfl (WO.nil (W.cond_f rfl (W.skip (endR.go (bl_t.2 hlt) ?_))))))))
     first
     |(rw [goodAt_succ hx, goodL_no hac (.inl (Decidable.not_not.1 (by assumption))), List.append_nil]; exact fun h hs => Sub.sat (by repeat (first | exact Sub.nil | refine Sub.cons (by repeat first | exact .head | apply Pick.tail) ?_)) hs)
     |(rw [goodAt_succ hx, goodL_no hac (.inr (hn.neg.1 (by omega))), List.append_nil]; exact fun h hs => Sub.sat (by repeat (first | exact Sub.nil | refine Sub.cons (by repeat first | exact .head | apply Pick.tail) ?_)) hs)
     |(rw [goodAt_succ hx, goodL_yes (hac (by assumption)) (Decidable.not_not.1 (fun q => absurd (hn.neg.2 q) (by omega)))]; exact good_pack (gv := .slice (some ⟨g, 0, none⟩) (gxs.length + 1) c) (xs := gxs ++ [(c', xa, xn, xk)]) (by repeat (first | exact Sub.nil | refine Sub.cons (by repeat first | exact .head | apply Pick.tail) ?_)) (by rw [List.map_append, hgx]; rfl))
   ·intro hAll
    rw [goodAt_end, ← goodAt_0 (ofL l rim) (k + 1)]
    refine W.region (WO.p rfl rfl (WO.ar rfl rfl rfl (by unfold in64; omega) rfl (WO.p rfl rfl (WO.nil ?_))))
    refine' ⟨k + 1, ?hp, ?hmu, ⟨rfl, rfl, rfl, rfl, trivial⟩, ?hS⟩
    case hS => repeat (first | exact Sub.nil | refine Sub.cons (by repeat first | exact .head | apply Pick.tail) ?_)
    case hp => omega
    case hmu => omega
   ·intro hStop
    exfalso; omega
  ·refine W.exit (blk_same ?_)
   obtain rfl : rim.length = k := by omega
   rw [goodAt_0]
   refine W.chgE (good_open (b := b4) (cs := goodTo (ofL l rim) rim.length) (by repeat first | exact .head | apply Pick.tail)) ?_
   rintro ⟨gv, gxs⟩ hgx
   refine W.fact (OwE.formCap (enc := encG) (e := 118) (sz := 6) (v := gv) (xs := gxs) (by repeat first | exact .head | apply Pick.tail)) (fun hfc => ?_)
   obtain ⟨ga, gc, rfl, hgc⟩ := hfc
   rw [← hSl] at hgx
   have hg0 : 0 < gxs.length := by obtain ⟨c0, hc0, _⟩ := good_sm hSok hS0 (by omega); rw [← List.length_map (f := fun x : Rng => x.1), hgx]; exact List.length_pos_of_mem hc0
   have hgk : ∀ y ∈ gxs, OkC y.1 := fun y hy => goodTo_ok hSok (by omega) _ (hgx ▸ List.mem_map_of_mem hy)
   refine W.sreg (WO.load rfl rfl (Cell.own Pick.head rfl) rfl (WO.callE rfl Tryz.call176 (fun L w hi => c_first w ga gc gxs (RdF.of_ow (e := 118) encG_ok (by repeat first | exact .head | apply Pick.tail) hi) hgc hg0 hgk) rfl ?_))
   rintro _ ⟨y, hy, rfl⟩
   refine WO.storeA rfl rfl rfl rfl (Pick.tail (Pick.tail (Pick.tail (Pick.tail (Pick.head))))) rfl rfl (WO.nil (W.ret (fin.ret (Res.one rfl (RV.cell rfl rfl rfl (Cells.own (by repeat first | exact .head | apply Pick.tail)))) ?_)))
   rw [← first_lst hSok hS0 (by omega) hgx hy]; exact ⟨_, _, _, rfl⟩
end Go.Proofs.YtnehaifgcegemaaGreat.Tu
namespace Go.Proofs.YtnehaifgcegemaaGreat.Tu
open Go Go.TH
attribute [local irreducible] W WO pt
set_option maxRecDepth 10000
set_option maxHeartbeats 1000000
def okI (n : Nat) (rim : List Int) (i : Nat) : Prop := 0 ≤ rim.getD i 0 ∧ rim.getD i 0 < n ∧ (0 < i → rim.getD (i - 1) 0 < rim.getD i 0)
instance (n : Nat) (rim : List Int) (i : Nat) : Decidable (okI n rim i) := by unfold okI; infer_instance
def OkRim (n : Nat) (rim : List Int) : Prop := ∀ i, i < rim.length → okI n rim i
instance (n : Nat) (rim : List Int) : Decidable (OkRim n rim) := by unfold OkRim; infer_instance
def crE (l : Pts) (rim : List Int) : Int := if chkL l = 0 then (if rim.length < 1 ∨ 3 < rim.length then 6 else if OkRim l.length rim then 0 else 3) else chkL l
def crC (l : Pts) (rim : List Int) : Cir := if crE l rim = 0 then lst (ofL l rim) else c00
def crV (l : Pts) (rim : List Int) : Value := .tuple #[cirV (crC l rim), .int .i64 (crE l rim)]
theorem crV_c {l : Pts} {rim : List Int} (h : chkL l ≠ 0) : crV l rim = .tuple #[cirV c00, .int .i64 (chkL l)] := by
 have e : crE l rim = chkL l := by unfold crE; rw [if_neg h]
 unfold crV crC; rw [e, if_neg h]
theorem crV_6 {l : Pts} {rim : List Int} (h : chkL l = 0) (hl : rim.length < 1 ∨ 3 < rim.length) : crV l rim = .tuple #[cirV c00, .int .i64 6] := by
 have e : crE l rim = 6 := by unfold crE; rw [if_pos h, if_pos hl]
 unfold crV crC; rw [e]; rfl
theorem crV_3 {l : Pts} {rim : List Int} (h : chkL l = 0) (hl : ¬ (rim.length < 1 ∨ 3 < rim.length)) {i : Nat} (hi : i < rim.length) (hn : ¬ okI l.length rim i) : crV l rim = .tuple #[cirV c00, .int .i64 3] := by
 have e : crE l rim = 3 := by unfold crE; rw [if_pos h, if_neg hl, if_neg (fun g => hn (g i hi))]
 unfold crV crC; rw [e]; rfl
theorem crV_0 {l : Pts} {rim : List Int} (h : chkL l = 0) (hl : ¬ (rim.length < 1 ∨ 3 < rim.length)) (ho : OkRim l.length rim) : crV l rim = .tuple #[cirV (lst (ofL l rim)), .int .i64 0] := by
 have e : crE l rim = 0 := by unfold crE; rw [if_pos h, if_neg hl, if_pos ho]
 unfold crV crC; rw [e]; rfl
theorem OkRim.rm {n : Nat} {rim : List Int} (h : OkRim n rim) (hl : ¬ (rim.length < 1 ∨ 3 < rim.length)) : Rm n rim := ⟨by omega, fun x hx => by
 obtain ⟨i, hi, rfl⟩ := List.getElem_of_mem hx
 have := h i hi
 unfold okI at this
 rw [show rim.getD i 0 = rim[i] by simp [hi]] at this
 exact ⟨this.1, this.2.1⟩⟩
def last1 (rim : List Int) (i : Nat) : Int := if i = 0 then -1 else rim.getD (i - 1) 0
theorem last1_succ (rim : List Int) (i : Nat) : last1 rim (i + 1) = rim.getD i 0 := by unfold last1; rw [if_neg (by omega), Nat.add_sub_cancel]
theorem okI_iff {n : Nat} {rim : List Int} {i : Nat} (hp : ∀ j, j < i → okI n rim j) : okI n rim i ↔ last1 rim i < rim.getD i 0 ∧ rim.getD i 0 < n := by
 unfold okI last1
 split
 ·rename_i h; subst h; omega
 ·rename_i h
  have := (hp (i - 1) (by omega)).1
  omega
theorem okI_succ {n : Nat} {rim : List Int} {i : Nat} (hp : ∀ j, j < i → okI n rim j) (h : okI n rim i) : ∀ j, j < i + 1 → okI n rim j := fun j hj => by
 rcases Nat.lt_or_ge j i with g | g
 ·exact hp j g
 ·obtain rfl : j = i := by omega
  exact h
theorem c_CheckRim (w : World) (v o : Value) (l : Pts) (rim : List Int) (hR : RdF encP 2 w.heap.size w v l) (hI : RdF encI 1 w.heap.size w o rim) : Ret Tryz.prog 39 [v, o].toArray w (crV l rim) := by
 refine Ret.of mixed tyTab Tryz.func39 rfl rfl ?_
 replace hR : RdF encP 2 (fnCx mixed tyTab Tryz.f39.ntmps w).B (fnCx mixed tyTab Tryz.f39.ntmps w).w0 v l := hR
 replace hI : RdF encI 1 (fnCx mixed tyTab Tryz.f39.ntmps w).B (fnCx mixed tyTab Tryz.f39.ntmps w).w0 o rim := hI
 have hle := hR.sl.le
 have hle2 := hI.sl.le
 refine W.sreg (WO.alloc rfl rfl rfl (fun b1 hb1 => (WO.p rfl rfl (WO.nil (W.seq (W.sreg (WO.p rfl rfl (WO.callR rfl Tryz.call61 (fun L w hi => c_CheckTrack w v l (hR.later hi)) rfl (WO.p rfl rfl (WO.nil (W.sreg (WO.p rfl rfl (WO.p rfl rfl (WO.nil ?_))))))))))))))
 refine W.cond_bl rfl (fun c1 => ?_) (fun c1 => ?_)
 ·refine W.sreg (WO.build rfl rfl rfl rfl rfl (WO.p rfl rfl (WO.storeA rfl rfl rfl rfl Pick.head rfl rfl (WO.p rfl rfl (WO.nil (W.ret (fin.ret (Res.two rfl (RV.cell rfl rfl rfl (Cells.own (by repeat first | exact .head | apply Pick.tail))) (RV.tmp rfl)) ?_)))))))
  first | exact (crV_c (by assumption)).symm | exact (crV_6 (by omega) (by omega)).symm | exact (crV_3 (i := i) (by omega) (by omega) (by omega) (fun g => by have := hoi.1 g; omega)).symm | exact (crV_0 (by omega) (by omega) hal).symm
 ·refine W.skip (W.seq (W.sreg (WO.p rfl rfl (WO.len rfl rfl hI.sl rfl (WO.p rfl rfl (WO.p rfl rfl ?_))))))
  refine WO.guard_bl rfl rfl (fun c2 => ?_) (fun c2 => ?_)
  ·refine WO.no rfl rfl (WO.no rfl rfl (WO.no rfl rfl (WO.p rfl rfl (WO.nil (W.cond_t rfl (W.sreg (WO.build rfl rfl rfl rfl rfl (WO.storeA rfl rfl rfl rfl Pick.head rfl rfl (WO.p rfl rfl (WO.nil (W.ret (fin.ret (Res.two rfl (RV.cell rfl rfl rfl (Cells.own (by repeat first | exact .head | apply Pick.tail))) (RV.tmp rfl)) ?_))))))))))))
   first | exact (crV_c (by assumption)).symm | exact (crV_6 (by omega) (by omega)).symm | exact (crV_3 (i := i) (by omega) (by omega) (by omega) (fun g => by have := hoi.1 g; omega)).symm | exact (crV_0 (by omega) (by omega) hal).symm
  ·refine WO.pg rfl rfl rfl (WO.go' rfl (WO.len rfl rfl hI.sl rfl (WO.pg rfl rfl rfl (WO.p rfl rfl (WO.nil ?_)))))
   refine W.cond_bl rfl (fun c3 => ?_) (fun c3 => ?_)
   ·refine W.sreg (WO.build rfl rfl rfl rfl rfl (WO.storeA rfl rfl rfl rfl Pick.head rfl rfl (WO.p rfl rfl (WO.nil (W.ret (fin.ret (Res.two rfl (RV.cell rfl rfl rfl (Cells.own (by repeat first | exact .head | apply Pick.tail))) (RV.tmp rfl)) ?_))))))
    first | exact (crV_c (by assumption)).symm | exact (crV_6 (by omega) (by omega)).symm | exact (crV_3 (i := i) (by omega) (by omega) (by omega) (fun g => by have := hoi.1 g; omega)).symm | exact (crV_0 (by omega) (by omega) hal).symm
   ·refine W.skip (W.sreg (WO.p rfl rfl (WO.nil (W.seq (W.sreg (WO.p rfl rfl (WO.len rfl rfl hI.sl rfl (WO.p rfl rfl (WO.nil (W.block ?_))))))))))
    refine W.loop (fun (i : Nat) => i ≤ rim.length ∧ ∀ j, j < i → okI l.length rim j)
     (fun (i : Nat) => [(27, .int .i64 (i : Int)), (26, .int .i64 (rim.length : Int)), (25, o), (7, .int .i64 (last1 rim i)), (4, .pointer (some ⟨b1, 0, none⟩)), (1, o), (0, v)])
     (fun (i : Nat) => [pt b1 (.cells #[.int .i64 0, .int .i64 0, .int .i64 0, .int .i64 0, .int .i64 0] 54 (0, 0))])
     (fun (i : Nat) => rim.length - i) 0
     (by exact ⟨by omega, fun j hj => by omega⟩) ⟨rfl, rfl, rfl, rfl, rfl, rfl, rfl, trivial⟩ (by repeat (first | exact Sub.nil | refine Sub.cons (by repeat first | exact .head | apply Pick.tail) ?_)) ?_
    rintro i ⟨hi0, hal⟩
    have hoi := okI_iff hal
    have hls := last1_succ rim i
    have hok := chkL0.1 (show chkL l = 0 by omega)
    refine W.sreg (WO.p rfl rfl (WO.nil (W.seq ?_)))
    refine W.cond_bl rfl (fun c4 => ?_) (fun c4 => ?_)
    ·refine W.skip (W.seq (W.block (W.sreg (WO.indexAddr rfl rfl rfl hI.sl (by first | omega | (simp; omega)) rfl ?_))))
     refine' WO.load (v := _) rfl rfl ?hc rfl ?_
     case hc => (first | (refine hI.cell0 (i := i) ?_ 0 ?_ <;> first | rfl | omega))
     refine WO.p rfl rfl (WO.nil (W.seq (W.sreg (WO.p rfl rfl (WO.p rfl rfl (WO.p rfl rfl (WO.p rfl rfl ?_)))))))
     refine WO.guard_bl rfl rfl (fun c5 => ?_) (fun c5 => ?_)
     ·refine WO.no rfl rfl (WO.no rfl rfl (WO.no rfl rfl (WO.no rfl rfl (WO.p rfl rfl (WO.nil (W.cond_t rfl (W.sreg (WO.build rfl rfl rfl rfl rfl (WO.storeA rfl rfl rfl rfl Pick.head rfl rfl (WO.p rfl rfl (WO.nil (W.ret (fin.ret (Res.two rfl (RV.cell rfl rfl rfl (Cells.own (by repeat first | exact .head | apply Pick.tail))) (RV.tmp rfl)) ?_)))))))))))))
      first | exact (crV_c (by assumption)).symm | exact (crV_6 (by omega) (by omega)).symm | exact (crV_3 (i := i) (by omega) (by omega) (by omega) (fun g => by have := hoi.1 g; omega)).symm | exact (crV_0 (by omega) (by omega) hal).symm
     ·refine WO.pg rfl rfl rfl (WO.pg rfl rfl rfl (WO.go' rfl (WO.len rfl rfl hR.sl rfl (WO.pg rfl rfl rfl (WO.p rfl rfl (WO.nil ?_))))))
      refine W.cond_bl rfl (fun c6 => ?_) (fun c6 => ?_)
      ·refine W.sreg (WO.build rfl rfl rfl rfl rfl (WO.storeA rfl rfl rfl rfl Pick.head rfl rfl (WO.p rfl rfl (WO.nil (W.ret (fin.ret (Res.two rfl (RV.cell rfl rfl rfl (Cells.own (by repeat first | exact .head | apply Pick.tail))) (RV.tmp rfl)) ?_))))))
       first | exact (crV_c (by assumption)).symm | exact (crV_6 (by omega) (by omega)).symm | exact (crV_3 (i := i) (by omega) (by omega) (by omega) (fun g => by have := hoi.1 g; omega)).symm | exact (crV_0 (by omega) (by omega) hal).symm
      ·refine W.skip ?_
       rw [← hls]
       refine W.region (WO.p rfl rfl (WO.p rfl rfl (WO.nil (W.region (WO.ar rfl rfl rfl (by unfold in64; omega) rfl (WO.p rfl rfl (WO.nil ?_)))))))
       refine' ⟨i + 1, ?hp, ?hmu, ⟨rfl, rfl, rfl, rfl, rfl, rfl, rfl, trivial⟩, ?hS⟩
       case hS => repeat (first | exact Sub.nil | refine Sub.cons (by repeat first | exact .head | apply Pick.tail) ?_)
       case hp => exact ⟨by omega, okI_succ hal (hoi.2 ⟨by omega, by omega⟩)⟩
       case hmu => omega
    ·refine W.exit (blk_same ?_)
     obtain rfl : rim.length = i := by omega
     refine W.sreg (WO.p rfl rfl (WO.call (Post := fun r Hq => Hq = [OwE encP 152 2 r l]) rfl Tryz.call63 (fun L w hi => c_points w v l (hR.later hi) (by omega)) rfl ?_))
     rintro pv _ rfl
     refine WO.p rfl rfl (WO.callE rfl Tryz.call88 (fun L w hi => c_proved w pv o l rim (RdF.of_ow (e := 152) encP_ok (by repeat first | exact .head | apply Pick.tail) hi) (hI.later hi) hok.2 (OkRim.rm hal (by omega))) rfl ?_)
     rintro _ ⟨a, n, k, rfl⟩
     refine WO.fieldN rfl rfl rfl rfl rfl (WO.storeA rfl rfl rfl rfl (Pick.tail (Pick.head)) rfl rfl (WO.p rfl rfl (WO.nil (W.ret (fin.ret (Res.two rfl (RV.cell rfl rfl rfl (Cells.own (by repeat first | exact .head | apply Pick.tail))) (RV.tmp rfl)) ?_)))))
     first | exact (crV_c (by assumption)).symm | exact (crV_6 (by omega) (by omega)).symm | exact (crV_3 (i := i) (by omega) (by omega) (by omega) (fun g => by have := hoi.1 g; omega)).symm | exact (crV_0 (by omega) (by omega) hal).symm
end Go.Proofs.YtnehaifgcegemaaGreat.Tu
namespace Go.TX
open Go Go.TH
structure N16 (α : Type) where
 (a0 a1 a2 a3 a4 a5 a6 a7 a8 a9 aa ab ac ad ae af : α)
def N16.all {α : Type} (x : α) : N16 α := ⟨x, x, x, x, x, x, x, x, x, x, x, x, x, x, x, x⟩
structure Sel (α β : Type) where
 g : N16 α → α
 s : N16 α → α → (N16 α → β) → β
noncomputable def slt0 (α β : Type) : Sel α β := ⟨fun x => x.a0, fun x v k => N16.rec (motive := fun _ => α → (N16 α → β) → β) (fun a0 a1 a2 a3 a4 a5 a6 a7 a8 a9 aa ab ac ad ae af v k => k ⟨v, a1, a2, a3, a4, a5, a6, a7, a8, a9, aa, ab, ac, ad, ae, af⟩) x v k⟩
noncomputable def slt1 (α β : Type) : Sel α β := ⟨fun x => x.a1, fun x v k => N16.rec (motive := fun _ => α → (N16 α → β) → β) (fun a0 a1 a2 a3 a4 a5 a6 a7 a8 a9 aa ab ac ad ae af v k => k ⟨a0, v, a2, a3, a4, a5, a6, a7, a8, a9, aa, ab, ac, ad, ae, af⟩) x v k⟩
noncomputable def slt2 (α β : Type) : Sel α β := ⟨fun x => x.a2, fun x v k => N16.rec (motive := fun _ => α → (N16 α → β) → β) (fun a0 a1 a2 a3 a4 a5 a6 a7 a8 a9 aa ab ac ad ae af v k => k ⟨a0, a1, v, a3, a4, a5, a6, a7, a8, a9, aa, ab, ac, ad, ae, af⟩) x v k⟩
noncomputable def slt3 (α β : Type) : Sel α β := ⟨fun x => x.a3, fun x v k => N16.rec (motive := fun _ => α → (N16 α → β) → β) (fun a0 a1 a2 a3 a4 a5 a6 a7 a8 a9 aa ab ac ad ae af v k => k ⟨a0, a1, a2, v, a4, a5, a6, a7, a8, a9, aa, ab, ac, ad, ae, af⟩) x v k⟩
noncomputable def slt4 (α β : Type) : Sel α β := ⟨fun x => x.a4, fun x v k => N16.rec (motive := fun _ => α → (N16 α → β) → β) (fun a0 a1 a2 a3 a4 a5 a6 a7 a8 a9 aa ab ac ad ae af v k => k ⟨a0, a1, a2, a3, v, a5, a6, a7, a8, a9, aa, ab, ac, ad, ae, af⟩) x v k⟩
noncomputable def slt5 (α β : Type) : Sel α β := ⟨fun x => x.a5, fun x v k => N16.rec (motive := fun _ => α → (N16 α → β) → β) (fun a0 a1 a2 a3 a4 a5 a6 a7 a8 a9 aa ab ac ad ae af v k => k ⟨a0, a1, a2, a3, a4, v, a6, a7, a8, a9, aa, ab, ac, ad, ae, af⟩) x v k⟩
noncomputable def slt6 (α β : Type) : Sel α β := ⟨fun x => x.a6, fun x v k => N16.rec (motive := fun _ => α → (N16 α → β) → β) (fun a0 a1 a2 a3 a4 a5 a6 a7 a8 a9 aa ab ac ad ae af v k => k ⟨a0, a1, a2, a3, a4, a5, v, a7, a8, a9, aa, ab, ac, ad, ae, af⟩) x v k⟩
noncomputable def slt7 (α β : Type) : Sel α β := ⟨fun x => x.a7, fun x v k => N16.rec (motive := fun _ => α → (N16 α → β) → β) (fun a0 a1 a2 a3 a4 a5 a6 a7 a8 a9 aa ab ac ad ae af v k => k ⟨a0, a1, a2, a3, a4, a5, a6, v, a8, a9, aa, ab, ac, ad, ae, af⟩) x v k⟩
noncomputable def slt8 (α β : Type) : Sel α β := ⟨fun x => x.a8, fun x v k => N16.rec (motive := fun _ => α → (N16 α → β) → β) (fun a0 a1 a2 a3 a4 a5 a6 a7 a8 a9 aa ab ac ad ae af v k => k ⟨a0, a1, a2, a3, a4, a5, a6, a7, v, a9, aa, ab, ac, ad, ae, af⟩) x v k⟩
noncomputable def slt9 (α β : Type) : Sel α β := ⟨fun x => x.a9, fun x v k => N16.rec (motive := fun _ => α → (N16 α → β) → β) (fun a0 a1 a2 a3 a4 a5 a6 a7 a8 a9 aa ab ac ad ae af v k => k ⟨a0, a1, a2, a3, a4, a5, a6, a7, a8, v, aa, ab, ac, ad, ae, af⟩) x v k⟩
noncomputable def slta (α β : Type) : Sel α β := ⟨fun x => x.aa, fun x v k => N16.rec (motive := fun _ => α → (N16 α → β) → β) (fun a0 a1 a2 a3 a4 a5 a6 a7 a8 a9 aa ab ac ad ae af v k => k ⟨a0, a1, a2, a3, a4, a5, a6, a7, a8, a9, v, ab, ac, ad, ae, af⟩) x v k⟩
noncomputable def sltb (α β : Type) : Sel α β := ⟨fun x => x.ab, fun x v k => N16.rec (motive := fun _ => α → (N16 α → β) → β) (fun a0 a1 a2 a3 a4 a5 a6 a7 a8 a9 aa ab ac ad ae af v k => k ⟨a0, a1, a2, a3, a4, a5, a6, a7, a8, a9, aa, v, ac, ad, ae, af⟩) x v k⟩
noncomputable def sltc (α β : Type) : Sel α β := ⟨fun x => x.ac, fun x v k => N16.rec (motive := fun _ => α → (N16 α → β) → β) (fun a0 a1 a2 a3 a4 a5 a6 a7 a8 a9 aa ab ac ad ae af v k => k ⟨a0, a1, a2, a3, a4, a5, a6, a7, a8, a9, aa, ab, v, ad, ae, af⟩) x v k⟩
noncomputable def sltd (α β : Type) : Sel α β := ⟨fun x => x.ad, fun x v k => N16.rec (motive := fun _ => α → (N16 α → β) → β) (fun a0 a1 a2 a3 a4 a5 a6 a7 a8 a9 aa ab ac ad ae af v k => k ⟨a0, a1, a2, a3, a4, a5, a6, a7, a8, a9, aa, ab, ac, v, ae, af⟩) x v k⟩
noncomputable def slte (α β : Type) : Sel α β := ⟨fun x => x.ae, fun x v k => N16.rec (motive := fun _ => α → (N16 α → β) → β) (fun a0 a1 a2 a3 a4 a5 a6 a7 a8 a9 aa ab ac ad ae af v k => k ⟨a0, a1, a2, a3, a4, a5, a6, a7, a8, a9, aa, ab, ac, ad, v, af⟩) x v k⟩
noncomputable def sltf (α β : Type) : Sel α β := ⟨fun x => x.af, fun x v k => N16.rec (motive := fun _ => α → (N16 α → β) → β) (fun a0 a1 a2 a3 a4 a5 a6 a7 a8 a9 aa ab ac ad ae af v k => k ⟨a0, a1, a2, a3, a4, a5, a6, a7, a8, a9, aa, ab, ac, ad, ae, v⟩) x v k⟩
noncomputable def sel (α β : Type) (n : Nat) : Sel α β := Nat.rec (motive := fun _ => Sel α β) (slt0 α β) (fun n _ => Nat.rec (motive := fun _ => Sel α β) (slt1 α β) (fun n _ => Nat.rec (motive := fun _ => Sel α β) (slt2 α β) (fun n _ => Nat.rec (motive := fun _ => Sel α β) (slt3 α β) (fun n _ => Nat.rec (motive := fun _ => Sel α β) (slt4 α β) (fun n _ => Nat.rec (motive := fun _ => Sel α β) (slt5 α β) (fun n _ => Nat.rec (motive := fun _ => Sel α β) (slt6 α β) (fun n _ => Nat.rec (motive := fun _ => Sel α β) (slt7 α β) (fun n _ => Nat.rec (motive := fun _ => Sel α β) (slt8 α β) (fun n _ => Nat.rec (motive := fun _ => Sel α β) (slt9 α β) (fun n _ => Nat.rec (motive := fun _ => Sel α β) (slta α β) (fun n _ => Nat.rec (motive := fun _ => Sel α β) (sltb α β) (fun n _ => Nat.rec (motive := fun _ => Sel α β) (sltc α β) (fun n _ => Nat.rec (motive := fun _ => Sel α β) (sltd α β) (fun n _ => Nat.rec (motive := fun _ => Sel α β) (slte α β) (fun n _ => sltf α β) n) n) n) n) n) n) n) n) n) n) n) n) n) n) n
theorem sel_cases {p : Nat → Prop} (h0 : p 0) (h1 : p 1) (h2 : p 2) (h3 : p 3) (h4 : p 4) (h5 : p 5) (h6 : p 6) (h7 : p 7) (h8 : p 8) (h9 : p 9) (h10 : p 10) (h11 : p 11) (h12 : p 12) (h13 : p 13) (h14 : p 14) (h15 : p 15) : ∀ i, i < 16 → p i
 | 0, _ => h0
 | 1, _ => h1
 | 2, _ => h2
 | 3, _ => h3
 | 4, _ => h4
 | 5, _ => h5
 | 6, _ => h6
 | 7, _ => h7
 | 8, _ => h8
 | 9, _ => h9
 | 10, _ => h10
 | 11, _ => h11
 | 12, _ => h12
 | 13, _ => h13
 | 14, _ => h14
 | 15, _ => h15
 | n + 16, h => absurd h (by omega)
theorem sel_s {α β : Type} (x : N16 α) (v : α) (k : N16 α → β) : ∀ i, i < 16 → (sel α β i).s x v k = k ((sel α (N16 α) i).s x v id) := by
 refine sel_cases ?_ ?_ ?_ ?_ ?_ ?_ ?_ ?_ ?_ ?_ ?_ ?_ ?_ ?_ ?_ ?_ <;> rfl
theorem sel_gs {α : Type} (β : Type) (x : N16 α) (v : α) : ∀ i, i < 16 → ∀ j, j < 16 → (sel α β j).g ((sel α (N16 α) i).s x v id) = if j = i then v else (sel α β j).g x := by
 refine sel_cases ?_ ?_ ?_ ?_ ?_ ?_ ?_ ?_ ?_ ?_ ?_ ?_ ?_ ?_ ?_ ?_ <;> refine sel_cases ?_ ?_ ?_ ?_ ?_ ?_ ?_ ?_ ?_ ?_ ?_ ?_ ?_ ?_ ?_ ?_ <;> rfl
theorem sel_all {α : Type} (β : Type) (x : α) : ∀ i, i < 16 → (sel α β i).g (N16.all x) = x := by
 refine sel_cases ?_ ?_ ?_ ?_ ?_ ?_ ?_ ?_ ?_ ?_ ?_ ?_ ?_ ?_ ?_ ?_ <;> rfl
inductive Ob (α : Type) where
 | lf
 | nd (v : Option α) (l r : Ob α)
namespace Ob
variable {α : Type}
def get : Ob α → Nat → Option α
 | .lf, _ => none
 | .nd v l r, n => match n with
  | 0 => v
  | m + 1 => bif Nat.beq (m % 2) 0 then l.get (m / 2) else r.get (m / 2)
def one (x : Option α) : Nat → Nat → Ob α
 | 0, _ => .lf
 | f + 1, n => match n with
  | 0 => .nd x .lf .lf
  | m + 1 => bif Nat.beq (m % 2) 0 then .nd none (one x f (m / 2)) .lf else .nd none .lf (one x f (m / 2))
def set : Ob α → Nat → Option α → Ob α
 | .lf, n, x => one x (n + 1) n
 | .nd v l r, n, x => match n with
  | 0 => .nd x l r
  | m + 1 => bif Nat.beq (m % 2) 0 then .nd v (l.set (m / 2) x) r else .nd v l (r.set (m / 2) x)
theorem get_lf (n : Nat) : (lf : Ob α).get n = none := rfl
theorem get_one (x : Option α) : ∀ (f n k : Nat), n < f → (one x f n).get k = if k = n then x else none
 | 0, _, _, h => by omega
 | f + 1, n, k, h => by
  cases n with
  | zero => cases k <;> simp [one, get]
  | succ m =>
   simp only [one]
   have hm : m / 2 < f := by omega
   cases k with
   | zero => cases hb : Nat.beq (m % 2) 0 <;> simp [get]
   | succ j =>
    cases hb : Nat.beq (m % 2) 0 <;> cases hj : Nat.beq (j % 2) 0 <;> simp only [cond_true, cond_false, get, hj]
    ·rw [get_one x f _ _ hm]
     have hb' : m % 2 ≠ 0 := fun e => by rw [e] at hb; cases hb
     have hj' : j % 2 ≠ 0 := fun e => by rw [e] at hj; cases hj
     by_cases e : j = m
     ·subst e; simp
     ·rw [if_neg (by omega), if_neg (by omega)]
    ·rw [if_neg]
     intro e
     have : j = m := by omega
     subst this; rw [hb] at hj; cases hj
    ·rw [if_neg]
     intro e
     have : j = m := by omega
     subst this; rw [hb] at hj; cases hj
    ·rw [get_one x f _ _ hm]
     have hb' : m % 2 = 0 := Nat.eq_of_beq_eq_true hb
     have hj' : j % 2 = 0 := Nat.eq_of_beq_eq_true hj
     by_cases e : j = m
     ·subst e; simp
     ·rw [if_neg (by omega), if_neg (by omega)]
theorem get_set : ∀ (t : Ob α) (n k : Nat) (x : Option α), (t.set n x).get k = if k = n then x else t.get k
 | .lf, n, k, x => by rw [set, get_one x (n + 1) n k (by omega)]; simp [get]
 | .nd v l r, n, k, x => by
  cases n with
  | zero => cases k <;> simp [set, get]
  | succ m =>
   cases k with
   | zero => cases hb : Nat.beq (m % 2) 0 <;> simp [set, get, hb]
   | succ j =>
    simp only [set]
    cases hb : Nat.beq (m % 2) 0 <;> cases hj : Nat.beq (j % 2) 0 <;> simp only [cond_true, cond_false, get, hj]
    ·rw [get_set r]
     have hb' : m % 2 ≠ 0 := fun e => by rw [e] at hb; cases hb
     have hj' : j % 2 ≠ 0 := fun e => by rw [e] at hj; cases hj
     by_cases e : j = m
     ·subst e; simp
     ·rw [if_neg (by omega), if_neg (by omega)]
    ·rw [if_neg]
     intro e
     have : j = m := by omega
     subst this; rw [hb] at hj; cases hj
    ·rw [if_neg]
     intro e
     have : j = m := by omega
     subst this; rw [hb] at hj; cases hj
    ·rw [get_set l]
     have hb' : m % 2 = 0 := Nat.eq_of_beq_eq_true hb
     have hj' : j % 2 = 0 := Nat.eq_of_beq_eq_true hj
     by_cases e : j = m
     ·subst e; simp
     ·rw [if_neg (by omega), if_neg (by omega)]
end Ob
structure Tr (α : Type) where
 lo : N16 (N16 (Option α))
 hi : N16 (N16 (N16 (N16 (Option α))))
 up : Ob α
namespace Tr
variable {α β : Type}
def lf : Tr α := ⟨.all (.all none), .all (.all (.all (.all none))), .lf⟩
structure Acc (α β : Type) where
 g : Tr α → Option α
 s : Tr α → Option α → (Tr α → β) → β
noncomputable def acLo (x : Sel (N16 (Option α)) β) (y : Sel (Option α) β) : Acc α β := Sel.rec (motive := fun _ => Acc α β) (fun gx sx => Sel.rec (motive := fun _ => Acc α β) (fun gy sy => ⟨fun t => gy (gx t.lo), fun t v k => Tr.rec (motive := fun _ => Option α → (Tr α → β) → β) (fun lo hi up v k => sy (gx lo) v fun q => sx lo q fun lo' => k ⟨lo', hi, up⟩) t v k⟩) y) x
noncomputable def acHi (x : Sel (N16 (N16 (N16 (Option α)))) β) (y : Sel (N16 (N16 (Option α))) β) (z : Sel (N16 (Option α)) β) (u : Sel (Option α) β) : Acc α β := Sel.rec (motive := fun _ => Acc α β) (fun gx sx => Sel.rec (motive := fun _ => Acc α β) (fun gy sy => Sel.rec (motive := fun _ => Acc α β) (fun gz sz => Sel.rec (motive := fun _ => Acc α β) (fun gu su => ⟨fun t => gu (gz (gy (gx t.hi))), fun t v k => Tr.rec (motive := fun _ => Option α → (Tr α → β) → β) (fun lo hi up v k => su (gz (gy (gx hi))) v fun q => sz (gy (gx hi)) q fun q => sy (gx hi) q fun q => sx hi q fun hi' => k ⟨lo, hi', up⟩) t v k⟩) u) z) y) x
noncomputable def acUp (n : Nat) : Acc α β := ⟨fun t => t.up.get n, fun t v k => k ⟨t.lo, t.hi, t.up.set n v⟩⟩
noncomputable def acc (n : Nat) : Acc α β := Bool.rec (motive := fun _ => Acc α β) (Bool.rec (motive := fun _ => Acc α β) (acUp n) (acHi (sel _ _ (Nat.div n 4096)) (sel _ _ (Nat.mod (Nat.div n 256) 16)) (sel _ _ (Nat.mod (Nat.div n 16) 16)) (sel _ _ (Nat.mod n 16))) (Nat.ble (Nat.succ n) 65536)) (acLo (sel _ _ (Nat.div n 16)) (sel _ _ (Nat.mod n 16))) (Nat.ble (Nat.succ n) 256)
noncomputable def get (t : Tr α) (n : Nat) : Option α := Acc.rec (motive := fun _ => Option α) (fun g _ => g t) (acc (α := α) (β := Unit) n)
noncomputable def setK (t : Tr α) (n : Nat) (x : Option α) (k : Tr α → β) : β := Acc.rec (motive := fun _ => β) (fun _ s => s t x k) (acc n)
noncomputable def set (t : Tr α) (n : Nat) (x : Option α) : Tr α := setK t n x id
theorem acc_lo {n : Nat} (h : n < 256) : (acc n : Acc α β) = acLo (sel _ _ (n / 16)) (sel _ _ (n % 16)) := by
 have : Nat.ble (Nat.succ n) 256 = true := Nat.ble_eq.mpr h
 rw [acc, this]; rfl
theorem acc_hi {n : Nat} (h : ¬ n < 256) (h' : n < 65536) : (acc n : Acc α β) = acHi (sel _ _ (n / 4096)) (sel _ _ (n / 256 % 16)) (sel _ _ (n / 16 % 16)) (sel _ _ (n % 16)) := by
 have e : Nat.ble (Nat.succ n) 256 = false := Bool.eq_false_iff.2 (fun q => h (by have := Nat.ble_eq.mp q; omega))
 have e' : Nat.ble (Nat.succ n) 65536 = true := Nat.ble_eq.mpr h'
 rw [acc, e, e']; rfl
theorem acc_up {n : Nat} (h : ¬ n < 65536) : (acc n : Acc α β) = acUp n := by
 have e : Nat.ble (Nat.succ n) 256 = false := Bool.eq_false_iff.2 (fun q => h (by have := Nat.ble_eq.mp q; omega))
 have e' : Nat.ble (Nat.succ n) 65536 = false := Bool.eq_false_iff.2 (fun q => h (by have := Nat.ble_eq.mp q; omega))
 rw [acc, e, e']
theorem get_loE (t : Tr α) {n : Nat} (h : n < 256) : t.get n = (sel _ Unit (n % 16)).g ((sel _ Unit (n / 16)).g t.lo) := by
 unfold get; rw [acc_lo h]
 generalize sel (N16 (Option α)) Unit (n / 16) = X; generalize sel (Option α) Unit (n % 16) = Y; rfl
theorem get_hiE (t : Tr α) {n : Nat} (h : ¬ n < 256) (h' : n < 65536) : t.get n = (sel _ Unit (n % 16)).g ((sel _ Unit (n / 16 % 16)).g ((sel _ Unit (n / 256 % 16)).g ((sel _ Unit (n / 4096)).g t.hi))) := by
 unfold get; rw [acc_hi h h']
 generalize sel (N16 (N16 (N16 (Option α)))) Unit (n / 4096) = X; generalize sel (N16 (N16 (Option α))) Unit (n / 256 % 16) = Y; generalize sel (N16 (Option α)) Unit (n / 16 % 16) = Z; generalize sel (Option α) Unit (n % 16) = U; rfl
theorem get_upE (t : Tr α) {n : Nat} (h : ¬ n < 65536) : t.get n = t.up.get n := by unfold get; rw [acc_up h]; rfl
theorem get_any (t : Tr α) (n : Nat) : t.get n = (acc (α := α) (β := β) n).g t := by
 have hg : ∀ {δ : Type} (i : Nat), i < 16 → (sel δ Unit i).g = (sel δ β i).g := by
  intro δ
  refine sel_cases ?_ ?_ ?_ ?_ ?_ ?_ ?_ ?_ ?_ ?_ ?_ ?_ ?_ ?_ ?_ ?_ <;> rfl
 by_cases h : n < 256
 ·rw [get_loE t h, acc_lo h, hg _ (by omega), hg _ (by omega)]
  generalize sel (N16 (Option α)) β (n / 16) = X; generalize sel (Option α) β (n % 16) = Y; rfl
 ·by_cases h' : n < 65536
  ·rw [get_hiE t h h', acc_hi h h', hg _ (by omega), hg _ (by omega), hg _ (by omega), hg _ (by omega)]
   generalize sel (N16 (N16 (N16 (Option α)))) β (n / 4096) = X; generalize sel (N16 (N16 (Option α))) β (n / 256 % 16) = Y; generalize sel (N16 (Option α)) β (n / 16 % 16) = Z; generalize sel (Option α) β (n % 16) = U; rfl
  ·rw [get_upE t h', acc_up h']; rfl
theorem setK_loE (t : Tr α) {n : Nat} (x : Option α) (k : Tr α → β) (h : n < 256) : t.setK n x k = k ⟨(sel _ (N16 (N16 (Option α))) (n / 16)).s t.lo ((sel _ (N16 (Option α)) (n % 16)).s ((sel _ Unit (n / 16)).g t.lo) x id) id, t.hi, t.up⟩ := by
 unfold setK
 rw [acc_lo h]
 have hg : (sel (N16 (Option α)) β (n / 16)).g = (sel (N16 (Option α)) Unit (n / 16)).g := by
  have hg : ∀ {δ : Type} (i : Nat), i < 16 → (sel δ β i).g = (sel δ Unit i).g := by
   intro δ
   refine sel_cases ?_ ?_ ?_ ?_ ?_ ?_ ?_ ?_ ?_ ?_ ?_ ?_ ?_ ?_ ?_ ?_ <;> rfl
  exact hg _ (by omega)
 have hX := fun x v k => @sel_s (N16 (Option α)) β x v k (n / 16) (by omega)
 have hY := fun x v k => @sel_s (Option α) β x v k (n % 16) (by omega)
 rw [← hg]
 generalize sel (N16 (Option α)) β (n / 16) = X at *
 generalize sel (Option α) β (n % 16) = Y at *
 show Y.s (X.g t.lo) x _ = _
 rw [hY, hX]
theorem setK_hiE (t : Tr α) {n : Nat} (x : Option α) (k : Tr α → β) (h : ¬ n < 256) (h' : n < 65536) : t.setK n x k = k ⟨t.lo, (sel _ (N16 (N16 (N16 (N16 (Option α))))) (n / 4096)).s t.hi ((sel _ (N16 (N16 (N16 (Option α)))) (n / 256 % 16)).s ((sel _ Unit (n / 4096)).g t.hi) ((sel _ (N16 (N16 (Option α))) (n / 16 % 16)).s ((sel _ Unit (n / 256 % 16)).g ((sel _ Unit (n / 4096)).g t.hi)) ((sel _ (N16 (Option α)) (n % 16)).s ((sel _ Unit (n / 16 % 16)).g ((sel _ Unit (n / 256 % 16)).g ((sel _ Unit (n / 4096)).g t.hi))) x id) id) id) id, t.up⟩ := by
 unfold setK
 rw [acc_hi h h']
 have hg : ∀ {δ : Type} (i : Nat), i < 16 → (sel δ β i).g = (sel δ Unit i).g := by
  intro δ
  refine sel_cases ?_ ?_ ?_ ?_ ?_ ?_ ?_ ?_ ?_ ?_ ?_ ?_ ?_ ?_ ?_ ?_ <;> rfl
 have hX := fun x v k => @sel_s (N16 (N16 (N16 (Option α)))) β x v k (n / 4096) (by omega)
 have hY := fun x v k => @sel_s (N16 (N16 (Option α))) β x v k (n / 256 % 16) (by omega)
 have hZ := fun x v k => @sel_s (N16 (Option α)) β x v k (n / 16 % 16) (by omega)
 have hU := fun x v k => @sel_s (Option α) β x v k (n % 16) (by omega)
 rw [← hg (n / 4096) (by omega), ← hg (n / 256 % 16) (by omega), ← hg (n / 16 % 16) (by omega)]
 generalize sel (N16 (N16 (N16 (Option α)))) β (n / 4096) = X at *
 generalize sel (N16 (N16 (Option α))) β (n / 256 % 16) = Y at *
 generalize sel (N16 (Option α)) β (n / 16 % 16) = Z at *
 generalize sel (Option α) β (n % 16) = U at *
 show U.s (Z.g (Y.g (X.g t.hi))) x _ = _
 rw [hU, hZ, hY, hX]
theorem setK_eq (t : Tr α) (n : Nat) (x : Option α) (k : Tr α → β) : t.setK n x k = k (t.set n x) := by
 unfold set
 by_cases h : n < 256
 ·rw [setK_loE t x k h, setK_loE t x id h]; rfl
 ·by_cases h' : n < 65536
  ·rw [setK_hiE t x k h h', setK_hiE t x id h h']; rfl
  ·unfold setK; rw [acc_up h', acc_up h']; rfl
theorem set_loE (t : Tr α) {n : Nat} (x : Option α) (h : n < 256) : t.set n x = ⟨(sel _ _ (n / 16)).s t.lo ((sel _ _ (n % 16)).s ((sel _ Unit (n / 16)).g t.lo) x id) id, t.hi, t.up⟩ := setK_loE t x id h
theorem set_hiE (t : Tr α) {n : Nat} (x : Option α) (h : ¬ n < 256) (h' : n < 65536) : t.set n x = ⟨t.lo, (sel _ _ (n / 4096)).s t.hi ((sel _ _ (n / 256 % 16)).s ((sel _ Unit (n / 4096)).g t.hi) ((sel _ _ (n / 16 % 16)).s ((sel _ Unit (n / 256 % 16)).g ((sel _ Unit (n / 4096)).g t.hi)) ((sel _ _ (n % 16)).s ((sel _ Unit (n / 16 % 16)).g ((sel _ Unit (n / 256 % 16)).g ((sel _ Unit (n / 4096)).g t.hi))) x id) id) id) id, t.up⟩ := setK_hiE t x id h h'
theorem set_upE (t : Tr α) {n : Nat} (x : Option α) (h : ¬ n < 65536) : t.set n x = ⟨t.lo, t.hi, t.up.set n x⟩ := by
 unfold set setK
 rw [acc_up h]; rfl
theorem get_lf (n : Nat) : (lf : Tr α).get n = none := by
 by_cases h : n < 256
 ·rw [get_loE _ h]
  show (sel _ Unit (n % 16)).g ((sel _ Unit (n / 16)).g (.all (.all none))) = none
  rw [sel_all _ _ _ (by omega), sel_all _ _ _ (by omega)]
 ·by_cases h' : n < 65536
  ·rw [get_hiE _ h h']
   show (sel _ Unit (n % 16)).g ((sel _ Unit (n / 16 % 16)).g ((sel _ Unit (n / 256 % 16)).g ((sel _ Unit (n / 4096)).g (.all (.all (.all (.all none))))))) = none
   rw [sel_all _ _ _ (by omega), sel_all _ _ _ (by omega), sel_all _ _ _ (by omega), sel_all _ _ _ (by omega)]
  ·rw [get_upE _ h']; rfl
theorem get_set (t : Tr α) (n k : Nat) (x : Option α) : (t.set n x).get k = if k = n then x else t.get k := by
 by_cases h : n < 256
 ·rw [set_loE t x h]
  by_cases hk : k < 256
  ·rw [get_loE _ hk, get_loE _ hk]
   simp only
   rw [sel_gs _ _ _ _ (by omega) _ (by omega)]
   by_cases e : k / 16 = n / 16
   ·rw [if_pos e, sel_gs _ _ _ _ (by omega) _ (by omega), e]
    by_cases e2 : k % 16 = n % 16
    ·rw [if_pos e2, if_pos (by omega)]
    ·rw [if_neg e2, if_neg (by omega)]
   ·rw [if_neg e, if_neg (by omega)]
  ·rw [if_neg (by omega)]
   by_cases hk' : k < 65536
   ·rw [get_hiE _ hk hk', get_hiE _ hk hk']
   ·rw [get_upE _ hk', get_upE _ hk']
 ·by_cases h' : n < 65536
  ·rw [set_hiE t x h h']
   by_cases hk : k < 256
   ·rw [get_loE _ hk, get_loE _ hk, if_neg (by omega)]
   ·by_cases hk' : k < 65536
    ·rw [get_hiE _ hk hk', get_hiE _ hk hk']
     simp only
     rw [sel_gs _ _ _ _ (by omega) _ (by omega)]
     by_cases e : k / 4096 = n / 4096
     ·rw [if_pos e, sel_gs _ _ _ _ (by omega) _ (by omega), e]
      by_cases e1 : k / 256 % 16 = n / 256 % 16
      ·rw [if_pos e1, sel_gs _ _ _ _ (by omega) _ (by omega), e1]
       by_cases e2 : k / 16 % 16 = n / 16 % 16
       ·rw [if_pos e2, sel_gs _ _ _ _ (by omega) _ (by omega), e2]
        by_cases e3 : k % 16 = n % 16
        ·rw [if_pos e3, if_pos (by omega)]
        ·rw [if_neg e3, if_neg (by omega)]
       ·rw [if_neg e2, if_neg (by omega)]
      ·rw [if_neg e1, if_neg (by omega)]
     ·rw [if_neg e, if_neg (by omega)]
    ·rw [get_upE _ hk', get_upE _ hk', if_neg (by omega)]
  ·rw [set_upE t x h']
   by_cases hk : k < 256
   ·rw [get_loE _ hk, get_loE _ hk, if_neg (by omega)]
   ·by_cases hk' : k < 65536
    ·rw [get_hiE _ hk hk', get_hiE _ hk hk', if_neg (by omega)]
    ·rw [get_upE _ hk', get_upE _ hk']
     exact Ob.get_set ..
end Tr
inductive Cap where
 | kn (n : Nat)
 | rest (sz : Nat)
inductive SV where
 /-- a value without an address -/
 | raw (v : Value)
 | ptr (b o : Nat)
 | sl (b o n : Nat) (c : Cap)
 /-- an empty slice, wherever it lies -/
 | sl0
 | map (b : Nat)
 | fn (f : Nat) (first cap : List SV)
 | yield (b : Nat)
 | agg (l : List SV)
 | tup (l : List SV)
 /-- whatever it is -/
 | any
abbrev Ren := Nat → Option (Nat × Nat × Nat)
def CapR (o s k : Nat) : Cap → Prop
 | .kn n => k = n
 | .rest sz => o + k * sz = s
mutual
def Rel (ρ : Ren) : SV → Value → Prop
 | .raw v, u => u = v
 | .ptr b o, u => ∃ x s, ρ b = some (x, s) ∧ u = .pointer (some ⟨x, s.1 + o, none⟩)
 | .sl b o n c, u => ∃ x s k, ρ b = some (x, s) ∧ CapR o s.2 k c ∧ u = .slice (some ⟨x, s.1 + o, none⟩) n k
 | .sl0, u => ∃ a k, u = .slice a 0 k
 | .map b, u => ∃ x s, ρ b = some (x, s) ∧ u = .map (some x)
 | .fn f l m, u => ∃ us vs, RelL ρ l us ∧ RelL ρ m vs ∧ u = .func (.func f) us.toArray vs.toArray
 | .yield b, u => ∃ x s, ρ b = some (x, s) ∧ u = .func (.yield x) #[] #[]
 | .agg l, u => ∃ us, RelL ρ l us ∧ u = .agg us.toArray
 | .tup l, u => ∃ us, RelL ρ l us ∧ u = .tuple us.toArray
 | .any, _ => True
def RelL (ρ : Ren) : List SV → List Value → Prop
 | [], us => us = []
 | s :: l, us => ∃ v r, us = v :: r ∧ Rel ρ s v ∧ RelL ρ l r
end
def Ren.Le (ρ ρ' : Ren) : Prop := ∀ b x, ρ b = some x → ρ' b = some x
mutual
theorem Rel.mono {ρ ρ' : Ren} (h : ρ.Le ρ') : ∀ {s : SV} {u : Value}, Rel ρ s u → Rel ρ' s u
 | .raw v, u, hr => by rw [Rel] at hr ⊢; exact hr
 | .ptr b o, u, hr => by rw [Rel] at hr ⊢; obtain ⟨x, s, h1, h2⟩ := hr; exact ⟨x, s, h _ _ h1, h2⟩
 | .sl b o n c, u, hr => by rw [Rel] at hr ⊢; obtain ⟨x, s, k, h1, h2⟩ := hr; exact ⟨x, s, k, h _ _ h1, h2⟩
 | .sl0, u, hr => by rw [Rel] at hr ⊢; exact hr
 | .map b, u, hr => by rw [Rel] at hr ⊢; obtain ⟨x, s, h1, h2⟩ := hr; exact ⟨x, s, h _ _ h1, h2⟩
 | .fn f l m, u, hr => by rw [Rel] at hr ⊢; obtain ⟨us, vs, h1, h2, h3⟩ := hr; exact ⟨us, vs, RelL.mono h h1, RelL.mono h h2, h3⟩
 | .yield b, u, hr => by rw [Rel] at hr ⊢; obtain ⟨x, s, h1, h2⟩ := hr; exact ⟨x, s, h _ _ h1, h2⟩
 | .agg l, u, hr => by rw [Rel] at hr ⊢; obtain ⟨us, h1, h2⟩ := hr; exact ⟨us, RelL.mono h h1, h2⟩
 | .tup l, u, hr => by rw [Rel] at hr ⊢; obtain ⟨us, h1, h2⟩ := hr; exact ⟨us, RelL.mono h h1, h2⟩
 | .any, _, _ => by rw [Rel]; exact True.intro
theorem RelL.mono {ρ ρ' : Ren} (h : ρ.Le ρ') : ∀ {l : List SV} {us : List Value}, RelL ρ l us → RelL ρ' l us
 | [], us, hr => by rw [RelL] at hr ⊢; exact hr
 | s :: l, us, hr => by rw [RelL] at hr ⊢; obtain ⟨v, r, h1, h2, h3⟩ := hr; exact ⟨v, r, h1, Rel.mono h h2, RelL.mono h h3⟩
end
theorem RelL.iff {ρ : Ren} : ∀ {l : List SV} {us : List Value}, RelL ρ l us ↔ l.length = us.length ∧ ∀ (i : Nat) (s : SV) (u : Value), l[i]? = some s → us[i]? = some u → Rel ρ s u
 | [], us => by
  rw [RelL]
  constructor
  ·rintro rfl; exact ⟨rfl, by simp⟩
  ·intro ⟨h, _⟩; exact List.eq_nil_of_length_eq_zero h.symm
 | s :: l, us => by
  rw [RelL]
  constructor
  ·rintro ⟨v, r, rfl, h1, h2⟩
   obtain ⟨h3, h4⟩ := RelL.iff.1 h2
   refine ⟨by simp [h3], fun i a u => ?_⟩
   cases i with
   | zero => simp; rintro rfl rfl; exact h1
   | succ i => simp; exact h4 i a u
  ·rintro ⟨h1, h2⟩
   cases us with
   | nil => simp at h1
   | cons v r =>
    exact ⟨v, r, rfl, h2 0 s v (by simp) (by simp), RelL.iff.2 ⟨by simpa using h1, fun i a u ha hu => h2 (i + 1) a u (by simpa using ha) (by simpa using hu)⟩⟩
theorem RelL.len {ρ : Ren} {l : List SV} {us : List Value} (h : RelL ρ l us) : us.length = l.length := (RelL.iff.1 h).1.symm
theorem RelL.at {ρ : Ren} {l : List SV} {us : List Value} (h : RelL ρ l us) {i : Nat} {s : SV} (hi : l[i]? = some s) : ∃ u, us[i]? = some u ∧ Rel ρ s u := by
 have hl := (List.getElem?_eq_some_iff.1 hi).1
 have hl' : i < us.length := by rw [h.len]; exact hl
 exact ⟨us[i], by simp [hl'], (RelL.iff.1 h).2 i s _ hi (by simp [hl'])⟩
theorem RelL.app {ρ : Ren} {l l' : List SV} {us us' : List Value} (h : RelL ρ l us) (h' : RelL ρ l' us') : RelL ρ (l ++ l') (us ++ us') := by
 rw [RelL.iff] at h h' ⊢
 refine ⟨by simp [h.1, h'.1], fun i s u hi hu => ?_⟩
 rw [List.getElem?_append] at hi hu
 rw [h.1] at hi
 split at hu
 ·rename_i hl; rw [if_pos hl] at hi; exact h.2 _ _ _ hi hu
 ·rename_i hl; rw [if_neg hl] at hi; exact h'.2 _ _ _ hi hu
theorem RelL.take {ρ : Ren} {l : List SV} {us : List Value} (h : RelL ρ l us) (n : Nat) : RelL ρ (l.take n) (us.take n) := by
 rw [RelL.iff] at h ⊢
 refine ⟨by simp [h.1], fun i s u hi hu => ?_⟩
 rw [List.getElem?_take] at hi hu
 split at hi
 ·rename_i hl; rw [if_pos hl] at hu; exact h.2 _ _ _ hi hu
 ·cases hi
theorem RelL.drop {ρ : Ren} {l : List SV} {us : List Value} (h : RelL ρ l us) (n : Nat) : RelL ρ (l.drop n) (us.drop n) := by
 rw [RelL.iff] at h ⊢
 refine ⟨by simp [h.1], fun i s u hi hu => ?_⟩
 rw [List.getElem?_drop] at hi hu
 exact h.2 _ _ _ hi hu
theorem RelL.set {ρ : Ren} {l : List SV} {us : List Value} (h : RelL ρ l us) (n : Nat) {s : SV} {u : Value} (hs : Rel ρ s u) : RelL ρ (l.set n s) (us.set n u) := by
 rw [RelL.iff] at h ⊢
 refine ⟨by simp [h.1], fun i a b hi hu => ?_⟩
 rw [List.getElem?_set] at hi hu
 rw [h.1] at hi
 split at hi
 ·rename_i e; subst e
  rw [if_pos rfl] at hu
  split at hi
  ·rename_i hl; rw [if_pos hl] at hu; cases hi; cases hu; exact hs
  ·cases hi
 ·rename_i e; rw [if_neg e] at hu; exact h.2 _ _ _ hi hu
theorem RelL.raws {ρ : Ren} : ∀ (us : List Value), RelL ρ (us.map .raw) us
 | [] => by rw [List.map_nil, RelL]
 | u :: us => by rw [List.map_cons, RelL]; exact ⟨u, us, rfl, by rw [Rel], RelL.raws us⟩
theorem RelL.cons {ρ : Ren} {s : SV} {u : Value} {l : List SV} {us : List Value} (h : Rel ρ s u) (h' : RelL ρ l us) : RelL ρ (s :: l) (u :: us) := by rw [RelL]; exact ⟨u, us, rfl, h, h'⟩
theorem RelL.nil {ρ : Ren} : RelL ρ [] [] := by rw [RelL]
end Go.TX
namespace Go.TX
open Go Go.TH
structure SLoop where
 state : LoopState
 pending : Option Code
 N : Nat
 tmps : Tr SV
 params : Array Tmp
 assign : Code
 body : Code
 defers : Nat
structure SEnt where
 key : SV
 val : SV
 born : Nat
inductive SO where
 /-- a row of cells; op: more may follow -/
 | cells (l : List SV) (e : TypeId) (op : Bool)
 | map (es : List SEnt) (clock : Nat)
 | loop (r : SLoop)
 | dfr (shut : Bool)
 /-- of a map: which entries have been handed out, by when they were born, the last first -/
 | iter (m : Option Nat) (since : Nat) (seen : List Nat) (last : Nat)
 /-- of a map: the entry that has been handed out last, the others are not told -/
 | itl (m since b last : Nat)
structure St where
 h : Tr SO
 nx : Nat
 base : Nat
 R : List Nat
 W : List Nat
def EnvR (ρ : Ren) (N : Nat) (env : Tr SV) (tmps : Array Value) : Prop := tmps.size = N ∧ ∀ t, Rel ρ ((env.get t).getD (.raw undef)) (tmps.getD t undef)
theorem EnvR.mono {ρ ρ' : Ren} (h : ρ.Le ρ') {N : Nat} {env : Tr SV} {tmps : Array Value} (e : EnvR ρ N env tmps) : EnvR ρ' N env tmps := ⟨e.1, fun t => (e.2 t).mono h⟩
def MRel (ρ : Ren) : List SEnt → List MapEntry → Prop
 | [], ms => ms = []
 | e :: es, ms => ∃ m r, ms = m :: r ∧ Rel ρ e.key m.key ∧ Rel ρ e.val m.val ∧ m.born = e.born ∧ MRel ρ es r
theorem MRel.mono {ρ ρ' : Ren} (h : ρ.Le ρ') : ∀ {es : List SEnt} {ms : List MapEntry}, MRel ρ es ms → MRel ρ' es ms
 | [], _, hm => hm
 | _ :: _, _, ⟨m, r, h1, h2, h3, h4, h5⟩ => ⟨m, r, h1, h2.mono h, h3.mono h, h4, h5.mono h⟩
def ORel (ρ : Ren) (s : Nat × Nat) : SO → Obj → Prop
 | .cells l e op, ob => ∃ pre us vs, ob = .cells (pre ++ (us ++ vs)).toArray e (0, 0) ∧ pre.length = s.1 ∧ RelL ρ l us ∧ (op = false → vs = []) ∧ us.length + vs.length = s.2
 | .map es c, ob => ∃ ms : List MapEntry, ob = .map ms.toArray c ∧ MRel ρ es ms
 | .loop r, ob => ∃ fn tmps dx sx, ob = .loop ⟨r.state, r.pending, fn, tmps, r.params, r.assign, r.body, dx⟩ ∧ EnvR ρ r.N r.tmps tmps ∧ ρ r.defers = some (dx, sx)
 | .dfr shut, ob => ob = .deferred (bif shut then none else some [])
 | .iter m since seen last, ob => s.1 = 0 ∧ ∃ mb, ob = .mapIter mb since seen.reverse.toArray last ∧ match m with
  | none => mb = none
  | some x => ∃ b z, ρ x = some (b, z) ∧ mb = some b
 | .itl m since b last, ob => s.1 = 0 ∧ ∃ (B : Nat) (z : Nat × Nat) (l : List Nat), ρ m = some (B, z) ∧ ob = .mapIter (some B) since (l ++ [b]).toArray last
theorem ORel.mono {ρ ρ' : Ren} (h : ρ.Le ρ') {s : Nat × Nat} : ∀ {o : SO} {ob : Obj}, ORel ρ s o ob → ORel ρ' s o ob
 | .cells _ _ _, _, ⟨pre, us, vs, h1, hz, h2, h3⟩ => ⟨pre, us, vs, h1, hz, h2.mono h, h3⟩
 | .map _ _, _, ⟨ms, h1, h2⟩ => ⟨ms, h1, h2.mono h⟩
 | .loop _, _, ⟨fn, tmps, dx, sx, h1, h2, h3⟩ => ⟨fn, tmps, dx, sx, h1, h2.mono h, h _ _ h3⟩
 | .dfr _, _, h1 => h1
 | .iter none _ _ _, _, h1 => h1
 | .iter (some _) _ _ _, _, ⟨h0, mb, h1, b, z, h2, h3⟩ => ⟨h0, mb, h1, b, z, h _ _ h2, h3⟩
 | .itl _ _ _ _, _, ⟨h0, B, z, l, h1, h2⟩ => ⟨h0, B, z, l, h _ _ h1, h2⟩
structure Sim (ρ : Ren) (D : Nat → Prop) (st : St) (w : World) : Prop where
 live : ∀ x o, D x → st.h.get x = some o → ∃ b s ob, ρ x = some (b, s) ∧ w.heap[b]? = some ob ∧ ORel ρ s o ob
 inj : ∀ x y b s s', D x → D y → st.h.get x ≠ none → st.h.get y ≠ none → ρ x = some (b, s) → ρ y = some (b, s') → x = y
 lt : ∀ x, st.h.get x ≠ none → x < st.nx
theorem Sim.sub {ρ : Ren} {D D' : Nat → Prop} {st : St} {w : World} (h : Sim ρ D st w) (hd : ∀ x, D' x → D x) : Sim ρ D' st w :=
 ⟨fun x o d g => h.live x o (hd x d) g, fun x y b s s' d d' => h.inj x y b s s' (hd x d) (hd y d'), h.lt⟩
structure Step (ρ ρ' : Ren) (D : Nat → Prop) (st st' : St) (w w' : World) : Prop where
 os : w'.os = w.os
 tape : w'.tape = w.tape
 output : w'.output = w.output
 size : w.heap.size ≤ w'.heap.size
 nx : st.nx ≤ st'.nx
 base : st'.base = st.base
 sR : ∀ x, x ∈ st.R → x ∈ st'.R
 sW : ∀ x, x ∈ st.W → x ∈ st'.W
 ext : ∀ x, x < st.nx ∨ st'.nx ≤ x → ρ' x = ρ x
 keep : ∀ b, b < w.heap.size → w'.heap[b]? = w.heap[b]? ∨ ∃ x s, ρ x = some (b, s) ∧ D x ∧ st.h.get x ≠ none ∧ (x ∈ st'.W ∨ st.base ≤ x)
 dead : ∀ x, x < st.nx → st.h.get x = none → st'.h.get x = none
 same : ∀ x, x < st.nx → (x ∈ st'.W ∨ st.base ≤ x) ∨ st'.h.get x = st.h.get x
 fresh : ∀ x b s, st.nx ≤ x → st'.h.get x ≠ none → ρ' x = some (b, s) → w.heap.size ≤ b ∨ ∃ z s', z < st.nx ∧ ρ z = some (b, s') ∧ D z ∧ st.h.get z ≠ none ∧ st'.h.get z = none ∧ (z ∈ st'.W ∨ st.base ≤ z)
 sim : Sim ρ' (fun x => D x ∨ st.nx ≤ x) st' w'
def Free (ρ : Ren) (a b : Nat) : Prop := ∀ x, a ≤ x → x < b → ρ x = none
theorem Step.le {ρ ρ' : Ren} {D : Nat → Prop} {st st' : St} {w w' : World} (h : Step ρ ρ' D st st' w w') (hf : Free ρ st.nx st'.nx) : ρ.Le ρ' := by
 intro x v hv
 by_cases hx : x < st.nx ∨ st'.nx ≤ x
 ·rw [h.ext x hx]; exact hv
 ·rw [hf x (by omega) (by omega)] at hv; cases hv
theorem Step.refl {ρ : Ren} {D : Nat → Prop} {st : St} {w : World} (h : Sim ρ D st w) : Step ρ ρ D st st w w :=
 ⟨rfl, rfl, rfl, Nat.le_refl _, Nat.le_refl _, rfl, fun _ h => h, fun _ h => h, fun _ _ => rfl, fun _ _ => .inl rfl, fun _ _ h => h, fun _ _ => .inr rfl,
  fun x _ _ hx hg _ => absurd (h.lt x hg) (by omega),
  ⟨fun x o d g => by
   rcases d with d | d
   ·exact h.live x o d g
   ·exact absurd (h.lt x (by rw [g]; simp)) (by omega),
   fun x y b s s' d d' gx gy => by
    have hx := h.lt x gx
    have hy := h.lt y gy
    exact h.inj x y b s s' (d.resolve_right (by omega)) (d'.resolve_right (by omega)) gx gy, h.lt⟩⟩
theorem Step.free {ρ ρ' : Ren} {D : Nat → Prop} {st st' : St} {w w' : World} (h : Step ρ ρ' D st st' w w') {n : Nat} (hf : Free ρ st.nx n) : Free ρ' st'.nx n := by
 intro x hx hn
 rw [h.ext x (.inr hx)]
 exact hf x (Nat.le_trans h.nx hx) hn
theorem Step.trans {ρ ρ1 ρ2 : Ren} {D : Nat → Prop} {st st1 st2 : St} {w w1 w2 : World} (h : Step ρ ρ1 D st st1 w w1) (h' : Step ρ1 ρ2 (fun x => D x ∨ st.nx ≤ x) st1 st2 w1 w2) : Step ρ ρ2 D st st2 w w2 := by
 have hb : st1.base = st.base := h.base
 refine ⟨h'.os.trans h.os, h'.tape.trans h.tape, h'.output.trans h.output, Nat.le_trans h.size h'.size, Nat.le_trans h.nx h'.nx, h'.base.trans h.base, fun x hx => h'.sR x (h.sR x hx), fun x hx => h'.sW x (h.sW x hx), ?_, ?_, ?_, ?_, ?_, ?_⟩
 ·intro x hx
  rw [h'.ext x (by rcases hx with hx | hx; exact .inl (Nat.lt_of_lt_of_le hx h.nx); exact .inr hx)]
  exact h.ext x (by rcases hx with hx | hx; exact .inl hx; exact .inr (Nat.le_trans h'.nx hx))
 ·intro b hb'
  rcases h'.keep b (Nat.lt_of_lt_of_le hb' h.size) with e | ⟨x, s, e1, e2, e3, e4⟩
  ·rcases h.keep b hb' with e' | ⟨x, s, e1, e2, e3, e4⟩
   ·exact .inl (e.trans e')
   ·exact .inr ⟨x, s, e1, e2, e3, by rcases e4 with e4 | e4; exact .inl (h'.sW x e4); exact .inr e4⟩
  ·by_cases hx : x < st.nx
   ·refine .inr ⟨x, s, ?_, ?_, ?_, ?_⟩
    ·rw [← h.ext x (.inl hx)]; exact e1
    ·exact e2.resolve_right (by omega)
    ·intro hn; exact e3 (h.dead x hx hn)
    ·rcases e4 with e4 | e4
     ·exact .inl e4
     ·exact .inr (hb ▸ e4)
   ·rcases h.fresh x b s (by omega) e3 e1 with e5 | ⟨z, s', _, e5, e6, e7, e8, e9⟩
    ·omega
    ·exact .inr ⟨z, s', e5, e6, e7, by rcases e9 with e9 | e9; exact .inl (h'.sW z e9); exact .inr e9⟩
 ·intro x hx hn
  exact h'.dead x (Nat.lt_of_lt_of_le hx h.nx) (h.dead x hx hn)
 ·intro x hx
  rcases h'.same x (Nat.lt_of_lt_of_le hx h.nx) with e | e
  ·exact .inl (hb ▸ e)
  ·rcases h.same x hx with e' | e'
   ·exact .inl (by rcases e' with e' | e'; exact .inl (h'.sW x e'); exact .inr e')
   ·exact .inr (e.trans e')
 ·intro x b s hx hg hr
  by_cases hx1 : x < st1.nx
  ·have hg1 : st1.h.get x ≠ none := fun hn => hg (h'.dead x hx1 hn)
   have hr1 : ρ1 x = some (b, s) := by rw [← h'.ext x (.inl hx1)]; exact hr
   rcases h.fresh x b s hx hg1 hr1 with e5 | ⟨z, s', e4, e5, e6, e7, e8, e9⟩
   ·exact .inl e5
   ·exact .inr ⟨z, s', e4, e5, e6, e7, h'.dead z (Nat.lt_of_lt_of_le e4 h.nx) e8, by rcases e9 with e9 | e9; exact .inl (h'.sW z e9); exact .inr e9⟩
  ·rcases h'.fresh x b s (by omega) hg hr with e5 | ⟨z, s', e4, e5, e6, e7, e8, e9⟩
   ·exact .inl (Nat.le_trans h.size e5)
   ·by_cases hz : z < st.nx
    ·refine .inr ⟨z, s', hz, ?_, e6.resolve_right (by omega), fun hn => e7 (h.dead z hz hn), e8, by rcases e9 with e9 | e9; exact .inl e9; exact .inr (hb ▸ e9)⟩
     rw [← h.ext z (.inl hz)]; exact e5
    ·rcases h.fresh z b s' (by omega) e7 e5 with e10 | ⟨y, s2, f4, f5, f6, f7, f8, f9⟩
     ·exact .inl e10
     ·exact .inr ⟨y, s2, f4, f5, f6, f7, h'.dead y (Nat.lt_of_lt_of_le f4 h.nx) f8, by rcases f9 with f9 | f9; exact .inl (h'.sW y f9); exact .inr f9⟩
 ·exact h'.sim.sub fun x d => by
   rcases d with d | d
   ·exact .inl (.inl d)
   ·exact .inl (.inr d)
end Go.TX
