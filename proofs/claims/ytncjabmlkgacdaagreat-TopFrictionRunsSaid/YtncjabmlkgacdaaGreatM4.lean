/-
  What is proved here: operations on the bits of numbers. Conditions: none; each rule states its own.
  What is proved here: the friction of a line: what the program computes. Conditions: none; each contract states its own.
  What is proved here: the friction of a line: where a number is, and what is told there. Conditions: none; each contract states its own.
  What is proved here: the friction at a number. Conditions: none; each contract states its own.
  What is proved here: sides of runs, and fractions. Conditions: none; each contract states its own.
  What is proved here: fractions in least terms, and how they are compared. Conditions: none; each contract states its own.
  What is proved here: the table of sides. Conditions: none; each contract states its own.
  What is proved here: groups of sides, and the function that yields them. Conditions: none; each contract states its own.
  What is proved here: sides that are put together. Conditions: none; each contract states its own.
  What is proved here: when sides can be put together to none. Conditions: none; each contract states its own.
-/
import Derived.Test.YtncjabmlkgacdaaGreatM2
import Derived.Laws.Shifts
import Derived.Laws.Cover1
set_option linter.unusedVariables false
set_option linter.unusedSimpArgs false
namespace Go.TH
open Go
def room (k : IntKind) : Nat := if k.signed then k.bits - 1 else k.bits
def Fits (k : IntKind) (a : Nat) : Prop := a < 2 ^ room k
theorem wrap_nat {k : IntKind} {a : Nat} (h : Fits k a) : k.wrap (a : Int) = (a : Int) := by
 unfold Fits room at h
 have e1 : (a : Int) % (2 ^ k.bits : Int) = (a : Int) := by
  refine Int.emod_eq_of_lt (by omega) ?_
  have h2 : a < 2 ^ k.bits := Nat.lt_of_lt_of_le h (Nat.pow_le_pow_right (by omega) (by split <;> omega))
  exact_mod_cast h2
 unfold IntKind.wrap
 simp only [e1]
 split
 ·rename_i hs
  simp only [Bool.and_eq_true, decide_eq_true_eq] at hs
  rw [if_pos hs.1] at h
  have h3 : (a : Int) < (2 ^ (k.bits - 1) : Int) := by exact_mod_cast h
  omega
 ·rfl
theorem ofInt_nat {k : IntKind} {a : Nat} (h : Fits k a) : (BitVec.ofInt k.bits (a : Int)).toNat = a := by
 have h2 : a < 2 ^ k.bits := Nat.lt_of_lt_of_le h (Nat.pow_le_pow_right (by omega) (by unfold room; split <;> omega))
 rw [show BitVec.ofInt k.bits (a : Int) = BitVec.ofNat k.bits a by simp, BitVec.toNat_ofNat]
 exact Nat.mod_eq_of_lt h2
theorem mod_fits {k : IntKind} {a : Nat} (h : Fits k a) : a % 2 ^ k.bits = a := Nat.mod_eq_of_lt (Nat.lt_of_lt_of_le h (Nat.pow_le_pow_right (by omega) (by unfold room; split <;> omega)))
theorem Fits.and {k : IntKind} {a b : Nat} (h : Fits k a) : Fits k (a &&& b) := Nat.lt_of_le_of_lt Nat.and_le_left h
theorem Fits.or {k : IntKind} {a b : Nat} (h : Fits k a) (h' : Fits k b) : Fits k (a ||| b) := Nat.or_lt_two_pow h h'
theorem Fits.xor {k : IntKind} {a b : Nat} (h : Fits k a) (h' : Fits k b) : Fits k (a ^^^ b) := Nat.xor_lt_two_pow h h'
theorem Fits.shr {k : IntKind} {a s : Nat} (h : Fits k a) : Fits k (a >>> s) := Nat.lt_of_le_of_lt (by rw [Nat.shiftRight_eq_div_pow]; exact Nat.div_le_self _ _) h
section
variable {P : Program} {C : Cx P} {E : Env} {H : List HP}
variable {ops : Array Oper} {K : KP} {rest : List Oper} {d : Nat} {ty : TypeId} {pos : String} {af : Array Edge} {x y : Operand} {T T' : TypeId} {k : IntKind} {a b : Nat}
theorem WO.shrN {k' : IntKind} {s : Nat} (hx : ev E x = some (.int k (a : Int))) (hy : ev E y = some (.int k' (s : Int))) (hs : s ≤ k.bits) (hN : Nat.blt d C.N = true) (h : WO C ops rest K ((d, .int k ((a >>> s : Nat) : Int)) :: E) H) : WO C ops (⟨some d, .binOp .shr T x y T', ty, pos, af, none⟩ :: rest) K E H :=
 WO.pure _ (by simp) (fun L c w hf _ => by
  simp only [execOp, hf.eval hx, hf.eval hy]
  simp [binOp_shr, eqGuard_shr, shift_shr_any k k' a s (by omega), Nat.min_eq_left hs, Nat.shiftRight_eq_div_pow]) hN h
end
section
variable {P : Program} {C : Cx P} {E : Env} {H : List HP}
variable {ops : Array Oper} {K : KP} {rest : List Oper} {d : Nat} {ty : TypeId} {pos : String} {af : Array Edge} {x y : Operand} {T : TypeId}
theorem WO.indexV {len e i : Nat} {k : IntKind} {vs : List Value} {v : Value} (hT : C.tt.ar? T = some (len, e, 1)) (hO : C.tt.one? e = true) (hx : ev E x = some (.agg vs.toArray)) (hy : ev E y = some (.int k (i : Int))) (h1 : i < len) (hv : lget vs i = some v) (hN : Nat.blt d C.N = true)
 (h : WO C ops rest K ((d, v) :: E) H) : WO C ops (⟨some d, .index T x y, ty, pos, af, none⟩ :: rest) K E H :=
 WO.pure v (by simp) (fun L a w hf hi => by
  rw [lget_eq] at hv
  have hp := run_part1 (P := P) (w := w) (CT.of hO) hv
  simp [execOp, hf.eval hx, hf.eval hy, Instr.index, run_underlying (ArT.of hT).u, asIntOf, h1, run_sizeOf (ArT.of hT).size, hp]) hN h
end
end Go.TH
namespace Go.Proofs.YtncjabmlkgacdaaGreat
open Go Go.TH
attribute [local irreducible] W WO pt
set_option maxRecDepth 10000
set_option maxHeartbeats 1000000
abbrev xat (xs : List Int) (i : Nat) : Int := xs.getD i 0
structure OkLn (xs ys : List Int) : Prop where
 n : 2 ≤ xs.length ∧ xs.length ≤ 12
 len : ys.length = xs.length
 re : ∀ i, i < xs.length → 1 ≤ xat xs i ∧ xat xs i ≤ 1000000000
 cf : ∀ i, i < xs.length → 0 ≤ xat ys i ∧ xat ys i ≤ 100000
 up : ∀ i, i + 1 < xs.length → xat xs i < xat xs (i + 1)
 dn : ∀ i, i + 1 < xs.length → xat ys (i + 1) ≤ xat ys i
theorem OkLn.lt {xs ys : List Int} (h : OkLn xs ys) {i : Nat} : ∀ {j : Nat}, i < j → j < xs.length → xat xs i < xat xs j
 | 0, h1, _ => by omega
 | j + 1, h1, h2 => by
  have h3 := h.up j h2
  rcases Nat.lt_or_ge i j with g | g
  ·have := OkLn.lt h g (by omega); omega
  ·obtain rfl : i = j := by omega
   exact h3
structure LnTo (xs ys : List Int) (k : Nat) : Prop where
 re : ∀ i, i < k → 1 ≤ xat xs i ∧ xat xs i ≤ 1000000000
 cf : ∀ i, i < k → 0 ≤ xat ys i ∧ xat ys i ≤ 100000
 up : ∀ i, i + 1 < k → xat xs i < xat xs (i + 1)
 dn : ∀ i, i + 1 < k → xat ys (i + 1) ≤ xat ys i
theorem LnTo.zero (xs ys : List Int) : LnTo xs ys 0 := ⟨fun i h => by omega, fun i h => by omega, fun i h => by omega, fun i h => by omega⟩
theorem LnTo.succ {xs ys : List Int} {k : Nat} (h : LnTo xs ys k) (h1 : 1 ≤ xat xs k ∧ xat xs k ≤ 1000000000) (h2 : 0 ≤ xat ys k ∧ xat ys k ≤ 100000) (h3 : 0 < k → xat xs (k - 1) < xat xs k ∧ xat ys k ≤ xat ys (k - 1)) : LnTo xs ys (k + 1) := by
 refine ⟨fun i hi => ?_, fun i hi => ?_, fun i hi => ?_, fun i hi => ?_⟩
 ·rcases Nat.lt_or_ge i k with g | g
  ·exact h.re i g
  ·obtain rfl : i = k := by omega
   exact h1
 ·rcases Nat.lt_or_ge i k with g | g
  ·exact h.cf i g
  ·obtain rfl : i = k := by omega
   exact h2
 ·rcases Nat.lt_or_ge (i + 1) k with g | g
  ·exact h.up i g
  ·have h4 := h3 (by omega)
   obtain rfl : k = i + 1 := by omega
   exact h4.1
 ·rcases Nat.lt_or_ge (i + 1) k with g | g
  ·exact h.dn i g
  ·have h4 := h3 (by omega)
   obtain rfl : k = i + 1 := by omega
   exact h4.2
theorem ref_between (w : World) (n lo hi : Int) : Ret Tryz.prog 53 [.int .i64 n, .int .i64 lo, .int .i64 hi].toArray w (.bool (bl (lo ≤ n ∧ n ≤ hi))) := by
 refine Ret.of mixed tyTab Tryz.func53 rfl rfl (W.sreg (WO.p rfl rfl (WO.nil (W.sreg (WO.p rfl rfl (WO.p rfl rfl (WO.p rfl rfl (WO.p rfl rfl ?_))))))))
 refine WO.guard_bl rfl rfl (fun c1 => ?_) (fun c1 => ?_)
 ·refine WO.pg rfl rfl rfl (WO.pg rfl rfl rfl (WO.pg rfl rfl rfl (WO.p rfl rfl (WO.p rfl rfl (WO.nil (W.ret (fin.ret (Res.one rfl (RV.tmp rfl)) (congrArg Value.bool ?_))))))))
  (rw [bl_eq, bl_eq, decide_eq_decide]; omega)
 ·refine WO.no rfl rfl (WO.no rfl rfl (WO.no rfl rfl (WO.p rfl rfl (WO.p rfl rfl (WO.nil (W.ret (fin.ret (Res.one rfl (RV.tmp rfl)) (congrArg Value.bool ?_))))))))
  exact (bl_f.2 (by omega)).symm
theorem ref_CheckLine (w : World) (v u : Value) (xs ys : List Int) (hX : RdF encI 1 w.heap.size w v xs) (hY : RdF encI 1 w.heap.size w u ys) : RetE Tryz.prog 21 [.agg #[v, u]].toArray w (fun r => ∃ z : Int, r = .int .i64 z ∧ (z = 0 → OkLn xs ys)) := by
 refine RetE.of mixed tyTab Tryz.func21 rfl rfl ?_
 replace hX : RdF encI 1 (fnCx mixed tyTab Tryz.f21.ntmps w).B (fnCx mixed tyTab Tryz.f21.ntmps w).w0 v xs := hX
 replace hY : RdF encI 1 (fnCx mixed tyTab Tryz.f21.ntmps w).B (fnCx mixed tyTab Tryz.f21.ntmps w).w0 u ys := hY
 have hxo := hX.sl.oc
 have hyo := hY.sl.oc
 have hxl := hX.sl.le
 have hyl := hY.sl.le
 refine W.sreg (WO.boxA rfl rfl (fun b1 hb1 => (WO.p rfl rfl (WO.nil (W.seq (W.sreg (WO.field0 rfl rfl rfl (WO.load rfl rfl (Cell.own Pick.head rfl) rfl ?_))))))))
 refine' WO.len (n := _) rfl rfl ?hs rfl ?_
 case hs => (first | exact hX.sl)
 refine WO.p rfl rfl (WO.p rfl rfl ?_)
 refine WO.guard_bl rfl rfl (fun c1 => ?_) (fun c1 => ?_)
 ·refine WO.no rfl rfl (WO.no rfl rfl (WO.no rfl rfl (WO.no rfl rfl (WO.p rfl rfl (WO.nil (W.cond_t rfl (W.sreg (WO.p rfl rfl (WO.nil (W.ret ?_))))))))))
  first
  | exact fin.ret (Res.one rfl (RV.tmp rfl)) ⟨_, rfl, fun h => absurd h (by omega)⟩
  | exact fin.ret (Res.one rfl (RV.tmp rfl)) ⟨_, rfl, fun _ => by obtain rfl : i = xs.length := (by omega); exact ⟨by omega, by omega, hln.re, hln.cf, hln.up, hln.dn⟩⟩
 ·refine WO.go' rfl (WO.field0 rfl rfl rfl (WO.go' rfl (WO.load rfl rfl (Cell.own Pick.head rfl) rfl (WO.go' rfl ?_))))
  refine' WO.len (n := _) rfl rfl ?hs rfl ?_
  case hs => (first | exact hX.sl)
  refine WO.pg rfl rfl rfl (WO.p rfl rfl (WO.nil ?_))
  refine W.cond_bl rfl (fun c2 => ?_) (fun c2 => ?_)
  ·refine W.sreg (WO.p rfl rfl (WO.nil (W.ret ?_)))
   first
   | exact fin.ret (Res.one rfl (RV.tmp rfl)) ⟨_, rfl, fun h => absurd h (by omega)⟩
   | exact fin.ret (Res.one rfl (RV.tmp rfl)) ⟨_, rfl, fun _ => by obtain rfl : i = xs.length := (by omega); exact ⟨by omega, by omega, hln.re, hln.cf, hln.up, hln.dn⟩⟩
  ·refine W.skip (W.seq (W.sreg (WO.fieldL rfl rfl rfl (WO.load rfl rfl (Cell.own Pick.head rfl) rfl ?_))))
   refine' WO.len (n := _) rfl rfl ?hs rfl ?_
   case hs => (first | exact hY.sl)
   refine WO.field0 rfl rfl rfl (WO.load rfl rfl (Cell.own Pick.head rfl) rfl ?_)
   refine' WO.len (n := _) rfl rfl ?hs rfl ?_
   case hs => (first | exact hX.sl)
   refine WO.p rfl rfl (WO.nil ?_)
   refine W.cond_bl rfl (fun c3 => ?_) (fun c3 => ?_)
   ·refine W.sreg (WO.p rfl rfl (WO.nil (W.ret ?_)))
    first
    | exact fin.ret (Res.one rfl (RV.tmp rfl)) ⟨_, rfl, fun h => absurd h (by omega)⟩
    | exact fin.ret (Res.one rfl (RV.tmp rfl)) ⟨_, rfl, fun _ => by obtain rfl : i = xs.length := (by omega); exact ⟨by omega, by omega, hln.re, hln.cf, hln.up, hln.dn⟩⟩
   ·refine W.skip (W.seq (W.sreg (WO.p rfl rfl (WO.nil (W.block ?_)))))
    refine W.loop (fun (i : Nat) => i ≤ xs.length ∧ LnTo xs ys i)
     (fun (i : Nat) => [(1, .pointer (some ⟨b1, 0, none⟩)), (2, .int .i64 0), (3, .int .i64 (i : Int))])
     (fun (i : Nat) => [pt b1 (.cells #[v, u] 72 (0, 0))])
     (fun (i : Nat) => xs.length - i) 0
     (by exact ⟨by omega, LnTo.zero _ _⟩) ⟨rfl, rfl, rfl, trivial⟩ (by repeat (first | exact Sub.nil | refine Sub.cons (by repeat exact .head) ?_)) ?_
    rintro i ⟨hi0, hln⟩
    refine W.seq (W.sreg (WO.p rfl rfl (WO.field0 rfl rfl rfl (WO.load rfl rfl (Cell.own Pick.head rfl) rfl ?_))))
    refine' WO.len (n := _) rfl rfl ?hs rfl ?_
    case hs => (first | exact hX.sl)
    refine WO.p rfl rfl (WO.nil ?_)
    refine W.cond_bl rfl (fun c4 => ?_) (fun c4 => ?_)
    ·refine W.skip (W.seq (W.block (W.seq ?_)))
     refine W.drawD 44 [.r 0 [], .b 1 [], .r 2 [], .r 3 [], .b 4 [], .b 5 [], .r 6 [], .r 7 [], .r 8 [], .b 9 [], .r 10 [], .r 11 [], .b 12 [], .b 13 [], .r 14 [], .r 15 [], .r 16 [], .r 17 [], .r 18 [], .r 19 [], .r 20 [], .b 21 [], .r 22 [], .r 23 [], .b 24 [], .r 25 [], .b 26 [], .r 27 [], .r 28 [], .r 29 [], .b 30 [], .r 31 [], .r 32 [], .r 33 [], .b 34 [], .r 35 [], .r 36 [], .b 37 [], .r 38 [], .b 39 [], .r 40 [], .r 41 [], .r 42 [], .b 43 []] [] (A0 := []) (Sub.refl _) (by kernel_rfl) ?_ ?_
     ·repeat constructor
     refine DT.r rfl rfl rfl (WO.field0 rfl rfl rfl (WO.nil ⟨rfl, rfl⟩)) (DT.b rfl rfl rfl (WO.load rfl rfl (Cell.own Pick.head rfl) rfl (WO.nil ⟨rfl, rfl⟩)) (DT.r rfl rfl rfl (WO.p rfl rfl (WO.nil ⟨rfl, rfl⟩)) (DT.r rfl rfl rfl (WO.indexAddr rfl rfl rfl hX.sl (by omega) rfl (WO.nil ⟨rfl, rfl⟩)) ?_)))
     refine' DT.b rfl rfl rfl ?hq ?_
     case hq =>
      refine' WO.load (v := _) rfl rfl ?hc rfl ?_
      case hc => ((refine hX.cell0 (i := i) (by omega) 0 ?_; rfl))
      exact WO.nil ⟨rfl, rfl⟩
     refine DT.b rfl rfl rfl (WO.callR rfl Tryz.call53 (fun L w hi => ref_between w _ _ _) rfl (WO.nil ⟨rfl, rfl⟩)) (DT.r rfl rfl rfl (WO.p rfl rfl (WO.nil ⟨rfl, rfl⟩)) ?_)
     refine DT.rNB rfl rfl rfl (WO.p rfl rfl (WO.nil ⟨rfl, rfl⟩)) (fun c5 => ?_) (fun c5 => ?_)
     ·refine DT.r rfl rfl rfl (WO.no rfl rfl (WO.nil ⟨rfl, rfl⟩)) (DT.b rfl rfl rfl (WO.no rfl rfl (WO.nil ⟨rfl, rfl⟩)) (DT.r rfl rfl rfl (WO.no rfl rfl (WO.nil ⟨rfl, rfl⟩)) (DT.r rfl rfl rfl (WO.no rfl rfl (WO.nil ⟨rfl, rfl⟩)) (DT.b rfl rfl rfl (WO.no rfl rfl (WO.nil ⟨rfl, rfl⟩)) (DT.b rfl rfl rfl (WO.no rfl rfl (WO.nil ⟨rfl, rfl⟩)) (DT.r rfl rfl rfl (WO.no rfl rfl (WO.nil ⟨rfl, rfl⟩)) (DT.r rfl rfl rfl (WO.p rfl rfl (WO.nil ⟨rfl, rfl⟩)) (DT.r rfl rfl rfl (WO.p rfl rfl (WO.nil ⟨rfl, rfl⟩)) (DT.r rfl rfl rfl (WO.no rfl rfl (WO.nil ⟨rfl, rfl⟩)) (DT.r rfl rfl rfl (WO.no rfl rfl (WO.nil ⟨rfl, rfl⟩)) (DT.r rfl rfl rfl (WO.no rfl rfl (WO.nil ⟨rfl, rfl⟩)) ?_)))))))))))
      refine DT.r rfl rfl rfl (WO.no rfl rfl (WO.nil ⟨rfl, rfl⟩)) (DT.b rfl rfl rfl (WO.no rfl rfl (WO.nil ⟨rfl, rfl⟩)) (DT.r rfl rfl rfl (WO.no rfl rfl (WO.nil ⟨rfl, rfl⟩)) (DT.r rfl rfl rfl (WO.no rfl rfl (WO.nil ⟨rfl, rfl⟩)) (DT.b rfl rfl rfl (WO.no rfl rfl (WO.nil ⟨rfl, rfl⟩)) (DT.r rfl rfl rfl (WO.no rfl rfl (WO.nil ⟨rfl, rfl⟩)) (DT.b rfl rfl rfl (WO.no rfl rfl (WO.nil ⟨rfl, rfl⟩)) (DT.r rfl rfl rfl (WO.no rfl rfl (WO.nil ⟨rfl, rfl⟩)) (DT.r rfl rfl rfl (WO.no rfl rfl (WO.nil ⟨rfl, rfl⟩)) (DT.r rfl rfl rfl (WO.no rfl rfl (WO.nil ⟨rfl, rfl⟩)) (DT.b rfl rfl rfl (WO.no rfl rfl (WO.nil ⟨rfl, rfl⟩)) (DT.r rfl rfl rfl (WO.no rfl rfl (WO.nil ⟨rfl, rfl⟩)) ?_)))))))))))
      refine DT.r rfl rfl rfl (WO.no rfl rfl (WO.nil ⟨rfl, rfl⟩)) (DT.r rfl rfl rfl (WO.no rfl rfl (WO.nil ⟨rfl, rfl⟩)) (DT.b rfl rfl rfl (WO.no rfl rfl (WO.nil ⟨rfl, rfl⟩)) (DT.r rfl rfl rfl (WO.no rfl rfl (WO.nil ⟨rfl, rfl⟩)) (DT.r rfl rfl rfl (WO.no rfl rfl (WO.nil ⟨rfl, rfl⟩)) (DT.b rfl rfl rfl (WO.no rfl rfl (WO.nil ⟨rfl, rfl⟩)) (DT.r rfl rfl rfl (WO.no rfl rfl (WO.nil ⟨rfl, rfl⟩)) (DT.b rfl rfl rfl (WO.no rfl rfl (WO.nil ⟨rfl, rfl⟩)) (DT.r rfl rfl rfl (WO.no rfl rfl (WO.nil ⟨rfl, rfl⟩)) (DT.r rfl rfl rfl (WO.no rfl rfl (WO.nil ⟨rfl, rfl⟩)) (DT.r rfl rfl rfl (WO.no rfl rfl (WO.nil ⟨rfl, rfl⟩)) (DT.b rfl rfl rfl (WO.no rfl rfl (WO.nil ⟨rfl, rfl⟩)) ?_)))))))))))
      refine DT.nil [_] rfl (WO.no rfl rfl (WO.no rfl rfl (WO.no rfl rfl (WO.p rfl rfl (WO.nil (W.cond_t rfl (W.sreg (WO.p rfl rfl (WO.nil (W.ret ?_))))))))))
      first
      | exact fin.ret (Res.one rfl (RV.tmp rfl)) ⟨_, rfl, fun h => absurd h (by omega)⟩
      | exact fin.ret (Res.one rfl (RV.tmp rfl)) ⟨_, rfl, fun _ => by obtain rfl : i = xs.length := (by omega); exact ⟨by omega, by omega, hln.re, hln.cf, hln.up, hln.dn⟩⟩
     ·refine DT.r rfl rfl rfl (WO.go' rfl (WO.fieldL rfl rfl rfl (WO.nil ⟨rfl, rfl⟩))) (DT.b rfl rfl rfl (WO.go' rfl (WO.load rfl rfl (Cell.own Pick.head rfl) rfl (WO.nil ⟨rfl, rfl⟩))) (DT.r rfl rfl rfl (WO.pg rfl rfl rfl (WO.nil ⟨rfl, rfl⟩)) (DT.r rfl rfl rfl (WO.go' rfl (WO.indexAddr rfl rfl rfl hY.sl (by omega) rfl (WO.nil ⟨rfl, rfl⟩))) ?_)))
      refine' DT.b rfl rfl rfl ?hq ?_
      case hq =>
       refine WO.go' rfl ?_
       refine' WO.load (v := _) rfl rfl ?hc rfl ?_
       case hc => ((refine hY.cell0 (i := i) (by omega) 0 ?_; rfl))
       exact WO.nil ⟨rfl, rfl⟩
      refine DT.b rfl rfl rfl (WO.go' rfl (WO.callR rfl Tryz.call53 (fun L w hi => ref_between w _ _ _) rfl (WO.nil ⟨rfl, rfl⟩))) (DT.r rfl rfl rfl (WO.pg rfl rfl rfl (WO.nil ⟨rfl, rfl⟩)) (DT.r rfl rfl rfl (WO.p rfl rfl (WO.nil ⟨rfl, rfl⟩)) ?_))
      refine DT.rNB rfl rfl rfl (WO.p rfl rfl (WO.nil ⟨rfl, rfl⟩)) (fun c6 => ?_) (fun c6 => ?_)
      ·refine DT.r rfl rfl rfl (WO.no rfl rfl (WO.nil ⟨rfl, rfl⟩)) (DT.r rfl rfl rfl (WO.no rfl rfl (WO.nil ⟨rfl, rfl⟩)) (DT.r rfl rfl rfl (WO.no rfl rfl (WO.nil ⟨rfl, rfl⟩)) (DT.r rfl rfl rfl (WO.no rfl rfl (WO.nil ⟨rfl, rfl⟩)) (DT.b rfl rfl rfl (WO.no rfl rfl (WO.nil ⟨rfl, rfl⟩)) (DT.r rfl rfl rfl (WO.no rfl rfl (WO.nil ⟨rfl, rfl⟩)) (DT.r rfl rfl rfl (WO.no rfl rfl (WO.nil ⟨rfl, rfl⟩)) (DT.b rfl rfl rfl (WO.no rfl rfl (WO.nil ⟨rfl, rfl⟩)) (DT.r rfl rfl rfl (WO.no rfl rfl (WO.nil ⟨rfl, rfl⟩)) (DT.b rfl rfl rfl (WO.no rfl rfl (WO.nil ⟨rfl, rfl⟩)) (DT.r rfl rfl rfl (WO.no rfl rfl (WO.nil ⟨rfl, rfl⟩)) (DT.r rfl rfl rfl (WO.no rfl rfl (WO.nil ⟨rfl, rfl⟩)) ?_)))))))))))
       refine DT.r rfl rfl rfl (WO.no rfl rfl (WO.nil ⟨rfl, rfl⟩)) (DT.b rfl rfl rfl (WO.no rfl rfl (WO.nil ⟨rfl, rfl⟩)) (DT.r rfl rfl rfl (WO.no rfl rfl (WO.nil ⟨rfl, rfl⟩)) (DT.r rfl rfl rfl (WO.no rfl rfl (WO.nil ⟨rfl, rfl⟩)) (DT.r rfl rfl rfl (WO.no rfl rfl (WO.nil ⟨rfl, rfl⟩)) (DT.b rfl rfl rfl (WO.no rfl rfl (WO.nil ⟨rfl, rfl⟩)) (DT.r rfl rfl rfl (WO.no rfl rfl (WO.nil ⟨rfl, rfl⟩)) (DT.r rfl rfl rfl (WO.no rfl rfl (WO.nil ⟨rfl, rfl⟩)) (DT.b rfl rfl rfl (WO.no rfl rfl (WO.nil ⟨rfl, rfl⟩)) (DT.r rfl rfl rfl (WO.no rfl rfl (WO.nil ⟨rfl, rfl⟩)) (DT.b rfl rfl rfl (WO.no rfl rfl (WO.nil ⟨rfl, rfl⟩)) (DT.r rfl rfl rfl (WO.no rfl rfl (WO.nil ⟨rfl, rfl⟩)) ?_)))))))))))
       refine DT.r rfl rfl rfl (WO.no rfl rfl (WO.nil ⟨rfl, rfl⟩)) (DT.r rfl rfl rfl (WO.no rfl rfl (WO.nil ⟨rfl, rfl⟩)) (DT.b rfl rfl rfl (WO.no rfl rfl (WO.nil ⟨rfl, rfl⟩)) (DT.nil [_] rfl (WO.no rfl rfl (WO.no rfl rfl (WO.no rfl rfl (WO.p rfl rfl (WO.nil (W.cond_t rfl (W.sreg (WO.p rfl rfl (WO.nil (W.ret ?_)))))))))))))
       first
       | exact fin.ret (Res.one rfl (RV.tmp rfl)) ⟨_, rfl, fun h => absurd h (by omega)⟩
       | exact fin.ret (Res.one rfl (RV.tmp rfl)) ⟨_, rfl, fun _ => by obtain rfl : i = xs.length := (by omega); exact ⟨by omega, by omega, hln.re, hln.cf, hln.up, hln.dn⟩⟩
      ·refine DT.r rfl rfl rfl (WO.pg rfl rfl rfl (WO.nil ⟨rfl, rfl⟩)) (DT.r rfl rfl rfl (WO.pg rfl rfl rfl (WO.nil ⟨rfl, rfl⟩)) ?_)
       refine DT.rB rfl rfl rfl (WO.pg rfl rfl rfl (WO.nil ⟨rfl, rfl⟩)) (fun c7 => ?_) (fun c7 => ?_)
       ·refine DT.r rfl rfl rfl (WO.go' rfl (WO.field0 rfl rfl rfl (WO.nil ⟨rfl, rfl⟩))) (DT.b rfl rfl rfl (WO.go' rfl (WO.load rfl rfl (Cell.own Pick.head rfl) rfl (WO.nil ⟨rfl, rfl⟩))) (DT.r rfl rfl rfl (WO.pg rfl rfl rfl (WO.nil ⟨rfl, rfl⟩)) (DT.r rfl rfl rfl (WO.go' rfl (WO.indexAddr rfl rfl rfl hX.sl (by omega) rfl (WO.nil ⟨rfl, rfl⟩))) ?_)))
        refine' DT.b rfl rfl rfl ?hq ?_
        case hq =>
         refine WO.go' rfl ?_
         refine' WO.load (v := _) rfl rfl ?hc rfl ?_
         case hc => ((refine hX.cell0 (i := i) (by omega) 0 ?_; rfl))
         exact WO.nil ⟨rfl, rfl⟩
        refine DT.r rfl rfl rfl (WO.go' rfl (WO.field0 rfl rfl rfl (WO.nil ⟨rfl, rfl⟩))) (DT.b rfl rfl rfl (WO.go' rfl (WO.load rfl rfl (Cell.own Pick.head rfl) rfl (WO.nil ⟨rfl, rfl⟩))) (DT.r rfl rfl rfl (WO.pg rfl rfl rfl (WO.nil ⟨rfl, rfl⟩)) (DT.r rfl rfl rfl (WO.go' rfl (WO.ar rfl rfl rfl (by unfold in64; omega) rfl (WO.nil ⟨rfl, rfl⟩))) ?_)))
        refine' DT.r rfl rfl rfl ?hq ?_
        case hq =>
         refine WO.go' rfl ?_
         refine' WO.indexAddrZ (n := _) rfl rfl rfl ?hs ?h00 ?h1 rfl ?_
         case hs => exact hX.sl
         case h00 => omega
         case h1 => (omega)
         exact WO.nil ⟨rfl, rfl⟩
        refine' DT.b rfl rfl rfl ?hq ?_
        case hq =>
         refine WO.go' rfl ?_
         refine' WO.load (v := _) rfl rfl ?hc rfl ?_
         case hc => ((refine hX.cell0 (i := ((i : Int) - 1).toNat) (by omega) 0 ?_; rfl))
         exact WO.nil ⟨rfl, rfl⟩
        refine DT.r rfl rfl rfl (WO.pg rfl rfl rfl (WO.nil ⟨rfl, rfl⟩)) ?_
        refine DT.rB rfl rfl rfl (WO.pg rfl rfl rfl (WO.nil ⟨rfl, rfl⟩)) (fun c8 => ?_) (fun c8 => ?_)
        ·refine DT.r rfl rfl rfl (WO.no rfl rfl (WO.nil ⟨rfl, rfl⟩)) (DT.b rfl rfl rfl (WO.no rfl rfl (WO.nil ⟨rfl, rfl⟩)) (DT.r rfl rfl rfl (WO.no rfl rfl (WO.nil ⟨rfl, rfl⟩)) (DT.r rfl rfl rfl (WO.no rfl rfl (WO.nil ⟨rfl, rfl⟩)) (DT.b rfl rfl rfl (WO.no rfl rfl (WO.nil ⟨rfl, rfl⟩)) (DT.r rfl rfl rfl (WO.no rfl rfl (WO.nil ⟨rfl, rfl⟩)) (DT.b rfl rfl rfl (WO.no rfl rfl (WO.nil ⟨rfl, rfl⟩)) (DT.r rfl rfl rfl (WO.no rfl rfl (WO.nil ⟨rfl, rfl⟩)) (DT.r rfl rfl rfl (WO.no rfl rfl (WO.nil ⟨rfl, rfl⟩)) (DT.r rfl rfl rfl (WO.no rfl rfl (WO.nil ⟨rfl, rfl⟩)) (DT.b rfl rfl rfl (WO.no rfl rfl (WO.nil ⟨rfl, rfl⟩)) (DT.nil [_] rfl ?_)))))))))))
         refine WO.no rfl rfl (WO.pg rfl rfl rfl (WO.pg rfl rfl rfl (WO.p rfl rfl (WO.nil (W.cond_t rfl (W.sreg (WO.p rfl rfl (WO.nil (W.ret ?_)))))))))
         first
         | exact fin.ret (Res.one rfl (RV.tmp rfl)) ⟨_, rfl, fun h => absurd h (by omega)⟩
         | exact fin.ret (Res.one rfl (RV.tmp rfl)) ⟨_, rfl, fun _ => by obtain rfl : i = xs.length := (by omega); exact ⟨by omega, by omega, hln.re, hln.cf, hln.up, hln.dn⟩⟩
        ·refine DT.r rfl rfl rfl (WO.go' rfl (WO.fieldL rfl rfl rfl (WO.nil ⟨rfl, rfl⟩))) (DT.b rfl rfl rfl (WO.go' rfl (WO.load rfl rfl (Cell.own Pick.head rfl) rfl (WO.nil ⟨rfl, rfl⟩))) (DT.r rfl rfl rfl (WO.pg rfl rfl rfl (WO.nil ⟨rfl, rfl⟩)) (DT.r rfl rfl rfl (WO.go' rfl (WO.indexAddr rfl rfl rfl hY.sl (by omega) rfl (WO.nil ⟨rfl, rfl⟩))) ?_)))
         refine' DT.b rfl rfl rfl ?hq ?_
         case hq =>
          refine WO.go' rfl ?_
          refine' WO.load (v := _) rfl rfl ?hc rfl ?_
          case hc => ((refine hY.cell0 (i := i) (by omega) 0 ?_; rfl))
          exact WO.nil ⟨rfl, rfl⟩
         refine DT.r rfl rfl rfl (WO.go' rfl (WO.fieldL rfl rfl rfl (WO.nil ⟨rfl, rfl⟩))) (DT.b rfl rfl rfl (WO.go' rfl (WO.load rfl rfl (Cell.own Pick.head rfl) rfl (WO.nil ⟨rfl, rfl⟩))) (DT.r rfl rfl rfl (WO.pg rfl rfl rfl (WO.nil ⟨rfl, rfl⟩)) (DT.r rfl rfl rfl (WO.go' rfl (WO.ar rfl rfl rfl (by unfold in64; omega) rfl (WO.nil ⟨rfl, rfl⟩))) ?_)))
         refine' DT.r rfl rfl rfl ?hq ?_
         case hq =>
          refine WO.go' rfl ?_
          refine' WO.indexAddrZ (n := _) rfl rfl rfl ?hs ?h00 ?h1 rfl ?_
          case hs => exact hY.sl
          case h00 => omega
          case h1 => (omega)
          exact WO.nil ⟨rfl, rfl⟩
         refine' DT.b rfl rfl rfl ?hq ?_
         case hq =>
          refine WO.go' rfl ?_
          refine' WO.load (v := _) rfl rfl ?hc rfl ?_
          case hc => ((refine hY.cell0 (i := ((i : Int) - 1).toNat) (by omega) 0 ?_; rfl))
          exact WO.nil ⟨rfl, rfl⟩
         refine DT.nil [_] rfl (WO.pg rfl rfl rfl (WO.pg rfl rfl rfl (WO.pg rfl rfl rfl (WO.p rfl rfl (WO.nil ?_)))))
         refine W.cond_bl rfl (fun c9 => ?_) (fun c9 => ?_)
         ·refine W.sreg (WO.p rfl rfl (WO.nil (W.ret ?_)))
          first
          | exact fin.ret (Res.one rfl (RV.tmp rfl)) ⟨_, rfl, fun h => absurd h (by omega)⟩
          | exact fin.ret (Res.one rfl (RV.tmp rfl)) ⟨_, rfl, fun _ => by obtain rfl : i = xs.length := (by omega); exact ⟨by omega, by omega, hln.re, hln.cf, hln.up, hln.dn⟩⟩
         ·refine W.skip (W.region (WO.p rfl rfl (WO.ar rfl rfl rfl (by unfold in64; omega) rfl (WO.p rfl rfl (WO.nil ?_)))))
          refine' ⟨i + 1, ?hp, ?hmu, ⟨rfl, rfl, rfl, trivial⟩, ?hS⟩
          case hS => repeat (first | exact Sub.nil | refine Sub.cons (by repeat exact .head) ?_)
          case hp => exact ⟨by omega, hln.succ (by omega) (by omega) (fun h => by show xs.getD (i - 1) 0 < xs.getD i 0 ∧ ys.getD i 0 ≤ ys.getD (i - 1) 0; rw [show i - 1 = ((i : Int) - 1).toNat by omega]; omega)⟩
          case hmu => omega
       ·refine DT.r rfl rfl rfl (WO.no rfl rfl (WO.nil ⟨rfl, rfl⟩)) (DT.b rfl rfl rfl (WO.no rfl rfl (WO.nil ⟨rfl, rfl⟩)) (DT.r rfl rfl rfl (WO.no rfl rfl (WO.nil ⟨rfl, rfl⟩)) (DT.r rfl rfl rfl (WO.no rfl rfl (WO.nil ⟨rfl, rfl⟩)) (DT.b rfl rfl rfl (WO.no rfl rfl (WO.nil ⟨rfl, rfl⟩)) (DT.r rfl rfl rfl (WO.no rfl rfl (WO.nil ⟨rfl, rfl⟩)) (DT.b rfl rfl rfl (WO.no rfl rfl (WO.nil ⟨rfl, rfl⟩)) (DT.r rfl rfl rfl (WO.no rfl rfl (WO.nil ⟨rfl, rfl⟩)) (DT.r rfl rfl rfl (WO.no rfl rfl (WO.nil ⟨rfl, rfl⟩)) (DT.r rfl rfl rfl (WO.no rfl rfl (WO.nil ⟨rfl, rfl⟩)) (DT.b rfl rfl rfl (WO.no rfl rfl (WO.nil ⟨rfl, rfl⟩)) (DT.r rfl rfl rfl (WO.no rfl rfl (WO.nil ⟨rfl, rfl⟩)) ?_)))))))))))
        refine DT.r rfl rfl rfl (WO.no rfl rfl (WO.nil ⟨rfl, rfl⟩)) (DT.r rfl rfl rfl (WO.no rfl rfl (WO.nil ⟨rfl, rfl⟩)) (DT.b rfl rfl rfl (WO.no rfl rfl (WO.nil ⟨rfl, rfl⟩)) (DT.r rfl rfl rfl (WO.no rfl rfl (WO.nil ⟨rfl, rfl⟩)) (DT.r rfl rfl rfl (WO.no rfl rfl (WO.nil ⟨rfl, rfl⟩)) (DT.b rfl rfl rfl (WO.no rfl rfl (WO.nil ⟨rfl, rfl⟩)) (DT.r rfl rfl rfl (WO.no rfl rfl (WO.nil ⟨rfl, rfl⟩)) (DT.b rfl rfl rfl (WO.no rfl rfl (WO.nil ⟨rfl, rfl⟩)) (DT.r rfl rfl rfl (WO.no rfl rfl (WO.nil ⟨rfl, rfl⟩)) (DT.r rfl rfl rfl (WO.no rfl rfl (WO.nil ⟨rfl, rfl⟩)) (DT.r rfl rfl rfl (WO.no rfl rfl (WO.nil ⟨rfl, rfl⟩)) (DT.b rfl rfl rfl (WO.no rfl rfl (WO.nil ⟨rfl, rfl⟩)) ?_)))))))))))
        refine DT.nil [_] rfl (WO.no rfl rfl (WO.no rfl rfl (WO.pg rfl rfl rfl (WO.p rfl rfl (WO.nil (W.cond_f rfl (W.skip (W.region (WO.p rfl rfl (WO.ar rfl rfl rfl (by unfold in64; omega) rfl (WO.p rfl rfl (WO.nil ?_))))))))))))
        refine' ⟨i + 1, ?hp, ?hmu, ⟨rfl, rfl, rfl, trivial⟩, ?hS⟩
        case hS => repeat (first | exact Sub.nil | refine Sub.cons (by repeat exact .head) ?_)
        case hp => exact ⟨by omega, hln.succ (by omega) (by omega) (fun h => by show xs.getD (i - 1) 0 < xs.getD i 0 ∧ ys.getD i 0 ≤ ys.getD (i - 1) 0; rw [show i - 1 = ((i : Int) - 1).toNat by omega]; omega)⟩
        case hmu => omega
    ·refine W.exit (blk_same (W.sreg (WO.p rfl rfl (WO.nil (W.ret ?_)))))
     first
     | exact fin.ret (Res.one rfl (RV.tmp rfl)) ⟨_, rfl, fun h => absurd h (by omega)⟩
     | exact fin.ret (Res.one rfl (RV.tmp rfl)) ⟨_, rfl, fun _ => by obtain rfl : i = xs.length := (by omega); exact ⟨by omega, by omega, hln.re, hln.cf, hln.up, hln.dn⟩⟩
structure Bd where
 n : Int
 m : Int
 lo : Int
 hi : Int
def encBd (b : Bd) : List Value := [.int .i64 b.n, .int .i64 b.m, .int .i64 b.lo, .int .i64 b.hi]
theorem encBd_ok : EncOk encBd 4 := ⟨fun _ => rfl, fun x u hu => by simp [encBd] at hu; rcases hu with rfl | rfl | rfl | rfl <;> rfl, by omega⟩
def bd0 : Bd := ⟨0, 0, 0, 0⟩
abbrev bdV (b : Bd) : Value := .agg #[.int .i64 b.n, .int .i64 b.m, .int .i64 b.lo, .int .i64 b.hi]
def OkBd (b : Bd) : Prop := b.lo ≤ b.n ∧ b.n ≤ b.m ∧ b.m ≤ b.hi
theorem RdF.cellsB {C : Cx Tryz.prog} {H : List HP} {o : Value} {l : List Bd} (h : RdF encBd 4 C.B C.w0 o l) {i : Nat} (h1 : i < l.length) : Cells C H (elt o i 4) [.int .i64 (l.getD i bd0).n, .int .i64 (l.getD i bd0).m, .int .i64 (l.getD i bd0).lo, .int .i64 (l.getD i bd0).hi] := RdF.cells h h1 bd0
theorem c_exactly (w : World) (n lo hi : Int) : Ret Tryz.prog 112 [.int .i64 n, .int .i64 lo, .int .i64 hi].toArray w (bdV ⟨n, n, lo, hi⟩) := by
 refine Ret.of mixed tyTab Tryz.func112 rfl rfl (W.sreg (WO.alloc rfl rfl rfl (fun b1 hb1 => (WO.nil (W.sreg (WO.p rfl rfl (WO.p rfl rfl (WO.build rfl rfl rfl rfl rfl (WO.p rfl rfl (WO.p rfl rfl (WO.build rfl rfl rfl rfl rfl (WO.storeA rfl rfl rfl rfl Pick.head rfl rfl (WO.nil (W.ret ?_))))))))))))))
 exact fin.ret (Res.one rfl (RV.cell rfl rfl rfl (Cells.own (by repeat exact .head)))) rfl
theorem c_Values (w : World) (v : Value) (ho : v.oneCell' = true) : Ct Tryz.prog 184 [v].toArray w fun r w' => ∃ Hq, (∃ b, r = .func (.func 257) #[] #[.pointer (some ⟨b, 0, none⟩)] ∧ Hq = [pt b (.cells #[v] 300 (0, 0))]) ∧ Inv w [] Hq w' := by
 refine Ct.of mixed tyTab Tryz.func184 rfl rfl (W.sreg (WO.box1 rfl (by assumption) rfl (fun b1 hb1 => (WO.p rfl rfl (WO.nil (W.sreg (WO.p rfl rfl (WO.p rfl rfl (WO.nil (W.ret ?_))))))))))
 exact fin.ret (Res.one rfl (RV.tmp rfl)) ⟨b1, rfl, rfl⟩
theorem c_bounds (w : World) (v : Value) (ho : v.oneCell' = true) : Ct Tryz.prog 111 [v].toArray w fun r w' => ∃ Hq, (∃ b, r = .func (.func 257) #[] #[.pointer (some ⟨b, 0, none⟩)] ∧ Hq = [pt b (.cells #[v] 300 (0, 0))]) ∧ Inv w [] Hq w' := by
 refine Ct.of mixed tyTab Tryz.func111 rfl rfl (W.sreg (WO.p rfl rfl (WO.nil (W.sreg (WO.p rfl rfl (WO.call (Post := fun r Hq => ∃ b, r = .func (.func 257) #[] #[.pointer (some ⟨b, 0, none⟩)] ∧ Hq = [pt b (.cells #[v] 300 (0, 0))]) rfl Tryz.call184 (fun L w hi => c_Values w v ho) rfl ?_))))))
 rintro _ _ ⟨b9, rfl, rfl⟩
 refine WO.p rfl rfl (WO.nil (W.ret ?_))
 exact fin.ret (Res.one rfl (RV.tmp rfl)) ⟨b9, rfl, rfl⟩
theorem bds_get {l : List Bd} {i : Nat} (h : i < l.length) : (l.map bdV)[i]? = some (bdV (l.getD i bd0)) := by
 rw [List.getElem?_map, List.getD_eq_getElem?_getD, List.getElem?_eq_getElem h]; rfl
theorem c_vals1 (B : Nat) (wr : World) (p : Addr) (v : Value) (l : List Bd) (hlt : p.block < B) (hat : wr.cell? p = some v) (hR : RdF encBd 4 B wr v l)
 (ll : Nat) (Hc : Nat → List HP) (hy : ∀ k x, (l.map bdV)[k]? = some x → YieldOK Tryz.prog B wr ll #[x] (Hc k) (Hc (k + 1))) (w : World) (M' : List Nat) (hB : B ≤ w.heap.size) (hk : ∀ k, k < B → w.heap[k]? = wr.heap[k]?) (hM : ∀ b ∈ M', B ≤ b)
 (hi : Inv w M' ([] ++ Hc 0) w) :
 Ct Tryz.prog 257 ([.func (.yield ll) #[] #[], .pointer (some p)] : List Value).toArray w fun _ w' => Inv w M' ([] ++ Hc (l.map bdV).length) w' := by
 refine Iter.of mixed tyTab hB hM Tryz.func257 rfl rfl hi ?_
 replace hR : RdF encBd 4 (itCx mixed tyTab Tryz.f257.ntmps w M' B hB hM).B (itCx mixed tyTab Tryz.f257.ntmps w M' B hB hM).w0 v l := hR.agree hk
 have hle := hR.sl.le
 have hat2 : w.cell? p = some v := by rw [cell_agree hk hlt]; exact hat
 refine W.sreg ?_
 refine' WO.load (v := _) rfl rfl ?hc rfl ?_
 case hc => ((refine Cell.old (v := v) (C := itCx mixed tyTab Tryz.f257.ntmps w M' B hB hM) hlt ?_; exact hat2))
 refine WO.len rfl rfl hR.sl rfl (WO.p rfl rfl (WO.nil (W.block ?_)))
 refine W.loop (fun (i : Nat) => i ≤ l.length)
  (fun (i : Nat) => [(0, .func (.yield ll) #[] #[]), (1, .pointer (some p)), (5, v), (6, .int .i64 (l.length : Int)), (7, .int .i64 (i : Int))])
  (fun (i : Nat) => [sat (Hc i)])
  (fun (i : Nat) => l.length - i) 0
  (by exact Nat.zero_le _) ⟨rfl, rfl, rfl, rfl, rfl, trivial⟩ (by repeat (first | exact Sub.nil | refine Sub.cons (by repeat exact .head) ?_)) ?_
 rintro i hi'
 refine W.sreg (WO.p rfl rfl (WO.nil (W.seq ?_)))
 refine W.cond_bl rfl (fun c1 => ?_) (fun c1 => ?_)
 ·refine W.skip (W.seq (W.block (W.sreg (WO.indexAddr rfl rfl rfl hR.sl (by omega) rfl (WO.loadA rfl rfl (RdF.cellsB hR (i := i) (by omega)) rfl rfl (WO.alloc rfl rfl rfl (fun b1 hb1 => (WO.storeA rfl rfl rfl rfl Pick.head rfl rfl (WO.nil (W.sreg (WO.p rfl rfl (WO.loadA rfl rfl (Cells.own Pick.head) rfl rfl (WO.yield rfl rfl (by repeat first | exact .head | apply Pick.tail) ((hy _ _ (bds_get (by omega))).one.agree hk) rfl (WO.p rfl rfl (WO.nil (W.cond_f rfl (W.skip (W.region (WO.ar rfl rfl rfl (by unfold in64; omega) rfl (WO.p rfl rfl (WO.nil ?_)))))))))))))))))))))
  refine' ⟨i + 1, ?hp, ?hmu, ⟨rfl, rfl, rfl, rfl, rfl, trivial⟩, ?hS⟩
  case hS => repeat (first | exact Sub.nil | refine Sub.cons (by repeat exact .head) ?_)
  case hp => omega
  case hmu => omega
 ·refine W.exit (blk_same ?_)
  obtain rfl : i = l.length := by omega
  refine fin.normal (Res.none rfl) ?_
  rw [List.length_map]
  exact .cons (by repeat exact .head) .nil
theorem c_good (w : World) (p : Addr) (v : Value) (l : List Bd) (hC : Cap w p v) (hR : RdF encBd 4 w.heap.size w v l) (hl : ∀ b ∈ l, OkBd b) : Ret Tryz.prog 110 [.func (.func 257) #[] #[.pointer (some p)]].toArray w (.bool true) := by
 refine Ret.of mixed tyTab Tryz.func110 rfl rfl ?_
 replace hR : RdF encBd 4 (fnCx mixed tyTab Tryz.f110.ntmps w).B (fnCx mixed tyTab Tryz.f110.ntmps w).w0 v l := hR
 refine W.sreg (WO.alloc rfl rfl rfl (fun b1 hb1 => (WO.nil (W.seq (W.sreg (WO.p rfl rfl (WO.nil (W.block ?_))))))))
 refine W.rangeFunc [] (fun t => [pt b1 (.cells #[.bool false] 4 (0, 0))]) (l.map bdV) rfl rfl rfl Tryz.call257 (by repeat (first | exact Sub.nil | refine Sub.cons (by repeat exact .head) ?_)) ?_ ?_ ?_
 ·intro ll Hc hy w1 M1 hB1 hk1 hM1 hi1
  exact c_vals1 _ _ p v l hC.lt hC.at_ hR ll Hc hy w1 M1 hB1 hk1 hM1 hi1
 ·intro ll w1 M1 hB1 hM1 hk1 t x hx
  obtain ⟨b, hb, rfl⟩ : ∃ b : Bd, b ∈ l ∧ bdV b = x := by obtain ⟨b, hb⟩ := List.getElem?_eq_some_iff.1 hx; simp at b; exact ⟨l[t], List.getElem_mem _, by simpa using hb⟩
  have hob := hl b hb
  unfold OkBd at hob
  refine W.region (WO.alloc rfl rfl rfl (fun b2 hb2 => (WO.storeA rfl rfl rfl rfl Pick.head rfl rfl (WO.nil (W.block (W.sreg (WO.field0 rfl rfl rfl (WO.field0 rfl rfl rfl (WO.load rfl rfl (Cell.own Pick.head rfl) rfl (WO.fieldL rfl rfl rfl (WO.load rfl rfl (Cell.own Pick.head rfl) rfl (WO.p rfl rfl (WO.p rfl rfl ?_)))))))))))))
  refine WO.guard_bl rfl rfl (fun c1 => ?_) (fun c1 => ?_)
  ·exfalso; omega
  ·refine WO.go' rfl (WO.field0 rfl rfl rfl (WO.go' rfl (WO.field0 rfl rfl rfl (WO.go' rfl (WO.load rfl rfl (Cell.own Pick.head rfl) rfl (WO.go' rfl (WO.field0 rfl rfl rfl (WO.go' rfl (WO.fieldL rfl rfl rfl (WO.go' rfl (WO.load rfl rfl (Cell.own Pick.head rfl) rfl (WO.pg rfl rfl rfl (WO.p rfl rfl (WO.p rfl rfl ?_))))))))))))))
   refine WO.guard_bl rfl rfl (fun c2 => ?_) (fun c2 => ?_)
   ·exfalso; omega
   ·refine WO.go' rfl (WO.field0 rfl rfl rfl (WO.go' rfl (WO.fieldL rfl rfl rfl (WO.go' rfl (WO.load rfl rfl (Cell.own Pick.head rfl) rfl (WO.go' rfl (WO.fieldL rfl rfl rfl (WO.go' rfl (WO.load rfl rfl (Cell.own Pick.head rfl) rfl (WO.pg rfl rfl rfl (WO.p rfl rfl (WO.nil ?_))))))))))))
    refine W.cond_bl rfl (fun c3 => ?_) (fun c3 => ?_)
    ·exfalso; omega
    ·refine W.skip ?_
     (repeat (first | exact Sub.nil | refine Sub.cons (by repeat first | exact .head | apply Pick.tail) ?_))
 refine W.sreg (WO.store1 rfl rfl rfl (by rfl) Pick.head rfl (WO.nil (W.ret ?_)))
 exact fin.ret (Res.one rfl (RV.cell1 rfl rfl (Cell.own (by repeat exact .head) rfl))) rfl
end Go.Proofs.YtncjabmlkgacdaaGreat
namespace Go.Proofs.YtncjabmlkgacdaaGreat
open Go Go.TH
attribute [local irreducible] W WO pt
set_option maxRecDepth 10000
set_option maxHeartbeats 1000000
def reB (xs : List Int) (i : Nat) : Int := if i = 0 then 0 else xat xs (i - 1)
def cfB (ys : List Int) (i : Nat) : Int := if i = 0 then 100000 else xat ys (i - 1)
theorem reB_s (xs : List Int) (i : Nat) : reB xs (i + 1) = xat xs i := by unfold reB; rw [if_neg (by omega)]; rfl
theorem cfB_s (ys : List Int) (i : Nat) : cfB ys (i + 1) = xat ys i := by unfold cfB; rw [if_neg (by omega)]; rfl
theorem OkLn.bds {xs ys : List Int} (h : OkLn xs ys) {i : Nat} (hi : i < xs.length) : (0 ≤ reB xs i ∧ reB xs i + 1 ≤ xs.getD i 0 ∧ xs.getD i 0 ≤ 1000000000) ∧ 0 ≤ ys.getD i 0 ∧ ys.getD i 0 ≤ cfB ys i := by
 have h1 := h.re i hi
 have h2 := h.cf i hi
 unfold reB cfB xat at *
 split
 ·omega
 ·have h3 := h.up (i - 1) (by omega)
  have h4 := h.dn (i - 1) (by omega)
  have h5 := h.re (i - 1) (by omega)
  have e : i - 1 + 1 = i := by omega
  rw [e] at h3 h4
  unfold xat at *
  omega
theorem c_CheckLine (w : World) (v u : Value) (xs ys : List Int) (hX : RdF encI 1 w.heap.size w v xs) (hY : RdF encI 1 w.heap.size w u ys) (hL : OkLn xs ys) : Ret Tryz.prog 54 [.agg #[v, u]].toArray w (.int .i64 0) := by
 refine Ret.of mixed tyTab Tryz.func54 rfl rfl ?_
 replace hX : RdF encI 1 (fnCx mixed tyTab Tryz.f54.ntmps w).B (fnCx mixed tyTab Tryz.f54.ntmps w).w0 v xs := hX
 replace hY : RdF encI 1 (fnCx mixed tyTab Tryz.f54.ntmps w).B (fnCx mixed tyTab Tryz.f54.ntmps w).w0 u ys := hY
 have hxo := hX.sl.oc
 have hyo := hY.sl.oc
 have hn := hL.n
 have hyn := hL.len
 refine W.sreg (WO.boxA rfl rfl (fun b1 hb1 => (WO.p rfl rfl (WO.nil (W.seq (W.block (W.sreg (WO.field0 rfl rfl rfl (WO.load rfl rfl (Cell.own Pick.head rfl) rfl ?_)))))))))
 refine' WO.len (n := _) rfl rfl ?hs rfl ?_
 case hs => (first | exact hX.sl)
 refine WO.p rfl rfl (WO.p rfl rfl ?_)
 refine WO.guard_bl rfl rfl (fun c1 => ?_) (fun c1 => ?_)
 ·exfalso; omega
 ·refine WO.go' rfl (WO.field0 rfl rfl rfl (WO.go' rfl (WO.load rfl rfl (Cell.own Pick.head rfl) rfl (WO.go' rfl ?_))))
  refine' WO.len (n := _) rfl rfl ?hs rfl ?_
  case hs => (first | exact hX.sl)
  refine WO.pg rfl rfl rfl (WO.p rfl rfl (WO.p rfl rfl (WO.nil ?_)))
  refine W.cond_bl rfl (fun c2 => ?_) (fun c2 => ?_)
  ·exfalso; omega
  ·refine W.sreg (WO.fieldL rfl rfl rfl (WO.load rfl rfl (Cell.own Pick.head rfl) rfl ?_))
   refine' WO.len (n := _) rfl rfl ?hs rfl ?_
   case hs => (first | exact hY.sl)
   refine WO.field0 rfl rfl rfl (WO.load rfl rfl (Cell.own Pick.head rfl) rfl ?_)
   refine' WO.len (n := _) rfl rfl ?hs rfl ?_
   case hs => (first | exact hX.sl)
   refine WO.p rfl rfl (WO.p rfl rfl (WO.nil ?_))
   refine W.cond_bl rfl (fun c3 => ?_) (fun c3 => ?_)
   ·exfalso; omega
   ·refine W.skip (W.sreg (WO.p rfl rfl (WO.p rfl rfl (WO.nil (W.seq (W.sreg (WO.field0 rfl rfl rfl (WO.load rfl rfl (Cell.own Pick.head rfl) rfl ?_))))))))
    refine' WO.len (n := _) rfl rfl ?hs rfl ?_
    case hs => (first | exact hX.sl)
    refine WO.p rfl rfl (WO.nil (W.block ?_))
    refine W.loop3 (fun (i : Nat) (a : Int) (b : Int) => i ≤ xs.length ∧ a = reB xs i ∧ b = cfB ys i)
     (fun (i : Nat) (a : Int) (b : Int) => [(1, .pointer (some ⟨b1, 0, none⟩)), (2, .int .i64 0), (3, .int .i64 a), (4, .int .i64 b), (27, v), (28, .int .i64 (xs.length : Int)), (29, .int .i64 (i : Int))])
     (fun (i : Nat) (a : Int) (b : Int) => [pt b1 (.cells #[v, u] 72 (0, 0))])
     (fun (i : Nat) (a : Int) (b : Int) => xs.length - i) 0 0 100000
     (by exact ⟨by omega, rfl, rfl⟩) ⟨rfl, rfl, rfl, rfl, rfl, rfl, rfl, trivial⟩ (by repeat (first | exact Sub.nil | refine Sub.cons (by repeat exact .head) ?_)) ?_
    rintro i a b ⟨hi0, rfl, rfl⟩
    refine W.sreg (WO.p rfl rfl (WO.nil (W.seq ?_)))
    refine W.cond_bl rfl (fun c4 => ?_) (fun c4 => ?_)
    ·refine W.skip (W.seq (W.block (W.sreg (WO.p rfl rfl ?_))))
     refine' WO.indexAddr (n := _) (i := _) rfl rfl rfl ?hs ?h1 rfl ?_
     case hs => (first | exact hX.sl)
     case h1 => (omega)
     refine' WO.load (v := _) rfl rfl ?hc rfl ?_
     case hc => ((refine hX.cell0 (i := i) (by omega) 0 ?_; rfl))
     refine WO.p rfl rfl (WO.p rfl rfl (WO.nil (W.seq (W.seq ?_))))
     have hb := hL.bds (i := i) (by omega)
     refine W.drawD 10 [.r 0 [], .r 1 [], .r 2 [], .b 3 [], .r 4 [], .b 5 [], .r 6 [], .r 7 [], .b 8 [], .r 9 []] [] (A0 := []) (Sub.refl _) (by kernel_rfl) ?_ ?_
     ·repeat constructor
     refine DT.r rfl rfl rfl (WO.p rfl rfl (WO.nil ⟨rfl, rfl⟩)) (DT.r rfl rfl rfl (WO.p rfl rfl (WO.nil ⟨rfl, rfl⟩)) (DT.r rfl rfl rfl (WO.ar rfl rfl rfl (by unfold in64; omega) rfl (WO.nil ⟨rfl, rfl⟩)) (DT.b rfl rfl rfl (WO.callR (r := bdV ⟨xs.getD i 0, xs.getD i 0, reB xs i + 1, 1000000000⟩) rfl Tryz.call112 (fun L w hi => c_exactly w _ _ _) rfl (WO.nil ⟨rfl, rfl⟩)) (DT.r rfl rfl rfl (WO.fieldL rfl rfl rfl (WO.nil ⟨rfl, rfl⟩)) (DT.b rfl rfl rfl (WO.load rfl rfl (Cell.own Pick.head rfl) rfl (WO.nil ⟨rfl, rfl⟩)) (DT.r rfl rfl rfl (WO.p rfl rfl (WO.nil ⟨rfl, rfl⟩)) ?_))))))
     refine' DT.r rfl rfl rfl ?hq ?_
     case hq =>
      refine' WO.indexAddr (n := _) (i := _) rfl rfl rfl ?hs ?h1 rfl ?_
      case hs => (first | exact hY.sl)
      case h1 => (omega)
      exact WO.nil ⟨rfl, rfl⟩
     refine' DT.b rfl rfl rfl ?hq ?_
     case hq =>
      refine' WO.load (v := _) rfl rfl ?hc rfl ?_
      case hc => ((refine hY.cell0 (i := i) (by omega) 0 ?_; rfl))
      exact WO.nil ⟨rfl, rfl⟩
     refine DT.r rfl rfl rfl (WO.p rfl rfl (WO.nil ⟨rfl, rfl⟩)) (DT.nil [_] rfl (WO.callR (r := bdV ⟨ys.getD i 0, ys.getD i 0, 0, cfB ys i⟩) rfl Tryz.call112 (fun L w hi => c_exactly w _ _ _) rfl (WO.buildSl rfl rfl rfl rfl rfl rfl rfl rfl rfl (fun v2 => (WO.call (Post := fun r Hq => ∃ b, r = .func (.func 257) #[] #[.pointer (some ⟨b, 0, none⟩)] ∧ Hq = [pt b (.cells #[.slice (some ⟨v2, 0, none⟩) 2 2] 300 (0, 0))]) rfl Tryz.call111 (fun L w hi => c_bounds w _ rfl) rfl ?_)))))
     rintro _ _ ⟨b9, rfl, rfl⟩
     refine WO.callR (r := .bool true) rfl Tryz.call110 (fun L w hi => c_good w ⟨b9, 0, none⟩ _ [⟨xs.getD i 0, xs.getD i 0, reB xs i + 1, 1000000000⟩, ⟨ys.getD i 0, ys.getD i 0, 0, cfB ys i⟩] (Cap.of (b := b9) (by repeat exact .head) rfl hi) (RdF.of_ow (e := 202) encBd_ok (by repeat first | exact .head | apply Pick.tail) hi) (fun b hb2 => by have : b = ⟨xs.getD i 0, xs.getD i 0, reB xs i + 1, 1000000000⟩ ∨ b = ⟨ys.getD i 0, ys.getD i 0, 0, cfB ys i⟩ := (by simpa using hb2); rcases this with rfl | rfl <;> (unfold OkBd; dsimp only; omega))) rfl (WO.p rfl rfl (WO.nil (W.cond_f rfl (W.skip ?_))))
     refine W.drawD 7 [.r 0 [], .r 1 [3], .b 2 [3], .r 3 [3], .r 4 [3], .b 5 [3], .r 6 [3]] [3] (A0 := []) (Sub.refl _) (by kernel_rfl) ?_ ?_
     ·repeat constructor
     refine DT.r rfl rfl rfl (WO.p rfl rfl (WO.nil ⟨rfl, rfl⟩)) (DT.r rfl rfl rfl (WO.fieldL rfl rfl rfl (WO.nil ⟨rfl, rfl⟩)) (DT.b rfl rfl rfl (WO.load rfl rfl (Cell.own (Pick.tail (Pick.tail (Pick.head))) rfl) rfl (WO.nil ⟨rfl, rfl⟩)) (DT.r rfl rfl rfl (WO.p rfl rfl (WO.nil ⟨rfl, rfl⟩)) ?_)))
     refine' DT.r rfl rfl rfl ?hq ?_
     case hq =>
      refine' WO.indexAddr (n := _) (i := _) rfl rfl rfl ?hs ?h1 rfl ?_
      case hs => (first | exact hY.sl)
      case h1 => (omega)
      exact WO.nil ⟨rfl, rfl⟩
     refine' DT.b rfl rfl rfl ?hq ?_
     case hq =>
      refine' WO.load (v := _) rfl rfl ?hc rfl ?_
      case hc => ((refine hY.cell0 (i := i) (by omega) 0 ?_; rfl))
      exact WO.nil ⟨rfl, rfl⟩
     refine DT.r rfl rfl rfl (WO.p rfl rfl (WO.nil ⟨rfl, rfl⟩)) (DT.nil [_, _, _] rfl (WO.p rfl rfl (WO.nil (W.region (WO.ar rfl rfl rfl (by unfold in64; omega) rfl (WO.p rfl rfl (WO.nil ?_)))))))
     refine' ⟨i + 1, _, _, ?hp, ?hmu, ⟨rfl, rfl, rfl, rfl, rfl, rfl, rfl, trivial⟩, ?hS⟩
     case hS => repeat (first | exact Sub.nil | refine Sub.cons (by repeat first | exact .head | apply Pick.tail) ?_)
     case hp => exact ⟨by omega, (reB_s xs i).symm, (cfB_s ys i).symm⟩
     case hmu => omega
    ·refine W.exit (blk_same (W.sreg (WO.p rfl rfl (WO.nil (W.ret ?_)))))
     exact fin.ret (Res.one rfl (RV.tmp rfl)) rfl
end Go.Proofs.YtncjabmlkgacdaaGreat
namespace Go.Proofs.YtncjabmlkgacdaaGreat
open Go Go.TH
attribute [local irreducible] W WO pt
set_option maxRecDepth 10000
set_option maxHeartbeats 1000000
theorem mul_bdQ {a b A B : Int} (ha : -A ≤ a ∧ a ≤ A) (hb : -B ≤ b ∧ b ≤ B) : -(A * B) ≤ a * b ∧ a * b ≤ A * B := by
 have h1 := Int.mul_nonneg (show 0 ≤ A - a by omega) (show 0 ≤ B + b by omega)
 have h2 := Int.mul_nonneg (show 0 ≤ A + a by omega) (show 0 ≤ B - b by omega)
 have h3 := Int.mul_nonneg (show 0 ≤ A - a by omega) (show 0 ≤ B - b by omega)
 have h4 := Int.mul_nonneg (show 0 ≤ A + a by omega) (show 0 ≤ B + b by omega)
 have e1 : (A - a) * (B + b) = A * B + A * b - a * B - a * b := by grind
 have e2 : (A + a) * (B - b) = A * B - A * b + a * B - a * b := by grind
 have e3 : (A - a) * (B - b) = A * B - A * b - a * B + a * b := by grind
 have e4 : (A + a) * (B + b) = A * B + A * b + a * B + a * b := by grind
 omega
theorem tdiv_bdQ {n g : Int} (hg : 0 < g) (h : -100000000000000 ≤ n ∧ n ≤ 100000000000000) : -100000000000000 ≤ n.tdiv g ∧ n.tdiv g ≤ 100000000000000 := by
 rcases Int.le_total 0 n with h0 | h0
 ·have h1 := Int.tdiv_nonneg (a := n) (b := g) h0 (by omega)
  have h2 := Int.tdiv_le_self (a := n) g h0
  omega
 ·have h1 := Int.tdiv_nonneg (a := -n) (b := g) (by omega) (by omega)
  have h2 := Int.tdiv_le_self (a := -n) g (by omega)
  rw [Int.neg_tdiv] at h1 h2; omega
theorem fit6 {a : Nat} (h : a < 1000000) : Fits .i64 a := Nat.lt_of_lt_of_le h (by decide)
theorem c_isNaN6 (w : World) (x : Int) : Ret Tryz.prog 305 [.int .i64 x].toArray w (.bool false) := by
 refine Ret.of mixed tyTab Tryz.func305 rfl rfl (W.sreg (WO.p rfl rfl (WO.nil (W.sreg (WO.p rfl rfl (WO.p rfl rfl (WO.p rfl rfl (WO.p rfl rfl (WO.nil (W.ret ?_))))))))))
 exact fin.ret (Res.one rfl (RV.tmp rfl)) (congrArg Value.bool (bl_f.2 (by omega)))
theorem c_isNaN7 (w : World) (x : Int) : Ret Tryz.prog 259 [.int .i64 x].toArray w (.bool false) := by
 refine Ret.of mixed tyTab Tryz.func259 rfl rfl (W.sreg (WO.p rfl rfl (WO.nil (W.sreg (WO.p rfl rfl (WO.p rfl rfl (WO.p rfl rfl (WO.p rfl rfl (WO.nil (W.ret ?_))))))))))
 exact fin.ret (Res.one rfl (RV.tmp rfl)) (congrArg Value.bool (bl_f.2 (by omega)))
theorem c_Less6 (w : World) (x y : Int) : Ret Tryz.prog 258 [.int .i64 x, .int .i64 y].toArray w (.bool (bl (x < y))) := by
 refine Ret.of mixed tyTab Tryz.func258 rfl rfl (W.sreg (WO.p rfl rfl (WO.nil (W.sreg (WO.p rfl rfl (WO.callR rfl Tryz.call305 (fun L w hi => c_isNaN6 w _) rfl (WO.p rfl rfl (WO.no rfl rfl (WO.no rfl rfl (WO.no rfl rfl (WO.p rfl rfl (WO.p rfl rfl (WO.pg rfl rfl rfl (WO.pg rfl rfl rfl (WO.pg rfl rfl rfl (WO.p rfl rfl (WO.p rfl rfl (WO.nil (W.ret (fin.ret (Res.one rfl (RV.tmp rfl)) (congrArg Value.bool ?_)))))))))))))))))))))
 rfl
structure AtS (xs : List Int) (x : Int) (i : Nat) : Prop where
 le : i ≤ xs.length
 lo : ∀ j, j < i → xs.getD j 0 < x
 hi : ∀ j, i ≤ j → j < xs.length → x ≤ xs.getD j 0
theorem bs_up {xs : List Int} {x : Int} {i j : Nat} (hij : i ≤ j) (hjn : j ≤ xs.length) (h : i < j) (hs : ∀ i j, i < j → j < xs.length → xs.getD i 0 < xs.getD j 0) (hhi : ∀ k, j ≤ k → k < xs.length → x ≤ xs.getD k 0) (hx : xs.getD ((i + j) / 2) 0 < x) : (i + j) / 2 + 1 ≤ j ∧ j ≤ xs.length ∧ (∀ k, k < (i + j) / 2 + 1 → xs.getD k 0 < x) ∧ ∀ k, j ≤ k → k < xs.length → x ≤ xs.getD k 0 := by
 refine ⟨by omega, hjn, fun k hk => ?_, hhi⟩
 rcases Nat.lt_or_ge k ((i + j) / 2) with g | g
 ·have := hs k ((i + j) / 2) g (by omega)
  omega
 ·obtain rfl : k = (i + j) / 2 := by omega
  exact hx
theorem bs_dn {xs : List Int} {x : Int} {i j : Nat} (hij : i ≤ j) (hjn : j ≤ xs.length) (h : i < j) (hs : ∀ i j, i < j → j < xs.length → xs.getD i 0 < xs.getD j 0) (hlo : ∀ k, k < i → xs.getD k 0 < x) (hx : ¬ xs.getD ((i + j) / 2) 0 < x) : i ≤ (i + j) / 2 ∧ (i + j) / 2 ≤ xs.length ∧ (∀ k, k < i → xs.getD k 0 < x) ∧ ∀ k, (i + j) / 2 ≤ k → k < xs.length → x ≤ xs.getD k 0 := by
 refine ⟨by omega, by omega, hlo, fun k h1 h2 => ?_⟩
 rcases Nat.lt_or_ge ((i + j) / 2) k with g | g
 ·have := hs ((i + j) / 2) k g h2
  omega
 ·obtain rfl : k = (i + j) / 2 := by omega
  omega
theorem c_Search (w : World) (v : Value) (xs : List Int) (x : Int) (hR : RdF encI 1 w.heap.size w v xs) (hn : xs.length ≤ 1000) (hs : ∀ i j, i < j → j < xs.length → xs.getD i 0 < xs.getD j 0) : RetE Tryz.prog 185 [v, .int .i64 x].toArray w (fun r => ∃ (i : Nat) (b : Bool), r = .tuple #[.int .i64 (i : Int), .bool b] ∧ AtS xs x i) := by
 refine RetE.of mixed tyTab Tryz.func185 rfl rfl ?_
 replace hR : RdF encI 1 (fnCx mixed tyTab Tryz.f185.ntmps w).B (fnCx mixed tyTab Tryz.f185.ntmps w).w0 v xs := hR
 refine W.sreg (WO.p rfl rfl (WO.p rfl rfl (WO.nil (W.sreg (WO.p rfl rfl ?_)))))
 refine' WO.len (n := _) rfl rfl ?hs rfl ?_
 case hs => exact hR.sl
 refine WO.p rfl rfl (WO.nil (W.sreg (WO.p rfl rfl (WO.p rfl rfl (WO.p rfl rfl (WO.nil (W.seq (W.block ?_))))))))
 refine W.loop2 (fun (i : Nat) (j : Nat) => i ≤ j ∧ j ≤ xs.length ∧ (∀ k, k < i → xs.getD k 0 < x) ∧ (∀ k, j ≤ k → k < xs.length → x ≤ xs.getD k 0))
  (fun (i : Nat) (j : Nat) => [(0, v), (1, .int .i64 x), (6, .int .i64 (xs.length : Int)), (7, .int .i64 (i : Int)), (8, .int .i64 (j : Int))])
  (fun (i : Nat) (j : Nat) => [])
  (fun (i : Nat) (j : Nat) => j - i) 0 xs.length
  (by exact ⟨by omega, by omega, fun k hk => by omega, fun k h1 h2 => by omega⟩) ⟨rfl, rfl, rfl, rfl, rfl, trivial⟩ (by repeat (first | exact Sub.nil | refine Sub.cons (by repeat first | exact .head | apply Pick.tail) ?_)) ?_
 rintro i j ⟨hij, hjn, hlo, hhi⟩
 refine W.seq (W.sreg (WO.p rfl rfl (WO.p rfl rfl (WO.p rfl rfl (WO.nil ?_)))))
 refine W.cond_bl rfl (fun c1 => ?_) (fun c1 => ?_)
 ·refine W.skip (W.block (W.sreg (WO.p rfl rfl (WO.p rfl rfl (WO.ar rfl rfl rfl (by unfold in64; omega) rfl (WO.convI (b := ((i + j : Nat) : Int)) rfl rfl rfl (by rw [show (i : Int) + (j : Int) = ((i + j : Nat) : Int) by omega]; exact u64_in (by omega)) rfl (WO.shrN (a := i + j) (s := 1) rfl rfl (by decide) rfl (WO.convI (b := (((i + j) / 2 : Nat) : Int)) rfl rfl rfl (by rw [show (i + j) >>> 1 = (i + j) / 2 by rw [Nat.shiftRight_eq_div_pow]]; exact wrap_nat (fit6 (by omega))) rfl (WO.p rfl rfl (WO.nil (W.sreg (WO.p rfl rfl (WO.p rfl rfl ?_)))))))))))))
  refine' WO.indexAddr (n := _) (i := _) rfl rfl rfl ?hs ?h1 rfl ?_
  case hs => exact hR.sl
  case h1 => (omega)
  refine' WO.load (v := _) rfl rfl ?hc rfl ?_
  case hc => ((refine hR.cell0 (i := (i + j) / 2) (by omega) 0 ?_; rfl))
  refine WO.p rfl rfl (WO.callR rfl Tryz.call258 (fun L w hi => c_Less6 w _ _) rfl (WO.nil ?_))
  refine W.cond_bl rfl (fun c2 => ?_) (fun c2 => ?_)
  ·refine W.region (WO.p rfl rfl (WO.ar rfl rfl rfl (by unfold in64; omega) rfl (WO.p rfl rfl (WO.nil ?_))))
   refine' ⟨_, _, ?hp, ?hmu, ⟨rfl, rfl, rfl, rfl, rfl, trivial⟩, ?hS⟩
   case hS => repeat (first | exact Sub.nil | refine Sub.cons (by repeat first | exact .head | apply Pick.tail) ?_)
   case hp => exact bs_up hij hjn (by omega) hs hhi (by assumption)
   case hmu => (show j - ((i + j) / 2 + 1) < j - i; omega)
  ·refine W.region (WO.p rfl rfl (WO.p rfl rfl (WO.nil ?_)))
   refine' ⟨_, _, ?hp, ?hmu, ⟨rfl, rfl, rfl, rfl, rfl, trivial⟩, ?hS⟩
   case hS => repeat (first | exact Sub.nil | refine Sub.cons (by repeat first | exact .head | apply Pick.tail) ?_)
   case hp => exact bs_dn hij hjn (by omega) hs hlo (by assumption)
   case hmu => (show (i + j) / 2 - i < j - i; omega)
 ·refine W.exit (blk_same (W.sreg (WO.p rfl rfl (WO.p rfl rfl (WO.p rfl rfl (WO.p rfl rfl (WO.p rfl rfl ?_)))))))
  refine WO.guard_bl rfl rfl (fun c3 => ?_) (fun c3 => ?_)
  ·refine WO.pg rfl rfl rfl (WO.pg rfl rfl rfl (WO.go' rfl ?_))
   refine' WO.indexAddr (n := _) (i := _) rfl rfl rfl ?hs ?h1 rfl ?_
   case hs => exact hR.sl
   case h1 => (omega)
   refine WO.go' rfl ?_
   refine' WO.load (v := _) rfl rfl ?hc rfl ?_
   case hc => ((refine hR.cell0 (i := i) (by omega) 0 ?_; rfl))
   refine WO.pg rfl rfl rfl (WO.pg rfl rfl rfl (WO.pg rfl rfl rfl ?_))
   refine WO.guard_bl rfl rfl (fun c4 => ?_) (fun c4 => ?_)
   ·refine WO.no rfl rfl (WO.no rfl rfl (WO.no rfl rfl (WO.no rfl rfl (WO.no rfl rfl (WO.no rfl rfl (WO.no rfl rfl (WO.no rfl rfl (WO.no rfl rfl (WO.pg rfl rfl rfl (WO.p rfl rfl (WO.p rfl rfl (WO.p rfl rfl (WO.nil (W.ret ?_))))))))))))))
    exact fin.ret (Res.two rfl (RV.tmp rfl) (RV.tmp rfl)) ⟨i, _, rfl, by omega, hlo, fun k h1 h2 => hhi k (by omega) h2⟩
   ·refine WO.pg rfl rfl rfl (WO.pg rfl rfl rfl (WO.go' rfl ?_))
    refine' WO.indexAddr (n := _) (i := _) rfl rfl rfl ?hs ?h1 rfl ?_
    case hs => exact hR.sl
    case h1 => (omega)
    refine WO.go' rfl ?_
    refine' WO.load (v := _) rfl rfl ?hc rfl ?_
    case hc => ((refine hR.cell0 (i := i) (by omega) 0 ?_; rfl))
    refine WO.go' rfl (WO.callR rfl Tryz.call259 (fun L w hi => c_isNaN7 w _) rfl (WO.pg rfl rfl rfl (WO.no rfl rfl (WO.no rfl rfl (WO.pg rfl rfl rfl (WO.pg rfl rfl rfl (WO.p rfl rfl (WO.p rfl rfl (WO.p rfl rfl (WO.nil (W.ret ?_)))))))))))
    exact fin.ret (Res.two rfl (RV.tmp rfl) (RV.tmp rfl)) ⟨i, _, rfl, by omega, hlo, fun k h1 h2 => hhi k (by omega) h2⟩
  ·refine WO.no rfl rfl (WO.no rfl rfl (WO.no rfl rfl (WO.no rfl rfl (WO.no rfl rfl (WO.no rfl rfl (WO.no rfl rfl (WO.no rfl rfl (WO.no rfl rfl (WO.no rfl rfl (WO.no rfl rfl (WO.no rfl rfl (WO.no rfl rfl (WO.no rfl rfl (WO.no rfl rfl (WO.no rfl rfl (WO.no rfl rfl (WO.p rfl rfl (WO.p rfl rfl (WO.p rfl rfl (WO.nil (W.ret ?_)))))))))))))))))))))
   exact fin.ret (Res.two rfl (RV.tmp rfl) (RV.tmp rfl)) ⟨i, _, rfl, by omega, hlo, fun k h1 h2 => hhi k (by omega) h2⟩
theorem c_after (w : World) (v : Value) (xs : List Int) (x : Int) (hR : RdF encI 1 w.heap.size w v xs) (hn : xs.length ≤ 1000) (hs : ∀ i j, i < j → j < xs.length → xs.getD i 0 < xs.getD j 0) : RetE Tryz.prog 114 [v, .int .i64 x].toArray w (fun r => ∃ i : Nat, r = .int .i64 (i : Int) ∧ AtS xs x i) := by
 refine RetE.of mixed tyTab Tryz.func114 rfl rfl ?_
 replace hR : RdF encI 1 (fnCx mixed tyTab Tryz.f114.ntmps w).B (fnCx mixed tyTab Tryz.f114.ntmps w).w0 v xs := hR
 refine W.sreg (WO.p rfl rfl (WO.nil (W.sreg (WO.p rfl rfl (WO.p rfl rfl (WO.callE rfl Tryz.call185 (fun L w hi => c_Search w v xs x (hR.later hi) hn hs) rfl ?_))))))
 rintro _ ⟨i, b, rfl, hat⟩
 refine WO.p rfl rfl (WO.p rfl rfl (WO.p rfl rfl (WO.p rfl rfl (WO.p rfl rfl (WO.nil (W.sreg (WO.p rfl rfl (WO.p rfl rfl (WO.nil (W.ret ?_))))))))))
 exact fin.ret (Res.one rfl (RV.tmp rfl)) ⟨i, rfl, hat⟩
theorem c_ends (w : World) (v u : Value) (xs : List Int) (ho : u.oneCell' = true) (hX : RdF encI 1 w.heap.size w v xs) (hn : 2 ≤ xs.length ∧ xs.length ≤ 12) : Ret Tryz.prog 113 [.agg #[v, u]].toArray w (.agg #[.int .i64 (xs.getD 0 0), .int .i64 (xs.getD (xs.length - 1) 0)]) := by
 refine Ret.of mixed tyTab Tryz.func113 rfl rfl ?_
 replace hX : RdF encI 1 (fnCx mixed tyTab Tryz.f113.ntmps w).B (fnCx mixed tyTab Tryz.f113.ntmps w).w0 v xs := hX
 have hxo := hX.sl.oc
 refine W.sreg (WO.boxA rfl rfl (fun b1 hb1 => (WO.alloc rfl rfl rfl (fun b2 hb2 => (WO.nil (W.seq ?_))))))
 refine W.drawD 15 [.r 0 [], .r 1 [], .b 2 [], .r 3 [], .b 4 [], .r 5 [], .r 6 [], .b 7 [], .r 8 [], .r 9 [], .b 10 [], .r 11 [], .r 12 [], .r 13 [], .b 14 []] [] (A0 := []) (Sub.refl _) (by kernel_rfl) ?_ ?_
 ·repeat constructor
 refine DT.r rfl rfl rfl (WO.field0 rfl rfl rfl (WO.nil ⟨rfl, rfl⟩)) (DT.r rfl rfl rfl (WO.field0 rfl rfl rfl (WO.nil ⟨rfl, rfl⟩)) (DT.b rfl rfl rfl (WO.load rfl rfl (Cell.own (Pick.tail (Pick.head)) rfl) rfl (WO.nil ⟨rfl, rfl⟩)) ?_))
 refine' DT.r rfl rfl rfl ?hq ?_
 case hq =>
  refine' WO.indexAddr (n := _) (i := 0) rfl rfl rfl ?hs ?h1 rfl ?_
  case hs => exact hX.sl
  case h1 => (omega)
  exact WO.nil ⟨rfl, rfl⟩
 refine' DT.b rfl rfl rfl ?hq ?_
 case hq =>
  refine' WO.load (v := _) rfl rfl ?hc rfl ?_
  case hc => ((refine hX.cell0 (i := 0) (by omega) 0 ?_; rfl))
  exact WO.nil ⟨rfl, rfl⟩
 refine DT.r rfl rfl rfl (WO.field0 rfl rfl rfl (WO.nil ⟨rfl, rfl⟩)) (DT.r rfl rfl rfl (WO.field0 rfl rfl rfl (WO.nil ⟨rfl, rfl⟩)) (DT.b rfl rfl rfl (WO.load rfl rfl (Cell.own (Pick.tail (Pick.head)) rfl) rfl (WO.nil ⟨rfl, rfl⟩)) (DT.r rfl rfl rfl (WO.field0 rfl rfl rfl (WO.nil ⟨rfl, rfl⟩)) (DT.r rfl rfl rfl (WO.field0 rfl rfl rfl (WO.nil ⟨rfl, rfl⟩)) (DT.b rfl rfl rfl (WO.load rfl rfl (Cell.own (Pick.tail (Pick.head)) rfl) rfl (WO.nil ⟨rfl, rfl⟩)) ?_)))))
 refine' DT.r rfl rfl rfl ?hq ?_
 case hq =>
  refine' WO.len (n := _) rfl rfl ?hs rfl ?_
  case hs => exact hX.sl
  exact WO.nil ⟨rfl, rfl⟩
 refine DT.r rfl rfl rfl (WO.ar rfl rfl rfl (by unfold in64; omega) rfl (WO.nil ⟨rfl, rfl⟩)) ?_
 refine' DT.r rfl rfl rfl ?hq ?_
 case hq =>
  refine' WO.indexAddrZ (n := _) rfl rfl rfl ?hs ?h00 ?h1 rfl ?_
  case hs => exact hX.sl
  case h00 => omega
  case h1 => (omega)
  exact WO.nil ⟨rfl, rfl⟩
 refine' DT.b rfl rfl rfl ?hq ?_
 case hq =>
  refine' WO.load (v := _) rfl rfl ?hc rfl ?_
  case hc => ((refine hX.cell0 (i := ((xs.length : Int) - 1).toNat) (by omega) 0 ?_; rfl))
  exact WO.nil ⟨rfl, rfl⟩
 refine DT.nil [_, _] rfl ?_
 refine' WO.build (cs := _) rfl rfl rfl ?hf rfl ?_
 case hf => (conv => lhs; simp [-List.getD_eq_getElem?_getD, fillL, vcl, wrl, TTab.pl?.lget']) <;> rfl
 refine WO.storeA rfl rfl rfl rfl Pick.head rfl rfl (WO.nil (W.ret ?_))
 exact fin.ret (Res.one rfl (RV.cell rfl rfl rfl (Cells.own (by repeat exact .head)))) rfl
theorem c_has (w : World) (v u : Value) (xs : List Int) (x : Int) (ho : u.oneCell' = true) (hX : RdF encI 1 w.heap.size w v xs) (hn : 2 ≤ xs.length ∧ xs.length ≤ 12) (h1 : xs.getD 0 0 ≤ x) (h2 : x ≤ xs.getD (xs.length - 1) 0) : Ret Tryz.prog 55 [.agg #[v, u], .agg #[.int .i64 x, .int .i64 x]].toArray w (.bool true) := by
 refine Ret.of mixed tyTab Tryz.func55 rfl rfl ?_
 replace hX : RdF encI 1 (fnCx mixed tyTab Tryz.f55.ntmps w).B (fnCx mixed tyTab Tryz.f55.ntmps w).w0 v xs := hX
 have hxo := hX.sl.oc
 refine W.sreg (WO.boxA rfl rfl (fun b1 hb1 => (WO.boxA rfl rfl (fun b2 hb2 => (WO.p rfl rfl (WO.nil (W.sreg (WO.loadA rfl rfl (Cells.own (Pick.tail (Pick.head))) rfl rfl (WO.callR rfl Tryz.call113 (fun L w hi => c_ends w v u xs ho (hX.later hi) hn) rfl (WO.alloc rfl rfl rfl (fun b3 hb3 => (WO.storeA rfl rfl rfl rfl Pick.head rfl rfl (WO.nil (W.sreg (WO.field0 rfl rfl rfl (WO.load rfl rfl (Cell.own (Pick.tail (Pick.head)) rfl) rfl (WO.indexArrL (o' := 0) rfl rfl rfl (by decide) rfl rfl (WO.load rfl rfl (Cell.own Pick.head rfl) rfl (WO.geqT rfl rfl (by omega) rfl ?_)))))))))))))))))))
 refine WO.p rfl rfl (WO.go' rfl (WO.fieldL rfl rfl rfl (WO.go' rfl (WO.load rfl rfl (Cell.own (Pick.tail (Pick.head)) rfl) rfl (WO.go' rfl (WO.indexArrL (o' := 1) rfl rfl rfl (by decide) rfl rfl (WO.go' rfl (WO.load rfl rfl (Cell.own Pick.head rfl) rfl (WO.go' rfl (WO.leqT rfl rfl (by omega) rfl (WO.p rfl rfl (WO.p rfl rfl (WO.nil (W.ret ?_))))))))))))))
 exact fin.ret (Res.one rfl (RV.tmp rfl)) rfl
def FrR (xs ys : List Int) (x f : Int) : Prop := ∃ i : Nat, i < xs.length ∧ ((xs.getD i 0 = x ∧ f = ys.getD i 0) ∨ (0 < i ∧ xs.getD (i - 1) 0 < x ∧ x < xs.getD i 0 ∧ f = ys.getD (i - 1) 0 - ((ys.getD (i - 1) 0 - ys.getD i 0) * (x - xs.getD (i - 1) 0)).tdiv (xs.getD i 0 - xs.getD (i - 1) 0)))
theorem at_ends {xs : List Int} {x : Int} {i : Nat} (h : AtS xs x i) (hn : 2 ≤ xs.length) (h2 : x ≤ xs.getD (xs.length - 1) 0) : i < xs.length := by
 rcases Nat.lt_or_ge i xs.length with g | g
 ·exact g
 ·have := h.lo (xs.length - 1) (by omega)
  omega
theorem c_friction (w : World) (v u : Value) (xs ys : List Int) (x : Int) (hX : RdF encI 1 w.heap.size w v xs) (hY : RdF encI 1 w.heap.size w u ys) (hL : OkLn xs ys) (h1 : xs.getD 0 0 ≤ x) (h2 : x ≤ xs.getD (xs.length - 1) 0) : RetE Tryz.prog 56 [.agg #[v, u], .int .i64 x].toArray w (fun r => ∃ f : Int, r = .int .i64 f ∧ FrR xs ys x f) := by
 refine RetE.of mixed tyTab Tryz.func56 rfl rfl ?_
 replace hX : RdF encI 1 (fnCx mixed tyTab Tryz.f56.ntmps w).B (fnCx mixed tyTab Tryz.f56.ntmps w).w0 v xs := hX
 replace hY : RdF encI 1 (fnCx mixed tyTab Tryz.f56.ntmps w).B (fnCx mixed tyTab Tryz.f56.ntmps w).w0 u ys := hY
 have hxo := hX.sl.oc
 have hyo := hY.sl.oc
 have hn := hL.n
 have hyn := hL.len
 refine W.sreg (WO.boxA rfl rfl (fun b1 hb1 => (WO.p rfl rfl (WO.nil (W.sreg (WO.field0 rfl rfl rfl (WO.field0 rfl rfl rfl (WO.load rfl rfl (Cell.own Pick.head rfl) rfl (WO.p rfl rfl (WO.callE rfl Tryz.call114 (fun L w hi => c_after w v xs x (hX.later hi) (by omega) (fun i j hij hj => hL.lt hij hj)) rfl ?_))))))))))
 rintro _ ⟨i, rfl, hat⟩
 have hil := at_ends hat hn.1 h2
 have hge := hat.hi i (Nat.le_refl _) hil
 refine WO.p rfl rfl (WO.nil (W.seq (W.sreg (WO.field0 rfl rfl rfl (WO.field0 rfl rfl rfl (WO.load rfl rfl (Cell.own Pick.head rfl) rfl (WO.p rfl rfl ?_)))))))
 refine' WO.indexAddr (n := _) (i := _) rfl rfl rfl ?hs ?h1 rfl ?_
 case hs => (first | exact hX.sl)
 case h1 => (omega)
 refine' WO.load (v := _) rfl rfl ?hc rfl ?_
 case hc => ((refine hX.cell0 (i := i) (by omega) 0 ?_; rfl))
 refine WO.p rfl rfl (WO.p rfl rfl (WO.nil ?_))
 refine W.cond_bl rfl (fun c1 => ?_) (fun c1 => ?_)
 ·refine W.sreg (WO.field0 rfl rfl rfl (WO.fieldL rfl rfl rfl (WO.load rfl rfl (Cell.own Pick.head rfl) rfl (WO.p rfl rfl ?_))))
  refine' WO.indexAddr (n := _) (i := _) rfl rfl rfl ?hs ?h1 rfl ?_
  case hs => (first | exact hY.sl)
  case h1 => (omega)
  refine' WO.load (v := _) rfl rfl ?hc rfl ?_
  case hc => ((refine hY.cell0 (i := i) (by omega) 0 ?_; rfl))
  refine WO.p rfl rfl (WO.nil (W.ret ?_))
  first
  | exact fin.ret (Res.one rfl (RV.tmp rfl)) ⟨_, rfl, i, hil, .inl ⟨by assumption, rfl⟩⟩
  | exact fin.ret (Res.one rfl (RV.tmp rfl)) ⟨_, rfl, i, hil, .inr ⟨hi0, hlo, by omega, rfl⟩⟩
 ·refine W.skip (W.seq ?_)
  have hi0 : 0 < i := Nat.pos_of_ne_zero (fun e => by subst e; omega)
  have hlo := hat.lo (i - 1) (by omega)
  have e1 : ((i : Int) - 1).toNat = i - 1 := by omega
  have q1 := hL.re (i - 1) (by omega)
  have q2 := hL.re i hil
  have q3 := hL.cf (i - 1) (by omega)
  have q4 := hL.cf i hil
  have q5 := hL.dn (i - 1) (by omega)
  rw [show i - 1 + 1 = i by omega] at q5
  unfold xat at q1 q2 q3 q4 q5
  have m1 := mul_bdQ (a := ys.getD (i - 1) 0 - ys.getD i 0) (b := x - xs.getD (i - 1) 0) (A := 100000) (B := 1000000000) (by omega) (by omega)
  have m2 := tdiv_bdQ (n := (ys.getD (i - 1) 0 - ys.getD i 0) * (x - xs.getD (i - 1) 0)) (g := xs.getD i 0 - xs.getD (i - 1) 0) (by omega) (by omega)
  refine W.drawD 38 [.r 0 [], .r 1 [], .b 2 [], .r 3 [], .r 4 [], .r 5 [], .b 6 [], .r 7 [], .r 8 [], .b 9 [], .r 10 [], .r 11 [], .b 12 [], .r 13 [], .r 14 [], .r 15 [], .r 16 [], .b 17 [], .r 18 [], .r 19 [], .r 20 [], .b 21 [], .r 22 [], .r 23 [], .r 24 [], .r 25 [], .b 26 [], .r 27 [], .r 28 [], .b 29 [], .r 30 [], .r 31 [], .b 32 [], .r 33 [], .r 34 [], .r 35 [], .b 36 [], .r 37 []] [] (A0 := []) (Sub.refl _) (by kernel_rfl) ?_ ?_
  ·repeat constructor
  refine DT.r rfl rfl rfl (WO.field0 rfl rfl rfl (WO.nil ⟨rfl, rfl⟩)) (DT.r rfl rfl rfl (WO.fieldL rfl rfl rfl (WO.nil ⟨rfl, rfl⟩)) (DT.b rfl rfl rfl (WO.load rfl rfl (Cell.own Pick.head rfl) rfl (WO.nil ⟨rfl, rfl⟩)) (DT.r rfl rfl rfl (WO.p rfl rfl (WO.nil ⟨rfl, rfl⟩)) (DT.r rfl rfl rfl (WO.ar rfl rfl rfl (by unfold in64; omega) rfl (WO.nil ⟨rfl, rfl⟩)) ?_))))
  refine' DT.r rfl rfl rfl ?hq ?_
  case hq =>
   refine' WO.indexAddrZ (n := _) rfl rfl rfl ?hs ?h00 ?h1 rfl ?_
   case hs => (first | exact hY.sl)
   case h00 => omega
   case h1 => (omega)
   exact WO.nil ⟨rfl, rfl⟩
  refine' DT.b rfl rfl rfl ?hq ?_
  case hq =>
   refine' WO.load (v := _) rfl rfl ?hc rfl ?_
   case hc => ((refine hY.cell0 (i := ((i : Int) - 1).toNat) (by omega) 0 ?_; (rw [e1]; rfl)))
   exact WO.nil ⟨rfl, rfl⟩
  refine DT.r rfl rfl rfl (WO.field0 rfl rfl rfl (WO.nil ⟨rfl, rfl⟩)) (DT.r rfl rfl rfl (WO.fieldL rfl rfl rfl (WO.nil ⟨rfl, rfl⟩)) (DT.b rfl rfl rfl (WO.load rfl rfl (Cell.own Pick.head rfl) rfl (WO.nil ⟨rfl, rfl⟩)) (DT.r rfl rfl rfl (WO.p rfl rfl (WO.nil ⟨rfl, rfl⟩)) ?_)))
  refine' DT.r rfl rfl rfl ?hq ?_
  case hq =>
   refine' WO.indexAddr (n := _) (i := _) rfl rfl rfl ?hs ?h1 rfl ?_
   case hs => (first | exact hY.sl)
   case h1 => (omega)
   exact WO.nil ⟨rfl, rfl⟩
  refine' DT.b rfl rfl rfl ?hq ?_
  case hq =>
   refine' WO.load (v := _) rfl rfl ?hc rfl ?_
   case hc => ((refine hY.cell0 (i := i) (by omega) 0 ?_; rfl))
   exact WO.nil ⟨rfl, rfl⟩
  refine DT.r rfl rfl rfl (WO.ar rfl rfl rfl (by unfold in64; omega) rfl (WO.nil ⟨rfl, rfl⟩)) (DT.r rfl rfl rfl (WO.p rfl rfl (WO.nil ⟨rfl, rfl⟩)) (DT.r rfl rfl rfl (WO.field0 rfl rfl rfl (WO.nil ⟨rfl, rfl⟩)) (DT.r rfl rfl rfl (WO.field0 rfl rfl rfl (WO.nil ⟨rfl, rfl⟩)) (DT.b rfl rfl rfl (WO.load rfl rfl (Cell.own Pick.head rfl) rfl (WO.nil ⟨rfl, rfl⟩)) (DT.r rfl rfl rfl (WO.p rfl rfl (WO.nil ⟨rfl, rfl⟩)) (DT.r rfl rfl rfl (WO.ar rfl rfl rfl (by unfold in64; omega) rfl (WO.nil ⟨rfl, rfl⟩)) ?_))))))
  refine' DT.r rfl rfl rfl ?hq ?_
  case hq =>
   refine' WO.indexAddrZ (n := _) rfl rfl rfl ?hs ?h00 ?h1 rfl ?_
   case hs => (first | exact hX.sl)
   case h00 => omega
   case h1 => (omega)
   exact WO.nil ⟨rfl, rfl⟩
  refine' DT.b rfl rfl rfl ?hq ?_
  case hq =>
   refine' WO.load (v := _) rfl rfl ?hc rfl ?_
   case hc => ((refine hX.cell0 (i := ((i : Int) - 1).toNat) (by omega) 0 ?_; (rw [e1]; rfl)))
   exact WO.nil ⟨rfl, rfl⟩
  refine DT.r rfl rfl rfl (WO.ar rfl rfl rfl (by unfold in64; omega) rfl (WO.nil ⟨rfl, rfl⟩)) (DT.r rfl rfl rfl (WO.ar rfl rfl rfl (by unfold in64; omega) rfl (WO.nil ⟨rfl, rfl⟩)) (DT.r rfl rfl rfl (WO.field0 rfl rfl rfl (WO.nil ⟨rfl, rfl⟩)) (DT.r rfl rfl rfl (WO.field0 rfl rfl rfl (WO.nil ⟨rfl, rfl⟩)) (DT.b rfl rfl rfl (WO.load rfl rfl (Cell.own Pick.head rfl) rfl (WO.nil ⟨rfl, rfl⟩)) (DT.r rfl rfl rfl (WO.p rfl rfl (WO.nil ⟨rfl, rfl⟩)) ?_)))))
  refine' DT.r rfl rfl rfl ?hq ?_
  case hq =>
   refine' WO.indexAddr (n := _) (i := _) rfl rfl rfl ?hs ?h1 rfl ?_
   case hs => (first | exact hX.sl)
   case h1 => (omega)
   exact WO.nil ⟨rfl, rfl⟩
  refine' DT.b rfl rfl rfl ?hq ?_
  case hq =>
   refine' WO.load (v := _) rfl rfl ?hc rfl ?_
   case hc => ((refine hX.cell0 (i := i) (by omega) 0 ?_; rfl))
   exact WO.nil ⟨rfl, rfl⟩
  refine DT.r rfl rfl rfl (WO.field0 rfl rfl rfl (WO.nil ⟨rfl, rfl⟩)) (DT.r rfl rfl rfl (WO.field0 rfl rfl rfl (WO.nil ⟨rfl, rfl⟩)) (DT.b rfl rfl rfl (WO.load rfl rfl (Cell.own Pick.head rfl) rfl (WO.nil ⟨rfl, rfl⟩)) (DT.r rfl rfl rfl (WO.p rfl rfl (WO.nil ⟨rfl, rfl⟩)) (DT.r rfl rfl rfl (WO.ar rfl rfl rfl (by unfold in64; omega) rfl (WO.nil ⟨rfl, rfl⟩)) ?_))))
  refine' DT.r rfl rfl rfl ?hq ?_
  case hq =>
   refine' WO.indexAddrZ (n := _) rfl rfl rfl ?hs ?h00 ?h1 rfl ?_
   case hs => (first | exact hX.sl)
   case h00 => omega
   case h1 => (omega)
   exact WO.nil ⟨rfl, rfl⟩
  refine' DT.b rfl rfl rfl ?hq ?_
  case hq =>
   refine' WO.load (v := _) rfl rfl ?hc rfl ?_
   case hc => ((refine hX.cell0 (i := ((i : Int) - 1).toNat) (by omega) 0 ?_; (rw [e1]; rfl)))
   exact WO.nil ⟨rfl, rfl⟩
  refine DT.r rfl rfl rfl (WO.ar rfl rfl rfl (by unfold in64; omega) rfl (WO.nil ⟨rfl, rfl⟩)) (DT.nil [_] rfl (WO.quo rfl rfl (by omega) (by unfold in64; omega) rfl (WO.p rfl rfl (WO.nil (W.sreg (WO.field0 rfl rfl rfl (WO.fieldL rfl rfl rfl (WO.load rfl rfl (Cell.own Pick.head rfl) rfl (WO.p rfl rfl (WO.ar rfl rfl rfl (by unfold in64; omega) rfl ?_))))))))))
  refine' WO.indexAddrZ (n := _) rfl rfl rfl ?hs ?h00 ?h1 rfl ?_
  case hs => (first | exact hY.sl)
  case h00 => omega
  case h1 => (omega)
  refine' WO.load (v := _) rfl rfl ?hc rfl ?_
  case hc => ((refine hY.cell0 (i := ((i : Int) - 1).toNat) (by omega) 0 ?_; (rw [e1]; rfl)))
  refine WO.p rfl rfl (WO.ar rfl rfl rfl (by unfold in64; omega) rfl (WO.p rfl rfl (WO.nil (W.ret ?_))))
  first
  | exact fin.ret (Res.one rfl (RV.tmp rfl)) ⟨_, rfl, i, hil, .inl ⟨by assumption, rfl⟩⟩
  | exact fin.ret (Res.one rfl (RV.tmp rfl)) ⟨_, rfl, i, hil, .inr ⟨hi0, hlo, by omega, rfl⟩⟩
theorem c_Friction (w : World) (v u : Value) (xs ys : List Int) (x : Int) (hX : RdF encI 1 w.heap.size w v xs) (hY : RdF encI 1 w.heap.size w u ys) (hL : OkLn xs ys) (h1 : xs.getD 0 0 ≤ x) (h2 : x ≤ xs.getD (xs.length - 1) 0) : RetE Tryz.prog 22 [.agg #[v, u], .int .i64 x].toArray w (fun r => ∃ f : Int, r = .tuple #[.int .i64 f, .int .i64 0] ∧ FrR xs ys x f) := by
 refine RetE.of mixed tyTab Tryz.func22 rfl rfl ?_
 replace hX : RdF encI 1 (fnCx mixed tyTab Tryz.f22.ntmps w).B (fnCx mixed tyTab Tryz.f22.ntmps w).w0 v xs := hX
 replace hY : RdF encI 1 (fnCx mixed tyTab Tryz.f22.ntmps w).B (fnCx mixed tyTab Tryz.f22.ntmps w).w0 u ys := hY
 have hxo := hX.sl.oc
 have hyo := hY.sl.oc
 have hn := hL.n
 refine W.sreg (WO.boxA rfl rfl (fun b1 hb1 => (WO.p rfl rfl (WO.p rfl rfl (WO.nil (W.seq (W.sreg (WO.loadA rfl rfl (Cells.own Pick.head) rfl rfl (WO.callR rfl Tryz.call54 (fun L w hi => c_CheckLine w v u xs ys (hX.later hi) (hY.later hi) hL) rfl (WO.p rfl rfl (WO.nil (W.sreg (WO.p rfl rfl (WO.neqF rfl rfl (by omega) rfl (WO.nil (W.cond_f rfl (W.skip (W.sreg (WO.loadA rfl rfl (Cells.own Pick.head) rfl rfl ?_)))))))))))))))))))
 refine' WO.build (cs := _) rfl rfl rfl ?hf rfl ?_
 case hf => (conv => lhs; simp [-List.getD_eq_getElem?_getD, fillL, vcl, wrl, TTab.pl?.lget']) <;> rfl
 refine WO.alloc rfl rfl rfl (fun b2 hb2 => (WO.storeA rfl rfl rfl rfl Pick.head rfl (by rw [List.all_cons, hxo, List.all_cons, hyo]; rfl) (WO.nil (W.seq (W.sreg (WO.loadA rfl rfl (Cells.own Pick.head) rfl rfl (WO.p rfl rfl (WO.p rfl rfl ?_))))))))
 refine' WO.build (cs := _) rfl rfl rfl ?hf rfl ?_
 case hf => (conv => lhs; simp [-List.getD_eq_getElem?_getD, fillL, vcl, wrl, TTab.pl?.lget']) <;> rfl
 refine WO.callR rfl Tryz.call55 (fun L w hi => c_has w v u xs x hyo (hX.later hi) hn h1 h2) rfl (WO.p rfl rfl (WO.nil (W.cond_f rfl (W.skip (W.sreg (WO.loadA rfl rfl (Cells.own Pick.head) rfl rfl (WO.p rfl rfl (WO.callE rfl Tryz.call56 (fun L w hi => c_friction w v u xs ys x (hX.later hi) (hY.later hi) hL h1 h2) rfl ?_))))))))
 rintro _ ⟨f, rfl, hf⟩
 refine WO.p rfl rfl (WO.p rfl rfl (WO.nil (W.ret ?_)))
 exact fin.ret (Res.two rfl (RV.tmp rfl) (RV.tmp rfl)) ⟨f, rfl, hf⟩
end Go.Proofs.YtncjabmlkgacdaaGreat
namespace Go.Proofs.YtncjabmlkgacdaaGreat.Sp
open Go Go.TH
attribute [local irreducible] W WO pt
set_option maxRecDepth 10000
set_option maxHeartbeats 1000000
structure Sd where
 a : Int
 b : Int
 c : Int
abbrev sdV (s : Sd) : Value := .agg #[.int .i64 s.a, .int .i64 s.b, .int .i64 s.c]
def encSd (s : Sd) : List Value := [.int .i64 s.a, .int .i64 s.b, .int .i64 s.c]
theorem encSd_ok : EncOk encSd 3 := ⟨fun _ => rfl, fun x u hu => by simp [encSd] at hu; rcases hu with rfl | rfl | rfl <;> rfl, by omega⟩
def sd0 : Sd := ⟨0, 0, 0⟩
def loS (r : Rn) : Sd := ⟨r.p, r.q, r.lo⟩
def hiS (r : Rn) : Sd := ⟨-r.p, -r.q, -r.hi⟩
def crs (s o : Sd) : Int := s.a * o.b - s.b * o.a
def byS (s : Sd) (n : Int) : Sd := ⟨s.a * n, s.b * n, s.c * n⟩
def ab (n : Int) : Int := max n (-n)
def siz (s : Sd) : Int := ab s.a + ab s.b
def addS (s o : Sd) : Sd := ⟨s.a + o.a, s.b + o.b, s.c + o.c⟩
def sumS (l : List Sd) : Sd := l.foldl addS sd0
structure OkS (A B : Int) (s : Sd) : Prop where
 a : -A ≤ s.a ∧ s.a ≤ A
 b : -A ≤ s.b ∧ s.b ≤ A
 c : -B ≤ s.c ∧ s.c ≤ B
theorem OkS.lo {r : Rn} (h : OkRn r) : OkS 20 100000 (loS r) := by
 obtain ⟨h1, h2, _, h3, h4, h5⟩ := h
 unfold OkN at h1 h2
 exact ⟨h1, h2, by show _ ≤ r.lo ∧ r.lo ≤ _; omega⟩
theorem OkS.hi {r : Rn} (h : OkRn r) : OkS 20 100000 (hiS r) := by
 obtain ⟨h1, h2, _, h3, h4, h5⟩ := h
 unfold OkN at h1 h2
 exact ⟨by show _ ≤ -r.p ∧ -r.p ≤ _; omega, by show _ ≤ -r.q ∧ -r.q ≤ _; omega, by show _ ≤ -r.hi ∧ -r.hi ≤ _; omega⟩
theorem OkS.by_ {s : Sd} {A B N n : Int} (h : OkS A B s) (hn : -N ≤ n ∧ n ≤ N) : OkS (A * N) (B * N) (byS s n) := ⟨mul_bd h.a hn, mul_bd h.b hn, mul_bd h.c hn⟩
theorem OkS.up {s : Sd} {A B A' B' : Int} (h : OkS A B s) (hA : A ≤ A') (hB : B ≤ B') : OkS A' B' s := by
 obtain ⟨h1, h2, h3⟩ := h
 exact ⟨by omega, by omega, by omega⟩
theorem crs_bd {s o : Sd} {B B' : Int} (h : OkS 20 B s) (g : OkS 20 B' o) : (-400 ≤ s.a * o.b ∧ s.a * o.b ≤ 400) ∧ (-400 ≤ s.b * o.a ∧ s.b * o.a ≤ 400) ∧ -800 ≤ crs s o ∧ crs s o ≤ 800 := by
 have h1 := mul_bd h.a g.b
 have h2 := mul_bd h.b g.a
 unfold crs
 omega
theorem siz_bd {s : Sd} {B : Int} (h : OkS 20 B s) : 0 ≤ siz s ∧ siz s ≤ 40 := by
 obtain ⟨h1, h2, _⟩ := h
 unfold siz ab; omega
theorem c_cross (w : World) (s o : Sd) (hs : OkS 20 1000000 s) (ho : OkS 20 1000000 o) : Ret Tryz.prog 168 [sdV s, sdV o].toArray w (.int .i64 (crs s o)) := by
 refine Ret.of mixed tyTab Tryz.func168 rfl rfl ?_
 have hb := crs_bd hs ho
 unfold crs at hb
 refine W.sreg (WO.boxA rfl rfl (fun b1 hb1 => (WO.boxA rfl rfl (fun b2 hb2 => (WO.p rfl rfl (WO.nil (W.sreg (WO.indexArrL (o' := 0) rfl rfl rfl (by decide) rfl rfl (WO.load rfl rfl (Cell.own (Pick.tail (Pick.head)) rfl) rfl (WO.indexArrL (o' := 1) rfl rfl rfl (by decide) rfl rfl (WO.load rfl rfl (Cell.own Pick.head rfl) rfl (WO.ar rfl rfl rfl (by unfold in64; omega) rfl (WO.indexArrL (o' := 1) rfl rfl rfl (by decide) rfl rfl (WO.load rfl rfl (Cell.own (Pick.tail (Pick.head)) rfl) rfl (WO.indexArrL (o' := 0) rfl rfl rfl (by decide) rfl rfl ?_)))))))))))))))
 refine WO.load rfl rfl (Cell.own Pick.head rfl) rfl (WO.ar rfl rfl rfl (by unfold in64; omega) rfl (WO.ar rfl rfl rfl (by unfold in64; omega) rfl (WO.p rfl rfl (WO.nil (W.ret ?_)))))
 exact fin.ret (Res.one rfl (RV.tmp rfl)) rfl
theorem c_by (w : World) (s : Sd) (n : Int) (hs : OkS 1000000 1000000 s) (hn : -1000000 ≤ n ∧ n ≤ 1000000) : Ret Tryz.prog 154 [sdV s, .int .i64 n].toArray w (sdV (byS s n)) := by
 refine Ret.of mixed tyTab Tryz.func154 rfl rfl ?_
 have h1 := mul_bd hs.a hn
 have h2 := mul_bd hs.b hn
 have h3 := mul_bd hs.c hn
 refine W.sreg (WO.boxA rfl rfl (fun b1 hb1 => (WO.alloc rfl rfl rfl (fun b2 hb2 => (WO.nil (W.sreg (WO.indexArrL (o' := 0) rfl rfl rfl (by decide) rfl rfl (WO.load rfl rfl (Cell.own (Pick.tail (Pick.head)) rfl) rfl (WO.p rfl rfl (WO.ar rfl rfl rfl (by unfold in64; omega) rfl (WO.indexArrL (o' := 1) rfl rfl rfl (by decide) rfl rfl (WO.load rfl rfl (Cell.own (Pick.tail (Pick.head)) rfl) rfl (WO.p rfl rfl (WO.ar rfl rfl rfl (by unfold in64; omega) rfl (WO.indexArrL (o' := 2) rfl rfl rfl (by decide) rfl rfl (WO.load rfl rfl (Cell.own (Pick.tail (Pick.head)) rfl) rfl (WO.p rfl rfl (WO.ar rfl rfl rfl (by unfold in64; omega) rfl (WO.build rfl rfl rfl rfl rfl ?_)))))))))))))))))))
 refine WO.storeA rfl rfl rfl rfl Pick.head rfl rfl (WO.nil (W.ret ?_))
 exact fin.ret (Res.one rfl (RV.cell rfl rfl rfl (Cells.own Pick.head))) rfl
theorem c_flat (w : World) (s : Sd) : Ret Tryz.prog 100 [sdV s].toArray w (sdV ⟨s.a, s.b, 0⟩) := by
 refine Ret.of mixed tyTab Tryz.func100 rfl rfl (W.sreg (WO.boxA rfl rfl (fun b1 hb1 => (WO.alloc rfl rfl rfl (fun b2 hb2 => (WO.nil (W.sreg (WO.indexArrL (o' := 0) rfl rfl rfl (by decide) rfl rfl (WO.load rfl rfl (Cell.own (Pick.tail (Pick.head)) rfl) rfl (WO.indexArrL (o' := 1) rfl rfl rfl (by decide) rfl rfl (WO.load rfl rfl (Cell.own (Pick.tail (Pick.head)) rfl) rfl (WO.build rfl rfl rfl rfl rfl (WO.storeA rfl rfl rfl rfl Pick.head rfl rfl (WO.nil (W.ret ?_)))))))))))))))
 exact fin.ret (Res.one rfl (RV.cell rfl rfl rfl (Cells.own Pick.head))) rfl
theorem c_size (w : World) (s : Sd) (hs : OkS 20 1000000 s) : Ret Tryz.prog 175 [sdV s].toArray w (.int .i64 (siz s)) := by
 refine Ret.of mixed tyTab Tryz.func175 rfl rfl ?_
 obtain ⟨h1, h2, h3⟩ := hs
 refine W.sreg (WO.boxA rfl rfl (fun b1 hb1 => (WO.p rfl rfl (WO.nil (W.sreg (WO.indexArrL (o' := 0) rfl rfl rfl (by decide) rfl rfl (WO.load rfl rfl (Cell.own Pick.head rfl) rfl (WO.indexArrL (o' := 0) rfl rfl rfl (by decide) rfl rfl (WO.load rfl rfl (Cell.own Pick.head rfl) rfl (WO.neg rfl (by unfold in64; omega) rfl (WO.max2 rfl rfl rfl (WO.indexArrL (o' := 1) rfl rfl rfl (by decide) rfl rfl (WO.load rfl rfl (Cell.own Pick.head rfl) rfl (WO.indexArrL (o' := 1) rfl rfl rfl (by decide) rfl rfl (WO.load rfl rfl (Cell.own Pick.head rfl) rfl (WO.neg rfl (by unfold in64; omega) rfl (WO.max2 rfl rfl rfl (WO.ar rfl rfl rfl (by unfold in64; omega) rfl (WO.p rfl rfl ?_)))))))))))))))))))
 refine WO.nil (W.ret ?_)
 exact fin.ret (Res.one rfl (RV.tmp rfl)) rfl
theorem c_newPair (w : World) (r : Rn) (h : OkRn r) : Ret Tryz.prog 97 [rnV r].toArray w (.agg #[.int .i64 r.p, .int .i64 r.q, .int .i64 r.lo, .int .i64 r.hi, .int .i64 r.p, .int .i64 r.q, .int .i64 r.lo, .int .i64 (-r.p), .int .i64 (-r.q), .int .i64 (-r.hi)]) := by
 refine Ret.of mixed tyTab Tryz.func97 rfl rfl ?_
 obtain ⟨h1, h2, _, h3, h4, h5⟩ := h
 unfold OkN at h1 h2
 refine W.sreg (WO.boxA rfl rfl (fun b1 hb1 => (WO.alloc rfl rfl rfl (fun b2 hb2 => (WO.nil (W.sreg (WO.loadA rfl rfl (Cells.own (Pick.tail (Pick.head))) rfl rfl (WO.field0 rfl rfl rfl (WO.load rfl rfl (Cell.own (Pick.tail (Pick.head)) rfl) rfl (WO.fieldL rfl rfl rfl (WO.load rfl rfl (Cell.own (Pick.tail (Pick.head)) rfl) rfl (WO.fieldL rfl rfl rfl (WO.field0 rfl rfl rfl (WO.load rfl rfl (Cell.own (Pick.tail (Pick.head)) rfl) rfl (WO.build rfl rfl rfl rfl rfl ?_)))))))))))))))
 refine WO.field0 rfl rfl rfl (WO.load rfl rfl (Cell.own (Pick.tail (Pick.head)) rfl) rfl (WO.neg rfl (by unfold in64; omega) rfl (WO.fieldL rfl rfl rfl (WO.load rfl rfl (Cell.own (Pick.tail (Pick.head)) rfl) rfl (WO.neg rfl (by unfold in64; omega) rfl (WO.fieldL rfl rfl rfl (WO.fieldL rfl rfl rfl (WO.load rfl rfl (Cell.own (Pick.tail (Pick.head)) rfl) rfl (WO.neg rfl (by unfold in64; omega) rfl (WO.build rfl rfl rfl rfl rfl (WO.build rfl rfl rfl rfl rfl (WO.storeA rfl rfl rfl rfl Pick.head rfl rfl (WO.nil (W.ret ?_))))))))))))))
 exact fin.ret (Res.one rfl (RV.cell rfl rfl rfl (Cells.own Pick.head))) rfl
theorem sumS_take {l : List Sd} {i : Nat} (h : i < l.length) : sumS (l.take (i + 1)) = addS (sumS (l.take i)) (l.getD i sd0) := by
 unfold sumS; rw [take_succ_getD h sd0, List.foldl_append]; rfl
def addK (s o : Sd) (k : Nat) : Sd := ⟨if 0 < k then s.a + o.a else s.a, if 1 < k then s.b + o.b else s.b, if 2 < k then s.c + o.c else s.c⟩
def prtS (s : Sd) (k : Nat) : Int := if k = 0 then s.a else if k = 1 then s.b else s.c
theorem prtS_bd {A : Int} {s : Sd} (h : OkS A A s) {k : Nat} : -A ≤ prtS s k ∧ prtS s k ≤ A := by
 obtain ⟨h1, h2, h3⟩ := h
 unfold prtS; split
 ·exact h1
 ·split
  ·exact h2
  ·exact h3
theorem prtS_get (s : Sd) {k : Nat} (h : k < 3) : lget (encSd s) k = some (.int .i64 (prtS s k)) := by
 obtain rfl | rfl | rfl : k = 0 ∨ k = 1 ∨ k = 2 := by omega
 all_goals rfl
theorem addK_3 (s o : Sd) : addK s o 3 = addS s o := rfl
theorem addK_at {s o : Sd} {k : Nat} (h : k < 3) : prtS (addK s o k) k = prtS s k := by
 obtain rfl | rfl | rfl : k = 0 ∨ k = 1 ∨ k = 2 := by omega
 all_goals rfl
theorem addK_set {s o : Sd} {k : Nat} (h : k < 3) : (encSd (addK s o k)).set k (.int .i64 (prtS (addK s o k) k + prtS o k)) = encSd (addK s o (k + 1)) := by
 obtain rfl | rfl | rfl : k = 0 ∨ k = 1 ∨ k = 2 := by omega
 all_goals rfl
theorem sum_in {M : Int} (hM : 0 ≤ M) {l : List Sd} (h : ∀ s ∈ l, OkS M M s) : ∀ {i : Nat}, i ≤ l.length → OkS (M * i) (M * i) (sumS (l.take i))
 | 0, _ => by
  rw [show M * ((0 : Nat) : Int) = 0 by simp]
  show OkS 0 0 sd0
  exact ⟨by decide, by decide, by decide⟩
 | i + 1, hi => by
  have h1 := sum_in hM h (i := i) (by omega)
  have h2 := h _ (getD_mem (show i < l.length by omega) sd0)
  rw [sumS_take (by omega)]
  have e : M * ((i + 1 : Nat) : Int) = M * i + M := by rw [Int.natCast_succ, Int.mul_add, Int.mul_one]
  rw [e]
  obtain ⟨a1, a2, a3⟩ := h1
  obtain ⟨b1, b2, b3⟩ := h2
  exact ⟨by show _ ≤ _ + _ ∧ _ + _ ≤ _; omega, by show _ ≤ _ + _ ∧ _ + _ ≤ _; omega, by show _ ≤ _ + _ ∧ _ + _ ≤ _; omega⟩
theorem RdF.cells3 {C : Cx Tryz.prog} {H : List HP} {o : Value} {l : List Sd} (h : RdF encSd 3 C.B C.w0 o l) {i : Nat} (h1 : i < l.length) : Cells C H (elt o i 3) [.int .i64 (l.getD i sd0).a, .int .i64 (l.getD i sd0).b, .int .i64 (l.getD i sd0).c] := RdF.cells h h1 sd0
theorem cellK {C : Cx Tryz.prog} {H : List HP} {b k : Nat} {o s : Sd} {o' : Nat} {t : TypeId} {fr : Nat × Nat} (p : Sub H [pt b (.cells (encSd (addK o s k)).toArray t fr)]) (hk : k < 3) (ho : o' = k) : Cell C H ⟨b, o', none⟩ (.int .i64 (prtS o k)) := by
 subst ho
 cases p with
 | cons p _ => exact Cell.own p (by rw [prtS_get _ hk, addK_at hk])
theorem c_sum (w : World) (v : Value) (l : List Sd) (hR : RdF encSd 3 w.heap.size w v l) (hl : l.length ≤ 4) (hb : ∀ s ∈ l, OkS 1000000000000000 1000000000000000 s) : Ret Tryz.prog 153 [v].toArray w (sdV (sumS l)) := by
 refine Ret.of mixed tyTab Tryz.func153 rfl rfl ?_
 replace hR : RdF encSd 3 (fnCx mixed tyTab Tryz.f153.ntmps w).B (fnCx mixed tyTab Tryz.f153.ntmps w).w0 v l := hR
 have hle := hR.sl.le
 refine W.sreg (WO.alloc rfl rfl rfl (fun b1 hb1 => (WO.nil (W.sreg (WO.alloc rfl rfl rfl (fun b2 hb2 => (WO.nil (W.seq (W.sreg (WO.p rfl rfl (WO.len rfl rfl hR.sl rfl (WO.p rfl rfl (WO.nil (W.block ?_))))))))))))))
 refine W.loop2 (fun (i : Nat) (o : Sd) => i ≤ l.length ∧ o = sumS (l.take i))
  (fun (i : Nat) (o : Sd) => [(10, .int .i64 (i : Int)), (9, .int .i64 (l.length : Int)), (8, v), (3, .pointer (some ⟨b2, 0, none⟩)), (2, .pointer (some ⟨b1, 0, none⟩))])
  (fun (i : Nat) (o : Sd) => [pt b2 (.cells #[.int .i64 o.a, .int .i64 o.b, .int .i64 o.c] 96 (0, 0)), pt b1 (.cells #[.int .i64 0, .int .i64 0, .int .i64 0] 96 (0, 0))])
  (fun (i : Nat) (o : Sd) => l.length - i) 0 sd0
  (by exact ⟨by omega, rfl⟩) ⟨rfl, rfl, rfl, rfl, rfl, trivial⟩ (by repeat (first | exact Sub.nil | refine Sub.cons (by repeat exact .head) ?_)) ?_
 rintro i o ⟨hi0, ho⟩
 refine W.sreg (WO.p rfl rfl (WO.nil (W.seq ?_)))
 refine W.cond_bl rfl (fun c1 => ?_) (fun c1 => ?_)
 ·refine W.skip (W.seq (W.block (W.sreg (WO.indexAddr rfl rfl rfl hR.sl (by omega) rfl (WO.loadA rfl rfl (RdF.cells3 hR (i := i) (by omega)) rfl rfl (WO.alloc rfl rfl rfl (fun b3 hb3 => (WO.storeA rfl rfl rfl rfl Pick.head rfl rfl (WO.nil (W.sreg (WO.loadA rfl rfl (Cells.own Pick.head) rfl rfl (WO.p rfl rfl (WO.nil (W.block ?_))))))))))))))
  refine W.loop (fun (k : Nat) => k ≤ 3)
   (fun (k : Nat) => [(15, .int .i64 (k : Int)), (14, .agg #[.int .i64 (l.getD i sd0).a, .int .i64 (l.getD i sd0).b, .int .i64 (l.getD i sd0).c]), (10, .int .i64 (i : Int)), (9, .int .i64 (l.length : Int)), (8, v), (3, .pointer (some ⟨b2, 0, none⟩)), (2, .pointer (some ⟨b1, 0, none⟩))])
   (fun (k : Nat) => [pt b2 (.cells (encSd (addK o (l.getD i sd0) k)).toArray 96 (0, 0)), pt b1 (.cells #[.int .i64 0, .int .i64 0, .int .i64 0] 96 (0, 0))])
   (fun (k : Nat) => 3 - k) 0
   (by omega) ⟨rfl, rfl, rfl, rfl, rfl, rfl, rfl, trivial⟩ (by repeat (first | exact Sub.nil | refine Sub.cons (by repeat first | exact .head | apply Pick.tail) ?_)) ?_
  rintro k hk0
  refine W.sreg (WO.p rfl rfl (WO.nil (W.seq ?_)))
  refine W.cond_bl rfl (fun c2 => ?_) (fun c2 => ?_)
  ·refine W.skip (W.seq (W.block (W.sreg (WO.p rfl rfl (WO.indexV (vs := encSd (l.getD i sd0)) (i := k) rfl rfl rfl rfl (by omega) (prtS_get _ (by omega)) rfl (WO.p rfl rfl (WO.p rfl rfl (WO.nil ?_))))))))
   have p1 := prtS_bd (hb _ (getD_mem (show i < l.length by omega) sd0)) (k := k)
   have p2 := prtS_bd (sum_in (by omega) hb (i := i) (by omega)) (k := k)
   rw [← ho] at p2
   refine W.region (WO.p rfl rfl (WO.indexArrE (i := k) (o' := 0 + k * 1) rfl rfl rfl rfl (by omega) rfl rfl ?_))
   refine' WO.load (v := _) rfl rfl ?hc rfl ?_
   case hc => (first | (refine cellK (b := b2) (o := o) (s := l.getD i sd0) (k := k) (o' := 0 + k * 1) (t := 96) (fr := (0, 0)) ?_ (by omega) (by omega); repeat (first | exact Sub.nil | refine Sub.cons (by repeat exact .head) ?_)))
   refine WO.p rfl rfl (WO.ar rfl rfl rfl (by unfold in64; omega) rfl (WO.indexArrE (i := k) (o' := 0 + k * 1) rfl rfl rfl rfl (by omega) rfl rfl (WO.store1 (cs := encSd (addK o (l.getD i sd0) k)) rfl rfl rfl rfl (by repeat exact .head) (by rw [Nat.blt_eq]; show 0 + k * 1 < 3; omega) ?_)))
   rw [show 0 + k * 1 = k by omega, show (encSd (addK o (l.getD i sd0) k)).set k (.int .i64 (prtS o k + prtS (l.getD i sd0) k)) = encSd (addK o (l.getD i sd0) (k + 1)) by rw [← addK_set (by omega), addK_at (by omega)]]
   refine WO.nil (W.region (WO.ar rfl rfl rfl (by unfold in64; omega) rfl (WO.p rfl rfl (WO.nil ?_))))
   refine' ⟨k + 1, ?hp, ?hmu, ⟨rfl, rfl, rfl, rfl, rfl, rfl, rfl, trivial⟩, ?hS⟩
   case hS => repeat (first | exact Sub.nil | refine Sub.cons (by repeat exact .head) ?_)
   case hp => omega
   case hmu => omega
  ·refine W.exit (blk_same ?_)
   obtain rfl : 3 = k := by omega
   rw [addK_3]
   refine W.region (WO.ar rfl rfl rfl (by unfold in64; omega) rfl (WO.p rfl rfl (WO.nil ?_)))
   refine' ⟨i + 1, _, ?hp, ?hmu, ⟨rfl, rfl, rfl, rfl, rfl, trivial⟩, ?hS⟩
   case hS => repeat (first | exact Sub.nil | refine Sub.cons (by repeat exact .head) ?_)
   case hp => exact ⟨by omega, by rw [sumS_take (by omega), ho]⟩
   case hmu => omega
 ·refine W.exit (blk_same (W.sreg (WO.loadA rfl rfl (Cells.own Pick.head) rfl rfl (WO.storeA rfl rfl rfl rfl (Pick.tail (Pick.head)) rfl rfl (WO.nil (W.ret (fin.ret (Res.one rfl (RV.cell rfl rfl rfl (Cells.own (by repeat exact .head)))) ?_)))))))
  rw [show i = l.length by omega, List.take_length] at ho
  (rw [← ho]; done)
end Go.Proofs.YtncjabmlkgacdaaGreat.Sp
namespace Go.Proofs.YtncjabmlkgacdaaGreat.Sp
open Go Go.TH
attribute [local irreducible] W WO pt
set_option maxRecDepth 10000
set_option maxHeartbeats 1000000
def gcd2 (a b : Int) : Int := (Nat.gcd a.toNat b.toNat : Nat)
theorem gcd2_zero {a : Int} (h : 0 ≤ a) : gcd2 a 0 = a := by simp [gcd2]; omega
theorem gcd2_comm (a b : Int) : gcd2 a b = gcd2 b a := by unfold gcd2; rw [Nat.gcd_comm]
theorem gcd2_step {a b : Int} (ha : 0 ≤ a) (hb : 0 < b) : gcd2 b (a.tmod b) = gcd2 a b := by
 unfold gcd2
 obtain ⟨n, rfl⟩ := Int.eq_ofNat_of_zero_le ha
 obtain ⟨m, rfl⟩ := Int.eq_ofNat_of_zero_le (Int.le_of_lt hb)
 rw [Int.tmod_eq_emod_of_nonneg (by omega), ← Int.natCast_emod]
 simp only [Int.toNat_natCast]
 rw [Nat.gcd_comm m (n % m), ← Nat.gcd_rec, Nat.gcd_comm]
theorem tmod_lt {a b : Int} (ha : 0 ≤ a) (hb : 0 < b) : 0 ≤ a.tmod b ∧ a.tmod b < b := ⟨Int.tmod_nonneg b ha, Int.tmod_lt_of_pos a hb⟩
theorem gcd2_pos {a b : Int} (hb : 0 < b) : 0 < gcd2 a b := by
 unfold gcd2
 have : 0 < Nat.gcd a.toNat b.toNat := Nat.gcd_pos_of_pos_right _ (by omega)
 omega
theorem ab_nn (n : Int) : 0 ≤ ab n := by unfold ab; omega
def red (n d : Int) : Int × Int := (n.tdiv (gcd2 (ab n) d), d.tdiv (gcd2 (ab n) d))
abbrev raV (r : Int × Int) : Value := .agg #[.int .i64 r.1, .int .i64 r.2]
theorem gcd2_dvd (n : Int) {d : Int} (hd : 0 < d) : gcd2 (ab n) d ∣ n ∧ gcd2 (ab n) d ∣ d := by
 unfold gcd2
 have h1 : (Nat.gcd (ab n).toNat d.toNat : Int) ∣ ((ab n).toNat : Int) := Int.natCast_dvd_natCast.2 (Nat.gcd_dvd_left _ _)
 have h2 : (Nat.gcd (ab n).toNat d.toNat : Int) ∣ (d.toNat : Int) := Int.natCast_dvd_natCast.2 (Nat.gcd_dvd_right _ _)
 rw [Int.toNat_of_nonneg (ab_nn n)] at h1
 rw [Int.toNat_of_nonneg (by omega)] at h2
 refine ⟨?_, h2⟩
 unfold ab at h1 ⊢
 rcases Int.le_total 0 n with h | h
 ·rwa [show max n (-n) = n by omega] at h1 ⊢
 ·rw [show max n (-n) = -n by omega] at h1 ⊢; exact Int.dvd_neg.1 h1
theorem red_parts (n : Int) {d : Int} (hd : 0 < d) : ∃ g : Int, 0 < g ∧ n = (red n d).1 * g ∧ d = (red n d).2 * g ∧ 0 < (red n d).2 ∧ (red n d).2 ≤ d ∧ ab (red n d).1 ≤ ab n := by
 have hg := gcd2_pos (a := ab n) hd
 obtain ⟨⟨x, hx⟩, ⟨y, hy⟩⟩ := gcd2_dvd n hd
 have e1 : n.tdiv (gcd2 (ab n) d) = x := by
  generalize gcd2 (ab n) d = g at *
  rw [hx, Int.mul_tdiv_cancel_left _ (by omega)]
 have e2 : d.tdiv (gcd2 (ab n) d) = y := by
  generalize gcd2 (ab n) d = g at *
  rw [hy, Int.mul_tdiv_cancel_left _ (by omega)]
 have e3 : red n d = (x, y) := by unfold red; rw [e1, e2]
 rw [e3]
 generalize gcd2 (ab n) d = g at *
 have hy0 : 0 < y := by
  rcases Int.lt_or_le 0 y with h | h
  ·exact h
  ·have := Int.mul_nonneg (show 0 ≤ g by omega) (show 0 ≤ -y by omega)
   rw [Int.mul_neg] at this; omega
 refine ⟨g, hg, by rw [hx]; exact Int.mul_comm _ _, by rw [hy]; exact Int.mul_comm _ _, hy0, ?_, ?_⟩
 ·show y ≤ d
  have := Int.mul_le_mul_of_nonneg_right (show 1 ≤ g by omega) (show 0 ≤ y by omega)
  omega
 ·show ab x ≤ ab n
  rw [hx]
  unfold ab
  rcases Int.le_total 0 x with h | h
  ·have a1 := Int.mul_le_mul_of_nonneg_right (show 1 ≤ g by omega) h
   rw [Int.one_mul] at a1; omega
  ·have a1 := Int.mul_le_mul_of_nonneg_right (show 1 ≤ g by omega) (show 0 ≤ -x by omega)
   rw [Int.one_mul, Int.mul_neg] at a1; omega
theorem tdiv_bd {n g : Int} (hg : 0 < g) (h : -4000000000000000000 ≤ n ∧ n ≤ 4000000000000000000) : -4000000000000000000 ≤ n.tdiv g ∧ n.tdiv g ≤ 4000000000000000000 := by
 rcases Int.le_total 0 n with h0 | h0
 ·have h1 := Int.tdiv_nonneg (a := n) (b := g) h0 (by omega)
  have h2 := Int.tdiv_le_self (a := n) g h0
  omega
 ·have h1 := Int.tdiv_nonneg (a := -n) (b := g) (by omega) (by omega)
  have h2 := Int.tdiv_le_self (a := -n) g (by omega)
  rw [Int.neg_tdiv] at h1 h2; omega
theorem c_common (w : World) (n d : Int) (hn : -4000000000000000000 ≤ n ∧ n ≤ 4000000000000000000) (hd : 0 < d) : Ret Tryz.prog 169 [.int .i64 n, .int .i64 d].toArray w (.int .i64 (gcd2 (ab n) d)) := by
 refine Ret.of mixed tyTab Tryz.func169 rfl rfl (W.sreg (WO.p rfl rfl (WO.nil (W.sreg (WO.p rfl rfl (WO.p rfl rfl (WO.neg rfl (by unfold in64; omega) rfl (WO.max2 rfl rfl rfl (WO.p rfl rfl (WO.nil (W.seq (W.block ?_))))))))))))
 refine W.loop2 (fun (x : Int) (y : Int) => 0 ≤ x ∧ 0 ≤ y ∧ gcd2 x y = gcd2 (ab n) d)
  (fun (x : Int) (y : Int) => [(0, .int .i64 x), (1, .int .i64 y)])
  (fun (x : Int) (y : Int) => [])
  (fun (x : Int) (y : Int) => x.toNat) (ab n) d
  (by exact ⟨ab_nn n, by omega, rfl⟩) ⟨rfl, rfl, trivial⟩ (by repeat (first | exact Sub.nil | refine Sub.cons (by repeat first | exact .head | apply Pick.tail) ?_)) ?_
 rintro x y ⟨hx, hy, hg⟩
 refine W.seq (W.sreg (WO.p rfl rfl (WO.p rfl rfl (WO.nil ?_))))
 refine W.cond_bl rfl (fun c1 => ?_) (fun c1 => ?_)
 ·refine W.skip (W.block (W.region (WO.p rfl rfl (WO.p rfl rfl (WO.rem rfl rfl (by omega) rfl (WO.p rfl rfl (WO.p rfl rfl (WO.p rfl rfl (WO.nil ?_)))))))))
  refine' ⟨_, _, ?hp, ?hmu, ⟨rfl, rfl, trivial⟩, ?hS⟩
  case hS => repeat (first | exact Sub.nil | refine Sub.cons (by repeat first | exact .head | apply Pick.tail) ?_)
  case hp => exact ⟨(tmod_lt hy (by omega)).1, hx, by rw [← hg, gcd2_comm (y.tmod x) x, gcd2_step hy (by omega), gcd2_comm]⟩
  case hmu => have := tmod_lt hy (show 0 < x by omega); omega
 ·refine W.exit (blk_same (W.sreg (WO.p rfl rfl (WO.p rfl rfl (WO.nil (W.ret (fin.ret (Res.one rfl (RV.tmp rfl)) ?_)))))))
  obtain rfl : x = 0 := by omega
  rw [← hg, gcd2_comm, gcd2_zero hy]
theorem c_ratio (w : World) (n d : Int) (hn : -4000000000000000000 ≤ n ∧ n ≤ 4000000000000000000) (hd : 0 < d ∧ d ≤ 4000000000000000000) : Ret Tryz.prog 92 [.int .i64 n, .int .i64 d].toArray w (raV (red n d)) := by
 refine Ret.of mixed tyTab Tryz.func92 rfl rfl ?_
 have hg := gcd2_pos (a := ab n) hd.1
 have h1 := tdiv_bd hg hn
 have h2 := tdiv_bd hg (n := d) (by omega)
 refine W.sreg (WO.alloc rfl rfl rfl (fun b1 hb1 => (WO.nil (W.sreg (WO.p rfl rfl (WO.p rfl rfl (WO.callR rfl Tryz.call169 (fun L w hi => c_common w n d hn hd.1) rfl (WO.p rfl rfl (WO.nil (W.seq ?_))))))))))
 refine W.drawD 6 [.r 0 [], .r 1 [], .r 2 [], .r 3 [], .r 4 [], .r 5 []] [] (A0 := []) (Sub.refl _) (by kernel_rfl) ?_ ?_
 ·repeat constructor
 refine DT.r rfl rfl rfl (WO.p rfl rfl (WO.nil ⟨rfl, rfl⟩)) (DT.r rfl rfl rfl (WO.p rfl rfl (WO.nil ⟨rfl, rfl⟩)) (DT.r rfl rfl rfl (WO.quo rfl rfl (by omega) (by unfold in64; omega) rfl (WO.nil ⟨rfl, rfl⟩)) (DT.r rfl rfl rfl (WO.p rfl rfl (WO.nil ⟨rfl, rfl⟩)) (DT.r rfl rfl rfl (WO.p rfl rfl (WO.nil ⟨rfl, rfl⟩)) (DT.r rfl rfl rfl (WO.quo rfl rfl (by omega) (by unfold in64; omega) rfl (WO.nil ⟨rfl, rfl⟩)) (DT.nil [_] rfl (WO.build rfl rfl rfl rfl rfl (WO.storeA rfl rfl rfl rfl Pick.head rfl rfl (WO.nil (W.ret ?_))))))))))
 exact fin.ret (Res.one rfl (RV.cell rfl rfl rfl (Cells.own Pick.head))) rfl
theorem c_less (w : World) (a b c d : Int) (h1 : in64 (a * d)) (h2 : in64 (c * b)) : Ret Tryz.prog 159 [.agg #[.int .i64 a, .int .i64 b], .agg #[.int .i64 c, .int .i64 d]].toArray w (.bool (bl (a * d < c * b))) := by
 refine Ret.of mixed tyTab Tryz.func159 rfl rfl (W.sreg (WO.boxA rfl rfl (fun b1 hb1 => (WO.boxA rfl rfl (fun b2 hb2 => (WO.p rfl rfl (WO.nil (W.sreg (WO.field0 rfl rfl rfl (WO.load rfl rfl (Cell.own (Pick.tail (Pick.head)) rfl) rfl (WO.fieldL rfl rfl rfl (WO.load rfl rfl (Cell.own Pick.head rfl) rfl (WO.ar rfl rfl rfl (by (assumption)) rfl (WO.field0 rfl rfl rfl (WO.load rfl rfl (Cell.own Pick.head rfl) rfl (WO.fieldL rfl rfl rfl (WO.load rfl rfl (Cell.own (Pick.tail (Pick.head)) rfl) rfl (WO.ar rfl rfl rfl (by (assumption)) rfl (WO.p rfl rfl (WO.p rfl rfl (WO.nil (W.ret ?_))))))))))))))))))))))
 exact fin.ret (Res.one rfl (RV.tmp rfl)) rfl
end Go.Proofs.YtncjabmlkgacdaaGreat.Sp
namespace Go.Proofs.YtncjabmlkgacdaaGreat.Sp
open Go Go.TH
attribute [local irreducible] W WO pt
set_option maxRecDepth 10000
set_option maxHeartbeats 1000000
def encPr (r : Rn) : List Value := [.int .i64 r.p, .int .i64 r.q, .int .i64 r.lo, .int .i64 r.hi, .int .i64 r.p, .int .i64 r.q, .int .i64 r.lo, .int .i64 (-r.p), .int .i64 (-r.q), .int .i64 (-r.hi)]
theorem encPr_ok : EncOk encPr 10 := ⟨fun _ => rfl, fun x u hu => by simp [encPr] at hu; rcases hu with rfl | rfl | rfl | rfl | rfl | rfl | rfl | rfl | rfl | rfl <;> rfl, by omega⟩
def sds (l : List Rn) : List Sd := l.flatMap fun r => [loS r, hiS r]
theorem sds_len (l : List Rn) : (sds l).length = 2 * l.length := by
 induction l with
 | nil => rfl
 | cons r l ih => show (_ :: _ :: sds l).length = _; simp only [List.length_cons, ih]; omega
theorem sds_step {l : List Rn} {i : Nat} (h : i < l.length) : sds (l.take i) ++ [loS (l.getD i rn0), hiS (l.getD i rn0)] = sds (l.take (i + 1)) := by
 unfold sds; rw [take_succ_getD h rn0, List.flatMap_append]; rfl
theorem sds_ok {l : List Rn} (h : OkRs l) : ∀ s ∈ sds l, OkS 20 100000 s := fun s hs => by
 obtain ⟨r, hr, hm⟩ := List.mem_flatMap.1 hs
 have : s = loS r ∨ s = hiS r := by simpa using hm
 rcases this with rfl | rfl
 ·exact OkS.lo (h r hr)
 ·exact OkS.hi (h r hr)
structure Tbl (B : Nat) (w : World) (p : Addr) (rv sv : Value) (l : List Rn) : Prop where
 c : RdC B w p [rv, sv]
 r : RdF encPr 10 B w rv l
 s : RdF encSd 3 B w sv (sds l)
theorem Tbl.later {C : Cx Tryz.prog} {H L : List HP} {w : World} {p : Addr} {rv sv : Value} {l : List Rn} (h : Tbl C.B C.w0 p rv sv l) (hi : Inv C.w0 C.M (L ++ H) w) : Tbl w.heap.size w p rv sv l := ⟨h.c.later hi, h.r.later hi, h.s.later hi⟩
theorem Tbl.agree {B : Nat} {w w' : World} {p : Addr} {rv sv : Value} {l : List Rn} (h : Tbl B w p rv sv l) (hk : ∀ k, k < B → w'.heap[k]? = w.heap[k]?) : Tbl B w' p rv sv l := ⟨h.c.agree hk, h.r.agree hk, h.s.agree hk⟩
theorem Tbl.own {C : Cx Tryz.prog} {H H1 H2 H3 L : List HP} {w : World} {b : Nat} {rv sv : Value} {l : List Rn} (p : Pick (pt b (.cells #[rv, sv] 179 (0, 0))) H H1) (q : Pick (OwE encPr 181 10 rv l) H H2) (r : Pick (OwE encSd 96 3 sv (sds l)) H H3) (hi : Inv C.w0 C.M (L ++ H) w) : Tbl w.heap.size w ⟨b, 0, none⟩ rv sv l :=
 ⟨RdC.own p hi, RdF.of_ow encPr_ok q hi, RdF.of_ow encSd_ok r hi⟩
theorem isSl_lit {a0 : Option Addr} {n c : Nat} (h : n ≤ 9223372036854775807) (h2 : 0 < n → ∃ b o, a0 = some ⟨b, o, none⟩) : IsSl (.slice a0 n c) n := ⟨h, a0, c, rfl, h2⟩
theorem c_newTable (w : World) (v : Value) (l : List Rn) (hR : RdF encRn 4 w.heap.size w v l) (hok : OkRs l) (hl : l.length ≤ 12) : Ct Tryz.prog 37 [v].toArray w fun u w' => ∃ Hq, (∃ (b : Nat) (rv sv : Value), u = .pointer (some ⟨b, 0, none⟩) ∧ Hq = [pt b (.cells #[rv, sv] 179 (0, 0)), OwE encPr 181 10 rv l, OwE encSd 96 3 sv (sds l)]) ∧ Inv w [] Hq w' := by
 refine Ct.of mixed tyTab Tryz.func37 rfl rfl ?_
 replace hR : RdF encRn 4 (fnCx mixed tyTab Tryz.f37.ntmps w).B (fnCx mixed tyTab Tryz.f37.ntmps w).w0 v l := hR
 have hle := hR.sl.le
 refine W.sreg (WO.p rfl rfl (WO.nil (W.sreg (WO.build rfl rfl rfl rfl rfl (WO.boxA rfl rfl (fun b1 hb1 => (WO.p rfl rfl (WO.nil (W.seq (W.sreg (WO.p rfl rfl (WO.len rfl rfl hR.sl rfl (WO.p rfl rfl (WO.nil (W.block (W.chg (owNil (enc := encSd) (e := 96) (sz := 3)) (W.chg (owNil (enc := encPr) (e := 181) (sz := 10)) ?_)))))))))))))))))
 refine W.loop3 (fun (i : Nat) (rv : Value) (sv : Value) => i ≤ l.length)
  (fun (i : Nat) (rv : Value) (sv : Value) => [(11, .int .i64 (i : Int)), (10, .int .i64 (l.length : Int)), (9, v), (3, .pointer (some ⟨b1, 0, none⟩))])
  (fun (i : Nat) (rv : Value) (sv : Value) => [pt b1 (.cells #[rv, sv] 179 (0, 0)), OwE encPr 181 10 rv (l.take i), OwE encSd 96 3 sv (sds (l.take i))])
  (fun (i : Nat) (rv : Value) (sv : Value) => l.length - i) 0 (.slice none 0 0) (.slice none 0 0)
  (by omega) ⟨rfl, rfl, rfl, rfl, trivial⟩ (by repeat (first | exact Sub.nil | refine Sub.cons (by repeat first | exact .head | apply Pick.tail) ?_)) ?_
 rintro i rv sv hi0
 refine W.sreg (WO.p rfl rfl (WO.nil (W.seq ?_)))
 refine W.cond_bl rfl (fun c1 => ?_) (fun c1 => ?_)
 ·refine W.skip (W.seq (W.block (W.sreg (WO.indexAddr rfl rfl rfl hR.sl (by omega) rfl (WO.loadA rfl rfl (RdF.cells4 hR (i := i) (by omega)) rfl rfl (WO.alloc rfl rfl rfl (fun b2 hb2 => (WO.storeA rfl rfl rfl rfl Pick.head rfl rfl (WO.nil (W.sreg (WO.loadA rfl rfl (Cells.own Pick.head) rfl rfl (WO.callR rfl Tryz.call97 (fun L w hi => c_newPair w (l.getD i rn0) (hok _ (getD_mem (by omega) rn0))) rfl (WO.alloc rfl rfl rfl (fun b3 hb3 => (WO.storeA rfl rfl rfl rfl Pick.head rfl rfl (WO.nil (W.seq (W.fact (OwE.form (enc := encPr) (e := 181) (sz := 10) (by repeat first | exact .head | apply Pick.tail)) (fun hf => ?_)))))))))))))))))))
  obtain ⟨fa, fc, rfl⟩ := hf
  refine W.fact (OwE.form (enc := encSd) (e := 96) (sz := 3) (by repeat first | exact .head | apply Pick.tail)) (fun hf2 => ?_)
  obtain ⟨ga, gc, rfl⟩ := hf2
  refine W.drawD 8 [.r 0 [], .r 1 [], .r 2 [], .r 3 [], .b 4 [], .b 5 [], .c 6 [], .c 7 []] [] (A0 := [_]) (H0 := [_, _, _, _]) (.cons (Pick.tail (Pick.tail (Pick.tail .head))) (.cons .head (.cons .head (.cons .head (.cons .head .nil))))) (by kernel_rfl) ?_ ?_
  ·repeat constructor
  refine DT.r rfl rfl rfl (WO.p rfl rfl (WO.nil ⟨rfl, rfl⟩)) (DT.r rfl rfl rfl (WO.p rfl rfl (WO.nil ⟨rfl, rfl⟩)) (DT.r rfl rfl rfl (WO.p rfl rfl (WO.nil ⟨rfl, rfl⟩)) (DT.r rfl rfl rfl (WO.field0 rfl rfl rfl (WO.nil ⟨rfl, rfl⟩)) (DT.b rfl rfl rfl (WO.load rfl rfl (Cell.own (Pick.tail (Pick.tail (Pick.head))) rfl) rfl (WO.nil ⟨rfl, rfl⟩)) (DT.b rfl rfl rfl (WO.loadA rfl rfl (Cells.own Pick.head) rfl rfl (WO.nil ⟨rfl, rfl⟩)) (DT.c [_, _, _, _, _] rfl rfl rfl rfl (WO.buildSl rfl rfl rfl rfl rfl rfl rfl rfl rfl (fun v4 => ?_))))))))
  refine WO.nil ⟨_, [_, _], rfl, rfl, (Keep.b (Keep.b (Keep.r (Keep.r (Keep.r (Keep.r Keep.nil)))))), ?_⟩
  refine DT.c [_, _, _, _, _, _] rfl rfl rfl rfl ?_
  refine' WO.appendE (enc := encPr) (m := 1) (ys := [l.getD i rn0]) encPr_ok rfl rfl rfl rfl rfl (by repeat first | exact .head | apply Pick.tail) (isSl_lit (by omega) (fun _ => ⟨_, _, rfl⟩)) (by omega) rfl (OwC.cells .head) (by rw [List.length_take]; omega) (by rw [List.length_take]; omega) rfl (fun g c => ?_)
  rw [← take_succ_getD (by omega) rn0]
  refine WO.nil ⟨_, [_, _], rfl, rfl, (Keep.c (Keep.b (Keep.b (Keep.r (Keep.r (Keep.r (Keep.r Keep.nil))))))), ?_⟩
  refine DT.nil [_, _, _, _, _, _] rfl (WO.p rfl rfl (WO.field0 rfl rfl rfl (WO.store1 rfl rfl rfl (by rfl) (Pick.tail (Pick.tail (Pick.tail (Pick.tail (Pick.head))))) rfl (WO.nil ?_))))
  refine W.drawD 11 [.r 0 [], .r 1 [], .r 2 [], .r 3 [], .b 4 [], .r 5 [], .b 6 [], .r 7 [], .b 8 [], .c 9 [], .c 10 []] [] (A0 := [_]) (H0 := [_, _, _, _, _]) (.cons (Pick.tail (Pick.tail (Pick.tail (Pick.tail (Pick.tail .head))))) (.cons .head (.cons .head (.cons .head (.cons .head (.cons .head .nil)))))) (by kernel_rfl) ?_ ?_
  ·repeat constructor
  refine DT.r rfl rfl rfl (WO.p rfl rfl (WO.nil ⟨rfl, rfl⟩)) (DT.r rfl rfl rfl (WO.p rfl rfl (WO.nil ⟨rfl, rfl⟩)) (DT.r rfl rfl rfl (WO.p rfl rfl (WO.nil ⟨rfl, rfl⟩)) (DT.r rfl rfl rfl (WO.fieldL rfl rfl rfl (WO.nil ⟨rfl, rfl⟩)) (DT.b rfl rfl rfl (WO.load rfl rfl (Cell.own Pick.head rfl) rfl (WO.nil ⟨rfl, rfl⟩)) (DT.r rfl rfl rfl (WO.fieldL rfl rfl rfl (WO.nil ⟨rfl, rfl⟩)) (DT.b rfl rfl rfl (WO.loadA rfl rfl (Cells.ownAt (n := 3) (Pick.tail (Pick.tail (Pick.tail (Pick.head)))) rfl) rfl rfl (WO.nil ⟨rfl, rfl⟩)) (DT.r rfl rfl rfl (WO.fieldL rfl rfl rfl (WO.nil ⟨rfl, rfl⟩)) ?_)))))))
  refine DT.b rfl rfl rfl (WO.loadA rfl rfl (Cells.ownAt (n := 3) (Pick.tail (Pick.tail (Pick.tail (Pick.head)))) rfl) rfl rfl (WO.nil ⟨rfl, rfl⟩)) (DT.c [_, _, _, _, _, _] rfl rfl rfl rfl (WO.buildSl rfl rfl rfl rfl rfl rfl rfl rfl rfl (fun v5 => ?_)))
  refine WO.nil ⟨_, [_, _], rfl, rfl, (Keep.b (Keep.r (Keep.b (Keep.r (Keep.b (Keep.r (Keep.r (Keep.r (Keep.r Keep.nil))))))))), ?_⟩
  refine DT.c [_, _, _, _, _, _, _] rfl rfl rfl rfl ?_
  refine' WO.appendE (enc := encSd) (m := 2) (ys := [loS (l.getD i rn0), hiS (l.getD i rn0)]) encSd_ok rfl rfl rfl rfl rfl (by repeat first | exact .head | apply Pick.tail) (isSl_lit (by omega) (fun _ => ⟨_, _, rfl⟩)) (by omega) rfl (OwC.cells .head) (by rw [sds_len, List.length_take]; omega) (by rw [sds_len, List.length_take]; omega) rfl (fun g c => ?_)
  rw [sds_step (by omega)]
  refine WO.nil ⟨_, [_, _], rfl, rfl, (Keep.c (Keep.b (Keep.r (Keep.b (Keep.r (Keep.b (Keep.r (Keep.r (Keep.r (Keep.r Keep.nil)))))))))), ?_⟩
  refine DT.nil [_, _, _, _, _, _, _] rfl (WO.p rfl rfl (WO.fieldL rfl rfl rfl (WO.store1 rfl rfl rfl (by rfl) (Pick.tail (Pick.tail (Pick.head))) rfl (WO.nil (W.region (WO.ar rfl rfl rfl (by unfold in64; omega) rfl (WO.p rfl rfl (WO.nil ?_))))))))
  refine' ⟨i + 1, _, _, ?hp, ?hmu, ⟨rfl, rfl, rfl, rfl, trivial⟩, ?hS⟩
  case hS => repeat (first | exact Sub.nil | refine Sub.cons (by repeat first | exact .head | apply Pick.tail) ?_)
  case hp => omega
  case hmu => omega
 ·refine W.exit (blk_same ?_)
  obtain rfl : l.length = i := by omega
  rw [List.take_length]
  refine W.sreg (WO.p rfl rfl (WO.p rfl rfl (WO.nil (W.ret ?_))))
  exact fin.ret (Res.one rfl (RV.tmp rfl)) ⟨b1, rv, sv, rfl, rfl⟩
end Go.Proofs.YtncjabmlkgacdaaGreat.Sp
namespace Go.Proofs.YtncjabmlkgacdaaGreat.Sp
open Go Go.TH
attribute [local irreducible] W WO pt
set_option maxRecDepth 10000
set_option maxHeartbeats 1000000
def seg {β : Type} (lo hi : Nat) (g : Nat → List β) : List β := (List.range (hi - lo)).flatMap fun t => g (lo + t)
theorem seg_none {β : Type} (lo : Nat) (g : Nat → List β) : seg lo lo g = [] := by unfold seg; simp
theorem seg_succ {β : Type} {lo hi : Nat} (h : lo ≤ hi) (g : Nat → List β) : seg lo (hi + 1) g = seg lo hi g ++ g hi := by
 unfold seg; rw [show hi + 1 - lo = (hi - lo) + 1 by omega, List.range_succ, List.flatMap_append]; simp [show lo + (hi - lo) = hi by omega]
theorem seg_get {β : Type} {lo i t : Nat} {g : Nat → List β} {x : β} (h1 : lo ≤ i) (ht : (g i)[t]? = some x) : ∀ {hi : Nat}, i < hi → (seg lo hi g)[(seg lo i g).length + t]? = some x
 | 0, h => by omega
 | hi + 1, h => by
  rw [seg_succ (by omega)]
  rcases Nat.lt_or_ge i hi with g1 | g1
  ·have := seg_get (lo := lo) h1 ht (hi := hi) g1
   rw [List.getElem?_append_left (List.getElem?_eq_some_iff.1 this).1]; exact this
  ·obtain rfl : i = hi := by omega
   rw [List.getElem?_append_right (by omega), Nat.add_sub_cancel_left]; exact ht
theorem seg_one {β : Type} (lo : Nat) (g : Nat → β) : ∀ {hi : Nat}, lo ≤ hi → (seg lo hi fun i => [g i]).length = hi - lo
 | 0, h => by obtain rfl : lo = 0 := (by omega); rw [seg_none]; rfl
 | hi + 1, h => by
  rcases Nat.lt_or_ge hi lo with g1 | g1
  ·obtain rfl : lo = hi + 1 := (by omega); rw [seg_none]; simp
  ·rw [seg_succ g1, List.length_append, seg_one lo g g1]; simp; omega
theorem mem_seg {β : Type} {lo hi : Nat} {g : Nat → List β} {x : β} : x ∈ seg lo hi g ↔ ∃ i, lo ≤ i ∧ i < hi ∧ x ∈ g i := by
 unfold seg
 simp only [List.mem_flatMap, List.mem_range]
 constructor
 ·rintro ⟨t, ht, hx⟩; exact ⟨lo + t, by omega, by omega, hx⟩
 ·rintro ⟨i, h1, h2, hx⟩; exact ⟨i - lo, by omega, by rw [show lo + (i - lo) = i by omega]; exact hx⟩
def F3 (n a b : Nat) : List (List Int) := seg (b + 1) n fun c => [[(a : Int), (b : Int), (c : Int)]]
def F2 (m n a b : Nat) : List (List Int) := [(a : Int), (b : Int)] :: (if m = 3 then F3 n a b else [])
def F1 (m n a : Nat) : List (List Int) := [(a : Int)] :: seg (a + 1) n (F2 m n a)
def grp (m n : Nat) : List (List Int) := seg 0 n (F1 m n)
def qa (m n a : Nat) : Nat := (seg 0 a (F1 m n)).length
def qb (m n a b : Nat) : Nat := qa m n a + ((seg (a + 1) b (F2 m n a)).length + 1)
def qc (m n a b c : Nat) : Nat := qb m n a b + ((c - (b + 1)) + 1)
theorem ga_get {m n a : Nat} (h : a < n) : (grp m n)[qa m n a]? = some [(a : Int)] := seg_get (lo := 0) (i := a) (t := 0) (g := F1 m n) (by omega) rfl h
theorem gb_get {m n a b : Nat} (ha : a < n) (h1 : a + 1 ≤ b) (h2 : b < n) : (grp m n)[qb m n a b]? = some [(a : Int), (b : Int)] := by
 refine seg_get (lo := 0) (i := a) (g := F1 m n) (by omega) ?_ ha
 unfold F1
 rw [List.getElem?_cons_succ]
 exact seg_get (lo := a + 1) (i := b) (t := 0) (g := F2 m n a) h1 rfl h2
theorem gc_get {n a b c : Nat} (ha : a < n) (h1 : a + 1 ≤ b) (h2 : b < n) (h3 : b + 1 ≤ c) (h4 : c < n) : (grp 3 n)[qc 3 n a b c]? = some [(a : Int), (b : Int), (c : Int)] := by
 have e : qc 3 n a b c = qa 3 n a + ((seg (a + 1) b (F2 3 n a)).length + ((c - (b + 1)) + 1) + 1) := by unfold qc qb; omega
 rw [e]
 refine seg_get (lo := 0) (i := a) (g := F1 3 n) (by omega) ?_ ha
 unfold F1
 rw [List.getElem?_cons_succ]
 refine seg_get (lo := a + 1) (i := b) (g := F2 3 n a) h1 ?_ h2
 unfold F2
 rw [List.getElem?_cons_succ, if_pos rfl]
 have := seg_get (lo := b + 1) (i := c) (t := 0) (g := fun c : Nat => [[(a : Int), (b : Int), (c : Int)]]) (x := [(a : Int), (b : Int), (c : Int)]) h3 rfl (hi := n) h4
 rw [seg_one (b + 1) (fun c : Nat => [(a : Int), (b : Int), (c : Int)]) (by omega)] at this
 exact this
theorem qb_0 (m n a : Nat) : qb m n a (a + 1) = qa m n a + 1 := by unfold qb; rw [seg_none]; rfl
theorem qa_succ (m n a : Nat) : qa m n (a + 1) = qb m n a n := by unfold qa qb; rw [seg_succ (by omega), List.length_append]; rfl
theorem qc_0 (m n a b : Nat) : qc m n a b (b + 1) = qb m n a b + 1 := by unfold qc; omega
theorem qc_succ {m n a b c : Nat} (h : b + 1 ≤ c) : qc m n a b (c + 1) = qc m n a b c + 1 := by unfold qc; omega
theorem qb_succ {m n a b c : Nat} (h1 : a + 1 ≤ b) (hb : b < n) (hm : m = 2 ∨ m = 3) (hc : (m = 2 → c = b + 1) ∧ (m = 3 → c = n)) : qb m n a (b + 1) = qc m n a b c := by
 unfold qc qb
 rw [seg_succ (by omega), List.length_append]
 unfold F2
 rw [List.length_cons]
 rcases hm with rfl | rfl
 ·rw [hc.1 rfl, if_neg (by omega)]; simp; omega
 ·rw [hc.2 rfl, if_pos rfl]; unfold F3; rw [seg_one (b + 1) (fun c : Nat => [(a : Int), (b : Int), (c : Int)]) (by omega)]; omega
theorem grp_len (m n : Nat) : (grp m n).length = qa m n n := rfl
theorem c_groups (w : World) (p : Addr) (m : Int) : Ct Tryz.prog 98 [.pointer (some p), .int .i64 m].toArray w fun v w' => ∃ Hq, (∃ b1 b2, v = .func (.func 174) #[] #[.pointer (some ⟨b1, 0, none⟩), .pointer (some ⟨b2, 0, none⟩)] ∧
 Hq = [pt b2 (.cells #[.int .i64 m] 3 (0, 0)), pt b1 (.cells #[.pointer (some p)] 100 (0, 0))]) ∧ Inv w [] Hq w' := by
 refine Ct.of mixed tyTab Tryz.func98 rfl rfl (W.sreg (WO.box1 rfl (by rfl) rfl (fun b1 hb1 => (WO.box1 rfl (by rfl) rfl (fun b2 hb2 => (WO.p rfl rfl (WO.nil (W.sreg (WO.p rfl rfl (WO.p rfl rfl (WO.nil (W.ret ?_))))))))))))
 exact fin.ret (Res.one rfl (RV.tmp rfl)) ⟨b1, b2, rfl, rfl⟩
theorem c_groups1 (B : Nat) (wr : World) (p : Addr) (rv sv : Value) (rl : List Rn) (hT : Tbl B wr p rv sv rl) (n : Nat) (hn : n = (sds rl).length) (m : Nat) (hm : m = 2 ∨ m = 3) (hn24 : n ≤ 24) (last : Nat) (l : Nat) (Hc : Nat → List HP) (hy : ∀ k x v, (grp m n)[k]? = some x → k ≤ last → YieldB Tryz.prog B wr l #[v] (bl (k < last)) (OwE encI 3 1 v x :: Hc k) (Hc (k + 1))) (b1 b2 : Nat) (w : World) (M' : List Nat) (hB : B ≤ w.heap.size) (hk : ∀ k, k < B → w.heap[k]? = wr.heap[k]?) (hM : ∀ b ∈ M', B ≤ b)
 (hi : Inv w M' ([pt b2 (.cells #[.int .i64 (m : Int)] 3 (0, 0)), pt b1 (.cells #[.pointer (some p)] 100 (0, 0))] ++ Hc 0) w) :
 Ct Tryz.prog 174 ([.func (.yield l) #[] #[], .pointer (some ⟨b1, 0, none⟩), .pointer (some ⟨b2, 0, none⟩)] : List Value).toArray w fun _ w' => Inv w M' ([pt b2 (.cells #[.int .i64 (m : Int)] 3 (0, 0)), pt b1 (.cells #[.pointer (some p)] 100 (0, 0))] ++ Hc (min (grp m n).length (last + 1))) w' := by
 refine Iter.of mixed tyTab hB hM Tryz.func174 rfl rfl hi ?_
 have hT2 := hT.agree hk
 have hsv : IsSl sv n := by rw [hn]; exact hT2.s.sl
 refine W.sreg (WO.load rfl rfl (Cell.own (Pick.tail (Pick.head)) rfl) rfl (WO.p rfl rfl (WO.field rfl rfl rfl ?_)))
 refine' WO.load (v := _) rfl rfl ?hc rfl ?_
 case hc => ((refine RdC.cellAt hT2.c (j := 1) ?_; rfl))
 refine WO.len rfl rfl hsv rfl (WO.p rfl rfl (WO.nil (W.sreg (WO.p rfl rfl (WO.p rfl rfl (WO.nil (W.block ?_)))))))
 rw [show Hc 0 = Hc (qa m n 0) by rw [show qa m n 0 = 0 from rfl]]
 refine W.loop (fun (a : Nat) => a ≤ n ∧ qa m n a ≤ last)
  (fun (a : Nat) => [(14, .int .i64 (a : Int)), (13, .int .i64 (n : Int)), (4, .int .i64 (n : Int)), (0, .func (.yield l) #[] #[]), (1, .pointer (some ⟨b1, 0, none⟩)), (2, .pointer (some ⟨b2, 0, none⟩))])
  (fun (a : Nat) => [pt b1 (.cells #[.pointer (some p)] 100 (0, 0)), pt b2 (.cells #[.int .i64 (m : Int)] 3 (0, 0)), sat (Hc (qa m n a))])
  (fun (a : Nat) => n - a) 0
  (by exact ⟨by omega, by show qa m n 0 ≤ last; exact Nat.zero_le _⟩) ⟨rfl, rfl, rfl, rfl, rfl, rfl, trivial⟩ (by repeat (first | exact Sub.nil | refine Sub.cons (by repeat first | exact .head | apply Pick.tail) ?_)) ?_
 rintro a ⟨ha, hal⟩
 refine W.sreg (WO.p rfl rfl (WO.nil (W.seq ?_)))
 refine W.cond_bl rfl (fun c1 => ?_) (fun c1 => ?_)
 ·refine W.skip (W.seq (W.block (W.sreg (WO.p rfl rfl (WO.p rfl rfl (WO.nil (W.seq (W.sreg (WO.p rfl rfl (WO.p rfl rfl (WO.buildSl rfl rfl rfl rfl rfl rfl rfl rfl rfl (fun v1 => (WO.yieldB (go := bl (qa m n a < last)) rfl rfl (by repeat exact .head) (by repeat first | exact .head | apply Pick.tail) (((hy _ _ _ (ga_get (by omega)) (by omega)).one).agree hk) rfl ?_)))))))))))))
  have hget := (List.getElem?_eq_some_iff.1 (ga_get (by omega) : (grp m n)[qa m n a]? = some _)).1
  refine WO.p rfl rfl (WO.nil ?_)
  refine W.cond_nbl rfl (fun c2 => ?_) (fun c2 => ?_)
  ·refine W.ret (fin.ret (Res.none rfl) ?_)
   rw [show min (grp m n).length (last + 1) = qa m n a + 1 by omega]
   repeat (first | exact Sub.nil | refine Sub.cons (by repeat first | exact .head | apply Pick.tail) ?_)
  ·refine W.skip (W.sreg (WO.p rfl rfl (WO.ar rfl rfl rfl (by unfold in64; omega) rfl (WO.p rfl rfl (WO.nil (W.block ?_))))))
   rw [show qa m n a + 1 = qb m n a (a + 1) from (qb_0 m n a).symm]
   refine W.loop (fun (b : Nat) => a + 1 ≤ b ∧ b ≤ n ∧ qb m n a b ≤ last)
    (fun (b : Nat) => [(14, .int .i64 (a : Int)), (13, .int .i64 (n : Int)), (4, .int .i64 (n : Int)), (5, .int .i64 (a : Int)), (6, .int .i64 (b : Int)), (0, .func (.yield l) #[] #[]), (1, .pointer (some ⟨b1, 0, none⟩)), (2, .pointer (some ⟨b2, 0, none⟩))])
    (fun (b : Nat) => [pt b1 (.cells #[.pointer (some p)] 100 (0, 0)), pt b2 (.cells #[.int .i64 (m : Int)] 3 (0, 0)), sat (Hc (qb m n a b))])
    (fun (b : Nat) => n - b) (a + 1)
    (by exact ⟨by omega, by omega, by rw [qb_0]; omega⟩) ⟨rfl, rfl, rfl, rfl, rfl, rfl, rfl, rfl, trivial⟩ (by repeat (first | exact Sub.nil | refine Sub.cons (by repeat first | exact .head | apply Pick.tail) ?_)) ?_
   rintro b ⟨hb1, hb2, hbl⟩
   refine W.seq (W.sreg (WO.p rfl rfl (WO.p rfl rfl (WO.p rfl rfl (WO.p rfl rfl ?_)))))
   refine WO.guard_bl rfl rfl (fun c3 => ?_) (fun c3 => ?_)
   ·refine WO.go' rfl (WO.load rfl rfl (Cell.own (Pick.tail (Pick.head)) rfl) rfl (WO.pg rfl rfl rfl (WO.p rfl rfl (WO.nil ?_))))
    refine W.cond_bl rfl (fun c4 => ?_) (fun c4 => ?_)
    ·refine W.skip (W.seq (W.block (W.seq (W.sreg (WO.p rfl rfl (WO.p rfl rfl (WO.p rfl rfl (WO.buildSl rfl rfl rfl rfl rfl rfl rfl rfl rfl (fun v2 => (WO.yieldB (go := bl (qb m n a b < last)) rfl rfl (by repeat exact .head) (by repeat first | exact .head | apply Pick.tail) (((hy _ _ _ (gb_get (by omega) (by omega) (by omega)) (by omega)).one).agree hk) rfl ?_))))))))))
     have hget := (List.getElem?_eq_some_iff.1 (gb_get (by omega) (by omega) (by omega) : (grp m n)[qb m n a b]? = some _)).1
     refine WO.p rfl rfl (WO.nil ?_)
     refine W.cond_nbl rfl (fun c5 => ?_) (fun c5 => ?_)
     ·refine W.ret (fin.ret (Res.none rfl) ?_)
      rw [show min (grp m n).length (last + 1) = qb m n a b + 1 by omega]
      repeat (first | exact Sub.nil | refine Sub.cons (by repeat first | exact .head | apply Pick.tail) ?_)
     ·refine W.skip (W.sreg (WO.p rfl rfl (WO.ar rfl rfl rfl (by unfold in64; omega) rfl (WO.p rfl rfl (WO.nil (W.block ?_))))))
      rw [show qb m n a b + 1 = qc m n a b (b + 1) from (qc_0 m n a b).symm]
      refine W.loop (fun (c : Nat) => b + 1 ≤ c ∧ c ≤ n ∧ (m = 2 → c = b + 1) ∧ qc m n a b c ≤ last)
       (fun (c : Nat) => [(14, .int .i64 (a : Int)), (13, .int .i64 (n : Int)), (4, .int .i64 (n : Int)), (5, .int .i64 (a : Int)), (6, .int .i64 (b : Int)), (7, .int .i64 (c : Int)), (0, .func (.yield l) #[] #[]), (1, .pointer (some ⟨b1, 0, none⟩)), (2, .pointer (some ⟨b2, 0, none⟩))])
       (fun (c : Nat) => [pt b1 (.cells #[.pointer (some p)] 100 (0, 0)), pt b2 (.cells #[.int .i64 (m : Int)] 3 (0, 0)), sat (Hc (qc m n a b c))])
       (fun (c : Nat) => n - c) (b + 1)
       (by exact ⟨by omega, by omega, fun _ => rfl, by rw [qc_0]; omega⟩) ⟨rfl, rfl, rfl, rfl, rfl, rfl, rfl, rfl, rfl, trivial⟩ (by repeat (first | exact Sub.nil | refine Sub.cons (by repeat first | exact .head | apply Pick.tail) ?_)) ?_
      rintro c ⟨hc1, hc2, hc3, hcl⟩
      refine W.seq (W.sreg (WO.p rfl rfl (WO.p rfl rfl (WO.p rfl rfl (WO.p rfl rfl ?_)))))
      refine WO.guard_bl rfl rfl (fun c6 => ?_) (fun c6 => ?_)
      ·refine WO.go' rfl (WO.load rfl rfl (Cell.own (Pick.tail (Pick.head)) rfl) rfl (WO.pg rfl rfl rfl (WO.p rfl rfl (WO.nil ?_))))
       refine W.cond_bl rfl (fun c7 => ?_) (fun c7 => ?_)
       ·refine W.skip (W.seq (W.block (W.sreg (WO.p rfl rfl (WO.p rfl rfl (WO.p rfl rfl (WO.p rfl rfl (WO.buildSl rfl rfl rfl rfl rfl rfl rfl rfl rfl (fun v3 => ?_)))))))))
        obtain rfl : m = 3 := by omega
        refine WO.yieldB (go := bl (qc 3 n a b c < last)) rfl rfl (by repeat exact .head) (by repeat first | exact .head | apply Pick.tail) (((hy _ _ _ (gc_get (by omega) (by omega) (by omega) (by omega) (by omega)) (by omega)).one).agree hk) rfl ?_
        have hget := (List.getElem?_eq_some_iff.1 (gc_get (by omega) (by omega) (by omega) (by omega) (by omega) : (grp 3 n)[qc 3 n a b c]? = some _)).1
        refine WO.p rfl rfl (WO.nil ?_)
        refine W.cond_nbl rfl (fun c8 => ?_) (fun c8 => ?_)
        ·refine W.ret (fin.ret (Res.none rfl) ?_)
         rw [show min (grp 3 n).length (last + 1) = qc 3 n a b c + 1 by omega]
         repeat (first | exact Sub.nil | refine Sub.cons (by repeat first | exact .head | apply Pick.tail) ?_)
        ·refine W.skip ?_
         rw [← qc_succ (by omega)]
         have hnx3 : qc 3 n a b (c + 1) ≤ last := by rw [qc_succ (by omega)]; omega
         refine W.region (WO.p rfl rfl (WO.ar rfl rfl rfl (by unfold in64; omega) rfl (WO.p rfl rfl (WO.nil ?_))))
         refine' ⟨c + 1, ?hp, ?hmu, ⟨rfl, rfl, rfl, rfl, rfl, rfl, rfl, rfl, rfl, trivial⟩, ?hS⟩
         case hS => repeat (first | exact Sub.nil | refine Sub.cons (by repeat first | exact .head | apply Pick.tail) ?_)
         case hp => exact ⟨by omega, by omega, fun q => by omega, hnx3⟩
         case hmu => omega
       ·refine W.exit (blk_same ?_)
        rw [← qb_succ (by omega) (by omega) hm ⟨hc3, fun q => by omega⟩] at hcl ⊢
        have hnx2 := hcl
        refine W.region (WO.p rfl rfl (WO.ar rfl rfl rfl (by unfold in64; omega) rfl (WO.p rfl rfl (WO.nil ?_))))
        refine' ⟨b + 1, ?hp, ?hmu, ⟨rfl, rfl, rfl, rfl, rfl, rfl, rfl, rfl, trivial⟩, ?hS⟩
        case hS => repeat (first | exact Sub.nil | refine Sub.cons (by repeat exact .head) ?_)
        case hp => exact ⟨by omega, by omega, hnx2⟩
        case hmu => omega
      ·refine WO.no rfl rfl (WO.no rfl rfl (WO.p rfl rfl (WO.nil (W.cond_f rfl (W.exit (blk_same ?_))))))
       rw [← qb_succ (by omega) (by omega) hm ⟨hc3, fun q => by omega⟩] at hcl ⊢
       have hnx2 := hcl
       refine W.region (WO.p rfl rfl (WO.ar rfl rfl rfl (by unfold in64; omega) rfl (WO.p rfl rfl (WO.nil ?_))))
       refine' ⟨b + 1, ?hp, ?hmu, ⟨rfl, rfl, rfl, rfl, rfl, rfl, rfl, rfl, trivial⟩, ?hS⟩
       case hS => repeat (first | exact Sub.nil | refine Sub.cons (by repeat exact .head) ?_)
       case hp => exact ⟨by omega, by omega, hnx2⟩
       case hmu => omega
    ·exfalso; omega
   ·refine WO.no rfl rfl (WO.no rfl rfl (WO.p rfl rfl (WO.nil (W.cond_f rfl (W.exit (blk_same ?_))))))
    obtain rfl : n = b := by omega
    rw [← qa_succ] at hbl ⊢
    have hnx := hbl
    refine W.region (WO.ar rfl rfl rfl (by unfold in64; omega) rfl (WO.p rfl rfl (WO.nil ?_)))
    refine' ⟨a + 1, ?hp, ?hmu, ⟨rfl, rfl, rfl, rfl, rfl, rfl, trivial⟩, ?hS⟩
    case hS => repeat (first | exact Sub.nil | refine Sub.cons (by repeat exact .head) ?_)
    case hp => exact ⟨by omega, hnx⟩
    case hmu => omega
 ·refine W.exit (blk_same ?_)
  obtain rfl : n = a := by omega
  refine fin.normal (Res.none rfl) ?_
  rw [grp_len, show min (qa m n n) (last + 1) = qa m n n by omega]
  repeat (first | exact Sub.nil | refine Sub.cons (by repeat first | exact .head | apply Pick.tail) ?_)
end Go.Proofs.YtncjabmlkgacdaaGreat.Sp
namespace Go.Proofs.YtncjabmlkgacdaaGreat.Sp
open Go Go.TH
attribute [local irreducible] W WO pt
set_option maxRecDepth 10000
set_option maxHeartbeats 1000000
def tkE (g ys : List Int) (i : Nat) : MapEntry := { key := .int .i64 (g.getD i 0), val := .int .i64 (ys.getD i 0), born := i }
def tkL (g ys : List Int) (n : Nat) : List MapEntry := (List.range n).map (tkE g ys)
theorem tkL_push (g ys : List Int) (n : Nat) : (tkL g ys n).toArray.push { key := .int .i64 (g.getD n 0), val := .int .i64 (ys.getD n 0), born := n } = (tkL g ys (n + 1)).toArray := by
 unfold tkL; rw [List.range_succ, List.map_append]; simp [tkE]
theorem find_none {k : Int} : ∀ (es : List MapEntry) (i : Nat), (∀ e ∈ es, ∃ z, e.key = .int .i64 z ∧ z ≠ k) → Instr.findNow (.int .i64) (.int .i64 k) es i = some none
 | [], i, _ => rfl
 | e :: r, i, h => by
  obtain ⟨z, hz, hn⟩ := h e (by simp)
  have e2 : (k == z) = false := by simp; omega
  have ih := find_none r (i + 1) (fun e he => h e (by simp [he]))
  rw [← ih]
  obtain ⟨kk, vv, bb⟩ := e
  simp only at hz
  subst hz
  simp only [Instr.findNow, Instr.sameNow, if_true, e2]
theorem tkL_none {g ys : List Int} (hg : g.Nodup) {n : Nat} (h : n < g.length) : Instr.findNow (.int .i64) (.int .i64 (g.getD n 0)) (tkL g ys n).toArray.toList 0 = some none := by
 refine find_none _ _ (fun e he => ?_)
 have he' : e ∈ (List.range n).map (tkE g ys) := he
 obtain ⟨j, hj, rfl⟩ := List.mem_map.1 he'
 have hj' := List.mem_range.1 hj
 refine ⟨_, rfl, fun q => ?_⟩
 have h1 : g.getD j 0 = g[j] := by simp [show j < g.length by omega]
 have h2 : g.getD n 0 = g[n] := by simp [h]
 rw [h1, h2] at q
 have := (List.getElem_inj hg).1 q
 omega
def tkS (S : List Sd) (g ys : List Int) : Nat → Sd
 | 0 => sd0
 | i + 1 => addS (tkS S g ys i) (byS (S.getD (g.getD i 0).toNat sd0) (ys.getD i 0))
theorem tkS_bd {S : List Sd} (hS : ∀ s ∈ S, OkS 20 100000 s) {g ys : List Int} (hg : ∀ x ∈ g, 0 ≤ x ∧ x < S.length) (hy : ∀ y ∈ ys, -1000 ≤ y ∧ y ≤ 1000) (hl : ys.length = g.length) : ∀ {i : Nat}, i ≤ g.length → OkS (100000000 * i) (100000000 * i) (tkS S g ys i)
 | 0, _ => ⟨by simp [tkS, sd0], by simp [tkS, sd0], by simp [tkS, sd0]⟩
 | i + 1, h => by
  have h1 := tkS_bd hS hg hy hl (i := i) (by omega)
  have hx := hg _ (getD_mem (show i < g.length by omega) 0)
  have h2 := (hS _ (getD_mem (show (g.getD i 0).toNat < S.length by omega) sd0)).by_ (hy _ (getD_mem (show i < ys.length by omega) 0))
  have e : (100000000 : Int) * ((i + 1 : Nat) : Int) = 100000000 * i + 100000000 := by omega
  rw [e]
  obtain ⟨a1, a2, a3⟩ := h1
  obtain ⟨b1, b2, b3⟩ := h2
  exact ⟨by show _ ≤ _ + _ ∧ _ + _ ≤ _; omega, by show _ ≤ _ + _ ∧ _ + _ ≤ _; omega, by show _ ≤ _ + _ ∧ _ + _ ≤ _; omega⟩
abbrev mdV (m : Value) (s : Sd) (t : Int) : Value := .agg #[m, .int .i64 s.a, .int .i64 s.b, .int .i64 s.c, .int .i64 t]
theorem all_twoS {A : Int} {s o : Sd} (h : OkS A A s) (g : OkS A A o) : ∀ x ∈ [s, o], OkS A A x := fun x hx => by
 have : x = s ∨ x = o := by simpa using hx
 rcases this with rfl | rfl
 ·exact h
 ·exact g
theorem addS_two (s o : Sd) : sumS [s, o] = addS s o := by
 unfold sumS addS sd0; simp
theorem RdF.cellsT {C : Cx Tryz.prog} {H : List HP} {o : Value} {S : List Sd} (h : RdF encSd 3 C.B C.w0 o S) {x : Int} (h0 : 0 ≤ x) (h1 : x < S.length) {z : Int} (hz : z = x) : Cells C H (elt o z.toNat 3) [.int .i64 (S.getD x.toNat sd0).a, .int .i64 (S.getD x.toNat sd0).b, .int .i64 (S.getD x.toNat sd0).c] := by
 subst hz
 exact RdF.cells3 h (by omega)
theorem c_take (w : World) (p : Addr) (rv sv : Value) (rl : List Rn) (hT : Tbl w.heap.size w p rv sv rl) (hok : OkRs rl) (o u : Value) (g ys : List Int) (t : Int) (hG : RdF encI 1 w.heap.size w o g) (hY : RdF encI 1 w.heap.size w u ys) (hg : ∀ x ∈ g, 0 ≤ x ∧ x < (sds rl).length) (hnd : g.Nodup) (hl : ys.length = g.length) (h3 : g.length ≤ 3) (hy : ∀ y ∈ ys, -1000 ≤ y ∧ y ≤ 1000) :
 Ct Tryz.prog 176 [.pointer (some p), o, .int .i64 t, u].toArray w fun v w' => ∃ Hq, (∃ mb : Nat, v = mdV (.map (some mb)) (tkS (sds rl) g ys g.length) t ∧ Hq = [pt mb (.map (tkL g ys g.length).toArray g.length)]) ∧ Inv w [] Hq w' := by
 refine Ct.ofI mixed tyTab Tryz.func176 rfl rfl ?_
 replace hG : RdF encI 1 (fnCx mixed tyTab Tryz.f176.ntmps w).B (fnCx mixed tyTab Tryz.f176.ntmps w).w0 o g := hG
 replace hY : RdF encI 1 (fnCx mixed tyTab Tryz.f176.ntmps w).B (fnCx mixed tyTab Tryz.f176.ntmps w).w0 u ys := hY
 replace hT : Tbl (fnCx mixed tyTab Tryz.f176.ntmps w).B (fnCx mixed tyTab Tryz.f176.ntmps w).w0 p rv sv rl := hT
 have hS := sds_ok hok
 refine W.sreg (WO.alloc rfl rfl rfl (fun b1 hb1 => (WO.nil (W.sreg (WO.makeMap rfl (fun mb => (WO.build rfl rfl rfl rfl rfl (WO.p rfl rfl (WO.build rfl rfl rfl rfl rfl (WO.alloc rfl rfl rfl (fun b2 hb2 => (WO.storeA rfl rfl rfl rfl Pick.head rfl rfl (WO.nil (W.seq (W.sreg (WO.p rfl rfl (WO.len rfl rfl hG.sl rfl (WO.p rfl rfl (WO.nil (W.block ?_))))))))))))))))))))
 refine W.loop (fun (i : Nat) => i ≤ g.length)
  (fun (i : Nat) => [(18, .int .i64 (i : Int)), (17, .int .i64 (g.length : Int)), (16, o), (9, .pointer (some ⟨b2, 0, none⟩)), (8, .pointer (some ⟨b1, 0, none⟩)), (3, u), (0, .pointer (some p))])
  (fun (i : Nat) => [pt b1 (.cells #[.map none, .int .i64 0, .int .i64 0, .int .i64 0, .int .i64 0] 98 (0, 0)), pt b2 (.cells #[.map (some mb), .int .i64 (tkS (sds rl) g ys i).a, .int .i64 (tkS (sds rl) g ys i).b, .int .i64 (tkS (sds rl) g ys i).c, .int .i64 t] 98 (0, 0)), pt mb (.map (tkL g ys i).toArray i)])
  (fun (i : Nat) => g.length - i) 0
  (by omega) ⟨rfl, rfl, rfl, rfl, rfl, rfl, rfl, trivial⟩ (by repeat (first | exact Sub.nil | refine Sub.cons (by repeat first | exact .head | apply Pick.tail) ?_)) ?_
 rintro i hi0
 refine W.sreg (WO.p rfl rfl (WO.nil (W.seq ?_)))
 refine W.cond_bl rfl (fun c1 => ?_) (fun c1 => ?_)
 ·refine W.skip (W.seq (W.block (W.sreg (WO.p rfl rfl (WO.indexAddr rfl rfl rfl hG.sl (by omega) rfl ?_)))))
  refine' WO.load (v := _) rfl rfl ?hc rfl ?_
  case hc => ((refine hG.cell0 (i := i) (by omega) 0 ?_; rfl))
  refine WO.p rfl rfl (WO.p rfl rfl (WO.nil (W.seq ?_)))
  have hgi := hg _ (getD_mem (show i < g.length by omega) 0)
  have hyi := hy _ (getD_mem (show i < ys.length by omega) 0)
  have hsi := hS _ (getD_mem (show (g.getD i 0).toNat < (sds rl).length by omega) sd0)
  have hbi := (OkS.by_ hsi hyi).up (A' := 1000000000000000) (B' := 1000000000000000) (by omega) (by omega)
  have hti := (tkS_bd hS hg hy hl (i := i) (by omega)).up (A' := 1000000000000000) (B' := 1000000000000000) (by omega) (by omega)
  refine W.drawD 7 [.r 0 [], .b 1 [], .r 2 [], .r 3 [], .r 4 [], .r 5 [], .b 6 []] [] (A0 := [_]) (H0 := [_, _]) (.cons (Pick.tail (Pick.tail .head)) (.cons .head (.cons .head .nil))) (by kernel_rfl) ?_ ?_
  ·repeat constructor
  refine DT.r rfl rfl rfl (WO.field0 rfl rfl rfl (WO.nil ⟨rfl, rfl⟩)) (DT.b rfl rfl rfl (WO.load rfl rfl (Cell.own (Pick.tail (Pick.head)) rfl) rfl (WO.nil ⟨rfl, rfl⟩)) (DT.r rfl rfl rfl (WO.p rfl rfl (WO.nil ⟨rfl, rfl⟩)) (DT.r rfl rfl rfl (WO.p rfl rfl (WO.nil ⟨rfl, rfl⟩)) (DT.r rfl rfl rfl (WO.p rfl rfl (WO.nil ⟨rfl, rfl⟩)) (DT.r rfl rfl rfl (WO.indexAddr rfl rfl rfl hY.sl (by omega) rfl (WO.nil ⟨rfl, rfl⟩)) ?_)))))
  refine' DT.b rfl rfl rfl ?hq ?_
  case hq =>
   refine' WO.load (v := _) rfl rfl ?hc rfl ?_
   case hc => ((refine hY.cell0 (i := i) (by omega) 0 ?_; rfl))
   exact WO.nil ⟨rfl, rfl⟩
  refine DT.nil [_, _, _] rfl (WO.updateI Tryz.underlying94 Tryz.underlying3 rfl rfl rfl (by repeat exact .head) (tkL_none hnd (by omega)) ?_)
  rw [tkL_push]
  refine WO.nil ?_
  refine W.drawD 14 [.r 0 [], .b 1 [], .r 2 [], .r 3 [], .r 4 [], .b 5 [], .r 6 [], .r 7 [], .b 8 [], .r 9 [], .r 10 [], .r 11 [], .b 12 [], .b 13 []] [] (A0 := []) (Sub.refl _) (by kernel_rfl) ?_ ?_
  ·repeat constructor
  refine DT.r rfl rfl rfl (WO.fieldL rfl rfl rfl (WO.nil ⟨rfl, rfl⟩)) (DT.b rfl rfl rfl (WO.loadA rfl rfl (Cells.ownAt (n := 3) (Pick.tail (Pick.tail (Pick.head))) rfl) rfl rfl (WO.nil ⟨rfl, rfl⟩)) (DT.r rfl rfl rfl (WO.p rfl rfl (WO.nil ⟨rfl, rfl⟩)) (DT.r rfl rfl rfl (WO.p rfl rfl (WO.nil ⟨rfl, rfl⟩)) (DT.r rfl rfl rfl (WO.field rfl rfl rfl (WO.nil ⟨rfl, rfl⟩)) ?_))))
  refine' DT.b rfl rfl rfl ?hq ?_
  case hq =>
   refine' WO.load (v := _) rfl rfl ?hc rfl ?_
   case hc => ((refine RdC.cellAt hT.c (j := 1) ?_; rfl))
   exact WO.nil ⟨rfl, rfl⟩
  refine DT.r rfl rfl rfl (WO.p rfl rfl (WO.nil ⟨rfl, rfl⟩)) ?_
  refine' DT.r rfl rfl rfl ?hq ?_
  case hq =>
   refine' WO.indexAddrZ (n := _) rfl rfl rfl ?hs ?h00 ?h1 rfl ?_
   case hs => exact hT.s.sl
   case h00 => omega
   case h1 => (omega)
   exact WO.nil ⟨rfl, rfl⟩
  refine DT.b rfl rfl rfl (WO.loadA rfl rfl (RdF.cellsT hT.s hgi.1 hgi.2 rfl) rfl rfl (WO.nil ⟨rfl, rfl⟩)) (DT.r rfl rfl rfl (WO.p rfl rfl (WO.nil ⟨rfl, rfl⟩)) (DT.r rfl rfl rfl (WO.p rfl rfl (WO.nil ⟨rfl, rfl⟩)) (DT.r rfl rfl rfl (WO.indexAddr rfl rfl rfl hY.sl (by omega) rfl (WO.nil ⟨rfl, rfl⟩)) ?_)))
  refine' DT.b rfl rfl rfl ?hq ?_
  case hq =>
   refine' WO.load (v := _) rfl rfl ?hc rfl ?_
   case hc => ((refine hY.cell0 (i := i) (by omega) 0 ?_; rfl))
   exact WO.nil ⟨rfl, rfl⟩
  refine DT.b rfl rfl rfl (WO.callR rfl Tryz.call154 (fun L w hi => c_by w ((sds rl).getD (g.getD i 0).toNat sd0) (ys.getD i 0) (hsi.up (by omega) (by omega)) (by omega)) rfl (WO.nil ⟨rfl, rfl⟩)) (DT.nil [_, _, _] rfl (WO.buildSl rfl rfl rfl rfl rfl rfl rfl rfl rfl (fun v3 => (WO.callR (r := sdV (tkS (sds rl) g ys (i + 1))) rfl Tryz.call153 (fun L w hi => by have h := c_sum w _ [tkS (sds rl) g ys i, byS ((sds rl).getD (g.getD i 0).toNat sd0) (ys.getD i 0)] (RdF.of_ow (e := 96) encSd_ok (by repeat exact .head) hi) (by simp) (all_twoS hti hbi); rw [addS_two] at h; exact h) rfl ?_))))
  refine WO.fieldL rfl rfl rfl (WO.storeP rfl rfl rfl rfl (Pick.tail (Pick.tail (Pick.tail (Pick.head)))) (Nat.le_of_ble_eq_true rfl) rfl (WO.nil (W.region (WO.ar rfl rfl rfl (by unfold in64; omega) rfl (WO.p rfl rfl (WO.nil ?_))))))
  refine' ⟨i + 1, ?hp, ?hmu, ⟨rfl, rfl, rfl, rfl, rfl, rfl, rfl, trivial⟩, ?hS⟩
  case hS => repeat (first | exact Sub.nil | refine Sub.cons (by repeat first | exact .head | apply Pick.tail) ?_)
  case hp => omega
  case hmu => omega
 ·refine W.exit (blk_same ?_)
  obtain rfl : g.length = i := by omega
  refine W.sreg (WO.loadA rfl rfl (Cells.own (Pick.tail (Pick.head))) rfl rfl (WO.storeA rfl rfl rfl rfl Pick.head rfl rfl (WO.nil (W.ret ?_))))
  refine fin.ret (Res.one rfl (RV.cell rfl rfl rfl (Cells.own (by repeat exact .head)))) ⟨mb, rfl, fun h hs => Sub.sat (by repeat (first | exact Sub.nil | refine Sub.cons (by repeat first | exact .head | apply Pick.tail) ?_)) hs⟩
end Go.Proofs.YtncjabmlkgacdaaGreat.Sp
namespace Go.Proofs.YtncjabmlkgacdaaGreat.Sp
open Go Go.TH
attribute [local irreducible] W WO pt
set_option maxRecDepth 10000
set_option maxHeartbeats 1000000
section
variable {P : Program} {C : Cx P} {E : Env} {H : List HP}
variable {ops : Array Oper} {K : KP} {rest : List Oper} {d : Nat} {ty : TypeId} {pos : String} {af : Array Edge} {x y z : Operand} {T : TypeId}
theorem WO.max3 {a b c : Int} {ts : Array TypeId} (hx : ev E x = some (.int .i64 a)) (hy : ev E y = some (.int .i64 b)) (hz : ev E z = some (.int .i64 c)) (hN : Nat.blt d C.N = true)
 (h : WO C ops rest K ((d, .int .i64 (max (max a b) c)) :: E) H) : WO C ops (⟨some d, .call ⟨.builtin .max, #[x, y, z], ts⟩, ty, pos, af, none⟩ :: rest) K E H :=
 WO.pure _ (by simp) (fun L c w hf _ => by
  simp [execOp, resolve, hf.eval hx, hf.eval hy, hf.eval hz, invoke, builtin, run_max_int3]
  split <;> split <;> omega) hN h
theorem WO.min3 {a b c : Int} {ts : Array TypeId} (hx : ev E x = some (.int .i64 a)) (hy : ev E y = some (.int .i64 b)) (hz : ev E z = some (.int .i64 c)) (hN : Nat.blt d C.N = true)
 (h : WO C ops rest K ((d, .int .i64 (min (min a b) c)) :: E) H) : WO C ops (⟨some d, .call ⟨.builtin .min, #[x, y, z], ts⟩, ty, pos, af, none⟩ :: rest) K E H :=
 WO.pure _ (by simp) (fun L c w hf _ => by
  simp [execOp, resolve, hf.eval hx, hf.eval hy, hf.eval hz, invoke, builtin, run_min_int3]
  split <;> split <;> omega) hN h
end
theorem eq124 (a b c d e f : Int) : EqT Tryz.prog .eql 96 (.agg #[.int .i64 a, .int .i64 b, .int .i64 c]) (.agg #[.int .i64 d, .int .i64 e, .int .i64 f]) (.bool (bl (a = d ∧ b = e ∧ c = f))) := by
 intro x y w
 obtain ⟨i, hi⟩ : ∃ i, Tryz.prog.info? 2 = some i := ⟨_, rfl⟩
 have hc : Tryz.prog.cellsOf 2 = 1 := rfl
 have h : (Op.equalIn 10000 96 (.agg #[.int .i64 a, .int .i64 b, .int .i64 c]) (.agg #[.int .i64 d, .int .i64 e, .int .i64 f])).run Tryz.prog w = .ok (bl (a = d ∧ b = e ∧ c = f)) w := by
  rw [show (10000 : Nat) = 9999 + 1 from rfl, run_equalIn_array _ 9999 (t := 96) (e := 2) (n := 3) _ _ rfl hi, hc]
  simp [Op.eqItems, go_sem, List.range, List.range.loop, Tryz.underlying2]
  by_cases h1 : a = d <;> by_cases h2 : b = e <;> by_cases h3 : c = f <;> simp [h1, h2, h3, bl_eq]
 simp [go_sem, Tryz.eqGuardType96, Tryz.underlying96, h]
theorem eq124z (a b : Int) : EqT Tryz.prog .eql 96 (.agg #[.int .i64 a, .int .i64 b, .int .i64 0]) (.agg #[.int .i64 0, .int .i64 0, .int .i64 0]) (.bool (bl (a = 0 ∧ b = 0))) := by
 have h := eq124 a b 0 0 0 0
 rwa [show bl (a = 0 ∧ b = 0 ∧ (0 : Int) = 0) = bl (a = 0 ∧ b = 0) by rw [bl_eq, bl_eq, decide_eq_decide]; simp] at h
abbrev atS (S : List Sd) (g : List Int) (i : Nat) : Sd := S.getD (g.getD i 0).toNat sd0
def fit2 (a b : Sd) (x y : Int) : Prop := crs a b = 0 ∧ (addS (byS a x) (byS b y)).a = 0 ∧ (addS (byS a x) (byS b y)).b = 0
instance (a b : Sd) (x y : Int) : Decidable (fit2 a b x y) := by unfold fit2; infer_instance
def zr2 (a b : Sd) : Option (List Int) := if fit2 a b (siz b) (siz a) then some [siz b, siz a] else none
def zr3 (a b c : Sd) : Option (List Int) :=
 let x := crs b c
 let y := crs c a
 let z := crs a b
 if max (max x y) z < 0 then (if 0 < min (min (-x) (-y)) (-z) then some [-x, -y, -z] else none)
 else (if 0 < min (min x y) z then some [x, y, z] else none)
def zrY (S : List Sd) (g : List Int) : Option (List Int) :=
 if g.length = 2 then zr2 (atS S g 0) (atS S g 1) else if g.length = 3 then zr3 (atS S g 0) (atS S g 1) (atS S g 2) else none
theorem zrY_len {S : List Sd} {g ys : List Int} (h : zrY S g = some ys) : ys.length = g.length := by
 unfold zrY at h
 split at h
 ·rename_i h2
  unfold zr2 at h
  split at h
  ·cases h; exact h2.symm
  ·cases h
 ·split at h
  ·rename_i h3
   unfold zr3 at h
   dsimp only at h
   split at h
   ·split at h
    ·cases h; exact h3.symm
    ·cases h
   ·split at h
    ·cases h; exact h3.symm
    ·cases h
  ·cases h
def zrP (g : List Int) (o : Option (List Int)) (mb : Nat) : HP := fun h => ∀ ys, o = some ys → pt mb (.map (tkL g ys g.length).toArray g.length) h
theorem zrP_some {g ys : List Int} {mb : Nat} {H H' : List HP} (p : Pick (pt mb (.map (tkL g ys g.length).toArray g.length)) H H') : ∀ h, sat H h → sat (zrP g (some ys) mb :: H') h := fun h hs => by
 obtain ⟨h1, h2, s, hp, hr⟩ := p.sat hs
 exact ⟨h1, h2, s, fun ys' e => by cases e; exact hp, hr⟩
theorem zrP_none {g : List Int} {mb : Nat} {H : List HP} : ∀ h, sat H h → sat (zrP g none mb :: H) h := fun h hs => ⟨fun _ => none, h, split_none h, fun ys e => (by cases e), hs⟩
def zrS (S : List Sd) (g : List Int) (o : Option (List Int)) : Sd := match o with
 | some ys => tkS S g ys g.length
 | none => sd0
def zrT (o : Option (List Int)) : Int := if o.isSome = true then 1 else 0
abbrev zrV (S : List Sd) (g : List Int) (o : Option (List Int)) (mb : Nat) : Value := mdV (.map (o.map fun _ => mb)) (zrS S g o) (zrT o)
structure Grp (n : Nat) (g : List Int) : Prop where
 len : 1 ≤ g.length ∧ g.length ≤ 3
 nd : g.Nodup
 rng : ∀ x ∈ g, 0 ≤ x ∧ x < n
theorem grp_ok {m n : Nat} (hm : m = 2 ∨ m = 3) {g : List Int} (h : g ∈ grp m n) : Grp n g ∧ g.length ≤ m := by
 obtain ⟨a, _, ha, h⟩ := mem_seg.1 h
 unfold F1 at h
 rcases List.mem_cons.1 h with rfl | h
 ·exact ⟨⟨by simp, by simp, fun x hx => by simp at hx; omega⟩, by simp; omega⟩
 ·obtain ⟨b, hb1, hb2, h⟩ := mem_seg.1 h
  unfold F2 at h
  rcases List.mem_cons.1 h with rfl | h
  ·exact ⟨⟨by simp, by simp; omega, fun x hx => by simp at hx; omega⟩, by simp; omega⟩
  ·split at h
   ·obtain ⟨c, hc1, hc2, h⟩ := mem_seg.1 h
    have e : g = [(a : Int), (b : Int), (c : Int)] := by simpa using h
    subst e
    exact ⟨⟨by simp, by simp; omega, fun x hx => by simp at hx; omega⟩, by simp; omega⟩
   ·simp at h
section
variable {S : List Sd} {g : List Int}
theorem zrY_2 (h : g.length = 2) (f : fit2 (atS S g 0) (atS S g 1) (siz (atS S g 1)) (siz (atS S g 0))) : zrY S g = some [siz (atS S g 1), siz (atS S g 0)] := by unfold zrY zr2; rw [if_pos h, if_pos f]
theorem zrY_2n (h : g.length = 2) (f : ¬ fit2 (atS S g 0) (atS S g 1) (siz (atS S g 1)) (siz (atS S g 0))) : zrY S g = none := by unfold zrY zr2; rw [if_pos h, if_neg f]
theorem zrY_3p (h : g.length = 3) (h1 : ¬ max (max (crs (atS S g 1) (atS S g 2)) (crs (atS S g 2) (atS S g 0))) (crs (atS S g 0) (atS S g 1)) < 0) (h2 : 0 < min (min (crs (atS S g 1) (atS S g 2)) (crs (atS S g 2) (atS S g 0))) (crs (atS S g 0) (atS S g 1))) : zrY S g = some [crs (atS S g 1) (atS S g 2), crs (atS S g 2) (atS S g 0), crs (atS S g 0) (atS S g 1)] := by
 unfold zrY zr3; dsimp only; rw [if_neg (by omega), if_pos h, if_neg h1, if_pos h2]
theorem zrY_3pn (h : g.length = 3) (h1 : ¬ max (max (crs (atS S g 1) (atS S g 2)) (crs (atS S g 2) (atS S g 0))) (crs (atS S g 0) (atS S g 1)) < 0) (h2 : ¬ 0 < min (min (crs (atS S g 1) (atS S g 2)) (crs (atS S g 2) (atS S g 0))) (crs (atS S g 0) (atS S g 1))) : zrY S g = none := by
 unfold zrY zr3; dsimp only; rw [if_neg (by omega), if_pos h, if_neg h1, if_neg h2]
theorem zrY_3n (h : g.length = 3) (h1 : max (max (crs (atS S g 1) (atS S g 2)) (crs (atS S g 2) (atS S g 0))) (crs (atS S g 0) (atS S g 1)) < 0) (h2 : 0 < min (min (-(crs (atS S g 1) (atS S g 2))) (-(crs (atS S g 2) (atS S g 0)))) (-(crs (atS S g 0) (atS S g 1)))) : zrY S g = some [-(crs (atS S g 1) (atS S g 2)), -(crs (atS S g 2) (atS S g 0)), -(crs (atS S g 0) (atS S g 1))] := by
 unfold zrY zr3; dsimp only; rw [if_neg (by omega), if_pos h, if_pos h1, if_pos h2]
theorem zrY_1 (h : ¬ g.length = 2) (h3 : ¬ g.length = 3) : zrY S g = none := by unfold zrY; rw [if_neg h, if_neg h3]
end
theorem y2_bd {x y A : Int} (hx : -A ≤ x ∧ x ≤ A) (hy : -A ≤ y ∧ y ≤ A) : ∀ z ∈ [x, y], -A ≤ z ∧ z ≤ A := fun z hz => by
 have : z = x ∨ z = y := by simpa using hz
 rcases this with rfl | rfl <;> assumption
theorem y3_bd {x y u A : Int} (hx : -A ≤ x ∧ x ≤ A) (hy : -A ≤ y ∧ y ≤ A) (hu : -A ≤ u ∧ u ≤ A) : ∀ z ∈ [x, y, u], -A ≤ z ∧ z ≤ A := fun z hz => by
 have : z = x ∨ z = y ∨ z = u := by simpa using hz
 rcases this with rfl | rfl | rfl <;> assumption
theorem c_zero (w : World) (p : Addr) (rv sv : Value) (rl : List Rn) (hT : Tbl w.heap.size w p rv sv rl) (hok : OkRs rl) (o : Value) (g : List Int) (hG : RdF encI 1 w.heap.size w o g) (hg : Grp (sds rl).length g) :
 Ct Tryz.prog 99 [.pointer (some p), o].toArray w fun v w' => ∃ Hq, (∃ mb : Nat, v = zrV (sds rl) g (zrY (sds rl) g) mb ∧ Hq = [zrP g (zrY (sds rl) g) mb]) ∧ Inv w [] Hq w' := by
 refine Ct.ofI mixed tyTab Tryz.func99 rfl rfl ?_
 replace hG : RdF encI 1 (fnCx mixed tyTab Tryz.f99.ntmps w).B (fnCx mixed tyTab Tryz.f99.ntmps w).w0 o g := hG
 replace hT : Tbl (fnCx mixed tyTab Tryz.f99.ntmps w).B (fnCx mixed tyTab Tryz.f99.ntmps w).w0 p rv sv rl := hT
 have hS := sds_ok hok
 have hgn := hg.len
 have hat : ∀ i, i < g.length → OkS 20 100000 (atS (sds rl) g i) := fun i hi => hS _ (getD_mem (show (g.getD i 0).toNat < (sds rl).length by have := hg.rng _ (getD_mem hi 0); omega) sd0)
 have hri : ∀ i, i < g.length → 0 ≤ g.getD i 0 ∧ g.getD i 0 < (sds rl).length := fun i hi => hg.rng _ (getD_mem hi 0)
 refine W.sreg (WO.alloc rfl rfl rfl (fun b1 hb1 => (WO.nil (W.seq (W.sreg (WO.p rfl rfl (WO.len rfl rfl hG.sl rfl (WO.nil (W.block (W.sreg (WO.p rfl rfl (WO.p rfl rfl (WO.nil ?_)))))))))))))
 refine W.cond_bl rfl (fun c1 => ?_) (fun c1 => ?_)
 ·refine W.seq ?_
  have h0 := hri 0 (by omega)
  have h1 := hri 1 (by omega)
  have s0 := hat 0 (by omega)
  have s1 := hat 1 (by omega)
  have z0 := siz_bd s0
  have z1 := siz_bd s1
  have u0 := s0.up (A' := 20) (B' := 1000000) (by omega) (by omega)
  have u1 := s1.up (A' := 20) (B' := 1000000) (by omega) (by omega)
  have v0 := (OkS.by_ s0 (n := siz (atS (sds rl) g 1)) (N := 40) (by omega)).up (A' := 1000000000000000) (B' := 1000000000000000) (by omega) (by omega)
  have v1 := (OkS.by_ s1 (n := siz (atS (sds rl) g 0)) (N := 40) (by omega)).up (A' := 1000000000000000) (B' := 1000000000000000) (by omega) (by omega)
  refine W.drawD 21 [.r 0 [], .r 1 [], .r 2 [], .b 3 [], .r 4 [], .r 5 [], .b 6 [], .r 7 [], .b 8 [], .r 9 [], .r 10 [], .r 11 [], .b 12 [], .r 13 [], .r 14 [], .b 15 [], .r 16 [], .b 17 [], .a 18 5 (.cells #[.int .i64 0, .int .i64 0, .int .i64 0] 96 (0, 0)), .a 19 6 (.cells #[.int .i64 0, .int .i64 0, .int .i64 0] 96 (0, 0)), .s 20 []] [] (A0 := []) (Sub.refl _) (by kernel_rfl) ?_ ?_
  ·exact (ALok.r (ALok.r (ALok.r (ALok.b (ALok.r (ALok.r (ALok.b (ALok.r (ALok.b (ALok.r (ALok.r (ALok.r (ALok.b (ALok.r (ALok.r (ALok.b (ALok.r (ALok.b (ALok.cons rfl rfl rfl rfl rfl (ALok.cons rfl rfl rfl rfl rfl (ALok.s ALok.nil)))))))))))))))))))))
  refine DT.r rfl rfl rfl (WO.p rfl rfl (WO.nil ⟨rfl, rfl⟩)) (DT.r rfl rfl rfl (WO.p rfl rfl (WO.nil ⟨rfl, rfl⟩)) (DT.r rfl rfl rfl (WO.field rfl rfl rfl (WO.nil ⟨rfl, rfl⟩)) ?_))
  refine' DT.b rfl rfl rfl ?hq ?_
  case hq =>
   refine' WO.load (v := _) rfl rfl ?hc rfl ?_
   case hc => ((refine RdC.cellAt hT.c (j := 1) ?_; rfl))
   exact WO.nil ⟨rfl, rfl⟩
  refine DT.r rfl rfl rfl (WO.p rfl rfl (WO.nil ⟨rfl, rfl⟩)) (DT.r rfl rfl rfl (WO.indexAddr (i := 0) rfl rfl rfl hG.sl (by omega) rfl (WO.nil ⟨rfl, rfl⟩)) ?_)
  refine' DT.b rfl rfl rfl ?hq ?_
  case hq =>
   refine' WO.load (v := _) rfl rfl ?hc rfl ?_
   case hc => ((refine hG.cell0 (i := 0) (by omega) 0 ?_; rfl))
   exact WO.nil ⟨rfl, rfl⟩
  refine' DT.r rfl rfl rfl ?hq ?_
  case hq =>
   refine' WO.indexAddrZ (n := _) rfl rfl rfl ?hs ?h00 ?h1 rfl ?_
   case hs => exact hT.s.sl
   case h00 => omega
   case h1 => (omega)
   exact WO.nil ⟨rfl, rfl⟩
  refine DT.b rfl rfl rfl (WO.loadA rfl rfl (RdF.cellsT hT.s h0.1 h0.2 rfl) rfl rfl (WO.nil ⟨rfl, rfl⟩)) (DT.r rfl rfl rfl (WO.p rfl rfl (WO.nil ⟨rfl, rfl⟩)) (DT.r rfl rfl rfl (WO.p rfl rfl (WO.nil ⟨rfl, rfl⟩)) (DT.r rfl rfl rfl (WO.field rfl rfl rfl (WO.nil ⟨rfl, rfl⟩)) ?_)))
  refine' DT.b rfl rfl rfl ?hq ?_
  case hq =>
   refine' WO.load (v := _) rfl rfl ?hc rfl ?_
   case hc => ((refine RdC.cellAt hT.c (j := 1) ?_; rfl))
   exact WO.nil ⟨rfl, rfl⟩
  refine DT.r rfl rfl rfl (WO.p rfl rfl (WO.nil ⟨rfl, rfl⟩)) (DT.r rfl rfl rfl (WO.indexAddr (i := 1) rfl rfl rfl hG.sl (by omega) rfl (WO.nil ⟨rfl, rfl⟩)) ?_)
  refine' DT.b rfl rfl rfl ?hq ?_
  case hq =>
   refine' WO.load (v := _) rfl rfl ?hc rfl ?_
   case hc => ((refine hG.cell0 (i := 1) (by omega) 0 ?_; rfl))
   exact WO.nil ⟨rfl, rfl⟩
  refine' DT.r rfl rfl rfl ?hq ?_
  case hq =>
   refine' WO.indexAddrZ (n := _) rfl rfl rfl ?hs ?h00 ?h1 rfl ?_
   case hs => exact hT.s.sl
   case h00 => omega
   case h1 => (omega)
   exact WO.nil ⟨rfl, rfl⟩
  refine DT.b rfl rfl rfl (WO.loadA rfl rfl (RdF.cellsT hT.s h1.1 h1.2 rfl) rfl rfl (WO.nil ⟨rfl, rfl⟩)) (DT.a (fun b2 => (DT.a (fun b3 => (DT.s [_, _, _] rfl rfl rfl (WO.storeA rfl rfl rfl rfl (Pick.tail (Pick.head)) rfl rfl ?_))))))
  refine WO.nil ⟨[_, _], rfl, rfl, (Keep.a (Keep.a (Keep.b (Keep.r (Keep.b (Keep.r (Keep.r (Keep.b (Keep.r (Keep.r (Keep.r (Keep.b (Keep.r (Keep.b (Keep.r (Keep.r (Keep.b (Keep.r (Keep.r (Keep.r Keep.nil)))))))))))))))))))), ?_⟩
  refine DT.nil [_, _, _] rfl (WO.storeA rfl rfl rfl rfl (Pick.tail (Pick.head)) rfl rfl (WO.nil (W.seq ?_)))
  refine W.drawD 3 [.b 0 [], .b 1 [], .b 2 []] [] (A0 := []) (Sub.refl _) (by kernel_rfl) ?_ ?_
  ·repeat constructor
  refine DT.b rfl rfl rfl (WO.loadA rfl rfl (Cells.own Pick.head) rfl rfl (WO.nil ⟨rfl, rfl⟩)) (DT.b rfl rfl rfl (WO.callR rfl Tryz.call175 (fun L w hi => c_size w (atS (sds rl) g 1) u1) rfl (WO.nil ⟨rfl, rfl⟩)) (DT.b rfl rfl rfl (WO.loadA rfl rfl (Cells.own (Pick.tail (Pick.head))) rfl rfl (WO.nil ⟨rfl, rfl⟩)) (DT.nil [_, _, _] rfl (WO.callR rfl Tryz.call175 (fun L w hi => c_size w (atS (sds rl) g 0) u0) rfl (WO.p rfl rfl (WO.p rfl rfl (WO.nil (W.seq ?_))))))))
  refine W.drawD 15 [.b 0 [], .b 1 [], .b 2 [], .r 3 [], .r 4 [], .b 5 [], .r 6 [], .b 7 [], .b 8 [], .r 9 [], .b 10 [], .r 14 [], .c 11 [], .f 12 [], .b 13 []] [] (A0 := []) (Sub.refl _) (by kernel_rfl) ?_ ?_
  ·repeat constructor
  refine DT.b rfl rfl rfl (WO.loadA rfl rfl (Cells.own (Pick.tail (Pick.head))) rfl rfl (WO.nil ⟨rfl, rfl⟩)) (DT.b rfl rfl rfl (WO.loadA rfl rfl (Cells.own Pick.head) rfl rfl (WO.nil ⟨rfl, rfl⟩)) (DT.b rfl rfl rfl (WO.callR rfl Tryz.call168 (fun L w hi => c_cross w (atS (sds rl) g 0) (atS (sds rl) g 1) u0 u1) rfl (WO.nil ⟨rfl, rfl⟩)) (DT.r rfl rfl rfl (WO.p rfl rfl (WO.nil ⟨rfl, rfl⟩)) ?_)))
  refine DT.rB rfl rfl rfl (WO.p rfl rfl (WO.nil ⟨rfl, rfl⟩)) (fun c2 => ?_) (fun c2 => ?_)
  ·refine DT.b rfl rfl rfl (WO.go' rfl (WO.loadA rfl rfl (Cells.own (Pick.tail (Pick.head))) rfl rfl (WO.nil ⟨rfl, rfl⟩))) (DT.r rfl rfl rfl (WO.pg rfl rfl rfl (WO.nil ⟨rfl, rfl⟩)) (DT.b rfl rfl rfl (WO.go' rfl (WO.callR rfl Tryz.call154 (fun L w hi => c_by w (atS (sds rl) g 0) (siz (atS (sds rl) g 1)) (s0.up (by omega) (by omega)) (by omega)) rfl (WO.nil ⟨rfl, rfl⟩))) (DT.b rfl rfl rfl (WO.go' rfl (WO.loadA rfl rfl (Cells.own Pick.head) rfl rfl (WO.nil ⟨rfl, rfl⟩))) (DT.r rfl rfl rfl (WO.pg rfl rfl rfl (WO.nil ⟨rfl, rfl⟩)) ?_))))
   refine DT.b rfl rfl rfl (WO.go' rfl (WO.callR rfl Tryz.call154 (fun L w hi => c_by w (atS (sds rl) g 1) (siz (atS (sds rl) g 0)) (s1.up (by omega) (by omega)) (by omega)) rfl (WO.nil ⟨rfl, rfl⟩))) (DT.r rfl rfl rfl (WO.go' rfl (WO.build rfl rfl rfl rfl rfl (WO.nil ⟨rfl, rfl⟩))) (DT.c [_, _, _] rfl rfl rfl rfl (WO.go' rfl (WO.buildSl rfl rfl rfl rfl rfl rfl rfl rfl rfl (fun v4 => ?_)))))
   refine WO.nil ⟨_, [_], rfl, rfl, (Keep.r (Keep.b (Keep.r (Keep.b (Keep.b (Keep.r (Keep.b (Keep.r (Keep.r (Keep.b (Keep.b (Keep.b Keep.nil)))))))))))), ?_⟩
   refine DT.f [_, _, _, _] rfl rfl rfl rfl (WO.go' rfl (WO.callR (r := sdV (addS (byS (atS (sds rl) g 0) (siz (atS (sds rl) g 1))) (byS (atS (sds rl) g 1) (siz (atS (sds rl) g 0))))) rfl Tryz.call153 (fun L w hi => by have h := c_sum w _ [byS (atS (sds rl) g 0) (siz (atS (sds rl) g 1)), byS (atS (sds rl) g 1) (siz (atS (sds rl) g 0))] (RdF.of_ow (e := 96) encSd_ok (by repeat exact .head) hi) (by simp) (all_twoS v0 v1); rw [addS_two] at h; exact h) rfl (WO.nil ⟨rfl, rfl⟩))) (DT.b rfl rfl rfl (WO.go' rfl (WO.callR rfl Tryz.call100 (fun L w hi => c_flat w _) rfl (WO.nil ⟨rfl, rfl⟩))) (DT.nil [_, _, _, _] rfl (WO.go' rfl ?_)))
   refine WO.eqT rfl rfl (eq124z (addS (byS (atS (sds rl) g 0) (siz (atS (sds rl) g 1))) (byS (atS (sds rl) g 1) (siz (atS (sds rl) g 0)))).a (addS (byS (atS (sds rl) g 0) (siz (atS (sds rl) g 1))) (byS (atS (sds rl) g 1) (siz (atS (sds rl) g 0)))).b) rfl (WO.p rfl rfl (WO.nil ?_))
   refine W.cond_bl rfl (fun c3 => ?_) (fun c3 => ?_)
   ·refine W.sreg (WO.p rfl rfl (WO.p rfl rfl (WO.p rfl rfl (WO.p rfl rfl (WO.buildSl rfl rfl rfl rfl rfl rfl rfl rfl rfl (fun v5 => ?_))))))
    refine WO.call (Post := fun v Hq => ∃ mb : Nat, v = mdV (.map (some mb)) (tkS (sds rl) g [siz (atS (sds rl) g 1), siz (atS (sds rl) g 0)] g.length) 1 ∧ Hq = [pt mb (.map (tkL g [siz (atS (sds rl) g 1), siz (atS (sds rl) g 0)] g.length).toArray g.length)]) rfl Tryz.call176 (fun L w hi => c_take w p rv sv rl (hT.later hi) hok o _ g _ 1 (hG.later hi) (RdF.of_ow (e := 2) (xs := [siz (atS (sds rl) g 1), siz (atS (sds rl) g 0)]) encI_ok (by repeat exact .head) hi) hg.rng hg.nd (by show 2 = _; omega) hg.len.2 (y2_bd (by omega) (by omega))) rfl ?_
    rintro _ _ ⟨mb, rfl, rfl⟩
    refine WO.storeA rfl rfl rfl rfl (Pick.tail (Pick.tail (Pick.tail (Pick.tail (Pick.tail (Pick.head)))))) rfl rfl (WO.nil (W.ret ?_))
    (have e := zrY_2 (S := sds rl) (g := g) (by omega) ⟨by assumption, by assumption⟩; exact fin.ret (Res.one rfl (RV.cell rfl rfl rfl (Cells.own (by repeat exact .head)))) ⟨mb, by rw [e]; rfl, by rw [e]; exact fun h hs => Sub.sat (.cons .head .nil) (zrP_some (by repeat first | exact .head | apply Pick.tail) h hs)⟩)
   ·refine W.skip (W.sreg (WO.build rfl rfl rfl rfl rfl (WO.storeA rfl rfl rfl rfl (Pick.tail (Pick.tail (Pick.tail (Pick.head)))) rfl rfl (WO.nil (W.ret ?_)))))
    (have e := zrY_2n (S := sds rl) (g := g) (by omega) (fun q => by exact absurd q.2 (by assumption)); exact fin.ret (Res.one rfl (RV.cell rfl rfl rfl (Cells.own (by repeat exact .head)))) ⟨0, by rw [e]; rfl, by rw [e]; exact fun h hs => Sub.sat (.cons .head .nil) (zrP_none h hs)⟩)
  ·refine DT.b rfl rfl rfl (WO.no rfl rfl (WO.nil ⟨rfl, rfl⟩)) (DT.r rfl rfl rfl (WO.no rfl rfl (WO.nil ⟨rfl, rfl⟩)) (DT.b rfl rfl rfl (WO.no rfl rfl (WO.nil ⟨rfl, rfl⟩)) (DT.b rfl rfl rfl (WO.no rfl rfl (WO.nil ⟨rfl, rfl⟩)) (DT.r rfl rfl rfl (WO.no rfl rfl (WO.nil ⟨rfl, rfl⟩)) (DT.b rfl rfl rfl (WO.no rfl rfl (WO.nil ⟨rfl, rfl⟩)) (DT.r rfl rfl rfl (WO.no rfl rfl (WO.nil ⟨rfl, rfl⟩)) (DT.c [_, _, _] rfl rfl rfl rfl (WO.no rfl rfl ?_))))))))
   refine WO.nil ⟨_, [], rfl, rfl, (Keep.r (Keep.b (Keep.r (Keep.b (Keep.b (Keep.r (Keep.b (Keep.r (Keep.r (Keep.b (Keep.b (Keep.b Keep.nil)))))))))))), ?_⟩
   refine DT.f [_, _, _] rfl rfl rfl rfl (WO.no rfl rfl (WO.nil ⟨rfl, rfl⟩)) (DT.b rfl rfl rfl (WO.no rfl rfl (WO.nil ⟨rfl, rfl⟩)) (DT.nil [_, _, _] rfl (WO.no rfl rfl (WO.p rfl rfl (WO.nil (W.cond_f rfl (W.skip (W.sreg (WO.build rfl rfl rfl rfl rfl (WO.storeA rfl rfl rfl rfl (Pick.tail (Pick.tail (Pick.head))) rfl rfl (WO.nil (W.ret ?_))))))))))))
   (have e := zrY_2n (S := sds rl) (g := g) (by omega) (fun q => by exact absurd q.1 (by assumption)); exact fin.ret (Res.one rfl (RV.cell rfl rfl rfl (Cells.own (by repeat exact .head)))) ⟨0, by rw [e]; rfl, by rw [e]; exact fun h hs => Sub.sat (.cons .head .nil) (zrP_none h hs)⟩)
 ·refine W.sreg (WO.p rfl rfl (WO.p rfl rfl (WO.nil ?_)))
  refine W.cond_bl rfl (fun c4 => ?_) (fun c4 => ?_)
  ·refine W.seq ?_
   have h0 := hri 0 (by omega)
   have h1 := hri 1 (by omega)
   have h2 := hri 2 (by omega)
   have s0 := hat 0 (by omega)
   have s1 := hat 1 (by omega)
   have s2 := hat 2 (by omega)
   have u0 := s0.up (A' := 20) (B' := 1000000) (by omega) (by omega)
   have u1 := s1.up (A' := 20) (B' := 1000000) (by omega) (by omega)
   have u2 := s2.up (A' := 20) (B' := 1000000) (by omega) (by omega)
   have d0 := (crs_bd s1 s2).2.2
   have d1 := (crs_bd s2 s0).2.2
   have d2 := (crs_bd s0 s1).2.2
   refine W.drawD 32 [.r 0 [], .r 1 [], .r 2 [], .b 3 [], .r 4 [], .r 5 [], .b 6 [], .r 7 [], .b 8 [], .r 9 [], .r 10 [], .r 11 [], .b 12 [], .r 13 [], .r 14 [], .b 15 [], .r 16 [], .b 17 [], .r 18 [], .r 19 [], .r 20 [], .b 21 [], .r 22 [], .r 23 [], .b 24 [], .r 25 [], .b 26 [], .a 27 9 (.cells #[.int .i64 0, .int .i64 0, .int .i64 0] 96 (0, 0)), .a 28 10 (.cells #[.int .i64 0, .int .i64 0, .int .i64 0] 96 (0, 0)), .a 29 11 (.cells #[.int .i64 0, .int .i64 0, .int .i64 0] 96 (0, 0)), .s 30 [], .s 31 []] [] (A0 := []) (Sub.refl _) (by kernel_rfl) ?_ ?_
   ·exact (ALok.r (ALok.r (ALok.r (ALok.b (ALok.r (ALok.r (ALok.b (ALok.r (ALok.b (ALok.r (ALok.r (ALok.r (ALok.b (ALok.r (ALok.r (ALok.b (ALok.r (ALok.b (ALok.r (ALok.r (ALok.r (ALok.b (ALok.r (ALok.r (ALok.b (ALok.r (ALok.b (ALok.cons rfl rfl rfl rfl rfl (ALok.cons rfl rfl rfl rfl rfl (ALok.cons rfl rfl rfl rfl rfl (ALok.s (ALok.s ALok.nil))))))))))))))))))))))))))))))))
   refine DT.r rfl rfl rfl (WO.p rfl rfl (WO.nil ⟨rfl, rfl⟩)) (DT.r rfl rfl rfl (WO.p rfl rfl (WO.nil ⟨rfl, rfl⟩)) (DT.r rfl rfl rfl (WO.field rfl rfl rfl (WO.nil ⟨rfl, rfl⟩)) ?_))
   refine' DT.b rfl rfl rfl ?hq ?_
   case hq =>
    refine' WO.load (v := _) rfl rfl ?hc rfl ?_
    case hc => ((refine RdC.cellAt hT.c (j := 1) ?_; rfl))
    exact WO.nil ⟨rfl, rfl⟩
   refine DT.r rfl rfl rfl (WO.p rfl rfl (WO.nil ⟨rfl, rfl⟩)) (DT.r rfl rfl rfl (WO.indexAddr (i := 0) rfl rfl rfl hG.sl (by omega) rfl (WO.nil ⟨rfl, rfl⟩)) ?_)
   refine' DT.b rfl rfl rfl ?hq ?_
   case hq =>
    refine' WO.load (v := _) rfl rfl ?hc rfl ?_
    case hc => ((refine hG.cell0 (i := 0) (by omega) 0 ?_; rfl))
    exact WO.nil ⟨rfl, rfl⟩
   refine' DT.r rfl rfl rfl ?hq ?_
   case hq =>
    refine' WO.indexAddrZ (n := _) rfl rfl rfl ?hs ?h00 ?h1 rfl ?_
    case hs => exact hT.s.sl
    case h00 => omega
    case h1 => (omega)
    exact WO.nil ⟨rfl, rfl⟩
   refine DT.b rfl rfl rfl (WO.loadA rfl rfl (RdF.cellsT hT.s h0.1 h0.2 rfl) rfl rfl (WO.nil ⟨rfl, rfl⟩)) (DT.r rfl rfl rfl (WO.p rfl rfl (WO.nil ⟨rfl, rfl⟩)) (DT.r rfl rfl rfl (WO.p rfl rfl (WO.nil ⟨rfl, rfl⟩)) (DT.r rfl rfl rfl (WO.field rfl rfl rfl (WO.nil ⟨rfl, rfl⟩)) ?_)))
   refine' DT.b rfl rfl rfl ?hq ?_
   case hq =>
    refine' WO.load (v := _) rfl rfl ?hc rfl ?_
    case hc => ((refine RdC.cellAt hT.c (j := 1) ?_; rfl))
    exact WO.nil ⟨rfl, rfl⟩
   refine DT.r rfl rfl rfl (WO.p rfl rfl (WO.nil ⟨rfl, rfl⟩)) (DT.r rfl rfl rfl (WO.indexAddr (i := 1) rfl rfl rfl hG.sl (by omega) rfl (WO.nil ⟨rfl, rfl⟩)) ?_)
   refine' DT.b rfl rfl rfl ?hq ?_
   case hq =>
    refine' WO.load (v := _) rfl rfl ?hc rfl ?_
    case hc => ((refine hG.cell0 (i := 1) (by omega) 0 ?_; rfl))
    exact WO.nil ⟨rfl, rfl⟩
   refine' DT.r rfl rfl rfl ?hq ?_
   case hq =>
    refine' WO.indexAddrZ (n := _) rfl rfl rfl ?hs ?h00 ?h1 rfl ?_
    case hs => exact hT.s.sl
    case h00 => omega
    case h1 => (omega)
    exact WO.nil ⟨rfl, rfl⟩
   refine DT.b rfl rfl rfl (WO.loadA rfl rfl (RdF.cellsT hT.s h1.1 h1.2 rfl) rfl rfl (WO.nil ⟨rfl, rfl⟩)) (DT.r rfl rfl rfl (WO.p rfl rfl (WO.nil ⟨rfl, rfl⟩)) (DT.r rfl rfl rfl (WO.p rfl rfl (WO.nil ⟨rfl, rfl⟩)) (DT.r rfl rfl rfl (WO.field rfl rfl rfl (WO.nil ⟨rfl, rfl⟩)) ?_)))
   refine' DT.b rfl rfl rfl ?hq ?_
   case hq =>
    refine' WO.load (v := _) rfl rfl ?hc rfl ?_
    case hc => ((refine RdC.cellAt hT.c (j := 1) ?_; rfl))
    exact WO.nil ⟨rfl, rfl⟩
   refine DT.r rfl rfl rfl (WO.p rfl rfl (WO.nil ⟨rfl, rfl⟩)) (DT.r rfl rfl rfl (WO.indexAddr (i := 2) rfl rfl rfl hG.sl (by omega) rfl (WO.nil ⟨rfl, rfl⟩)) ?_)
   refine' DT.b rfl rfl rfl ?hq ?_
   case hq =>
    refine' WO.load (v := _) rfl rfl ?hc rfl ?_
    case hc => ((refine hG.cell0 (i := 2) (by omega) 0 ?_; rfl))
    exact WO.nil ⟨rfl, rfl⟩
   refine' DT.r rfl rfl rfl ?hq ?_
   case hq =>
    refine' WO.indexAddrZ (n := _) rfl rfl rfl ?hs ?h00 ?h1 rfl ?_
    case hs => exact hT.s.sl
    case h00 => omega
    case h1 => (omega)
    exact WO.nil ⟨rfl, rfl⟩
   refine DT.b rfl rfl rfl (WO.loadA rfl rfl (RdF.cellsT hT.s h2.1 h2.2 rfl) rfl rfl (WO.nil ⟨rfl, rfl⟩)) (DT.a (fun b6 => (DT.a (fun b7 => (DT.a (fun b8 => (DT.s [_, _, _, _] rfl rfl rfl (WO.storeA rfl rfl rfl rfl (Pick.tail (Pick.tail (Pick.head))) rfl rfl ?_))))))))
   refine WO.nil ⟨[_, _, _], rfl, rfl, (Keep.a (Keep.a (Keep.a (Keep.b (Keep.r (Keep.b (Keep.r (Keep.r (Keep.b (Keep.r (Keep.r (Keep.r (Keep.b (Keep.r (Keep.b (Keep.r (Keep.r (Keep.b (Keep.r (Keep.r (Keep.r (Keep.b (Keep.r (Keep.b (Keep.r (Keep.r (Keep.b (Keep.r (Keep.r (Keep.r Keep.nil)))))))))))))))))))))))))))))), ?_⟩
   refine DT.s [_, _, _, _] rfl rfl rfl (WO.storeA rfl rfl rfl rfl (Pick.tail (Pick.tail (Pick.head))) rfl rfl ?_)
   refine WO.nil ⟨[_, _, _], rfl, rfl, (Keep.s (Keep.a (Keep.a (Keep.a (Keep.b (Keep.r (Keep.b (Keep.r (Keep.r (Keep.b (Keep.r (Keep.r (Keep.r (Keep.b (Keep.r (Keep.b (Keep.r (Keep.r (Keep.b (Keep.r (Keep.r (Keep.r (Keep.b (Keep.r (Keep.b (Keep.r (Keep.r (Keep.b (Keep.r (Keep.r (Keep.r Keep.nil))))))))))))))))))))))))))))))), ?_⟩
   refine DT.nil [_, _, _, _] rfl (WO.storeA rfl rfl rfl rfl (Pick.tail (Pick.tail (Pick.head))) rfl rfl (WO.nil (W.seq ?_)))
   refine W.drawD 8 [.b 0 [], .b 1 [], .b 2 [], .b 3 [], .b 4 [], .b 5 [], .b 6 [], .b 7 []] [] (A0 := []) (Sub.refl _) (by kernel_rfl) ?_ ?_
   ·repeat constructor
   refine DT.b rfl rfl rfl (WO.loadA rfl rfl (Cells.own (Pick.tail (Pick.head))) rfl rfl (WO.nil ⟨rfl, rfl⟩)) (DT.b rfl rfl rfl (WO.loadA rfl rfl (Cells.own Pick.head) rfl rfl (WO.nil ⟨rfl, rfl⟩)) (DT.b rfl rfl rfl (WO.callR rfl Tryz.call168 (fun L w hi => c_cross w (atS (sds rl) g 1) (atS (sds rl) g 2) u1 u2) rfl (WO.nil ⟨rfl, rfl⟩)) (DT.b rfl rfl rfl (WO.loadA rfl rfl (Cells.own Pick.head) rfl rfl (WO.nil ⟨rfl, rfl⟩)) (DT.b rfl rfl rfl (WO.loadA rfl rfl (Cells.own (Pick.tail (Pick.tail (Pick.head)))) rfl rfl (WO.nil ⟨rfl, rfl⟩)) (DT.b rfl rfl rfl (WO.callR rfl Tryz.call168 (fun L w hi => c_cross w (atS (sds rl) g 2) (atS (sds rl) g 0) u2 u0) rfl (WO.nil ⟨rfl, rfl⟩)) ?_)))))
   refine DT.b rfl rfl rfl (WO.loadA rfl rfl (Cells.own (Pick.tail (Pick.tail (Pick.head)))) rfl rfl (WO.nil ⟨rfl, rfl⟩)) (DT.b rfl rfl rfl (WO.loadA rfl rfl (Cells.own (Pick.tail (Pick.head))) rfl rfl (WO.nil ⟨rfl, rfl⟩)) (DT.nil [_, _, _, _] rfl (WO.callR rfl Tryz.call168 (fun L w hi => c_cross w (atS (sds rl) g 0) (atS (sds rl) g 1) u0 u1) rfl (WO.p rfl rfl (WO.p rfl rfl (WO.p rfl rfl (WO.nil (W.seq (W.sreg (WO.p rfl rfl (WO.p rfl rfl (WO.p rfl rfl (WO.max3 rfl rfl rfl rfl (WO.p rfl rfl (WO.nil ?_)))))))))))))))
   refine W.cond_bl rfl (fun c5 => ?_) (fun c5 => ?_)
   ·have hneg := trivial
    refine W.region (WO.p rfl rfl (WO.neg rfl (by unfold in64; omega) rfl (WO.p rfl rfl (WO.neg rfl (by unfold in64; omega) rfl (WO.p rfl rfl (WO.neg rfl (by unfold in64; omega) rfl (WO.p rfl rfl (WO.p rfl rfl (WO.p rfl rfl (WO.nil (W.sreg (WO.p rfl rfl (WO.p rfl rfl (WO.p rfl rfl (WO.min3 rfl rfl rfl rfl (WO.p rfl rfl (WO.nil ?_)))))))))))))))))
    refine W.cond_bl rfl (fun c6 => ?_) (fun c6 => ?_)
    ·refine W.sreg (WO.p rfl rfl (WO.p rfl rfl (WO.p rfl rfl (WO.p rfl rfl (WO.p rfl rfl (WO.buildSl rfl rfl rfl rfl rfl rfl rfl rfl rfl (fun v9 => ?_)))))))
     (have q := hneg; refine WO.call (Post := fun v Hq => ∃ mb : Nat, v = mdV (.map (some mb)) (tkS (sds rl) g [-crs (atS (sds rl) g 1) (atS (sds rl) g 2), -crs (atS (sds rl) g 2) (atS (sds rl) g 0), -crs (atS (sds rl) g 0) (atS (sds rl) g 1)] g.length) 1 ∧ Hq = [pt mb (.map (tkL g [-crs (atS (sds rl) g 1) (atS (sds rl) g 2), -crs (atS (sds rl) g 2) (atS (sds rl) g 0), -crs (atS (sds rl) g 0) (atS (sds rl) g 1)] g.length).toArray g.length)]) rfl Tryz.call176 (fun L w hi => c_take w p rv sv rl (hT.later hi) hok o _ g _ 1 (hG.later hi) (RdF.of_ow (e := 2) (xs := [-crs (atS (sds rl) g 1) (atS (sds rl) g 2), -crs (atS (sds rl) g 2) (atS (sds rl) g 0), -crs (atS (sds rl) g 0) (atS (sds rl) g 1)]) encI_ok (by repeat exact .head) hi) hg.rng hg.nd (by show 3 = _; omega) hg.len.2 (y3_bd (by omega) (by omega) (by omega))) rfl ?_)
     rintro _ _ ⟨mb, rfl, rfl⟩
     refine WO.storeA rfl rfl rfl rfl (Pick.tail (Pick.tail (Pick.tail (Pick.tail (Pick.tail (Pick.head)))))) rfl rfl (WO.nil (W.ret ?_))
     (have q := hneg; have e := zrY_3n (S := sds rl) (g := g) (by omega) (by assumption) (by assumption); exact fin.ret (Res.one rfl (RV.cell rfl rfl rfl (Cells.own (by repeat exact .head)))) ⟨mb, by rw [e]; rfl, by rw [e]; exact fun h hs => Sub.sat (.cons .head .nil) (zrP_some (by repeat first | exact .head | apply Pick.tail) h hs)⟩)
    ·exfalso; omega
   ·refine W.skip (W.sreg (WO.p rfl rfl (WO.p rfl rfl (WO.p rfl rfl (WO.min3 rfl rfl rfl rfl (WO.p rfl rfl (WO.nil ?_)))))))
    refine W.cond_bl rfl (fun c7 => ?_) (fun c7 => ?_)
    ·refine W.sreg (WO.p rfl rfl (WO.p rfl rfl (WO.p rfl rfl (WO.p rfl rfl (WO.p rfl rfl (WO.buildSl rfl rfl rfl rfl rfl rfl rfl rfl rfl (fun v10 => ?_)))))))
     (refine WO.call (Post := fun v Hq => ∃ mb : Nat, v = mdV (.map (some mb)) (tkS (sds rl) g [crs (atS (sds rl) g 1) (atS (sds rl) g 2), crs (atS (sds rl) g 2) (atS (sds rl) g 0), crs (atS (sds rl) g 0) (atS (sds rl) g 1)] g.length) 1 ∧ Hq = [pt mb (.map (tkL g [crs (atS (sds rl) g 1) (atS (sds rl) g 2), crs (atS (sds rl) g 2) (atS (sds rl) g 0), crs (atS (sds rl) g 0) (atS (sds rl) g 1)] g.length).toArray g.length)]) rfl Tryz.call176 (fun L w hi => c_take w p rv sv rl (hT.later hi) hok o _ g _ 1 (hG.later hi) (RdF.of_ow (e := 2) (xs := [crs (atS (sds rl) g 1) (atS (sds rl) g 2), crs (atS (sds rl) g 2) (atS (sds rl) g 0), crs (atS (sds rl) g 0) (atS (sds rl) g 1)]) encI_ok (by repeat exact .head) hi) hg.rng hg.nd (by show 3 = _; omega) hg.len.2 (y3_bd (by omega) (by omega) (by omega))) rfl ?_)
     rintro _ _ ⟨mb, rfl, rfl⟩
     refine WO.storeA rfl rfl rfl rfl (Pick.tail (Pick.tail (Pick.tail (Pick.tail (Pick.tail (Pick.head)))))) rfl rfl (WO.nil (W.ret ?_))
     (have e := zrY_3p (S := sds rl) (g := g) (by omega) (by assumption) (by assumption); exact fin.ret (Res.one rfl (RV.cell rfl rfl rfl (Cells.own (by repeat exact .head)))) ⟨mb, by rw [e]; rfl, by rw [e]; exact fun h hs => Sub.sat (.cons .head .nil) (zrP_some (by repeat first | exact .head | apply Pick.tail) h hs)⟩)
    ·refine W.skip (W.sreg (WO.build rfl rfl rfl rfl rfl (WO.storeA rfl rfl rfl rfl (Pick.tail (Pick.tail (Pick.tail (Pick.head)))) rfl rfl (WO.nil (W.ret ?_)))))
     (have e := zrY_3pn (S := sds rl) (g := g) (by omega) (by assumption) (by assumption); exact fin.ret (Res.one rfl (RV.cell rfl rfl rfl (Cells.own (by repeat exact .head)))) ⟨0, by rw [e]; rfl, by rw [e]; exact fun h hs => Sub.sat (.cons .head .nil) (zrP_none h hs)⟩)
  ·refine W.skip (W.sreg (WO.build rfl rfl rfl rfl rfl (WO.storeA rfl rfl rfl rfl Pick.head rfl rfl (WO.nil (W.ret ?_)))))
   (have e := zrY_1 (S := sds rl) (g := g) (by omega) (by omega); exact fin.ret (Res.one rfl (RV.cell rfl rfl rfl (Cells.own (by repeat exact .head)))) ⟨0, by rw [e]; rfl, by rw [e]; exact fun h hs => Sub.sat (.cons .head .nil) (zrP_none h hs)⟩)
end Go.Proofs.YtncjabmlkgacdaaGreat.Sp
