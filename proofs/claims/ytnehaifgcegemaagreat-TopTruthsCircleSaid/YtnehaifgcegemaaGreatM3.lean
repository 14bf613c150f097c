/-
  What is proved here: the greatest common divisor. Conditions: none; each contract states its own.
  What is proved here: how fractions are compared. Conditions: none; each contract states its own.
  What is proved here: where a point is of a circle. Conditions: none; each contract states its own.
  What is proved here: the reference: which tracks and circles are valid, and whether a circle holds a track. Conditions: none; each contract states its own.
  What is proved here: which tracks and circles are valid. Conditions: none; each contract states its own.
  What is proved here: which tracks and circles are valid. Conditions: none; each contract states its own.
  What is proved here: which circles are valid; points. Conditions: none; each contract states its own.
  What is proved here: where a point is of a ring. Conditions: none; each contract states its own.
  What is proved here: the points of a track. Conditions: none; each contract states its own.
  What is proved here: the greatest common divisor of some numbers. Conditions: none; each contract states its own.
  What is proved here: smallest discs of points, that have some points on them (no program in sight). Conditions: none; each theorem states its own.
  What is proved here: discs through one, two and three points (no program in sight). Conditions: none; each theorem states its own.
  What is proved here: a disc that grows with each point that it does not hold is the smallest one (no program in sight). Conditions: none; each theorem states its own.
  What is proved here: the middle of the smallest disc is between at most three of its points (no program in sight). Conditions: none; each theorem states its own.
  What is proved here: circles in least terms, as discs (no program in sight). Conditions: none; each theorem states its own.
  What is proved here: circles through points, in least terms, and the smallest ones (no program in sight). Conditions: none; each theorem states its own.
  What is proved here: the smallest circles of points, and what they are found by (no program in sight). Conditions: none; each theorem states its own.
  What is proved here: the smallest circle of a track, as the smallest one of some circles (no program in sight). Conditions: none; each theorem states its own.
  What is proved here: the first point that a ring does not hold; whether a circle holds a point. Conditions: none; each contract states its own.
  What is proved here: the circle in least terms with a middle, which goes through a point. Conditions: none; each contract states its own.
  What is proved here: circles through one, two and three points. Conditions: none; each contract states its own.
  What is proved here: the circle through three points, and that of two; which circle is smaller. Conditions: none; each contract states its own.
-/
import Derived.Test.YtnehaifgcegemaaGreatM2
import Derived.ChangeKeysEq
set_option linter.unusedVariables false
set_option linter.unusedSimpArgs false
namespace Go.Proofs.YtnehaifgcegemaaGreat.Tu
open Go Go.TH
attribute [local irreducible] W WO pt
set_option maxRecDepth 10000
def gcd2 (a b : Int) : Int := (Nat.gcd a.toNat b.toNat : Nat)
theorem gcd2_zero {a : Int} (h : 0 ≤ a) : gcd2 a 0 = a := by simp [gcd2]; omega
theorem gcd2_step {a b : Int} (ha : 0 ≤ a) (hb : 0 < b) : gcd2 b (a.tmod b) = gcd2 a b := by
 unfold gcd2
 obtain ⟨n, rfl⟩ := Int.eq_ofNat_of_zero_le ha
 obtain ⟨m, rfl⟩ := Int.eq_ofNat_of_zero_le (Int.le_of_lt hb)
 rw [Int.tmod_eq_emod_of_nonneg (by omega), ← Int.natCast_emod]
 simp only [Int.toNat_natCast]
 rw [Nat.gcd_comm m (n % m), ← Nat.gcd_rec, Nat.gcd_comm]
theorem tmod_lt {a b : Int} (ha : 0 ≤ a) (hb : 0 < b) : 0 ≤ a.tmod b ∧ a.tmod b < b := ⟨Int.tmod_nonneg b ha, Int.tmod_lt_of_pos a hb⟩
theorem gcd2_pos {a b : Int} (ha : 0 ≤ a) (hb : 0 < b) : 0 < gcd2 a b := by
 unfold gcd2
 have : 0 < Nat.gcd a.toNat b.toNat := Nat.gcd_pos_of_pos_right _ (by omega)
 omega
theorem tdiv_in {a b : Int} (ha : 0 ≤ a) (hb : 0 < b) (h : in64 a) : in64 (a.tdiv b) := by
 unfold in64 at *
 have h1 : 0 ≤ a.tdiv b := Int.tdiv_nonneg ha (by omega)
 have h2 : a.tdiv b ≤ a := by
  rw [Int.tdiv_eq_ediv_of_nonneg ha]
  exact Int.ediv_le_self _ ha
 omega
theorem gcd2_0 {a : Int} (h : 0 ≤ a) : gcd2 0 a = a := by unfold gcd2; rw [show (0 : Int).toNat = 0 from rfl, Nat.gcd_zero_left]; omega
theorem gcd2_nn (a b : Int) : 0 ≤ gcd2 a b := by unfold gcd2; omega
def ab (n : Int) : Int := max n (-n)
theorem ab_nn (n : Int) : 0 ≤ ab n := by unfold ab; omega
def red (n d : Int) : Int × Int := (n.tdiv (gcd2 (ab n) d), d.tdiv (gcd2 (ab n) d))
theorem tdiv_ab {a b : Int} (hb : 0 < b) : ab (a.tdiv b) ≤ ab a := by
 unfold ab
 have h1 : a.tdiv b ≤ max a (-a) := by
  rcases Int.le_total 0 a with h | h
  ·have := Int.tdiv_le_self b h; omega
  ·have h2 : a.tdiv b = -((-a).tdiv b) := by rw [Int.neg_tdiv, Int.neg_neg]
   have := Int.tdiv_nonneg (a := -a) (b := b) (by omega) (by omega)
   omega
 have h2 : -(a.tdiv b) ≤ max a (-a) := by
  rcases Int.le_total 0 a with h | h
  ·have := Int.tdiv_nonneg (a := a) (b := b) h (by omega); omega
  ·have h2 : a.tdiv b = -((-a).tdiv b) := by rw [Int.neg_tdiv, Int.neg_neg]
   have := Int.tdiv_le_self (a := -a) b (by omega)
   omega
 omega
end Go.Proofs.YtnehaifgcegemaaGreat.Tu
namespace Go.Proofs.YtnehaifgcegemaaGreat.Tu
open Go Go.TH
attribute [local irreducible] W WO pt
set_option maxRecDepth 10000
set_option maxHeartbeats 1000000
def sgn (x y : Int) : Int := if x < y then -1 else if y < x then 1 else 0
def cmp (a b c d : Int) : Int := sgn (a * d) (c * b)
theorem div_lt {a b c d : Int} (ha : 0 ≤ a) (hb : 0 < b) (hc : 0 ≤ c) (hd : 0 < d) (h : a.tdiv b < c.tdiv d) : a * d < c * b := by
 rw [Int.tdiv_eq_ediv_of_nonneg ha, Int.tdiv_eq_ediv_of_nonneg hc] at h
 have a1 := Int.mul_ediv_add_emod a b
 have a2 := Int.emod_lt_of_pos a hb
 have c1 := Int.mul_ediv_add_emod c d
 have c2 := Int.emod_nonneg c (show d ≠ 0 by omega)
 have h1 : a + 1 ≤ (c / d) * b := by
  have := Int.mul_le_mul_of_nonneg_right (show a / b + 1 ≤ c / d by omega) (show 0 ≤ b by omega)
  rw [Int.add_mul, Int.mul_comm (a / b) b] at this
  omega
 have h2 := Int.mul_le_mul_of_nonneg_right h1 (show 0 ≤ d by omega)
 have h3 : (c / d) * d ≤ c := by rw [Int.mul_comm]; omega
 have h4 := Int.mul_le_mul_of_nonneg_right h3 (show 0 ≤ b by omega)
 rw [Int.add_mul] at h2
 have e : (c / d) * b * d = (c / d) * d * b := by grind
 omega
theorem cmp_lt {a b c d : Int} (ha : 0 ≤ a) (hb : 0 < b) (hc : 0 ≤ c) (hd : 0 < d) (h : a.tdiv b < c.tdiv d) : cmp a b c d = -1 := by
 unfold cmp sgn; rw [if_pos (div_lt ha hb hc hd h)]
theorem cmp_gt {a b c d : Int} (ha : 0 ≤ a) (hb : 0 < b) (hc : 0 ≤ c) (hd : 0 < d) (h : c.tdiv d < a.tdiv b) : cmp a b c d = 1 := by
 have := div_lt hc hd ha hb h
 unfold cmp sgn; rw [if_neg (by omega), if_pos this]
theorem cmp_mod {a b c d : Int} (h : a.tdiv b = c.tdiv d) : cmp a b c d = cmp (a.tmod b) b (c.tmod d) d := by
 have a1 := Int.mul_tdiv_add_tmod a b
 have c1 := Int.mul_tdiv_add_tmod c d
 unfold cmp
 generalize a.tmod b = x at *
 generalize c.tmod d = y at *
 rw [h] at a1
 generalize c.tdiv d = q at *
 have e1 : a * d = b * q * d + x * d := by rw [← a1]; grind
 have e2 : c * b = b * q * d + y * b := by rw [← c1]; grind
 rw [e1, e2]
 unfold sgn
 split <;> split <;> (try split) <;> (try split) <;> omega
theorem cmp_00 {b d : Int} : cmp 0 b 0 d = 0 := by unfold cmp sgn; simp
theorem cmp_0l {b c d : Int} (hb : 0 < b) (hc : 0 < c) : cmp 0 b c d = -1 := by
 have := Int.mul_pos hc hb
 unfold cmp sgn; rw [if_pos (by omega)]
theorem cmp_0r {a b d : Int} (ha : 0 < a) (hd : 0 < d) : cmp a b 0 d = 1 := by
 have := Int.mul_pos ha hd
 unfold cmp sgn; rw [if_neg (by omega), if_pos (by omega)]
theorem cmp_turn (a b c d : Int) : cmp d c b a = cmp a b c d := by
 unfold cmp; rw [Int.mul_comm d a, Int.mul_comm b c]
theorem c_compare_step (n : Nat) (ih : ∀ (w : World) (a b c d : Int), 0 ≤ a → 0 < b → 0 ≤ c → 0 < d → in64 a → in64 b → in64 c → in64 d → b + d ≤ n → Ret Tryz.prog 251 [.int .i64 a, .int .i64 b, .int .i64 c, .int .i64 d].toArray w (.int .i64 (cmp a b c d)))
 (w : World) (a b c d : Int) (ha : 0 ≤ a) (hb : 0 < b) (hc : 0 ≤ c) (hd : 0 < d) (ia : in64 a) (ib : in64 b) (ic : in64 c) (id' : in64 d) (hn : b + d ≤ n + 1) : Ret Tryz.prog 251 [.int .i64 a, .int .i64 b, .int .i64 c, .int .i64 d].toArray w (.int .i64 (cmp a b c d)) := by
 refine Ret.of mixed tyTab Tryz.func251 rfl rfl (W.sreg (WO.p rfl rfl (WO.nil (W.seq (W.seq ?_)))))
 refine W.drawD 7 [.r 0 [], .r 1 [], .r 2 [], .r 3 [], .r 4 [], .r 5 [], .r 6 []] [] (A0 := []) (Sub.refl _) (by kernel_rfl) ?_ ?_
 ·repeat constructor
 refine DT.r rfl rfl rfl (WO.p rfl rfl (WO.nil ⟨rfl, rfl⟩)) (DT.r rfl rfl rfl (WO.p rfl rfl (WO.nil ⟨rfl, rfl⟩)) (DT.r rfl rfl rfl (WO.quo rfl rfl (by first | omega | assumption) (by (first | (unfold in64; omega) | exact tdiv_in ha hb ia | exact tdiv_in hc hd ic)) rfl (WO.nil ⟨rfl, rfl⟩)) (DT.r rfl rfl rfl (WO.p rfl rfl (WO.nil ⟨rfl, rfl⟩)) (DT.r rfl rfl rfl (WO.p rfl rfl (WO.nil ⟨rfl, rfl⟩)) (DT.r rfl rfl rfl (WO.quo rfl rfl (by first | omega | assumption) (by (first | (unfold in64; omega) | exact tdiv_in ha hb ia | exact tdiv_in hc hd ic)) rfl (WO.nil ⟨rfl, rfl⟩)) (DT.r rfl rfl rfl (WO.p rfl rfl (WO.nil ⟨rfl, rfl⟩)) (DT.nil [] rfl (WO.p rfl rfl (WO.nil (W.block ?_))))))))))
 refine W.sreg (WO.p rfl rfl (WO.p rfl rfl (WO.p rfl rfl (WO.p rfl rfl (WO.nil ?_)))))
 refine W.cond_bl rfl (fun c1 => ?_) (fun c1 => ?_)
 ·refine W.sreg (WO.p rfl rfl (WO.nil (W.ret (fin.ret (Res.one rfl (RV.tmp rfl)) (congrArg (Value.int .i64) ?_)))))
  first | exact (cmp_lt ha hb hc hd (by omega)).symm | exact (cmp_gt ha hb hc hd (by omega)).symm | (rw [cmp_mod (by omega), show a.tmod b = 0 by omega, show c.tmod d = 0 by omega, cmp_00]) | (rw [cmp_mod (by omega), show a.tmod b = 0 by omega, cmp_0l hb (by omega)]) | (rw [cmp_mod (by omega), show c.tmod d = 0 by omega, cmp_0r (by omega) hd]) | (rw [cmp_turn, ← cmp_mod (by omega)])
 ·refine W.sreg (WO.p rfl rfl (WO.p rfl rfl (WO.p rfl rfl (WO.p rfl rfl (WO.nil ?_)))))
  refine W.cond_bl rfl (fun c2 => ?_) (fun c2 => ?_)
  ·refine W.sreg (WO.p rfl rfl (WO.nil (W.ret (fin.ret (Res.one rfl (RV.tmp rfl)) (congrArg (Value.int .i64) ?_)))))
   first | exact (cmp_lt ha hb hc hd (by omega)).symm | exact (cmp_gt ha hb hc hd (by omega)).symm | (rw [cmp_mod (by omega), show a.tmod b = 0 by omega, show c.tmod d = 0 by omega, cmp_00]) | (rw [cmp_mod (by omega), show a.tmod b = 0 by omega, cmp_0l hb (by omega)]) | (rw [cmp_mod (by omega), show c.tmod d = 0 by omega, cmp_0r (by omega) hd]) | (rw [cmp_turn, ← cmp_mod (by omega)])
  ·refine W.skip (W.seq ?_)
   have m1 := tmod_lt ha hb
   have m2 := tmod_lt hc hd
   refine W.drawD 7 [.r 0 [], .r 1 [], .r 2 [], .r 3 [0], .r 4 [0], .r 5 [0], .r 6 [0]] [0] (A0 := []) (Sub.refl _) (by kernel_rfl) ?_ ?_
   ·repeat constructor
   refine DT.r rfl rfl rfl (WO.p rfl rfl (WO.nil ⟨rfl, rfl⟩)) (DT.r rfl rfl rfl (WO.p rfl rfl (WO.nil ⟨rfl, rfl⟩)) (DT.r rfl rfl rfl (WO.rem rfl rfl (by first | omega | assumption) rfl (WO.nil ⟨rfl, rfl⟩)) (DT.r rfl rfl rfl (WO.p rfl rfl (WO.nil ⟨rfl, rfl⟩)) (DT.r rfl rfl rfl (WO.p rfl rfl (WO.nil ⟨rfl, rfl⟩)) (DT.r rfl rfl rfl (WO.rem rfl rfl (by first | omega | assumption) rfl (WO.nil ⟨rfl, rfl⟩)) (DT.r rfl rfl rfl (WO.p rfl rfl (WO.nil ⟨rfl, rfl⟩)) (DT.nil [] rfl (WO.p rfl rfl (WO.nil (W.seq (W.block (W.sreg (WO.p rfl rfl (WO.p rfl rfl (WO.p rfl rfl ?_)))))))))))))))
   refine WO.guard_bl rfl rfl (fun c3 => ?_) (fun c3 => ?_)
   ·refine WO.pg rfl rfl rfl (WO.pg rfl rfl rfl (WO.p rfl rfl (WO.p rfl rfl (WO.nil ?_))))
    refine W.cond_bl rfl (fun c4 => ?_) (fun c4 => ?_)
    ·refine W.sreg (WO.p rfl rfl (WO.nil (W.ret (fin.ret (Res.one rfl (RV.tmp rfl)) (congrArg (Value.int .i64) ?_)))))
     first | exact (cmp_lt ha hb hc hd (by omega)).symm | exact (cmp_gt ha hb hc hd (by omega)).symm | (rw [cmp_mod (by omega), show a.tmod b = 0 by omega, show c.tmod d = 0 by omega, cmp_00]) | (rw [cmp_mod (by omega), show a.tmod b = 0 by omega, cmp_0l hb (by omega)]) | (rw [cmp_mod (by omega), show c.tmod d = 0 by omega, cmp_0r (by omega) hd]) | (rw [cmp_turn, ← cmp_mod (by omega)])
    ·refine W.sreg (WO.p rfl rfl (WO.p rfl rfl (WO.p rfl rfl (WO.nil ?_))))
     refine W.cond_bl rfl (fun c5 => ?_) (fun c5 => ?_)
     ·refine W.sreg (WO.p rfl rfl (WO.nil (W.ret (fin.ret (Res.one rfl (RV.tmp rfl)) (congrArg (Value.int .i64) ?_)))))
      first | exact (cmp_lt ha hb hc hd (by omega)).symm | exact (cmp_gt ha hb hc hd (by omega)).symm | (rw [cmp_mod (by omega), show a.tmod b = 0 by omega, show c.tmod d = 0 by omega, cmp_00]) | (rw [cmp_mod (by omega), show a.tmod b = 0 by omega, cmp_0l hb (by omega)]) | (rw [cmp_mod (by omega), show c.tmod d = 0 by omega, cmp_0r (by omega) hd]) | (rw [cmp_turn, ← cmp_mod (by omega)])
     ·exfalso; omega
   ·refine WO.no rfl rfl (WO.no rfl rfl (WO.p rfl rfl (WO.p rfl rfl (WO.nil (W.cond_f rfl (W.sreg (WO.p rfl rfl (WO.p rfl rfl (WO.p rfl rfl (WO.nil ?_))))))))))
    refine W.cond_bl rfl (fun c7 => ?_) (fun c7 => ?_)
    ·exfalso; omega
    ·refine W.sreg (WO.p rfl rfl (WO.p rfl rfl (WO.p rfl rfl (WO.nil ?_))))
     refine W.cond_bl rfl (fun c8 => ?_) (fun c8 => ?_)
     ·refine W.sreg (WO.p rfl rfl (WO.nil (W.ret (fin.ret (Res.one rfl (RV.tmp rfl)) (congrArg (Value.int .i64) ?_)))))
      first | exact (cmp_lt ha hb hc hd (by omega)).symm | exact (cmp_gt ha hb hc hd (by omega)).symm | (rw [cmp_mod (by omega), show a.tmod b = 0 by omega, show c.tmod d = 0 by omega, cmp_00]) | (rw [cmp_mod (by omega), show a.tmod b = 0 by omega, cmp_0l hb (by omega)]) | (rw [cmp_mod (by omega), show c.tmod d = 0 by omega, cmp_0r (by omega) hd]) | (rw [cmp_turn, ← cmp_mod (by omega)])
     ·refine W.skip (W.sreg (WO.p rfl rfl (WO.p rfl rfl (WO.p rfl rfl (WO.p rfl rfl (WO.callR rfl Tryz.call251 (fun L w hi => ih w d (c.tmod d) b (a.tmod b) (by omega) (by omega) (by omega) (by omega) id' (by unfold in64 at *; omega) ib (by unfold in64 at *; omega) (by omega)) rfl (WO.p rfl rfl (WO.nil (W.ret (fin.ret (Res.one rfl (RV.tmp rfl)) (congrArg (Value.int .i64) ?_)))))))))))
      first | exact (cmp_lt ha hb hc hd (by omega)).symm | exact (cmp_gt ha hb hc hd (by omega)).symm | (rw [cmp_mod (by omega), show a.tmod b = 0 by omega, show c.tmod d = 0 by omega, cmp_00]) | (rw [cmp_mod (by omega), show a.tmod b = 0 by omega, cmp_0l hb (by omega)]) | (rw [cmp_mod (by omega), show c.tmod d = 0 by omega, cmp_0r (by omega) hd]) | (rw [cmp_turn, ← cmp_mod (by omega)])
theorem c_compare_n : ∀ (n : Nat) (w : World) (a b c d : Int), 0 ≤ a → 0 < b → 0 ≤ c → 0 < d → in64 a → in64 b → in64 c → in64 d → b + d ≤ n → Ret Tryz.prog 251 [.int .i64 a, .int .i64 b, .int .i64 c, .int .i64 d].toArray w (.int .i64 (cmp a b c d))
 | 0 => fun _ _ _ _ _ _ _ _ _ _ _ _ _ _ => by omega
 | n + 1 => fun w a b c d ha hb hc hd ia ib ic id' hn => c_compare_step n (c_compare_n n) w a b c d ha hb hc hd ia ib ic id' (by omega)
theorem c_compare (w : World) (a b c d : Int) (ha : 0 ≤ a) (hb : 0 < b) (hc : 0 ≤ c) (hd : 0 < d) (ia : in64 a) (ib : in64 b) (ic : in64 c) (id' : in64 d) : Ret Tryz.prog 251 [.int .i64 a, .int .i64 b, .int .i64 c, .int .i64 d].toArray w (.int .i64 (cmp a b c d)) := c_compare_n (b + d).toNat w a b c d ha hb hc hd ia ib ic id' (by omega)
end Go.Proofs.YtnehaifgcegemaaGreat.Tu
namespace Go.Proofs.YtnehaifgcegemaaGreat.Tu
open Go Go.TH
attribute [local irreducible] W WO pt
set_option maxRecDepth 10000
set_option maxHeartbeats 1000000
def sqL (xs : List Int) : Int := xs.foldl (fun a x => a + x * x) 0
theorem sq_b {x : Int} (h : -2000000000 ≤ x ∧ x ≤ 2000000000) : 0 ≤ x * x ∧ x * x ≤ 4000000000000000000 := by
 rcases Int.le_total 0 x with g | g
 ·exact ⟨Int.mul_nonneg g g, Int.mul_le_mul (c := 2000000000) (d := 2000000000) h.2 h.2 g (by omega)⟩
 ·have e : x * x = (-x) * (-x) := by grind
  rw [e]
  exact ⟨Int.mul_nonneg (by omega) (by omega), Int.mul_le_mul (c := 2000000000) (d := 2000000000) (by omega) (by omega) (by omega) (by omega)⟩
theorem c_squares (w : World) (v : Value) (xs : List Int) (hR : RdF encI 1 w.heap.size w v xs) (hl : xs.length ≤ 2) (hb : ∀ x ∈ xs, -2000000000 ≤ x ∧ x ≤ 2000000000) : Ret Tryz.prog 172 [v].toArray w (.int .i64 (sqL xs)) := by
 refine Ret.of mixed tyTab Tryz.func172 rfl rfl ?_
 replace hR : RdF encI 1 (fnCx mixed tyTab Tryz.f172.ntmps w).B (fnCx mixed tyTab Tryz.f172.ntmps w).w0 v xs := hR
 have hle := hR.sl.le
 refine W.sreg (WO.p rfl rfl (WO.nil (W.sreg (WO.p rfl rfl (WO.nil (W.seq (W.sreg (WO.p rfl rfl (WO.len rfl rfl hR.sl rfl (WO.p rfl rfl (WO.nil (W.block ?_))))))))))))
 refine W.loop2 (fun (i : Nat) (n : Int) => i ≤ xs.length ∧ 0 ≤ n ∧ n ≤ 4000000000000000000 * i ∧ n = sqL (xs.take i))
  (fun (i : Nat) (n : Int) => [(8, .int .i64 (i : Int)), (7, .int .i64 (xs.length : Int)), (6, v), (3, .int .i64 n)])
  (fun (i : Nat) (n : Int) => [])
  (fun (i : Nat) (n : Int) => xs.length - i) 0 0
  (by exact ⟨by omega, by omega, by omega, rfl⟩) ⟨rfl, rfl, rfl, rfl, trivial⟩ (by repeat (first | exact Sub.nil | refine Sub.cons (by repeat first | exact .head | apply Pick.tail) ?_)) ?_
 rintro i n ⟨hi, hn0, hn1, hn⟩
 refine W.sreg (WO.p rfl rfl (WO.nil (W.seq ?_)))
 refine W.cond_bl rfl (fun c1 => ?_) (fun c1 => ?_)
 ·refine W.skip (W.seq (W.block (W.sreg (WO.indexAddr rfl rfl rfl hR.sl (by first | omega | (simp; omega)) rfl ?_))))
  refine' WO.load (v := _) rfl rfl ?hc rfl ?_
  case hc => (first | (refine hR.cell0 ?_ 0 ?_ <;> first | rfl | omega))
  refine WO.p rfl rfl (WO.nil ?_)
  have hq := sq_b (hb _ (getD_mem (l := xs) (i := i) (by omega) 0))
  refine W.region (WO.p rfl rfl (WO.p rfl rfl (WO.p rfl rfl (WO.ar rfl rfl rfl (by unfold in64; omega) rfl (WO.ar rfl rfl rfl (by unfold in64; omega) rfl (WO.p rfl rfl (WO.nil (W.region (WO.ar rfl rfl rfl (by unfold in64; omega) rfl (WO.p rfl rfl (WO.nil ?_)))))))))))
  refine' ⟨i + 1, _, ?hp, ?hmu, ⟨rfl, rfl, rfl, rfl, trivial⟩, ?hS⟩
  case hS => repeat (first | exact Sub.nil | refine Sub.cons (by repeat first | exact .head | apply Pick.tail) ?_)
  case hp => exact ⟨by omega, by omega, by omega, by unfold sqL at *; rw [take_succ_getD (by omega) 0, List.foldl_append, ← hn]; rfl⟩
  case hmu => omega
 ·refine W.exit (blk_same (W.sreg (WO.p rfl rfl (WO.p rfl rfl (WO.nil (W.ret (fin.ret (Res.one rfl (RV.tmp rfl)) ?_)))))))
  obtain rfl : i = xs.length := by omega
  rw [hn, List.take_length]
structure Cir where
 x : Int
 y : Int
 den : Int
 n : Int
 d : Int
structure OkR (c : Cir) : Prop where
 den : 1 ≤ c.den ∧ c.den ≤ 262144
 x : -268435456 ≤ c.x ∧ c.x ≤ 268435456
 y : -268435456 ≤ c.y ∧ c.y ≤ 268435456
 n : 0 ≤ c.n ∧ c.n ≤ 1125899906842624
 d : 1 ≤ c.d ∧ c.d ≤ 1125899906842624
def OkP (p : Int × Int) : Prop := (-100 ≤ p.1 ∧ p.1 ≤ 100) ∧ -100 ≤ p.2 ∧ p.2 ≤ 100
def whr (c : Cir) (p : Int × Int) : Int := cmp ((p.1 * c.den - c.x) * (p.1 * c.den - c.x) + (p.2 * c.den - c.y) * (p.2 * c.den - c.y)) (c.den * c.den) c.n c.d
theorem mul100 {p d : Int} (hp : -100 ≤ p ∧ p ≤ 100) (hd : 1 ≤ d ∧ d ≤ 262144) : -26214400 ≤ p * d ∧ p * d ≤ 26214400 := by
 have h1 := Int.mul_le_mul_of_nonneg_right hp.1 (show 0 ≤ d by omega)
 have h2 := Int.mul_le_mul_of_nonneg_right hp.2 (show 0 ≤ d by omega)
 omega
theorem den_b {d : Int} (hd : 1 ≤ d ∧ d ≤ 262144) : 1 ≤ d * d ∧ d * d ≤ 68719476736 :=
 ⟨by have := Int.mul_le_mul (a := 1) (b := 1) hd.1 hd.1 (by omega) (by omega); omega, Int.mul_le_mul (c := 262144) (d := 262144) hd.2 hd.2 (by omega) (by omega)⟩
end Go.Proofs.YtnehaifgcegemaaGreat.Tu
namespace Go.Proofs.YtnehaifgcegemaaGreat.Tu
open Go Go.TH
attribute [local irreducible] W WO pt
set_option maxRecDepth 10000
set_option maxHeartbeats 1000000
instance (p : Int × Int) : Decidable (OkP p) := by unfold OkP; infer_instance
def OkL (l : List (Int × Int)) : Prop := ∀ p ∈ l, OkP p
instance (l : List (Int × Int)) : Decidable (OkL l) := by unfold OkL; infer_instance
def chkL (l : List (Int × Int)) : Int := if l.length < 1 ∨ 24 < l.length then 6 else if OkL l then 0 else 3
theorem OkR_iff (c : Cir) : OkR c ↔ (1 ≤ c.den ∧ c.den ≤ 262144) ∧ (-268435456 ≤ c.x ∧ c.x ≤ 268435456) ∧ (-268435456 ≤ c.y ∧ c.y ≤ 268435456) ∧ (0 ≤ c.n ∧ c.n ≤ 1125899906842624) ∧ (1 ≤ c.d ∧ c.d ≤ 1125899906842624) :=
 ⟨fun h => ⟨h.den, h.x, h.y, h.n, h.d⟩, fun h => ⟨h.1, h.2.1, h.2.2.1, h.2.2.2.1, h.2.2.2.2⟩⟩
instance (c : Cir) : Decidable (OkR c) := decidable_of_iff' _ (OkR_iff c)
def chkR (c : Cir) : Int := if OkR c then 0 else 2
theorem RdF.cells2 {C : Cx Tryz.prog} {H : List HP} {o : Value} {l : List (Int × Int)} (h : RdF encP 2 C.B C.w0 o l) {i : Nat} (h1 : i < l.length) : Cells C H (elt o i 2) [.int .i64 (l.getD i (0, 0)).1, .int .i64 (l.getD i (0, 0)).2] := RdF.cells h h1 (0, 0)
theorem ref_Place (w : World) (p : Int × Int) : Ret Tryz.prog 54 [.agg #[.int .i64 p.1, .int .i64 p.2]].toArray w (.bool (bl (OkP p))) := by
 refine Ret.of mixed tyTab Tryz.func54 rfl rfl (W.sreg (WO.boxA rfl rfl (fun b1 hb1 => (WO.p rfl rfl (WO.nil (W.sreg (WO.field0 rfl rfl rfl (WO.load rfl rfl (Cell.own Pick.head rfl) rfl (WO.p rfl rfl (WO.p rfl rfl ?_))))))))))
 refine WO.guard_bl rfl rfl (fun c1 => ?_) (fun c1 => ?_)
 ·refine WO.go' rfl (WO.field0 rfl rfl rfl (WO.go' rfl (WO.load rfl rfl (Cell.own Pick.head rfl) rfl (WO.pg rfl rfl rfl (WO.p rfl rfl (WO.p rfl rfl ?_))))))
  refine WO.guard_bl rfl rfl (fun c2 => ?_) (fun c2 => ?_)
  ·refine WO.go' rfl (WO.fieldL rfl rfl rfl (WO.go' rfl (WO.load rfl rfl (Cell.own Pick.head rfl) rfl (WO.pg rfl rfl rfl (WO.p rfl rfl (WO.p rfl rfl ?_))))))
   refine WO.guard_bl rfl rfl (fun c3 => ?_) (fun c3 => ?_)
   ·refine WO.go' rfl (WO.fieldL rfl rfl rfl (WO.go' rfl (WO.load rfl rfl (Cell.own Pick.head rfl) rfl (WO.pg rfl rfl rfl (WO.p rfl rfl (WO.p rfl rfl (WO.nil (W.ret (fin.ret (Res.one rfl (RV.tmp rfl)) (congrArg Value.bool ?_))))))))))
    first | exact (bl_f.2 (fun h => by obtain ⟨h1, h2⟩ := h; omega)).symm | (rw [bl_eq, bl_eq, decide_eq_decide]; unfold OkP; omega)
   ·refine WO.no rfl rfl (WO.no rfl rfl (WO.no rfl rfl (WO.p rfl rfl (WO.p rfl rfl (WO.nil (W.ret (fin.ret (Res.one rfl (RV.tmp rfl)) (congrArg Value.bool ?_))))))))
    first | exact (bl_f.2 (fun h => by obtain ⟨h1, h2⟩ := h; omega)).symm | (rw [bl_eq, bl_eq, decide_eq_decide]; unfold OkP; omega)
  ·refine WO.no rfl rfl (WO.no rfl rfl (WO.no rfl rfl (WO.p rfl rfl (WO.p rfl rfl (WO.no rfl rfl (WO.no rfl rfl (WO.no rfl rfl (WO.p rfl rfl (WO.p rfl rfl (WO.nil (W.ret (fin.ret (Res.one rfl (RV.tmp rfl)) (congrArg Value.bool ?_)))))))))))))
   first | exact (bl_f.2 (fun h => by obtain ⟨h1, h2⟩ := h; omega)).symm | (rw [bl_eq, bl_eq, decide_eq_decide]; unfold OkP; omega)
 ·refine WO.no rfl rfl (WO.no rfl rfl (WO.no rfl rfl (WO.p rfl rfl (WO.p rfl rfl (WO.no rfl rfl (WO.no rfl rfl (WO.no rfl rfl (WO.p rfl rfl (WO.p rfl rfl (WO.no rfl rfl (WO.no rfl rfl (WO.no rfl rfl (WO.p rfl rfl (WO.p rfl rfl (WO.nil (W.ret (fin.ret (Res.one rfl (RV.tmp rfl)) (congrArg Value.bool ?_))))))))))))))))))
  first | exact (bl_f.2 (fun h => by obtain ⟨h1, h2⟩ := h; omega)).symm | (rw [bl_eq, bl_eq, decide_eq_decide]; unfold OkP; omega)
theorem ref_CheckTrack (w : World) (v : Value) (l : List (Int × Int)) (hR : RdF encP 2 w.heap.size w v l) : Ret Tryz.prog 16 [v].toArray w (.int .i64 (chkL l)) := by
 refine Ret.of mixed tyTab Tryz.func16 rfl rfl ?_
 replace hR : RdF encP 2 (fnCx mixed tyTab Tryz.f16.ntmps w).B (fnCx mixed tyTab Tryz.f16.ntmps w).w0 v l := hR
 have hle := hR.sl.le
 refine W.sreg (WO.p rfl rfl (WO.nil (W.seq (W.sreg (WO.p rfl rfl (WO.len rfl rfl hR.sl rfl (WO.p rfl rfl (WO.p rfl rfl ?_))))))))
 refine WO.guard_bl rfl rfl (fun c1 => ?_) (fun c1 => ?_)
 ·refine WO.no rfl rfl (WO.no rfl rfl (WO.no rfl rfl (WO.p rfl rfl (WO.nil (W.cond_t rfl (W.sreg (WO.p rfl rfl (WO.nil (W.ret (fin.ret (Res.one rfl (RV.tmp rfl)) (congrArg (Value.int .i64) ?_)))))))))))
  first | (unfold chkL; rw [if_pos (by omega)]) | (unfold chkL; rw [if_neg (by omega), if_neg (fun h => (by assumption : ¬ OkP (l.getD i (0, 0))) (h _ (getD_mem (by omega) (0, 0))))]) | (unfold chkL; rw [if_neg (by omega), if_pos (by rw [show i = l.length by omega, List.take_length] at hin; exact hin)])
 ·refine WO.pg rfl rfl rfl (WO.go' rfl (WO.len rfl rfl hR.sl rfl (WO.pg rfl rfl rfl (WO.p rfl rfl (WO.nil ?_)))))
  refine W.cond_bl rfl (fun c2 => ?_) (fun c2 => ?_)
  ·refine W.sreg (WO.p rfl rfl (WO.nil (W.ret (fin.ret (Res.one rfl (RV.tmp rfl)) (congrArg (Value.int .i64) ?_)))))
   first | (unfold chkL; rw [if_pos (by omega)]) | (unfold chkL; rw [if_neg (by omega), if_neg (fun h => (by assumption : ¬ OkP (l.getD i (0, 0))) (h _ (getD_mem (by omega) (0, 0))))]) | (unfold chkL; rw [if_neg (by omega), if_pos (by rw [show i = l.length by omega, List.take_length] at hin; exact hin)])
  ·refine W.skip (W.seq (W.sreg (WO.p rfl rfl (WO.nil (W.block ?_)))))
   refine W.loop (fun (i : Nat) => i ≤ l.length ∧ OkL (l.take i))
    (fun (i : Nat) => [(3, .int .i64 (i : Int)), (0, v)])
    (fun (i : Nat) => [])
    (fun (i : Nat) => l.length - i) 0
    (by exact ⟨by omega, fun x hx => by simp at hx⟩) ⟨rfl, rfl, trivial⟩ (by repeat (first | exact Sub.nil | refine Sub.cons (by repeat first | exact .head | apply Pick.tail) ?_)) ?_
   rintro i ⟨hi, hin⟩
   refine W.seq (W.sreg (WO.p rfl rfl (WO.p rfl rfl (WO.len rfl rfl hR.sl rfl (WO.p rfl rfl (WO.nil ?_))))))
   refine W.cond_bl rfl (fun c3 => ?_) (fun c3 => ?_)
   ·refine W.skip (W.seq (W.block (W.sreg (WO.p rfl rfl (WO.p rfl rfl (WO.indexAddr rfl rfl rfl hR.sl (by first | omega | (simp; omega)) rfl (WO.loadA rfl rfl (RdF.cells2 hR (i := i) (by omega)) rfl rfl (WO.callR rfl Tryz.call54 (fun L w hi => ref_Place w (l.getD i (0, 0))) rfl (WO.p rfl rfl (WO.nil ?_))))))))))
    refine W.cond_nbl rfl (fun c4 => ?_) (fun c4 => ?_)
    ·refine W.sreg (WO.p rfl rfl (WO.nil (W.ret (fin.ret (Res.one rfl (RV.tmp rfl)) (congrArg (Value.int .i64) ?_)))))
     first | (unfold chkL; rw [if_pos (by omega)]) | (unfold chkL; rw [if_neg (by omega), if_neg (fun h => (by assumption : ¬ OkP (l.getD i (0, 0))) (h _ (getD_mem (by omega) (0, 0))))]) | (unfold chkL; rw [if_neg (by omega), if_pos (by rw [show i = l.length by omega, List.take_length] at hin; exact hin)])
    ·refine W.skip (W.region (WO.p rfl rfl (WO.ar rfl rfl rfl (by unfold in64; omega) rfl (WO.p rfl rfl (WO.nil ?_)))))
     refine' ⟨i + 1, ?hp, ?hmu, ⟨rfl, rfl, trivial⟩, ?hS⟩
     case hS => repeat (first | exact Sub.nil | refine Sub.cons (by repeat first | exact .head | apply Pick.tail) ?_)
     case hp => exact ⟨by omega, all_succ (by omega) (0, 0) hin (by assumption)⟩
     case hmu => omega
   ·refine W.exit (blk_same (W.sreg (WO.p rfl rfl (WO.nil (W.ret (fin.ret (Res.one rfl (RV.tmp rfl)) (congrArg (Value.int .i64) ?_)))))))
    first | (unfold chkL; rw [if_pos (by omega)]) | (unfold chkL; rw [if_neg (by omega), if_neg (fun h => (by assumption : ¬ OkP (l.getD i (0, 0))) (h _ (getD_mem (by omega) (0, 0))))]) | (unfold chkL; rw [if_neg (by omega), if_pos (by rw [show i = l.length by omega, List.take_length] at hin; exact hin)])
theorem ref_within (w : World) (n lo hi : Int) : Ret Tryz.prog 64 [.int .i64 n, .int .i64 lo, .int .i64 hi].toArray w (.bool (bl (lo ≤ n ∧ n ≤ hi))) := by
 refine Ret.of mixed tyTab Tryz.func64 rfl rfl (W.sreg (WO.p rfl rfl (WO.nil (W.sreg (WO.p rfl rfl (WO.p rfl rfl (WO.p rfl rfl (WO.p rfl rfl ?_))))))))
 refine WO.guard_bl rfl rfl (fun c1 => ?_) (fun c1 => ?_)
 ·refine WO.pg rfl rfl rfl (WO.pg rfl rfl rfl (WO.pg rfl rfl rfl (WO.p rfl rfl (WO.p rfl rfl (WO.nil (W.ret (fin.ret (Res.one rfl (RV.tmp rfl)) (congrArg Value.bool ?_))))))))
  first | (simp_all [bl_eq]; done) | (simp_all [bl_eq]; omega)
 ·refine WO.no rfl rfl (WO.no rfl rfl (WO.no rfl rfl (WO.p rfl rfl (WO.p rfl rfl (WO.nil (W.ret (fin.ret (Res.one rfl (RV.tmp rfl)) (congrArg Value.bool ?_))))))))
  first | (simp_all [bl_eq]; done) | (simp_all [bl_eq]; omega)
theorem ref_CheckCircle (w : World) (c : Cir) : Ret Tryz.prog 21 [.agg #[.int .i64 c.x, .int .i64 c.y, .int .i64 c.den, .int .i64 c.n, .int .i64 c.d]].toArray w (.int .i64 (chkR c)) := by
 refine Ret.of mixed tyTab Tryz.func21 rfl rfl (W.sreg (WO.boxA rfl rfl (fun b1 hb1 => (WO.p rfl rfl (WO.nil (W.seq (W.sreg (WO.fieldL rfl rfl rfl (WO.load rfl rfl (Cell.own Pick.head rfl) rfl (WO.callR rfl Tryz.call64 (fun L w hi => ref_within w _ _ _) rfl (WO.p rfl rfl (WO.p rfl rfl ?_))))))))))))
 refine WO.guard_nbl rfl rfl (fun c1 => ?_) (fun c1 => ?_)
 ·refine WO.no rfl rfl (WO.no rfl rfl (WO.no rfl rfl (WO.no rfl rfl (WO.p rfl rfl (WO.p rfl rfl (WO.no rfl rfl (WO.no rfl rfl (WO.no rfl rfl (WO.no rfl rfl (WO.p rfl rfl (WO.p rfl rfl (WO.no rfl rfl (WO.no rfl rfl (WO.no rfl rfl (WO.no rfl rfl (WO.no rfl rfl (WO.p rfl rfl (WO.p rfl rfl (WO.no rfl rfl (WO.no rfl rfl (WO.no rfl rfl (WO.no rfl rfl (WO.no rfl rfl (WO.p rfl rfl (WO.nil (W.cond_t rfl (W.sreg (WO.p rfl rfl (WO.nil (W.ret (fin.ret (Res.one rfl (RV.tmp rfl)) (congrArg (Value.int .i64) ?_))))))))))))))))))))))))))))))))
  first | (unfold chkR; rw [if_pos ⟨by omega, by omega, by omega, by omega, by omega⟩]; done) | (unfold chkR; rw [if_neg (fun h => by have h1 := h.den; have h2 := h.x; have h3 := h.y; have h4 := h.n; have h5 := h.d; omega)]; done)
 ·refine WO.go' rfl (WO.field0 rfl rfl rfl (WO.go' rfl (WO.load rfl rfl (Cell.own Pick.head rfl) rfl (WO.go' rfl (WO.callR rfl Tryz.call64 (fun L w hi => ref_within w _ _ _) rfl (WO.pg rfl rfl rfl (WO.p rfl rfl (WO.p rfl rfl ?_))))))))
  refine WO.guard_nbl rfl rfl (fun c2 => ?_) (fun c2 => ?_)
  ·refine WO.no rfl rfl (WO.no rfl rfl (WO.no rfl rfl (WO.no rfl rfl (WO.p rfl rfl (WO.p rfl rfl (WO.no rfl rfl (WO.no rfl rfl (WO.no rfl rfl (WO.no rfl rfl (WO.no rfl rfl (WO.p rfl rfl (WO.p rfl rfl (WO.no rfl rfl (WO.no rfl rfl (WO.no rfl rfl (WO.no rfl rfl (WO.no rfl rfl (WO.p rfl rfl (WO.nil (W.cond_t rfl (W.sreg (WO.p rfl rfl (WO.nil (W.ret (fin.ret (Res.one rfl (RV.tmp rfl)) (congrArg (Value.int .i64) ?_))))))))))))))))))))))))))
   first | (unfold chkR; rw [if_pos ⟨by omega, by omega, by omega, by omega, by omega⟩]; done) | (unfold chkR; rw [if_neg (fun h => by have h1 := h.den; have h2 := h.x; have h3 := h.y; have h4 := h.n; have h5 := h.d; omega)]; done)
  ·refine WO.go' rfl (WO.fieldL rfl rfl rfl (WO.go' rfl (WO.load rfl rfl (Cell.own Pick.head rfl) rfl (WO.go' rfl (WO.callR rfl Tryz.call64 (fun L w hi => ref_within w _ _ _) rfl (WO.pg rfl rfl rfl (WO.p rfl rfl (WO.p rfl rfl ?_))))))))
   refine WO.guard_nbl rfl rfl (fun c3 => ?_) (fun c3 => ?_)
   ·refine WO.no rfl rfl (WO.no rfl rfl (WO.no rfl rfl (WO.no rfl rfl (WO.no rfl rfl (WO.p rfl rfl (WO.p rfl rfl (WO.no rfl rfl (WO.no rfl rfl (WO.no rfl rfl (WO.no rfl rfl (WO.no rfl rfl (WO.p rfl rfl (WO.nil (W.cond_t rfl (W.sreg (WO.p rfl rfl (WO.nil (W.ret (fin.ret (Res.one rfl (RV.tmp rfl)) (congrArg (Value.int .i64) ?_))))))))))))))))))))
    first | (unfold chkR; rw [if_pos ⟨by omega, by omega, by omega, by omega, by omega⟩]; done) | (unfold chkR; rw [if_neg (fun h => by have h1 := h.den; have h2 := h.x; have h3 := h.y; have h4 := h.n; have h5 := h.d; omega)]; done)
   ·refine WO.go' rfl (WO.fieldL rfl rfl rfl (WO.go' rfl (WO.field0 rfl rfl rfl (WO.go' rfl (WO.load rfl rfl (Cell.own Pick.head rfl) rfl (WO.go' rfl (WO.callR rfl Tryz.call64 (fun L w hi => ref_within w _ _ _) rfl (WO.pg rfl rfl rfl (WO.p rfl rfl (WO.p rfl rfl ?_))))))))))
    refine WO.guard_nbl rfl rfl (fun c4 => ?_) (fun c4 => ?_)
    ·refine WO.no rfl rfl (WO.no rfl rfl (WO.no rfl rfl (WO.no rfl rfl (WO.no rfl rfl (WO.p rfl rfl (WO.nil (W.cond_t rfl (W.sreg (WO.p rfl rfl (WO.nil (W.ret (fin.ret (Res.one rfl (RV.tmp rfl)) (congrArg (Value.int .i64) ?_)))))))))))))
     first | (unfold chkR; rw [if_pos ⟨by omega, by omega, by omega, by omega, by omega⟩]; done) | (unfold chkR; rw [if_neg (fun h => by have h1 := h.den; have h2 := h.x; have h3 := h.y; have h4 := h.n; have h5 := h.d; omega)]; done)
    ·refine WO.go' rfl (WO.fieldL rfl rfl rfl (WO.go' rfl (WO.fieldL rfl rfl rfl (WO.go' rfl (WO.load rfl rfl (Cell.own Pick.head rfl) rfl (WO.go' rfl (WO.callR rfl Tryz.call64 (fun L w hi => ref_within w _ _ _) rfl (WO.pg rfl rfl rfl (WO.p rfl rfl (WO.nil ?_))))))))))
     refine W.cond_nbl rfl (fun c5 => ?_) (fun c5 => ?_)
     ·refine W.sreg (WO.p rfl rfl (WO.nil (W.ret (fin.ret (Res.one rfl (RV.tmp rfl)) (congrArg (Value.int .i64) ?_)))))
      first | (unfold chkR; rw [if_pos ⟨by omega, by omega, by omega, by omega, by omega⟩]; done) | (unfold chkR; rw [if_neg (fun h => by have h1 := h.den; have h2 := h.x; have h3 := h.y; have h4 := h.n; have h5 := h.d; omega)]; done)
     ·refine W.skip (W.sreg (WO.p rfl rfl (WO.nil (W.ret (fin.ret (Res.one rfl (RV.tmp rfl)) (congrArg (Value.int .i64) ?_))))))
      first | (unfold chkR; rw [if_pos ⟨by omega, by omega, by omega, by omega, by omega⟩]; done) | (unfold chkR; rw [if_neg (fun h => by have h1 := h.den; have h2 := h.x; have h3 := h.y; have h4 := h.n; have h5 := h.d; omega)]; done)
def holdL (c : Cir) (l : List (Int × Int)) : Prop := ∀ p ∈ l, whr c p ≤ 0
instance (c : Cir) (l : List (Int × Int)) : Decidable (holdL c l) := by unfold holdL; infer_instance
end Go.Proofs.YtnehaifgcegemaaGreat.Tu
namespace Go.Proofs.YtnehaifgcegemaaGreat.Tu
open Go Go.TH
attribute [local irreducible] W WO pt
set_option maxRecDepth 10000
set_option maxHeartbeats 1000000
theorem c_within1 (w : World) (x lo hi : Int) (p q : Addr) (h1 : Cap w p (.int .i64 lo)) (h2 : Cap w q (.int .i64 hi)) : Ret Tryz.prog 247 [.int .i64 x, .pointer (some p), .pointer (some q)].toArray w (.bool (bl (¬ (lo ≤ x ∧ x ≤ hi)))) := by
 refine Ret.of mixed tyTab Tryz.func247 rfl rfl ?_
 replace h1 : Cap (fnCx mixed tyTab Tryz.f247.ntmps w).w0 p (.int .i64 lo) := h1
 replace h2 : Cap (fnCx mixed tyTab Tryz.f247.ntmps w).w0 q (.int .i64 hi) := h2
 refine W.sreg (WO.p rfl rfl (WO.nil (W.sreg (WO.p rfl rfl ?_))))
 refine' WO.load (v := _) rfl rfl ?hc rfl ?_
 case hc => (refine Cap.cell (v := .int .i64 lo) rfl h1)
 refine WO.p rfl rfl (WO.p rfl rfl ?_)
 refine WO.guard_bl rfl rfl (fun c1 => ?_) (fun c1 => ?_)
 ·refine WO.no rfl rfl (WO.no rfl rfl (WO.no rfl rfl (WO.p rfl rfl (WO.p rfl rfl (WO.nil (W.ret (fin.ret (Res.one rfl (RV.tmp rfl)) (congrArg Value.bool ?_))))))))
  first | exact (bl_t.2 (by omega)).symm | (rw [bl_eq, bl_eq, decide_eq_decide]; omega)
 ·refine WO.pg rfl rfl rfl (WO.go' rfl ?_)
  refine' WO.load (v := _) rfl rfl ?hc rfl ?_
  case hc => (refine Cap.cell (v := .int .i64 hi) rfl h2)
  refine WO.pg rfl rfl rfl (WO.p rfl rfl (WO.p rfl rfl (WO.nil (W.ret (fin.ret (Res.one rfl (RV.tmp rfl)) (congrArg Value.bool ?_))))))
  first | exact (bl_t.2 (by omega)).symm | (rw [bl_eq, bl_eq, decide_eq_decide]; omega)
theorem c_IndexI (w : World) (v : Value) (xs : List Int) (lo hi : Int) (p q : Addr) (hR : RdF encI 1 w.heap.size w v xs) (h1 : Cap w p (.int .i64 lo)) (h2 : Cap w q (.int .i64 hi)) : RetE Tryz.prog 222 [v, .func (.func 247) #[] #[.pointer (some p), .pointer (some q)]].toArray w (fun r => ∃ n : Int, r = .int .i64 n ∧ (0 ≤ n ↔ ¬ ∀ x ∈ xs, lo ≤ x ∧ x ≤ hi)) := by
 refine RetE.of mixed tyTab Tryz.func222 rfl rfl ?_
 replace hR : RdF encI 1 (fnCx mixed tyTab Tryz.f222.ntmps w).B (fnCx mixed tyTab Tryz.f222.ntmps w).w0 v xs := hR
 replace h1 : Cap (fnCx mixed tyTab Tryz.f222.ntmps w).w0 p (.int .i64 lo) := h1
 replace h2 : Cap (fnCx mixed tyTab Tryz.f222.ntmps w).w0 q (.int .i64 hi) := h2
 have hle := hR.sl.le
 refine W.sreg (WO.p rfl rfl (WO.nil (W.seq (W.sreg (WO.p rfl rfl (WO.len rfl rfl hR.sl rfl (WO.p rfl rfl (WO.nil (W.block ?_)))))))))
 refine W.loop (fun (i : Nat) => i ≤ xs.length ∧ ∀ x ∈ xs.take i, lo ≤ x ∧ x ≤ hi)
  (fun (i : Nat) => [(8, .int .i64 (i : Int)), (7, .int .i64 (xs.length : Int)), (0, v), (1, .func (.func 247) #[] #[.pointer (some p), .pointer (some q)])])
  (fun (i : Nat) => [])
  (fun (i : Nat) => xs.length - i) 0
  (by exact ⟨by omega, by simp⟩) ⟨rfl, rfl, rfl, rfl, trivial⟩ (by repeat (first | exact Sub.nil | refine Sub.cons (by repeat first | exact .head | apply Pick.tail) ?_)) ?_
 rintro i ⟨hi0, hal⟩
 refine W.sreg (WO.p rfl rfl (WO.nil (W.seq ?_)))
 refine W.cond_bl rfl (fun c1 => ?_) (fun c1 => ?_)
 ·refine W.skip (W.seq (W.block (W.sreg (WO.p rfl rfl (WO.p rfl rfl (WO.nil (W.sreg (WO.p rfl rfl (WO.p rfl rfl (WO.p rfl rfl (WO.indexAddr rfl rfl rfl hR.sl (by first | omega | (simp; omega)) rfl ?_)))))))))))
  refine' WO.load (v := _) rfl rfl ?hc rfl ?_
  case hc => (first | (refine hR.cell0 ?_ 0 ?_ <;> first | rfl | omega))
  refine WO.callCR (first := []) (captured := [.pointer (some p), .pointer (some q)]) rfl rfl Tryz.call247 (fun L w hi' => c_within1 w (xs.getD i 0) lo hi p q (h1.old rfl hi') (h2.old rfl hi')) rfl (WO.nil ?_)
  refine W.cond_bl rfl (fun c2 => ?_) (fun c2 => ?_)
  ·refine W.sreg (WO.p rfl rfl (WO.p rfl rfl (WO.nil (W.ret ?_))))
   exact fin.ret (Res.one rfl (RV.tmp rfl)) ⟨_, rfl, by first | exact ⟨fun h => by omega, fun h => absurd (all_len (by omega) hal) h⟩ | exact ⟨fun _ => not_all_getD (i := i) (by omega) 0 (by assumption), fun _ => by omega⟩⟩
  ·refine W.skip (W.region (WO.ar rfl rfl rfl (by unfold in64; omega) rfl (WO.p rfl rfl (WO.nil ?_))))
   refine' ⟨i + 1, ?hp, ?hmu, ⟨rfl, rfl, rfl, rfl, trivial⟩, ?hS⟩
   case hS => repeat (first | exact Sub.nil | refine Sub.cons (by repeat first | exact .head | apply Pick.tail) ?_)
   case hp => exact ⟨by omega, all_succ (by omega) 0 hal (Decidable.not_not.1 (by assumption))⟩
   case hmu => omega
 ·refine W.exit (blk_same (W.sreg (WO.p rfl rfl (WO.nil (W.ret ?_)))))
  exact fin.ret (Res.one rfl (RV.tmp rfl)) ⟨_, rfl, by first | exact ⟨fun h => by omega, fun h => absurd (all_len (by omega) hal) h⟩ | exact ⟨fun _ => not_all_getD (i := i) (by omega) 0 (by assumption), fun _ => by omega⟩⟩
theorem c_ContI (w : World) (v : Value) (xs : List Int) (lo hi : Int) (p q : Addr) (hR : RdF encI 1 w.heap.size w v xs) (h1 : Cap w p (.int .i64 lo)) (h2 : Cap w q (.int .i64 hi)) : Ret Tryz.prog 125 [v, .func (.func 247) #[] #[.pointer (some p), .pointer (some q)]].toArray w (.bool (bl (¬ ∀ x ∈ xs, lo ≤ x ∧ x ≤ hi))) := by
 refine Ret.of mixed tyTab Tryz.func125 rfl rfl ?_
 replace hR : RdF encI 1 (fnCx mixed tyTab Tryz.f125.ntmps w).B (fnCx mixed tyTab Tryz.f125.ntmps w).w0 v xs := hR
 replace h1 : Cap (fnCx mixed tyTab Tryz.f125.ntmps w).w0 p (.int .i64 lo) := h1
 replace h2 : Cap (fnCx mixed tyTab Tryz.f125.ntmps w).w0 q (.int .i64 hi) := h2
 refine W.sreg (WO.p rfl rfl (WO.nil (W.sreg (WO.p rfl rfl (WO.p rfl rfl (WO.callE rfl Tryz.call222 (fun L w hi' => c_IndexI w v xs lo hi p q (hR.later hi') (h1.old rfl hi') (h2.old rfl hi')) rfl ?_))))))
 rintro _ ⟨n, rfl, hn⟩
 refine WO.p rfl rfl (WO.p rfl rfl (WO.nil (W.ret (fin.ret (Res.one rfl (RV.tmp rfl)) (congrArg Value.bool ?_)))))
 rw [bl_eq, bl_eq]; exact decide_eq_decide.2 hn
theorem c_within (w : World) (v : Value) (xs : List Int) (lo hi : Int) (hR : RdF encI 1 w.heap.size w v xs) : Ret Tryz.prog 171 [.int .i64 lo, .int .i64 hi, v].toArray w (.bool (bl (∀ x ∈ xs, lo ≤ x ∧ x ≤ hi))) := by
 refine Ret.of mixed tyTab Tryz.func171 rfl rfl ?_
 replace hR : RdF encI 1 (fnCx mixed tyTab Tryz.f171.ntmps w).B (fnCx mixed tyTab Tryz.f171.ntmps w).w0 v xs := hR
 refine W.sreg (WO.box1 rfl (by first | rfl | assumption) rfl (fun b1 hb1 => (WO.box1 rfl (by first | rfl | assumption) rfl (fun b2 hb2 => (WO.p rfl rfl (WO.nil (W.sreg (WO.p rfl rfl (WO.p rfl rfl (WO.callR rfl Tryz.call125 (fun L w hi' => c_ContI w v xs lo hi _ _ (hR.later hi') (Cap.of (b := b1) (by repeat first | exact .head | apply Pick.tail) rfl hi') (Cap.of (b := b2) (by repeat first | exact .head | apply Pick.tail) rfl hi')) rfl (WO.p rfl rfl (WO.p rfl rfl (WO.nil (W.ret (fin.ret (Res.one rfl (RV.tmp rfl)) (congrArg Value.bool ?_))))))))))))))))
 rcases Decidable.em (∀ x ∈ xs, lo ≤ x ∧ x ≤ hi) with h | h
 ·(rw [bl_t.2 h, bl_f.2 (fun g => g h)]; try rfl)
 ·(rw [bl_f.2 h, bl_t.2 h]; try rfl)
end Go.Proofs.YtnehaifgcegemaaGreat.Tu
namespace Go.Proofs.YtnehaifgcegemaaGreat.Tu
open Go Go.TH
attribute [local irreducible] W WO pt
set_option maxRecDepth 10000
set_option maxHeartbeats 1000000
theorem all2 {lo hi x z : Int} : bl (∀ y ∈ [x, z], lo ≤ y ∧ y ≤ hi) = bl (lo ≤ x ∧ x ≤ hi ∧ lo ≤ z ∧ z ≤ hi) := by rw [bl_eq, bl_eq, decide_eq_decide]; simp; omega
theorem c_isPlace (w : World) (p : Int × Int) : Ret Tryz.prog 85 [.agg #[.int .i64 p.1, .int .i64 p.2]].toArray w (.bool (bl (OkP p))) := by
 refine Ret.of mixed tyTab Tryz.func85 rfl rfl (W.sreg (WO.boxA rfl rfl (fun b1 hb1 => (WO.p rfl rfl (WO.nil (W.sreg (WO.field0 rfl rfl rfl (WO.load rfl rfl (Cell.own Pick.head rfl) rfl (WO.fieldL rfl rfl rfl (WO.load rfl rfl (Cell.own Pick.head rfl) rfl ?_))))))))))
 refine' WO.buildSl (cs := _) rfl rfl rfl rfl ?hf rfl rfl ?hl rfl (fun v2 => ?_)
 case hf => rfl
 case hl => rfl
 refine WO.callR (r := .bool (bl (-100 ≤ p.1 ∧ p.1 ≤ 100 ∧ -100 ≤ p.2 ∧ p.2 ≤ 100))) rfl Tryz.call171 (fun L w hi => by rw [← all2]; exact c_within w _ [p.1, p.2] _ _ (RdF.of_ow (e := 2) encI_ok (by repeat first | exact .head | apply Pick.tail) hi)) rfl (WO.p rfl rfl (WO.nil (W.ret (fin.ret (Res.one rfl (RV.tmp rfl)) (congrArg Value.bool ?_)))))
 rw [bl_eq, bl_eq, decide_eq_decide]; unfold OkP; omega
theorem c_track1 (w : World) (p : Int × Int) : Ret Tryz.prog 142 [.agg #[.int .i64 p.1, .int .i64 p.2]].toArray w (.bool (bl (¬ OkP p))) := by
 refine Ret.of mixed tyTab Tryz.func142 rfl rfl (W.sreg (WO.boxA rfl rfl (fun b1 hb1 => (WO.p rfl rfl (WO.nil (W.sreg (WO.loadA rfl rfl (Cells.own Pick.head) rfl rfl (WO.callR rfl Tryz.call85 (fun L w hi => c_isPlace w p) rfl (WO.p rfl rfl (WO.p rfl rfl (WO.nil (W.ret (fin.ret (Res.one rfl (RV.tmp rfl)) (congrArg Value.bool ?_))))))))))))))
 rcases Decidable.em (OkP p) with h | h
 ·(rw [bl_t.2 h, bl_f.2 (fun g => g h)]; try rfl)
 ·(rw [bl_f.2 h, bl_t.2 h]; try rfl)
theorem c_IndexP (w : World) (v : Value) (l : List (Int × Int)) (hR : RdF encP 2 w.heap.size w v l) : RetE Tryz.prog 227 [v, .func (.func 142) #[] #[]].toArray w (fun r => ∃ n : Int, r = .int .i64 n ∧ (0 ≤ n ↔ ¬ OkL l)) := by
 refine RetE.of mixed tyTab Tryz.func227 rfl rfl ?_
 replace hR : RdF encP 2 (fnCx mixed tyTab Tryz.f227.ntmps w).B (fnCx mixed tyTab Tryz.f227.ntmps w).w0 v l := hR
 have hle := hR.sl.le
 refine W.sreg (WO.p rfl rfl (WO.nil (W.seq (W.sreg (WO.p rfl rfl ?_)))))
 refine' WO.len (n := _) rfl rfl ?hs rfl ?_
 case hs => exact hR.sl
 refine WO.p rfl rfl (WO.nil (W.block ?_))
 refine W.loop (fun (i : Nat) => i ≤ l.length ∧ OkL (l.take i))
  (fun (i : Nat) => [(8, .int .i64 (i : Int)), (7, .int .i64 (l.length : Int)), (0, v), (1, .func (.func 142) #[] #[])])
  (fun (i : Nat) => [])
  (fun (i : Nat) => l.length - i) 0
  (by exact ⟨by omega, fun x hx => by simp at hx⟩) ⟨rfl, rfl, rfl, rfl, trivial⟩ (by repeat (first | exact Sub.nil | refine Sub.cons (by repeat first | exact .head | apply Pick.tail) ?_)) ?_
 rintro i ⟨hi0, hal⟩
 refine W.sreg (WO.p rfl rfl (WO.nil (W.seq ?_)))
 refine W.cond_bl rfl (fun c1 => ?_) (fun c1 => ?_)
 ·refine W.skip (W.seq (W.block (W.sreg (WO.p rfl rfl (WO.p rfl rfl (WO.nil (W.sreg (WO.p rfl rfl (WO.p rfl rfl (WO.p rfl rfl ?_))))))))))
  refine' WO.indexAddr (n := _) (i := _) rfl rfl rfl ?hs ?h1 rfl ?_
  case hs => exact hR.sl
  case h1 => (first | omega | (simp; omega))
  refine' WO.loadA (vs := _) rfl rfl ?hc ?hl rfl ?_
  case hc => exact RdF.cells2 hR (i := i) (by omega)
  case hl => rfl
  refine WO.callCR (first := []) (captured := []) rfl rfl Tryz.call142 (fun L w hi' => c_track1 w (l.getD i (0, 0))) rfl (WO.nil ?_)
  refine W.cond_bl rfl (fun c2 => ?_) (fun c2 => ?_)
  ·refine W.sreg (WO.p rfl rfl (WO.p rfl rfl (WO.nil (W.ret ?_))))
   exact fin.ret (Res.one rfl (RV.tmp rfl)) ⟨_, rfl, by first | exact ⟨fun h => by omega, fun h => absurd (all_len (by omega) hal) h⟩ | exact ⟨fun _ => not_all_getD (i := i) (by omega) (0, 0) (by assumption), fun _ => by omega⟩⟩
  ·refine W.skip (W.region (WO.ar rfl rfl rfl (by unfold in64; omega) rfl (WO.p rfl rfl (WO.nil ?_))))
   refine' ⟨i + 1, ?hp, ?hmu, ⟨rfl, rfl, rfl, rfl, trivial⟩, ?hS⟩
   case hS => repeat (first | exact Sub.nil | refine Sub.cons (by repeat first | exact .head | apply Pick.tail) ?_)
   case hp => exact ⟨by omega, all_succ (by omega) (0, 0) hal (Decidable.not_not.1 (by assumption))⟩
   case hmu => omega
 ·refine W.exit (blk_same (W.sreg (WO.p rfl rfl (WO.nil (W.ret ?_)))))
  exact fin.ret (Res.one rfl (RV.tmp rfl)) ⟨_, rfl, by first | exact ⟨fun h => by omega, fun h => absurd (all_len (by omega) hal) h⟩ | exact ⟨fun _ => not_all_getD (i := i) (by omega) (0, 0) (by assumption), fun _ => by omega⟩⟩
theorem c_ContP (w : World) (v : Value) (l : List (Int × Int)) (hR : RdF encP 2 w.heap.size w v l) : Ret Tryz.prog 141 [v, .func (.func 142) #[] #[]].toArray w (.bool (bl (¬ OkL l))) := by
 refine Ret.of mixed tyTab Tryz.func141 rfl rfl ?_
 replace hR : RdF encP 2 (fnCx mixed tyTab Tryz.f141.ntmps w).B (fnCx mixed tyTab Tryz.f141.ntmps w).w0 v l := hR
 refine W.sreg (WO.p rfl rfl (WO.nil (W.sreg (WO.p rfl rfl (WO.p rfl rfl (WO.callE rfl Tryz.call227 (fun L w hi' => c_IndexP w v l (hR.later hi')) rfl ?_))))))
 rintro _ ⟨n, rfl, hn⟩
 refine WO.p rfl rfl (WO.p rfl rfl (WO.nil (W.ret (fin.ret (Res.one rfl (RV.tmp rfl)) (congrArg Value.bool ?_)))))
 rw [bl_eq, bl_eq]; exact decide_eq_decide.2 hn
theorem c_CheckTrack (w : World) (v : Value) (l : List (Int × Int)) (hR : RdF encP 2 w.heap.size w v l) : Ret Tryz.prog 61 [v].toArray w (.int .i64 (chkL l)) := by
 refine Ret.of mixed tyTab Tryz.func61 rfl rfl ?_
 replace hR : RdF encP 2 (fnCx mixed tyTab Tryz.f61.ntmps w).B (fnCx mixed tyTab Tryz.f61.ntmps w).w0 v l := hR
 refine W.sreg (WO.p rfl rfl (WO.nil (W.seq (W.block (W.sreg (WO.p rfl rfl ?_))))))
 refine' WO.len (n := _) rfl rfl ?hs rfl ?_
 case hs => exact hR.sl
 refine WO.p rfl rfl (WO.p rfl rfl ?_)
 refine WO.guard_bl rfl rfl (fun c1 => ?_) (fun c1 => ?_)
 ·refine WO.no rfl rfl (WO.no rfl rfl (WO.no rfl rfl (WO.p rfl rfl (WO.p rfl rfl (WO.nil (W.cond_t rfl (W.sreg (WO.p rfl rfl (WO.nil (W.ret (fin.ret (Res.one rfl (RV.tmp rfl)) (congrArg (Value.int .i64) ?_))))))))))))
  first | (unfold chkL; rw [if_pos (by omega)]; done) | (unfold chkL; rw [if_neg (by omega), if_neg (by assumption)]; done) | (unfold chkL; rw [if_neg (by omega), if_pos (Decidable.not_not.1 (by assumption))]; done)
 ·refine WO.pg rfl rfl rfl (WO.go' rfl ?_)
  refine' WO.len (n := _) rfl rfl ?hs rfl ?_
  case hs => exact hR.sl
  refine WO.pg rfl rfl rfl (WO.p rfl rfl (WO.p rfl rfl (WO.nil ?_)))
  refine W.cond_bl rfl (fun c2 => ?_) (fun c2 => ?_)
  ·refine W.sreg (WO.p rfl rfl (WO.nil (W.ret (fin.ret (Res.one rfl (RV.tmp rfl)) (congrArg (Value.int .i64) ?_)))))
   first | (unfold chkL; rw [if_pos (by omega)]; done) | (unfold chkL; rw [if_neg (by omega), if_neg (by assumption)]; done) | (unfold chkL; rw [if_neg (by omega), if_pos (Decidable.not_not.1 (by assumption))]; done)
  ·refine W.sreg (WO.p rfl rfl (WO.callR rfl Tryz.call141 (fun L w hi' => c_ContP w v l (hR.later hi')) rfl (WO.p rfl rfl (WO.nil ?_))))
   refine W.cond_bl rfl (fun c3 => ?_) (fun c3 => ?_)
   ·refine W.sreg (WO.p rfl rfl (WO.nil (W.ret (fin.ret (Res.one rfl (RV.tmp rfl)) (congrArg (Value.int .i64) ?_)))))
    first | (unfold chkL; rw [if_pos (by omega)]; done) | (unfold chkL; rw [if_neg (by omega), if_neg (by assumption)]; done) | (unfold chkL; rw [if_neg (by omega), if_pos (Decidable.not_not.1 (by assumption))]; done)
   ·refine W.skip (W.sreg (WO.p rfl rfl (WO.nil (W.ret (fin.ret (Res.one rfl (RV.tmp rfl)) (congrArg (Value.int .i64) ?_))))))
    first | (unfold chkL; rw [if_pos (by omega)]; done) | (unfold chkL; rw [if_neg (by omega), if_neg (by assumption)]; done) | (unfold chkL; rw [if_neg (by omega), if_pos (Decidable.not_not.1 (by assumption))]; done)
end Go.Proofs.YtnehaifgcegemaaGreat.Tu
namespace Go.Proofs.YtnehaifgcegemaaGreat.Tu
open Go Go.TH
attribute [local irreducible] W WO pt
set_option maxRecDepth 10000
set_option maxHeartbeats 1000000
theorem c_newPoint (w : World) (p : Int × Int) : Ret Tryz.prog 87 [.agg #[.int .i64 p.1, .int .i64 p.2]].toArray w (.agg #[.int .i64 p.1, .int .i64 p.2]) := by
 refine Ret.of mixed tyTab Tryz.func87 rfl rfl (W.sreg (WO.boxA rfl rfl (fun b1 hb1 => (WO.alloc rfl rfl rfl (fun b2 hb2 => (WO.nil (W.sreg (WO.field0 rfl rfl rfl (WO.load rfl rfl (Cell.own (Pick.tail (Pick.head)) rfl) rfl (WO.fieldL rfl rfl rfl (WO.load rfl rfl (Cell.own (Pick.tail (Pick.head)) rfl) rfl ?_)))))))))))
 refine' WO.build (cs := _) rfl rfl rfl ?hf rfl ?_
 case hf => rfl
 refine WO.storeA rfl rfl rfl rfl Pick.head rfl rfl (WO.nil (W.ret ?_))
 exact fin.ret (Res.one rfl (RV.cell rfl rfl rfl (Cells.own Pick.head))) rfl
end Go.Proofs.YtnehaifgcegemaaGreat.Tu
namespace Go.Proofs.YtnehaifgcegemaaGreat.Tu
open Go Go.TH
attribute [local irreducible] W WO pt
set_option maxRecDepth 10000
set_option maxHeartbeats 1000000
theorem sqL2 (u v : Int) : sqL [u, v] = u * u + v * v := by unfold sqL; simp
theorem c_where (w : World) (c : Cir) (o : Value) (ho : o.oneCell' = true) (p : Int × Int) (hc : OkR c) (hp : OkP p) : Ret Tryz.prog 224 [.agg #[.int .i64 c.x, .int .i64 c.y, .int .i64 c.den, .int .i64 c.n, .int .i64 c.d, o], .agg #[.int .i64 p.1, .int .i64 p.2]].toArray w (.int .i64 (whr c p)) := by
 refine Ret.of mixed tyTab Tryz.func224 rfl rfl ?_
 have h1 := mul100 hp.1 hc.den
 have h2 := mul100 hp.2 hc.den
 have h3 := den_b hc.den
 have h4 := hc.x
 have h5 := hc.y
 have h6 := hc.n
 have h7 := hc.d
 have h8 := hc.den
 have q1 := sq_b (x := p.1 * c.den - c.x) (by omega)
 have q2 := sq_b (x := p.2 * c.den - c.y) (by omega)
 refine W.sreg (WO.boxA rfl rfl (fun b1 hb1 => (WO.boxA rfl rfl (fun b2 hb2 => (WO.p rfl rfl (WO.nil (W.seq ?_)))))))
 refine W.drawD 37 [.r 0 [], .b 1 [], .r 2 [], .r 3 [], .b 4 [], .r 5 [], .r 6 [], .r 7 [], .b 8 [], .r 9 [], .r 10 [], .b 11 [], .r 12 [], .r 13 [], .b 14 [], .r 15 [], .r 16 [], .r 17 [], .b 18 [], .r 19 [], .r 22 [], .r 23 [], .b 24 [], .r 25 [], .r 26 [], .b 27 [], .r 28 [], .r 29 [], .r 30 [], .r 31 [], .b 32 [], .r 33 [], .r 34 [], .r 35 [], .b 36 [], .c 20 [], .f 21 []] [] (A0 := []) (Sub.refl _) (by kernel_rfl) ?_ ?_
 ·repeat constructor
 refine DT.r rfl rfl rfl (WO.indexArrL (o' := 0) rfl rfl rfl (by decide) rfl rfl (WO.nil ⟨rfl, rfl⟩)) (DT.b rfl rfl rfl (WO.load rfl rfl (Cell.own Pick.head rfl) rfl (WO.nil ⟨rfl, rfl⟩)) (DT.r rfl rfl rfl (WO.field0 rfl rfl rfl (WO.nil ⟨rfl, rfl⟩)) (DT.r rfl rfl rfl (WO.fieldL rfl rfl rfl (WO.nil ⟨rfl, rfl⟩)) (DT.b rfl rfl rfl (WO.load rfl rfl (Cell.own (Pick.tail (Pick.head)) rfl) rfl (WO.nil ⟨rfl, rfl⟩)) (DT.r rfl rfl rfl (WO.ar rfl rfl rfl (by unfold in64; omega) rfl (WO.nil ⟨rfl, rfl⟩)) (DT.r rfl rfl rfl (WO.field0 rfl rfl rfl (WO.nil ⟨rfl, rfl⟩)) (DT.r rfl rfl rfl (WO.field0 rfl rfl rfl (WO.nil ⟨rfl, rfl⟩)) ?_)))))))
 refine DT.b rfl rfl rfl (WO.load rfl rfl (Cell.own (Pick.tail (Pick.head)) rfl) rfl (WO.nil ⟨rfl, rfl⟩)) (DT.r rfl rfl rfl (WO.ar rfl rfl rfl (by unfold in64; omega) rfl (WO.nil ⟨rfl, rfl⟩)) (DT.r rfl rfl rfl (WO.indexArrL (o' := 1) rfl rfl rfl (by decide) rfl rfl (WO.nil ⟨rfl, rfl⟩)) (DT.b rfl rfl rfl (WO.load rfl rfl (Cell.own Pick.head rfl) rfl (WO.nil ⟨rfl, rfl⟩)) (DT.r rfl rfl rfl (WO.field0 rfl rfl rfl (WO.nil ⟨rfl, rfl⟩)) (DT.r rfl rfl rfl (WO.fieldL rfl rfl rfl (WO.nil ⟨rfl, rfl⟩)) (DT.b rfl rfl rfl (WO.load rfl rfl (Cell.own (Pick.tail (Pick.head)) rfl) rfl (WO.nil ⟨rfl, rfl⟩)) (DT.r rfl rfl rfl (WO.ar rfl rfl rfl (by unfold in64; omega) rfl (WO.nil ⟨rfl, rfl⟩)) ?_)))))))
 refine DT.r rfl rfl rfl (WO.field0 rfl rfl rfl (WO.nil ⟨rfl, rfl⟩)) (DT.r rfl rfl rfl (WO.fieldL rfl rfl rfl (WO.nil ⟨rfl, rfl⟩)) (DT.b rfl rfl rfl (WO.load rfl rfl (Cell.own (Pick.tail (Pick.head)) rfl) rfl (WO.nil ⟨rfl, rfl⟩)) (DT.r rfl rfl rfl (WO.ar rfl rfl rfl (by unfold in64; omega) rfl (WO.nil ⟨rfl, rfl⟩)) (DT.r rfl rfl rfl (WO.field0 rfl rfl rfl (WO.nil ⟨rfl, rfl⟩)) (DT.r rfl rfl rfl (WO.fieldL rfl rfl rfl (WO.nil ⟨rfl, rfl⟩)) (DT.b rfl rfl rfl (WO.load rfl rfl (Cell.own (Pick.tail (Pick.head)) rfl) rfl (WO.nil ⟨rfl, rfl⟩)) (DT.r rfl rfl rfl (WO.field0 rfl rfl rfl (WO.nil ⟨rfl, rfl⟩)) (DT.r rfl rfl rfl (WO.fieldL rfl rfl rfl (WO.nil ⟨rfl, rfl⟩)) ?_))))))))
 refine DT.b rfl rfl rfl (WO.load rfl rfl (Cell.own (Pick.tail (Pick.head)) rfl) rfl (WO.nil ⟨rfl, rfl⟩)) (DT.r rfl rfl rfl (WO.ar rfl rfl rfl (by unfold in64; omega) rfl (WO.nil ⟨rfl, rfl⟩)) (DT.r rfl rfl rfl (WO.field0 rfl rfl rfl (WO.nil ⟨rfl, rfl⟩)) (DT.r rfl rfl rfl (WO.fieldL rfl rfl rfl (WO.nil ⟨rfl, rfl⟩)) (DT.r rfl rfl rfl (WO.field0 rfl rfl rfl (WO.nil ⟨rfl, rfl⟩)) (DT.b rfl rfl rfl (WO.load rfl rfl (Cell.own (Pick.tail (Pick.head)) rfl) rfl (WO.nil ⟨rfl, rfl⟩)) (DT.r rfl rfl rfl (WO.field0 rfl rfl rfl (WO.nil ⟨rfl, rfl⟩)) (DT.r rfl rfl rfl (WO.fieldL rfl rfl rfl (WO.nil ⟨rfl, rfl⟩)) (DT.r rfl rfl rfl (WO.fieldL rfl rfl rfl (WO.nil ⟨rfl, rfl⟩)) ?_))))))))
 refine DT.b rfl rfl rfl (WO.load rfl rfl (Cell.own (Pick.tail (Pick.head)) rfl) rfl (WO.nil ⟨rfl, rfl⟩)) (DT.c [_, _] rfl rfl rfl rfl (WO.buildSl rfl rfl rfl rfl rfl rfl rfl rfl rfl (fun v3 => ?_)))
 refine WO.nil ⟨_, [_], rfl, rfl, (Keep.b (Keep.r (Keep.r (Keep.r (Keep.b (Keep.r (Keep.r (Keep.r (Keep.r (Keep.b (Keep.r (Keep.r (Keep.b (Keep.r (Keep.r (Keep.r (Keep.b (Keep.r (Keep.r (Keep.r (Keep.b (Keep.r (Keep.r (Keep.b (Keep.r (Keep.r (Keep.b (Keep.r (Keep.r (Keep.r (Keep.b (Keep.r (Keep.r (Keep.b (Keep.r Keep.nil))))))))))))))))))))))))))))))))))), ?_⟩
 refine DT.f [_, _, _] rfl rfl rfl rfl (WO.callR (r := .int .i64 ((p.1 * c.den - c.x) * (p.1 * c.den - c.x) + (p.2 * c.den - c.y) * (p.2 * c.den - c.y))) rfl Tryz.call172 (fun L w hi => by rw [← sqL2]; exact c_squares w _ [p.1 * c.den - c.x, p.2 * c.den - c.y] (RdF.of_ow (e := 2) encI_ok (by repeat first | exact .head | apply Pick.tail) hi) (by simp) (by simp; omega)) rfl (WO.nil ⟨rfl, rfl⟩)) (DT.nil [_, _, _] rfl (WO.callR rfl Tryz.call251 (fun L w hi => c_compare w _ _ c.n c.d (by omega) (by omega) (by omega) (by omega) (by unfold in64; omega) (by unfold in64; omega) (by unfold in64; omega) (by unfold in64; omega)) rfl (WO.p rfl rfl (WO.nil (W.ret ?_)))))
 exact fin.ret (Res.one rfl (RV.tmp rfl)) rfl
end Go.Proofs.YtnehaifgcegemaaGreat.Tu
namespace Go.Proofs.YtnehaifgcegemaaGreat.Tu
open Go Go.TH
attribute [local irreducible] W WO pt
set_option maxRecDepth 10000
set_option maxHeartbeats 1000000
theorem isSl_lit {a0 : Option Addr} {n c : Nat} (h : n ≤ 9223372036854775807) (h2 : 0 < n → ∃ b o, a0 = some ⟨b, o, none⟩) : IsSl (.slice a0 n c) n := ⟨h, a0, c, rfl, h2⟩
theorem c_points (w : World) (v : Value) (l : List (Int × Int)) (hR : RdF encP 2 w.heap.size w v l) (hl : l.length ≤ 1000) : Ct Tryz.prog 63 [v].toArray w fun r w' => ∃ Hq, (Hq = [OwE encP 152 2 r l]) ∧ Inv w [] Hq w' := by
 refine Ct.of mixed tyTab Tryz.func63 rfl rfl ?_
 replace hR : RdF encP 2 (fnCx mixed tyTab Tryz.f63.ntmps w).B (fnCx mixed tyTab Tryz.f63.ntmps w).w0 v l := hR
 refine W.sreg (WO.p rfl rfl (WO.nil (W.sreg (WO.p rfl rfl (WO.nil (W.seq (W.sreg (WO.p rfl rfl ?_))))))))
 refine' WO.len (n := _) rfl rfl ?hs rfl ?_
 case hs => exact hR.sl
 refine WO.p rfl rfl (WO.nil (W.block (W.chg (owNil (enc := encP) (e := 152) (sz := 2)) ?_)))
 refine W.loop2 (fun (i : Nat) (x : Value) => i ≤ l.length)
  (fun (i : Nat) (x : Value) => [(8, .int .i64 (i : Int)), (7, .int .i64 (l.length : Int)), (6, v), (3, x)])
  (fun (i : Nat) (x : Value) => [OwE encP 152 2 x (l.take i)])
  (fun (i : Nat) (x : Value) => l.length - i) 0 (.slice none 0 0)
  (by omega) ⟨rfl, rfl, rfl, rfl, trivial⟩ (by repeat (first | exact Sub.nil | refine Sub.cons (by repeat first | exact .head | apply Pick.tail) ?_)) ?_
 rintro i x hi0
 refine W.sreg (WO.p rfl rfl (WO.nil (W.seq ?_)))
 refine W.cond_bl rfl (fun c1 => ?_) (fun c1 => ?_)
 ·refine W.skip (W.seq (W.block (W.sreg ?_)))
  refine' WO.indexAddr (n := _) (i := _) rfl rfl rfl ?hs ?h1 rfl ?_
  case hs => exact hR.sl
  case h1 => (first | omega | (simp; omega))
  refine' WO.loadA (vs := _) rfl rfl ?hc ?hl rfl ?_
  case hc => exact RdF.cells2 hR (i := i) (by omega)
  case hl => rfl
  refine WO.alloc rfl rfl rfl (fun b1 hb1 => (WO.storeA rfl rfl rfl rfl Pick.head rfl rfl (WO.nil (W.region (WO.p rfl rfl (WO.loadA rfl rfl (Cells.own Pick.head) rfl rfl (WO.callR rfl Tryz.call87 (fun L w hi => c_newPoint w (l.getD i (0, 0))) rfl ?_)))))))
  refine' WO.buildSl (cs := _) rfl rfl rfl rfl ?hf rfl rfl ?hl rfl (fun v2 => ?_)
  case hf => rfl
  case hl => rfl
  refine' WO.appendE (enc := encP) (m := 1) (ys := [l.getD i (0, 0)]) encP_ok rfl rfl rfl rfl rfl (by repeat first | exact .head | apply Pick.tail) (isSl_lit (by omega) (fun _ => ⟨_, _, rfl⟩)) (by omega) rfl (OwC.cells .head) (by rw [List.length_take]; omega) (by rw [List.length_take]; omega) rfl (fun g c => ?_)
  rw [← take_succ_getD (l := l) (i := i) (by omega) (0, 0)]
  refine WO.p rfl rfl (WO.nil (W.region (WO.ar rfl rfl rfl (by unfold in64; omega) rfl (WO.p rfl rfl (WO.nil ?_)))))
  refine' ⟨i + 1, _, ?hp, ?hmu, ⟨rfl, rfl, rfl, rfl, trivial⟩, ?hS⟩
  case hS => repeat (first | exact Sub.nil | refine Sub.cons (by repeat first | exact .head | apply Pick.tail) ?_)
  case hp => omega
  case hmu => omega
 ·refine W.exit (blk_same ?_)
  obtain rfl : i = l.length := by omega
  rw [List.take_length]
  refine W.sreg (WO.p rfl rfl (WO.p rfl rfl (WO.nil (W.ret ?_))))
  exact fin.ret (Res.one rfl (RV.tmp rfl)) rfl
end Go.Proofs.YtnehaifgcegemaaGreat.Tu
namespace Go.Proofs.YtnehaifgcegemaaGreat.Tu
open Go Go.TH
attribute [local irreducible] W WO pt
set_option maxRecDepth 10000
set_option maxHeartbeats 1000000
def gcdA (xs : List Int) : Int := xs.foldl (fun g x => gcd2 g (ab x)) 0
theorem c_common (w : World) (v : Value) (xs : List Int) (hR : RdF encI 1 w.heap.size w v xs) (hp : ∀ x ∈ xs, in64 (-x)) :
 Ret Tryz.prog 248 [v].toArray w (.int .i64 (gcdA xs)) := by
 refine Ret.of mixed tyTab Tryz.func248 rfl rfl ?_
 replace hR : RdF encI 1 (fnCx mixed tyTab Tryz.f248.ntmps w).B (fnCx mixed tyTab Tryz.f248.ntmps w).w0 v xs := hR
 have hle := hR.sl.le
 refine W.sreg (WO.p rfl rfl (WO.nil (W.sreg (WO.p rfl rfl (WO.nil (W.seq (W.sreg (WO.p rfl rfl (WO.len rfl rfl hR.sl rfl (WO.p rfl rfl (WO.nil (W.block ?_))))))))))))
 refine W.loop2 (fun (i : Nat) (d : Int) => i ≤ xs.length ∧ 0 ≤ d ∧ d = (xs.take i).foldl (fun g x => gcd2 g (ab x)) 0)
  (fun (i : Nat) (d : Int) => [(8, .int .i64 (i : Int)), (7, .int .i64 (xs.length : Int)), (6, v), (3, .int .i64 d)])
  (fun (i : Nat) (d : Int) => [])
  (fun (i : Nat) (d : Int) => xs.length - i) 0 0
  (by exact ⟨by omega, by omega, rfl⟩) ⟨rfl, rfl, rfl, rfl, trivial⟩ (by repeat (first | exact Sub.nil | refine Sub.cons (by repeat first | exact .head | apply Pick.tail) ?_)) ?_
 rintro i d ⟨hi, hd0, hd⟩
 refine W.sreg (WO.p rfl rfl (WO.nil (W.seq ?_)))
 refine W.cond_bl rfl (fun c1 => ?_) (fun c1 => ?_)
 ·refine W.skip (W.seq (W.block (W.sreg (WO.indexAddr rfl rfl rfl hR.sl (by first | omega | (simp; omega)) rfl ?_))))
  refine' WO.load (v := _) rfl rfl ?hc rfl ?_
  case hc => (first | (refine hR.cell0 ?_ 0 ?_ <;> first | rfl | omega))
  refine WO.p rfl rfl (WO.nil (W.sreg (WO.p rfl rfl (WO.p rfl rfl (WO.neg rfl (by (first | (unfold in64; omega) | exact hp _ (getD_mem (by omega) 0) | (unfold in64; omega))) rfl (WO.max2 rfl rfl rfl (WO.p rfl rfl (WO.nil (W.block ?_)))))))))
  refine W.loop2 (fun (x : Int) (y : Int) => 0 ≤ x ∧ 0 ≤ y ∧ gcd2 x y = gcd2 d (ab (xs.getD i 0)))
   (fun (x : Int) (y : Int) => [(3, .int .i64 x), (5, .int .i64 y), (8, .int .i64 (i : Int)), (7, .int .i64 (xs.length : Int)), (6, v)])
   (fun (x : Int) (y : Int) => [])
   (fun (x : Int) (y : Int) => y.toNat) d (max (xs.getD i 0) (-(xs.getD i 0)))
   (by exact ⟨hd0, ab_nn _, rfl⟩) ⟨rfl, rfl, rfl, rfl, rfl, trivial⟩ (by repeat (first | exact Sub.nil | refine Sub.cons (by repeat first | exact .head | apply Pick.tail) ?_)) ?_
  rintro x y ⟨hx, hy, hg⟩
  refine W.seq (W.sreg (WO.p rfl rfl (WO.p rfl rfl (WO.nil ?_))))
  refine W.cond_bl rfl (fun c2 => ?_) (fun c2 => ?_)
  ·refine W.skip (W.block ?_)
   refine W.drawD 5 [.r 0 [], .r 1 [], .r 2 [3], .r 3 [3], .r 4 [3]] [3] (A0 := []) (Sub.refl _) (by kernel_rfl) ?_ ?_
   ·repeat constructor
   refine DT.r rfl rfl rfl (WO.p rfl rfl (WO.nil ⟨rfl, rfl⟩)) (DT.r rfl rfl rfl (WO.p rfl rfl (WO.nil ⟨rfl, rfl⟩)) (DT.r rfl rfl rfl (WO.p rfl rfl (WO.nil ⟨rfl, rfl⟩)) (DT.r rfl rfl rfl (WO.rem rfl rfl (by first | omega | assumption) rfl (WO.nil ⟨rfl, rfl⟩)) (DT.r rfl rfl rfl (WO.p rfl rfl (WO.nil ⟨rfl, rfl⟩)) (DT.nil [] rfl (WO.p rfl rfl (WO.nil ?_)))))))
   refine' ⟨_, _, ?hp, ?hmu, ⟨rfl, rfl, rfl, rfl, rfl, trivial⟩, ?hS⟩
   case hS => repeat (first | exact Sub.nil | refine Sub.cons (by repeat first | exact .head | apply Pick.tail) ?_)
   case hp => exact ⟨hy, (tmod_lt hx (by omega)).1, by rw [gcd2_step hx (by omega)]; exact hg⟩
   case hmu => have := tmod_lt hx (show 0 < y by omega); omega
  ·refine W.exit (blk_same (W.region (WO.ar rfl rfl rfl (by (first | (unfold in64; omega) | exact hp _ (getD_mem (by omega) 0) | (unfold in64; omega))) rfl (WO.p rfl rfl (WO.nil ?_)))))
   refine' ⟨i + 1, _, ?hp, ?hmu, ⟨rfl, rfl, rfl, rfl, trivial⟩, ?hS⟩
   case hS => repeat (first | exact Sub.nil | refine Sub.cons (by repeat first | exact .head | apply Pick.tail) ?_)
   case hp => exact ⟨by omega, hx, by rw [take_succ_getD (by omega) 0, List.foldl_append, ← hd]; show x = gcd2 d (ab (xs.getD i 0)); rw [← hg, show y = 0 by omega, gcd2_zero hx]⟩
   case hmu => omega
 ·refine W.exit (blk_same (W.sreg (WO.p rfl rfl (WO.p rfl rfl (WO.nil (W.ret (fin.ret (Res.one rfl (RV.tmp rfl)) ?_)))))))
  obtain rfl : i = xs.length := by omega
  rw [hd, List.take_length]; rfl
end Go.Proofs.YtnehaifgcegemaaGreat.Tu
namespace Go.TH.Dsc
@[ext] structure Dsc where
 x : Rat
 y : Rat
 s : Rat
def f (D : Dsc) (p : Rat × Rat) : Rat := (p.1 - D.x) * (p.1 - D.x) + (p.2 - D.y) * (p.2 - D.y) - D.s
def Hold (D : Dsc) (l : List (Rat × Rat)) : Prop := ∀ p ∈ l, f D p ≤ 0
def On (D : Dsc) (l : List (Rat × Rat)) : Prop := ∀ p ∈ l, f D p = 0
def mix (t : Rat) (D E : Dsc) : Dsc where
 x := (1 - t) * D.x + t * E.x
 y := (1 - t) * D.y + t * E.y
 s := (1 - t) * D.s + t * E.s - t * (1 - t) * ((D.x - E.x) * (D.x - E.x) + (D.y - E.y) * (D.y - E.y))
theorem f_mix (t : Rat) (D E : Dsc) (p : Rat × Rat) : f (mix t D E) p = (1 - t) * f D p + t * f E p := by
 unfold f mix; dsimp only; grind
theorem sq_nn (a : Rat) : 0 ≤ a * a := by
 rcases (Rat.le_total : (0 : Rat) ≤ a ∨ a ≤ 0) with h | h
 ·exact Rat.mul_nonneg h h
 ·have := Rat.mul_nonneg (a := -a) (b := -a) (by grind) (by grind)
  grind
theorem sq_0 {a : Rat} (h : a * a ≤ 0) : a = 0 := by
 have := sq_nn a
 have h2 : a * a = 0 := by grind
 rcases Rat.mul_eq_zero.1 h2 with h | h <;> exact h
theorem s_mix {t : Rat} (D E : Dsc) (h0 : 0 ≤ t) (h1 : t ≤ 1) (h : D.s ≤ E.s) : (mix t D E).s ≤ E.s := by
 unfold mix; dsimp only
 have a := Rat.mul_nonneg (a := t) (b := 1 - t) h0 (by grind)
 have b := Rat.mul_nonneg a (b := (D.x - E.x) * (D.x - E.x) + (D.y - E.y) * (D.y - E.y)) (by have := sq_nn (D.x - E.x); have := sq_nn (D.y - E.y); grind)
 have c := Rat.mul_nonneg (a := 1 - t) (b := E.s - D.s) (by grind) (by grind)
 grind
theorem hold_mix {t : Rat} {D E : Dsc} {l : List (Rat × Rat)} (h0 : 0 ≤ t) (h1 : t ≤ 1) (hD : Hold D l) (hE : Hold E l) : Hold (mix t D E) l := fun p hp => by
 rw [f_mix]
 have a := Rat.mul_nonneg (a := 1 - t) (b := -f D p) (by grind) (by have := hD p hp; grind)
 have b := Rat.mul_nonneg (a := t) (b := -f E p) h0 (by have := hE p hp; grind)
 grind
theorem on_mix {t : Rat} {D E : Dsc} {l : List (Rat × Rat)} (hD : On D l) (hE : On E l) : On (mix t D E) l := fun p hp => by
 rw [f_mix, hD p hp, hE p hp]; grind
structure Best (l R : List (Rat × Rat)) (D : Dsc) : Prop where
 hold : Hold D l
 on : On D R
 min : ∀ E, Hold E l → On E R → D.s ≤ E.s
theorem Best.uniq {l R : List (Rat × Rat)} {D E : Dsc} (h : Best l R D) (hE : Hold E l) (oE : On E R) (hs : E.s ≤ D.s) : E = D := by
 have hm := h.min (mix (1/2) D E) (hold_mix (by grind) (by grind) h.hold hE) (on_mix h.on oE)
 have he := h.min E hE oE
 have hx := sq_nn (D.x - E.x)
 have hy := sq_nn (D.y - E.y)
 unfold mix at hm
 dsimp only at hm
 have h1 : (D.x - E.x) * (D.x - E.x) ≤ 0 := by grind
 have h2 : (D.y - E.y) * (D.y - E.y) ≤ 0 := by grind
 have h3 := sq_0 h1
 have h4 := sq_0 h2
 apply Dsc.ext <;> grind
theorem cut {D E : Dsc} {p : Rat × Rat} (hD : 0 < f D p) (hE : f E p ≤ 0) : ∃ t : Rat, 0 ≤ t ∧ t ≤ 1 ∧ f (mix t D E) p = 0 := by
 have h3 : 0 < f D p - f E p := by grind
 have hi : 0 < (f D p - f E p)⁻¹ := Rat.inv_pos.2 h3
 have h4 : (f D p - f E p) * (f D p - f E p)⁻¹ = 1 := Rat.mul_inv_cancel _ (by grind)
 have h5 := Rat.mul_nonneg (a := -f E p) (b := (f D p - f E p)⁻¹) (by grind) (by grind)
 refine ⟨f D p * (f D p - f E p)⁻¹, Rat.mul_nonneg (by grind) (by grind), by grind, ?_⟩
 rw [f_mix]; grind
theorem Best.step {l R : List (Rat × Rat)} {D E : Dsc} {p : Rat × Rat} (h : Best l R D) (hp : 0 < f D p) (hE : Hold E l) (hEp : f E p ≤ 0) (oE : On E R) : ∃ E', Hold E' l ∧ On E' (p :: R) ∧ E'.s ≤ E.s := by
 obtain ⟨t, t0, t1, ht⟩ := cut hp hEp
 refine ⟨mix t D E, hold_mix t0 t1 h.hold hE, fun q hq => ?_, s_mix D E t0 t1 (h.min E hE oE)⟩
 rcases List.mem_cons.1 hq with rfl | hq
 ·exact ht
 ·exact on_mix h.on oE q hq
theorem Best.grow {l R : List (Rat × Rat)} {D D' : Dsc} {p : Rat × Rat} (h : Best l R D) (hp : 0 < f D p) (h' : Best l (p :: R) D') : Best (l ++ [p]) R D' := by
 refine ⟨fun q hq => ?_, fun q hq => h'.on q (List.mem_cons_of_mem _ hq), fun E hE oE => ?_⟩
 ·rcases List.mem_append.1 hq with hq | hq
  ·exact h'.hold q hq
  ·have : q = p := by simpa using hq
   subst this
   have := h'.on q (by simp)
   grind
 ·obtain ⟨E', a, b, c⟩ := h.step hp (fun q hq => hE q (by simp [hq])) (hE p (by simp)) oE
  have := h'.min E' a b
  grind
theorem Best.next {l R : List (Rat × Rat)} {D : Dsc} {p : Rat × Rat} (h : Best l R D) (hp : 0 < f D p) (he : ∃ E, Hold E (l ++ [p]) ∧ On E R) : ∃ E', Hold E' l ∧ On E' (p :: R) := by
 obtain ⟨E, hE, oE⟩ := he
 obtain ⟨E', a, b, _⟩ := h.step hp (fun q hq => hE q (by simp [hq])) (hE p (by simp)) oE
 exact ⟨E', a, b⟩
theorem Best.more {l R : List (Rat × Rat)} {D : Dsc} {p : Rat × Rat} (h : Best l R D) (hp : f D p ≤ 0) : Best (l ++ [p]) R D := by
 refine ⟨fun q hq => ?_, h.on, fun E hE oE => h.min E (fun q hq => hE q (by simp [hq])) oE⟩
 rcases List.mem_append.1 hq with hq | hq
 ·exact h.hold q hq
 ·have : q = p := by simpa using hq
  subst this; exact hp
theorem three {D E : Dsc} {a b c : Rat × Rat} (hD : On D [a, b, c]) (hE : On E [a, b, c]) (h : (b.1 - a.1) * (c.2 - a.2) - (b.2 - a.2) * (c.1 - a.1) ≠ 0) : D = E := by
 have d1 := hD a (by simp); have d2 := hD b (by simp); have d3 := hD c (by simp)
 have e1 := hE a (by simp); have e2 := hE b (by simp); have e3 := hE c (by simp)
 unfold f at d1 d2 d3 e1 e2 e3
 have k1 : ((b.1 - a.1) * (c.2 - a.2) - (b.2 - a.2) * (c.1 - a.1)) * (D.x - E.x) = 0 := by grind
 have k2 : ((b.1 - a.1) * (c.2 - a.2) - (b.2 - a.2) * (c.1 - a.1)) * (D.y - E.y) = 0 := by grind
 have x : D.x = E.x := by rcases Rat.mul_eq_zero.1 k1 with k | k <;> grind
 have y : D.y = E.y := by rcases Rat.mul_eq_zero.1 k2 with k | k <;> grind
 refine Dsc.ext x y ?_
 rw [x, y] at d1
 grind
end Go.TH.Dsc
namespace Go.TH.Dsc
def alone (p : Rat × Rat) : Dsc := ⟨p.1, p.2, 0⟩
def betw (p q : Rat × Rat) : Dsc := ⟨(p.1 + q.1) * (1/2), (p.2 + q.2) * (1/2), ((p.1 - q.1) * (p.1 - q.1) + (p.2 - q.2) * (p.2 - q.2)) * (1/4)⟩
theorem two_nn (a b : Rat) : 0 ≤ a * a + b * b := by
 have := sq_nn a; have := sq_nn b; grind
theorem two_0 {a b : Rat} (h : a * a + b * b ≤ 0) : a = 0 ∧ b = 0 := by
 have h1 := sq_nn a; have h2 := sq_nn b
 exact ⟨sq_0 (by grind), sq_0 (by grind)⟩
theorem On.s_nn {D : Dsc} {p : Rat × Rat} (h : f D p = 0) : 0 ≤ D.s := by
 have := two_nn (p.1 - D.x) (p.2 - D.y)
 unfold f at h; grind
theorem alone_on (p : Rat × Rat) : On (alone p) [p] := fun q hq => by
 have : q = p := by simpa using hq
 subst this; unfold f alone; dsimp only; grind
theorem alone_best (p : Rat × Rat) : Best [] [p] (alone p) := ⟨fun q hq => by simp at hq, alone_on p, fun E _ oE => On.s_nn (oE p (by simp))⟩
theorem alone_best1 (p : Rat × Rat) : Best [p] [] (alone p) := ⟨fun q hq => by have := alone_on p q hq; grind, fun q hq => by simp at hq, fun E hE _ => by
 have h := hE p (by simp)
 have := two_nn (p.1 - E.x) (p.2 - E.y)
 unfold f at h; unfold alone; dsimp only; grind⟩
theorem betw_on (p q : Rat × Rat) : On (betw p q) [p, q] := fun r hr => by
 have : r = p ∨ r = q := by simpa using hr
 rcases this with rfl | rfl <;> (unfold f betw; dsimp only; grind)
theorem betw_best (p q : Rat × Rat) : Best [] [p, q] (betw p q) := ⟨fun r hr => by simp at hr, betw_on p q, fun E _ oE => by
 have h1 := oE p (by simp)
 have h2 := oE q (by simp)
 unfold f at h1 h2
 have := two_nn (p.1 - E.x + (q.1 - E.x)) (p.2 - E.y + (q.2 - E.y))
 unfold betw; dsimp only; grind⟩
theorem big (l : List (Rat × Rat)) : ∃ E, Hold E l ∧ On E [] := by
 have : ∃ s : Rat, ∀ p ∈ l, p.1 * p.1 + p.2 * p.2 ≤ s := by
  induction l with
  | nil => exact ⟨0, fun p hp => by simp at hp⟩
  | cons a l ih =>
   obtain ⟨s, hs⟩ := ih
   rcases (Rat.le_total : s ≤ a.1 * a.1 + a.2 * a.2 ∨ _) with h | h
   ·exact ⟨_, fun p hp => by
     rcases List.mem_cons.1 hp with rfl | hp
     ·exact Rat.le_refl
     ·exact Rat.le_trans (hs p hp) h⟩
   ·exact ⟨s, fun p hp => by
     rcases List.mem_cons.1 hp with rfl | hp
     ·exact h
     ·exact hs p hp⟩
 obtain ⟨s, hs⟩ := this
 refine ⟨⟨0, 0, s⟩, fun p hp => ?_, fun p hp => by simp at hp⟩
 have := hs p hp
 unfold f; dsimp only; grind
theorem not_line {E : Dsc} {p q r : Rat × Rat} (hp : f E p = 0) (hq : f E q = 0) (hr : f E r = 0) (n1 : p ≠ q) (n2 : r ≠ p) (n3 : r ≠ q) : (q.1 - p.1) * (r.2 - p.2) - (q.2 - p.2) * (r.1 - p.1) ≠ 0 := by
 intro h
 obtain ⟨p1, p2⟩ := p
 obtain ⟨q1, q2⟩ := q
 obtain ⟨r1, r2⟩ := r
 unfold f at hp hq hr
 dsimp only at *
 have hn : (q1 - p1) * (q1 - p1) + (q2 - p2) * (q2 - p2) ≠ 0 := fun e => by
  obtain ⟨a, b⟩ := two_0 (a := q1 - p1) (b := q2 - p2) (by rw [e]; exact Rat.le_refl)
  exact n1 (by rw [show p1 = q1 by grind, show p2 = q2 by grind])
 have hu : (q1 - p1) * (q1 - p1) + (q2 - p2) * (q2 - p2) + 2 * ((q1 - p1) * (p1 - E.x) + (q2 - p2) * (p2 - E.y)) = 0 := by grind
 have hv : (r1 - p1) * (r1 - p1) + (r2 - p2) * (r2 - p2) + 2 * ((r1 - p1) * (p1 - E.x) + (r2 - p2) * (p2 - E.y)) = 0 := by grind
 generalize ea : q1 - p1 = a at *
 generalize eb : q2 - p2 = b at *
 generalize ec : r1 - p1 = c at *
 generalize ed : r2 - p2 = d at *
 generalize ex : p1 - E.x = x at *
 generalize ey : p2 - E.y = y at *
 have v1 : (a * a + b * b) * c = (a * c + b * d) * a := by grind
 have v2 : (a * a + b * b) * d = (a * c + b * d) * b := by grind
 have k1 : (a * a + b * b) * (c * c + d * d) = (a * c + b * d) * (a * a + b * b) := by
  have e1 : (a * a + b * b) * (c * x + d * y) = (a * c + b * d) * (a * x + b * y) := by grind
  grind
 have k2 : c * c + d * d = a * c + b * d := by
  have : (a * a + b * b) * (c * c + d * d - (a * c + b * d)) = 0 := by grind
  rcases Rat.mul_eq_zero.1 this with h | h
  ·exact absurd h hn
  ·grind
 have k3 : (a * c + b * d) * (a * c + b * d - (a * a + b * b)) = 0 := by grind
 rcases Rat.mul_eq_zero.1 k3 with k | k
 ·have ⟨z1, z2⟩ := two_0 (show c * c + d * d ≤ (0 : Rat) by rw [k2, k]; exact Rat.le_refl)
  exact n2 (by rw [show r1 = p1 by grind, show r2 = p2 by grind])
 ·have ⟨z1, z2⟩ := two_0 (show (c - a) * (c - a) + (d - b) * (d - b) ≤ (0 : Rat) by grind)
  exact n3 (by rw [show r1 = q1 by grind, show r2 = q2 by grind])
theorem three_best {l : List (Rat × Rat)} {D : Dsc} {a b c : Rat × Rat} (hD : On D [a, b, c]) (h : (b.1 - a.1) * (c.2 - a.2) - (b.2 - a.2) * (c.1 - a.1) ≠ 0) (he : ∃ E, Hold E l ∧ On E [a, b, c]) : Best l [a, b, c] D := by
 obtain ⟨E, hE, oE⟩ := he
 have e := three hD oE h
 subst e
 exact ⟨hE, hD, fun F hF oF => by rw [three hD oF h]; exact Rat.le_refl⟩
end Go.TH.Dsc
namespace Go.TH.Dsc
def thr (a b c : Rat × Rat) : Dsc :=
 let x1 := b.1 - a.1
 let x2 := b.2 - a.2
 let y1 := c.1 - a.1
 let y2 := c.2 - a.2
 let i := (2 * (x1 * y2 - x2 * y1))⁻¹
 let u := ((x1 * x1 + x2 * x2) * y2 - (y1 * y1 + y2 * y2) * x2) * i
 let v := ((y1 * y1 + y2 * y2) * x1 - (x1 * x1 + x2 * x2) * y1) * i
 ⟨a.1 + u, a.2 + v, u * u + v * v⟩
theorem thr_on {a b c : Rat × Rat} (h : (b.1 - a.1) * (c.2 - a.2) - (b.2 - a.2) * (c.1 - a.1) ≠ 0) : On (thr a b c) [a, b, c] := by
 have hi : (2 * ((b.1 - a.1) * (c.2 - a.2) - (b.2 - a.2) * (c.1 - a.1))) * (2 * ((b.1 - a.1) * (c.2 - a.2) - (b.2 - a.2) * (c.1 - a.1)))⁻¹ = 1 := Rat.mul_inv_cancel _ (by grind)
 generalize hI : (2 * ((b.1 - a.1) * (c.2 - a.2) - (b.2 - a.2) * (c.1 - a.1)))⁻¹ = i at hi
 intro r hr
 have : r = a ∨ r = b ∨ r = c := by simpa using hr
 unfold f thr
 dsimp only
 rw [hI]
 rcases this with rfl | rfl | rfl <;> grind
def pre (l : Nat → Rat × Rat) (k : Nat) : List (Rat × Rat) := (List.range k).map l
theorem pre_succ (l : Nat → Rat × Rat) (k : Nat) : pre l (k + 1) = pre l k ++ [l k] := by unfold pre; rw [List.range_succ, List.map_append]; rfl
theorem hold_pre {E : Dsc} {l : Nat → Rat × Rat} {k : Nat} (h : Hold E (pre l (k + 1))) : Hold E (pre l k) := fun p hp => h p (by rw [pre_succ]; simp [hp])
open Classical in
noncomputable def bothN (l : Nat → Rat × Rat) (p q : Rat × Rat) : Nat → Dsc
 | 0 => betw p q
 | i + 1 => if 0 < f (bothN l p q i) (l i) then thr (l i) p q else bothN l p q i
open Classical in
noncomputable def withN (l : Nat → Rat × Rat) (p : Rat × Rat) : Nat → Dsc
 | 0 => alone p
 | i + 1 => if 0 < f (withN l p i) (l i) then bothN l (l i) p i else withN l p i
open Classical in
noncomputable def grownN (l : Nat → Rat × Rat) : Nat → Dsc
 | 0 => alone (l 0)
 | i + 1 => if 0 < f (grownN l i) (l (i + 1)) then withN l (l (i + 1)) (i + 1) else grownN l i
theorem ne_of {D : Dsc} {p r : Rat × Rat} (h0 : f D p = 0) (h : 0 < f D r) : r ≠ p := fun e => by subst e; grind
theorem both_best {l : Nat → Rat × Rat} {p q : Rat × Rat} (hn : p ≠ q) : ∀ {k : Nat}, (∃ E, Hold E (pre l k) ∧ On E [p, q]) → Best (pre l k) [p, q] (bothN l p q k)
 | 0, _ => betw_best p q
 | k + 1, he => by
  obtain ⟨E, hE, oE⟩ := he
  have ih := both_best (l := l) hn (k := k) ⟨E, hold_pre hE, oE⟩
  rw [pre_succ]
  unfold bothN
  split
  ·rename_i hp
   obtain ⟨E', a, b⟩ := ih.next hp ⟨E, by rw [← pre_succ]; exact hE, oE⟩
   have nl := not_line (E := E') (p := p) (q := q) (r := l k) (b p (by simp)) (b q (by simp)) (b (l k) (by simp)) hn (ne_of (ih.on p (by simp)) hp) (ne_of (ih.on q (by simp)) hp)
   have nl' : (p.1 - (l k).1) * (q.2 - (l k).2) - (p.2 - (l k).2) * (q.1 - (l k).1) ≠ 0 := fun e => nl (by grind)
   exact ih.grow hp (three_best (thr_on nl') nl' ⟨E', a, b⟩)
  ·rename_i hp
   exact ih.more (Rat.not_lt.1 hp)
theorem with_best {l : Nat → Rat × Rat} {p : Rat × Rat} : ∀ {k : Nat}, (∃ E, Hold E (pre l k) ∧ On E [p]) → Best (pre l k) [p] (withN l p k)
 | 0, _ => alone_best p
 | k + 1, he => by
  obtain ⟨E, hE, oE⟩ := he
  have ih := with_best (l := l) (k := k) ⟨E, hold_pre hE, oE⟩
  rw [pre_succ]
  unfold withN
  split
  ·rename_i hp
   exact ih.grow hp (both_best (ne_of (ih.on p (by simp)) hp) (ih.next hp ⟨E, by rw [← pre_succ]; exact hE, oE⟩))
  ·rename_i hp
   exact ih.more (Rat.not_lt.1 hp)
theorem grown_best (l : Nat → Rat × Rat) : ∀ k : Nat, Best (pre l (k + 1)) [] (grownN l k)
 | 0 => alone_best1 (l 0)
 | k + 1 => by
  have ih := grown_best l k
  rw [pre_succ]
  unfold grownN
  split
  ·rename_i hp
   exact ih.grow hp (with_best (ih.next hp (big _)))
  ·rename_i hp
   exact ih.more (Rat.not_lt.1 hp)
end Go.TH.Dsc
namespace Go.TH.Dsc
structure Mid (D : Dsc) (r s t : Rat × Rat) (u v w : Rat) : Prop where
 one : u + v + w = 1
 x : u * r.1 + v * s.1 + w * t.1 = D.x
 y : u * r.2 + v * s.2 + w * t.2 = D.y
 on : On D [r, s, t]
theorem Mid.sum {D : Dsc} {r s t : Rat × Rat} {u v w : Rat} (h : Mid D r s t u v w) (E : Dsc) :
 u * f E r + v * f E s + w * f E t = (D.x - E.x) * (D.x - E.x) + (D.y - E.y) * (D.y - E.y) + D.s - E.s := by
 have h1 : u * f D r = 0 := by rw [h.on r (by simp)]; grind
 have h2 : v * f D s = 0 := by rw [h.on s (by simp)]; grind
 have h3 : w * f D t = 0 := by rw [h.on t (by simp)]; grind
 have k1 := h.one; have k2 := h.x; have k3 := h.y
 have e1 : ∀ p : Rat × Rat, f E p - f D p = 2 * (D.x - E.x) * p.1 + 2 * (D.y - E.y) * p.2 + (E.x * E.x - D.x * D.x + E.y * E.y - D.y * D.y - E.s + D.s) := fun p => by unfold f; grind
 have e2 : u * (f E r - f D r) + v * (f E s - f D s) + w * (f E t - f D t) = 2 * (D.x - E.x) * (u * r.1 + v * s.1 + w * t.1) + 2 * (D.y - E.y) * (u * r.2 + v * s.2 + w * t.2) + (u + v + w) * (E.x * E.x - D.x * D.x + E.y * E.y - D.y * D.y - E.s + D.s) := by
  rw [e1, e1, e1]; grind
 rw [k1, k2, k3] at e2
 grind
theorem Mid.nn {D : Dsc} {r s t : Rat × Rat} {u v w : Rat} (h : Mid D r s t u v w) {E : Dsc} (hs : E.s ≤ D.s) : 0 ≤ u * f E r + v * f E s + w * f E t := by
 rw [h.sum E]
 have := two_nn (D.x - E.x) (D.y - E.y)
 grind
theorem Mid.best {D : Dsc} {r s t : Rat × Rat} {u v w : Rat} (h : Mid D r s t u v w) (hu : 0 ≤ u) (hv : 0 ≤ v) (hw : 0 ≤ w) : Best [r, s, t] [] D := by
 refine ⟨fun p hp => by rw [h.on p hp]; exact Rat.le_refl, fun p hp => by simp at hp, fun E hE _ => ?_⟩
 have a := Rat.mul_nonneg hu (show 0 ≤ -f E r by have := hE r (by simp); grind)
 have b := Rat.mul_nonneg hv (show 0 ≤ -f E s by have := hE s (by simp); grind)
 have c := Rat.mul_nonneg hw (show 0 ≤ -f E t by have := hE t (by simp); grind)
 have k := h.sum E
 have := two_nn (D.x - E.x) (D.y - E.y)
 grind
theorem Best.sub {l l' R : List (Rat × Rat)} {D : Dsc} (h : Best l R D) (hs : ∀ p ∈ l, p ∈ l') (h' : Hold D l') : Best l' R D := ⟨h', h.on, fun E hE oE => h.min E (fun p hp => hE p (hs p hp)) oE⟩
theorem bary {a b c : Rat × Rat} (h : (b.1 - a.1) * (c.2 - a.2) - (b.2 - a.2) * (c.1 - a.1) ≠ 0) (x y : Rat) : ∃ u v w : Rat, u + v + w = 1 ∧ u * a.1 + v * b.1 + w * c.1 = x ∧ u * a.2 + v * b.2 + w * c.2 = y := by
 have hi : ((b.1 - a.1) * (c.2 - a.2) - (b.2 - a.2) * (c.1 - a.1)) * ((b.1 - a.1) * (c.2 - a.2) - (b.2 - a.2) * (c.1 - a.1))⁻¹ = 1 := Rat.mul_inv_cancel _ h
 generalize ((b.1 - a.1) * (c.2 - a.2) - (b.2 - a.2) * (c.1 - a.1))⁻¹ = i at hi
 refine ⟨1 - ((x - a.1) * (c.2 - a.2) - (y - a.2) * (c.1 - a.1)) * i - ((b.1 - a.1) * (y - a.2) - (b.2 - a.2) * (x - a.1)) * i, ((x - a.1) * (c.2 - a.2) - (y - a.2) * (c.1 - a.1)) * i, ((b.1 - a.1) * (y - a.2) - (b.2 - a.2) * (x - a.1)) * i, by grind, ?_, ?_⟩ <;> grind
theorem both_step {l : List (Rat × Rat)} {p q r : Rat × Rat} {D : Dsc} (hn : p ≠ q) (hb : Best l [p, q] D) (hp : 0 < f D r) (he : ∃ E, Hold E (l ++ [r]) ∧ On E [p, q]) :
 (p.1 - r.1) * (q.2 - r.2) - (p.2 - r.2) * (q.1 - r.1) ≠ 0 ∧ Best (l ++ [r]) [p, q] (thr r p q) := by
 obtain ⟨E', a, b⟩ := hb.next hp he
 have nl := not_line (E := E') (p := p) (q := q) (r := r) (b p (by simp)) (b q (by simp)) (b r (by simp)) hn (ne_of (hb.on p (by simp)) hp) (ne_of (hb.on q (by simp)) hp)
 have nl' : (p.1 - r.1) * (q.2 - r.2) - (p.2 - r.2) * (q.1 - r.1) ≠ 0 := fun e => nl (by grind)
 exact ⟨nl', hb.grow hp (three_best (thr_on nl') nl' ⟨E', a, b⟩)⟩
theorem nn_of {a b : Rat} (h : 0 < b) (hm : 0 ≤ a * b) : 0 ≤ a := by
 rcases (Rat.le_total : 0 ≤ a ∨ a ≤ 0) with g | g
 ·exact g
 ·have := Rat.mul_nonneg (a := -a) (b := b) (by grind) (by grind)
  have e : a * b = 0 := by grind
  rcases Rat.mul_eq_zero.1 e with e | e <;> grind
theorem Mid.betw (p q : Rat × Rat) : Mid (betw p q) p p q 0 (1/2) (1/2) := ⟨by grind, by unfold Dsc.betw; dsimp only; grind, by unfold Dsc.betw; dsimp only; grind, fun x hx => betw_on p q x (by simp at hx ⊢; rcases hx with rfl | rfl | rfl <;> simp)⟩
theorem Mid.alone (p : Rat × Rat) : Mid (alone p) p p p 0 0 1 := ⟨by grind, by unfold Dsc.alone; dsimp only; grind, by unfold Dsc.alone; dsimp only; grind, fun x hx => alone_on p x (by simp at hx ⊢; rcases hx with rfl | rfl | rfl <;> simp)⟩
theorem both_cert {l : Nat → Rat × Rat} {p q : Rat × Rat} (hn : p ≠ q) : ∀ {k : Nat}, (∃ E, Hold E (pre l k) ∧ On E [p, q]) → ∃ r u v w, (r ∈ pre l k ∨ (u = 0 ∧ r = p)) ∧ 0 ≤ u ∧ Mid (bothN l p q k) r p q u v w
 | 0, _ => ⟨p, 0, 1/2, 1/2, .inr ⟨rfl, rfl⟩, Rat.le_refl, Mid.betw p q⟩
 | k + 1, he => by
  obtain ⟨E, hE, oE⟩ := he
  have hb := both_best (l := l) hn (k := k) ⟨E, hold_pre hE, oE⟩
  have hb' := both_best (l := l) hn (k := k + 1) ⟨E, hE, oE⟩
  obtain ⟨r, u, v, w, hr, hu, hm⟩ := both_cert (l := l) hn (k := k) ⟨E, hold_pre hE, oE⟩
  unfold bothN at hb' ⊢
  split
  ·rename_i hp
   rw [if_pos hp] at hb'
   obtain ⟨nl, _⟩ := both_step hn hb hp ⟨E, by rw [← pre_succ]; exact hE, oE⟩
   obtain ⟨u', v', w', h1, h2, h3⟩ := bary nl (thr (l k) p q).x (thr (l k) p q).y
   have m : Mid (thr (l k) p q) (l k) p q u' v' w' := ⟨h1, h2, h3, thr_on nl⟩
   have := m.nn (hb.min _ (hold_pre hb'.hold) hb'.on)
   rw [hb.on p (by simp), hb.on q (by simp)] at this
   exact ⟨l k, u', v', w', .inl (by rw [pre_succ]; simp), nn_of hp (by grind), m⟩
  ·exact ⟨r, u, v, w, hr.imp (fun h => by rw [pre_succ]; simp [h]) id, hu, hm⟩
theorem with_cert {l : Nat → Rat × Rat} {p : Rat × Rat} : ∀ {k : Nat}, (∃ E, Hold E (pre l k) ∧ On E [p]) → ∃ r s u v w, (r ∈ pre l k ∨ (u = 0 ∧ r = p)) ∧ (s ∈ pre l k ∨ (v = 0 ∧ s = p)) ∧ 0 ≤ u ∧ 0 ≤ v ∧ Mid (withN l p k) r s p u v w
 | 0, _ => ⟨p, p, 0, 0, 1, .inr ⟨rfl, rfl⟩, .inr ⟨rfl, rfl⟩, Rat.le_refl, Rat.le_refl, Mid.alone p⟩
 | k + 1, he => by
  obtain ⟨E, hE, oE⟩ := he
  have hb := with_best (l := l) (k := k) ⟨E, hold_pre hE, oE⟩
  have hb' := with_best (l := l) (k := k + 1) ⟨E, hE, oE⟩
  obtain ⟨r, s, u, v, w, hr, hs, hu, hv, hm⟩ := with_cert (l := l) (k := k) ⟨E, hold_pre hE, oE⟩
  unfold withN at hb' ⊢
  split
  ·rename_i hp
   rw [if_pos hp] at hb'
   have hn := ne_of (hb.on p (by simp)) hp
   obtain ⟨r', u', v', w', hr', hu', m⟩ := both_cert (l := l) hn (k := k) (hb.next hp ⟨E, by rw [← pre_succ]; exact hE, oE⟩)
   have k1 := m.nn (hb.min _ (hold_pre hb'.hold) hb'.on)
   rw [hb.on p (by simp)] at k1
   have k2 : 0 ≤ -(u' * f (withN l p k) r') := by
    rcases hr' with h | ⟨h, _⟩
    ·have := Rat.mul_nonneg hu' (show 0 ≤ -f (withN l p k) r' by have := hb.hold _ h; grind)
     grind
    ·rw [h]; grind
   refine ⟨r', l k, u', v', w', ?_, .inl (by rw [pre_succ]; simp), hu', nn_of hp (by grind), m⟩
   rcases hr' with h | ⟨_, h⟩
   ·exact .inl (by rw [pre_succ]; simp [h])
   ·exact .inl (by rw [pre_succ, h]; simp)
  ·exact ⟨r, s, u, v, w, hr.imp (fun h => by rw [pre_succ]; simp [h]) id, hs.imp (fun h => by rw [pre_succ]; simp [h]) id, hu, hv, hm⟩
theorem grown_cert (l : Nat → Rat × Rat) : ∀ k : Nat, ∃ r s t u v w, r ∈ pre l (k + 1) ∧ s ∈ pre l (k + 1) ∧ t ∈ pre l (k + 1) ∧ 0 ≤ u ∧ 0 ≤ v ∧ 0 ≤ w ∧ Mid (grownN l k) r s t u v w
 | 0 => ⟨l 0, l 0, l 0, 0, 0, 1, by simp [pre], by simp [pre], by simp [pre], Rat.le_refl, Rat.le_refl, by grind, Mid.alone _⟩
 | k + 1 => by
  have hb := grown_best l k
  have hb' := grown_best l (k + 1)
  obtain ⟨r, s, t, u, v, w, hr, hs, ht, hu, hv, hw, hm⟩ := grown_cert l k
  unfold grownN at hb' ⊢
  split
  ·rename_i hp
   rw [if_pos hp] at hb'
   obtain ⟨r', s', u', v', w', hr', hs', hu', hv', m⟩ := with_cert (l := l) (p := l (k + 1)) (k := k + 1) (hb.next hp (big _))
   have k1 := m.nn (hb.min _ (hold_pre hb'.hold) hb'.on)
   have k2 : 0 ≤ -(u' * f (grownN l k) r') := by
    rcases hr' with h | ⟨h, _⟩
    ·have := Rat.mul_nonneg hu' (show 0 ≤ -f (grownN l k) r' by have := hb.hold _ h; grind)
     grind
    ·rw [h]; grind
   have k3 : 0 ≤ -(v' * f (grownN l k) s') := by
    rcases hs' with h | ⟨h, _⟩
    ·have := Rat.mul_nonneg hv' (show 0 ≤ -f (grownN l k) s' by have := hb.hold _ h; grind)
     grind
    ·rw [h]; grind
   refine ⟨r', s', l (k + 1), u', v', w', ?_, ?_, by rw [pre_succ]; simp, hu', hv', nn_of hp (by grind), m⟩
   ·rcases hr' with h | ⟨_, h⟩
    ·rw [pre_succ]; simp [h]
    ·rw [pre_succ, h]; simp
   ·rcases hs' with h | ⟨_, h⟩
    ·rw [pre_succ]; simp [h]
    ·rw [pre_succ, h]; simp
  ·exact ⟨r, s, t, u, v, w, by rw [pre_succ]; simp [hr], by rw [pre_succ]; simp [hs], by rw [pre_succ]; simp [ht], hu, hv, hw, hm⟩
theorem pre_getD (l : List (Rat × Rat)) (z : Rat × Rat) : pre (fun i => l.getD i z) l.length = l := by
 unfold pre
 apply List.ext_getElem
 ·simp
 ·intro i h1 h2; simp [h2]
theorem best_ex {l : List (Rat × Rat)} (h : l ≠ []) : ∃ D, Best l [] D ∧ ∃ r s t u v w, r ∈ l ∧ s ∈ l ∧ t ∈ l ∧ 0 ≤ u ∧ 0 ≤ v ∧ 0 ≤ w ∧ Mid D r s t u v w := by
 obtain ⟨k, hk⟩ : ∃ k, l.length = k + 1 := ⟨l.length - 1, by have := List.length_pos_iff.2 h; omega⟩
 have e := pre_getD l (0, 0)
 rw [hk] at e
 have hb := grown_best (fun i => l.getD i (0, 0)) k
 obtain ⟨r, s, t, u, v, w, hr, hs, ht, hu, hv, hw, hm⟩ := grown_cert (fun i => l.getD i (0, 0)) k
 rw [e] at hb hr hs ht
 exact ⟨_, hb, r, s, t, u, v, w, hr, hs, ht, hu, hv, hw, hm⟩
end Go.TH.Dsc
namespace Go.Proofs.YtnehaifgcegemaaGreat.Tu
open Go Go.TH Go.TH.Dsc
def toQ (p : Int × Int) : Rat × Rat := ((p.1 : Rat), (p.2 : Rat))
def toD (c : Cir) : Dsc := ⟨(c.x : Rat) * (c.den : Rat)⁻¹, (c.y : Rat) * (c.den : Rat)⁻¹, (c.n : Rat) * (c.d : Rat)⁻¹⟩
def gcd3 (x y d : Int) : Int := gcd2 (gcd2 (ab x) (ab y)) d
structure Can (c : Cir) : Prop where
 den : 0 < c.den
 g : gcd3 c.x c.y c.den = 1
 d : 0 < c.d
 n : 0 ≤ c.n
 h : gcd2 c.n c.d = 1
theorem toQ_inj {p q : Int × Int} (h : toQ p = toQ q) : p = q := by
 unfold toQ at h
 have h1 := congrArg Prod.fst h
 have h2 := congrArg Prod.snd h
 simp only at h1 h2
 exact Prod.ext (Rat.intCast_inj.1 h1) (Rat.intCast_inj.1 h2)
theorem inv_of {d : Int} (h : 0 < d) : (d : Rat) * (d : Rat)⁻¹ = 1 := Rat.mul_inv_cancel _ (fun e => by have : d = 0 := Rat.intCast_inj.1 (by simpa using e); omega)
theorem pos_of {d : Int} (h : 0 < d) : (0 : Rat) < (d : Rat) := by exact_mod_cast h
theorem sgn_pos {x y : Int} : 0 < sgn x y ↔ y < x := by unfold sgn; split <;> (try split) <;> omega
theorem sgn_zero {x y : Int} : sgn x y = 0 ↔ y = x := by unfold sgn; split <;> (try split) <;> omega
theorem pos_mul {a b : Rat} (hb : 0 < b) : 0 < a * b ↔ 0 < a := by
 constructor
 ·intro h
  rcases (Rat.le_total : 0 ≤ a ∨ a ≤ 0) with g | g
  ·rcases Rat.le_iff_lt_or_eq.1 g with g | g
   ·exact g
   ·rw [← g] at h; grind
  ·have := Rat.mul_nonneg (a := -a) (b := b) (by grind) (by grind)
   grind
 ·intro h; exact Rat.mul_pos h hb
theorem f_whr {c : Cir} (h1 : 0 < c.den) (h2 : 0 < c.d) (p : Int × Int) : f (toD c) (toQ p) * ((c.den : Rat) * (c.den : Rat) * (c.d : Rat)) =
 (((((p.1 * c.den - c.x) * (p.1 * c.den - c.x) + (p.2 * c.den - c.y) * (p.2 * c.den - c.y)) * c.d - c.n * (c.den * c.den) : Int)) : Rat) := by
 have e1 := inv_of h1
 have e2 := inv_of h2
 unfold f toD toQ
 simp only [Rat.intCast_sub, Rat.intCast_add, Rat.intCast_mul]
 generalize (c.den : Rat)⁻¹ = i at *
 generalize (c.d : Rat)⁻¹ = j at *
 generalize (c.den : Rat) = d at *
 generalize (c.d : Rat) = e at *
 generalize (c.x : Rat) = x at *
 generalize (c.y : Rat) = y at *
 generalize (c.n : Rat) = n at *
 generalize (p.1 : Rat) = a at *
 generalize (p.2 : Rat) = b at *
 have k1 : (a - x * i) * d = a * d - x := by grind
 have k2 : (b - y * i) * d = b * d - y := by grind
 have k3 : (n * j) * e = n := by grind
 have k4 : ((a - x * i) * (a - x * i) + (b - y * i) * (b - y * i) - n * j) * (d * d * e) = (((a - x * i) * d) * ((a - x * i) * d) + ((b - y * i) * d) * ((b - y * i) * d)) * e - ((n * j) * e) * (d * d) := by grind
 rw [k4, k1, k2, k3]
theorem whr_pos {c : Cir} (h1 : 0 < c.den) (h2 : 0 < c.d) (p : Int × Int) : 0 < whr c p ↔ 0 < f (toD c) (toQ p) := by
 have hp : (0 : Rat) < (c.den : Rat) * (c.den : Rat) * (c.d : Rat) := Rat.mul_pos (Rat.mul_pos (pos_of h1) (pos_of h1)) (pos_of h2)
 rw [← pos_mul hp, f_whr h1 h2]
 unfold whr cmp
 rw [sgn_pos, show ((0 : Rat) < ((((p.1 * c.den - c.x) * (p.1 * c.den - c.x) + (p.2 * c.den - c.y) * (p.2 * c.den - c.y)) * c.d - c.n * (c.den * c.den) : Int) : Rat)) ↔ 0 < (((p.1 * c.den - c.x) * (p.1 * c.den - c.x) + (p.2 * c.den - c.y) * (p.2 * c.den - c.y)) * c.d - c.n * (c.den * c.den) : Int) from by exact_mod_cast Iff.rfl]
 omega
theorem whr_zero {c : Cir} (h1 : 0 < c.den) (h2 : 0 < c.d) (p : Int × Int) : whr c p = 0 ↔ f (toD c) (toQ p) = 0 := by
 have hp : (0 : Rat) < (c.den : Rat) * (c.den : Rat) * (c.d : Rat) := Rat.mul_pos (Rat.mul_pos (pos_of h1) (pos_of h1)) (pos_of h2)
 have e : f (toD c) (toQ p) = 0 ↔ f (toD c) (toQ p) * ((c.den : Rat) * (c.den : Rat) * (c.d : Rat)) = 0 := by
  constructor
  ·intro h; rw [h]; grind
  ·intro h; rcases Rat.mul_eq_zero.1 h with h | h <;> grind
 rw [e, f_whr h1 h2]
 unfold whr cmp
 rw [sgn_zero, show (((((p.1 * c.den - c.x) * (p.1 * c.den - c.x) + (p.2 * c.den - c.y) * (p.2 * c.den - c.y)) * c.d - c.n * (c.den * c.den) : Int) : Rat) = 0) ↔ (((p.1 * c.den - c.x) * (p.1 * c.den - c.x) + (p.2 * c.den - c.y) * (p.2 * c.den - c.y)) * c.d - c.n * (c.den * c.den) : Int) = 0 from by exact_mod_cast Iff.rfl]
 omega
theorem whr_le {c : Cir} (h1 : 0 < c.den) (h2 : 0 < c.d) (p : Int × Int) : whr c p ≤ 0 ↔ f (toD c) (toQ p) ≤ 0 := by
 have := whr_pos h1 h2 p
 rw [← Int.not_lt, this, Rat.not_lt]
theorem holdL_iff {c : Cir} (h1 : 0 < c.den) (h2 : 0 < c.d) (l : List (Int × Int)) : holdL c l ↔ Hold (toD c) (l.map toQ) := by
 unfold holdL Hold
 constructor
 ·intro h p hp
  obtain ⟨q, hq, rfl⟩ := List.mem_map.1 hp
  exact (whr_le h1 h2 q).1 (h q hq)
 ·intro h p hp
  exact (whr_le h1 h2 p).2 (h _ (List.mem_map_of_mem hp))
theorem frac_eq {a b c d : Int} (hb : 0 < b) (hd : 0 < d) : (a : Rat) * (b : Rat)⁻¹ = (c : Rat) * (d : Rat)⁻¹ ↔ a * d = c * b := by
 have e1 := inv_of hb
 have e2 := inv_of hd
 have e : a * d = c * b ↔ (a : Rat) * (d : Rat) = (c : Rat) * (b : Rat) := by exact_mod_cast Iff.rfl
 rw [e]
 have p1 := pos_of hb
 have p2 := pos_of hd
 constructor
 ·intro h
  have k : (a : Rat) * (d : Rat) = ((a : Rat) * (b : Rat)⁻¹) * (b : Rat) * (d : Rat) := by grind
  rw [k, h]; grind
 ·intro h
  have k : (a : Rat) * (b : Rat)⁻¹ = ((a : Rat) * (d : Rat)) * ((b : Rat)⁻¹ * (d : Rat)⁻¹) := by grind
  rw [k, h]; grind
theorem frac_lt {a b c d : Int} (hb : 0 < b) (hd : 0 < d) : (a : Rat) * (b : Rat)⁻¹ < (c : Rat) * (d : Rat)⁻¹ ↔ a * d < c * b := by
 have e1 := inv_of hb
 have e2 := inv_of hd
 have p1 := pos_of hb
 have p2 := pos_of hd
 have e : a * d < c * b ↔ (0 : Rat) < (c : Rat) * (b : Rat) - (a : Rat) * (d : Rat) := by
  rw [show (0 : Rat) < (c : Rat) * (b : Rat) - (a : Rat) * (d : Rat) ↔ 0 < c * b - a * d from by exact_mod_cast Iff.rfl]; omega
 have k : ((c : Rat) * (d : Rat)⁻¹ - (a : Rat) * (b : Rat)⁻¹) * ((b : Rat) * (d : Rat)) = (c : Rat) * (b : Rat) - (a : Rat) * (d : Rat) := by grind
 rw [e, ← k, pos_mul (Rat.mul_pos p1 p2)]
 constructor <;> intro h <;> grind
theorem gcd3_nat (x y d : Int) : gcd3 x y d = (Nat.gcd (Nat.gcd x.natAbs y.natAbs) d.toNat : Nat) := by
 unfold gcd3 gcd2
 rw [show (ab x).toNat = x.natAbs by unfold ab; omega, show (ab y).toNat = y.natAbs by unfold ab; omega]
 simp
theorem can_dvd {x y d x' y' d' : Int} (hd : 0 < d) (hd' : 0 < d') (hg : gcd3 x y d = 1) (h1 : x * d' = x' * d) (h2 : y * d' = y' * d) : d ∣ d' := by
 rw [gcd3_nat] at hg
 have n1 : x.natAbs * d'.natAbs = x'.natAbs * d.natAbs := by rw [← Int.natAbs_mul, ← Int.natAbs_mul, h1]
 have n2 : y.natAbs * d'.natAbs = y'.natAbs * d.natAbs := by rw [← Int.natAbs_mul, ← Int.natAbs_mul, h2]
 have e : d.toNat = d.natAbs := by omega
 rw [e] at hg
 have k1 : d.natAbs ∣ Nat.gcd x.natAbs y.natAbs * d'.natAbs := by
  rw [← Nat.gcd_mul_right]
  exact Nat.dvd_gcd (by rw [n1]; exact Nat.dvd_mul_left _ _) (by rw [n2]; exact Nat.dvd_mul_left _ _)
 have k2 : d.natAbs ∣ Nat.gcd (Nat.gcd x.natAbs y.natAbs) d.natAbs * d'.natAbs := by
  rw [← Nat.gcd_mul_right]
  exact Nat.dvd_gcd k1 (Nat.dvd_mul_right _ _)
 have hg' : Nat.gcd (Nat.gcd x.natAbs y.natAbs) d.natAbs = 1 := by exact_mod_cast hg
 rw [hg', Nat.one_mul] at k2
 exact Int.natAbs_dvd_natAbs.1 k2
theorem pos_dvd {a b : Int} (ha : 0 < a) (hb : 0 < b) (h1 : a ∣ b) (h2 : b ∣ a) : a = b := by
 have := Int.le_of_dvd hb h1
 have := Int.le_of_dvd ha h2
 omega
theorem gcd3_2 {n d : Int} (hn : 0 ≤ n) : gcd3 n 0 d = gcd2 n d := by
 unfold gcd3; rw [show ab 0 = 0 from rfl, gcd2_zero (ab_nn n), show ab n = n by unfold ab; omega]
theorem Can.inj {c c' : Cir} (h : Can c) (h' : Can c') (e : toD c = toD c') : c = c' := by
 have e1 := (frac_eq h.den h'.den).1 (congrArg Dsc.x e)
 have e2 := (frac_eq h.den h'.den).1 (congrArg Dsc.y e)
 have e3 := (frac_eq h.d h'.d).1 (congrArg Dsc.s e)
 have d1 := can_dvd h.den h'.den h.g e1 e2
 have d2 := can_dvd h'.den h.den h'.g e1.symm e2.symm
 have k := pos_dvd h.den h'.den d1 d2
 have d3 := can_dvd (x := c.n) (y := 0) (x' := c'.n) (y' := 0) h.d h'.d (by rw [gcd3_2 h.n]; exact h.h) e3 (by omega)
 have d4 := can_dvd (x := c'.n) (y := 0) (x' := c.n) (y' := 0) h'.d h.d (by rw [gcd3_2 h'.n]; exact h'.h) e3.symm (by omega)
 have k2 := pos_dvd h.d h'.d d3 d4
 obtain ⟨x, y, den, n, d⟩ := c
 obtain ⟨x', y', den', n', d'⟩ := c'
 simp only at *
 subst k; subst k2
 have hd := h.den
 have hd2 := h.d
 simp only at hd hd2
 have a1 := Int.eq_of_mul_eq_mul_right (by omega) e1
 have a2 := Int.eq_of_mul_eq_mul_right (by omega) e2
 have a3 := Int.eq_of_mul_eq_mul_right (by omega) e3
 subst a1; subst a2; subst a3; rfl
end Go.Proofs.YtnehaifgcegemaaGreat.Tu
namespace Go.Proofs.YtnehaifgcegemaaGreat.Tu
open Go Go.TH Go.TH.Dsc
def mkN (x y den : Int) (p : Int × Int) : Cir :=
 let g := gcd3 x y den
 let x' := x.tdiv g
 let y' := y.tdiv g
 let d' := den.tdiv g
 let n := (p.1 * d' - x') * (p.1 * d' - x') + (p.2 * d' - y') * (p.2 * d' - y')
 let h := gcd2 n (d' * d')
 ⟨x', y', d', n.tdiv h, (d' * d').tdiv h⟩
def mkR (x y den : Int) (p : Int × Int) : Cir := if den < 0 then mkN (-x) (-y) (-den) p else mkN x y den p
def far2 (x y den : Int) (p : Int × Int) : Int := (p.1 * den - x) * (p.1 * den - x) + (p.2 * den - y) * (p.2 * den - y)
theorem gcd3_mul (x y d g : Int) (hg : 0 ≤ g) (hd : 0 ≤ d) : gcd3 (x * g) (y * g) (d * g) = gcd3 x y d * g := by
 obtain ⟨m, rfl⟩ := Int.eq_ofNat_of_zero_le hg
 obtain ⟨k, rfl⟩ := Int.eq_ofNat_of_zero_le hd
 rw [gcd3_nat, gcd3_nat, Int.natAbs_mul, Int.natAbs_mul, ← Int.natCast_mul]
 simp only [Int.natAbs_natCast, Int.toNat_natCast]
 rw [Nat.gcd_mul_right, Nat.gcd_mul_right, Int.natCast_mul]
theorem gcd3_pos {x y d : Int} (hd : 0 < d) : 0 < gcd3 x y d := gcd2_pos (gcd2_nn _ _) hd
theorem gcd3_dvd (x y : Int) {d : Int} (hd : 0 < d) : gcd3 x y d ∣ x ∧ gcd3 x y d ∣ y ∧ gcd3 x y d ∣ d := by
 rw [gcd3_nat]
 refine ⟨?_, ?_, ?_⟩
 ·exact Int.ofNat_dvd_left.2 (Nat.dvd_trans (Nat.gcd_dvd_left _ _) (Nat.gcd_dvd_left _ _))
 ·exact Int.ofNat_dvd_left.2 (Nat.dvd_trans (Nat.gcd_dvd_left _ _) (Nat.gcd_dvd_right _ _))
 ·have h := Nat.gcd_dvd_right (Nat.gcd x.natAbs y.natAbs) d.toNat
  rw [show d = (d.toNat : Int) by omega]
  exact_mod_cast h
theorem mkN_parts {x y den : Int} (hd : 0 < den) : ∃ g x' y' d' : Int, 0 < g ∧ g = gcd3 x y den ∧ x = x' * g ∧ y = y' * g ∧ den = d' * g ∧ 0 < d' ∧ gcd3 x' y' d' = 1 ∧ x.tdiv g = x' ∧ y.tdiv g = y' ∧ den.tdiv g = d' := by
 have hg := gcd3_pos (x := x) (y := y) hd
 obtain ⟨h1, h2, h3⟩ := gcd3_dvd x y hd
 have e1 := Int.tdiv_mul_cancel h1
 have e2 := Int.tdiv_mul_cancel h2
 have e3 := Int.tdiv_mul_cancel h3
 have hp : 0 < den.tdiv (gcd3 x y den) := by
  rcases Int.lt_trichotomy 0 (den.tdiv (gcd3 x y den)) with h | h | h
  ·exact h
  ·rw [← h] at e3; omega
  ·have := Int.mul_neg_of_neg_of_pos h hg; omega
 refine ⟨gcd3 x y den, x.tdiv (gcd3 x y den), y.tdiv (gcd3 x y den), den.tdiv (gcd3 x y den), hg, rfl, e1.symm, e2.symm, e3.symm, hp, ?_, rfl, rfl, rfl⟩
 have hm := gcd3_mul (x.tdiv (gcd3 x y den)) (y.tdiv (gcd3 x y den)) (den.tdiv (gcd3 x y den)) (gcd3 x y den) (by omega) (by omega)
 rw [e1, e2, e3] at hm
 have : 1 * gcd3 x y den = gcd3 (x.tdiv (gcd3 x y den)) (y.tdiv (gcd3 x y den)) (den.tdiv (gcd3 x y den)) * gcd3 x y den := by rw [← hm]; omega
 exact (Int.eq_of_mul_eq_mul_right (by omega) this).symm
theorem le_mul1 {a b : Int} (ha : 0 ≤ a) (hb : 1 ≤ b) : a ≤ a * b := by
 have := Int.mul_le_mul_of_nonneg_left hb ha
 omega
theorem sq2_nn (a b : Int) : 0 ≤ a * a + b * b := by
 have h : ∀ a : Int, 0 ≤ a * a := fun a => by
  rcases Int.le_total 0 a with g | g
  ·exact Int.mul_nonneg g g
  ·exact Int.mul_nonneg_of_nonpos_of_nonpos g g
 have := h a; have := h b; omega
theorem red_parts {n d : Int} (hn : 0 ≤ n) (hd : 0 < d) : ∃ h n' d' : Int, 0 < h ∧ h = gcd2 n d ∧ n = n' * h ∧ d = d' * h ∧ 0 < d' ∧ 0 ≤ n' ∧ gcd2 n' d' = 1 ∧ n.tdiv h = n' ∧ d.tdiv h = d' := by
 obtain ⟨g, x', y', d', h1, h2, h3, h4, h5, h6, h7, h8, h9, h10⟩ := mkN_parts (x := n) (y := 0) hd
 rw [gcd3_2 hn] at h2
 have hx : 0 ≤ x' := by
  rcases Int.le_total 0 x' with g | g
  ·exact g
  ·have := Int.mul_nonpos_of_nonpos_of_nonneg g (show 0 ≤ _ from Int.le_of_lt h1)
   have e : x' * _ = 0 := Int.le_antisymm this (by rw [← h3]; exact hn)
   rcases Int.mul_eq_zero.1 e with e | e <;> omega
 have hy : y' = 0 := by
  rcases Int.mul_eq_zero.1 h4.symm with e | e <;> omega
 subst hy
 exact ⟨g, x', d', h1, h2, h3, h5, h6, hx, by rw [gcd3_2 hx] at h7; exact h7, h8, h10⟩
theorem mkN_can {x y den : Int} (p : Int × Int) (hd : 0 < den) : Can (mkN x y den p) := by
 obtain ⟨g, x', y', d', h1, h2, h3, h4, h5, h6, h7, h8, h9, h10⟩ := mkN_parts (x := x) (y := y) hd
 unfold mkN
 simp only [← h2, h8, h9, h10]
 obtain ⟨h, n, d, k1, k2, k3, k4, k5, k6, k7, k8, k9⟩ := red_parts (sq2_nn (p.1 * d' - x') (p.2 * d' - y')) (Int.mul_pos h6 h6)
 rw [← k2, k8, k9]
 exact ⟨h6, h7, k5, k6, k7⟩
theorem mkN_toD {x y den : Int} (p : Int × Int) (hd : 0 < den) : toD (mkN x y den p) = ⟨(x : Rat) * (den : Rat)⁻¹, (y : Rat) * (den : Rat)⁻¹, ((p.1 : Rat) - (x : Rat) * (den : Rat)⁻¹) * ((p.1 : Rat) - (x : Rat) * (den : Rat)⁻¹) + ((p.2 : Rat) - (y : Rat) * (den : Rat)⁻¹) * ((p.2 : Rat) - (y : Rat) * (den : Rat)⁻¹)⟩ := by
 obtain ⟨g, x', y', d', h1, h2, h3, h4, h5, h6, h7, h8, h9, h10⟩ := mkN_parts (x := x) (y := y) hd
 unfold mkN toD
 simp only [← h2, h8, h9, h10]
 obtain ⟨h, n, d, k1, k2, k3, k4, k5, k6, k7, k8, k9⟩ := red_parts (sq2_nn (p.1 * d' - x') (p.2 * d' - y')) (Int.mul_pos h6 h6)
 rw [← k2, k8, k9]
 have e1 : (x' : Rat) * (d' : Rat)⁻¹ = (x : Rat) * (den : Rat)⁻¹ := (frac_eq h6 hd).2 (by rw [h3, h5]; grind)
 have e2 : (y' : Rat) * (d' : Rat)⁻¹ = (y : Rat) * (den : Rat)⁻¹ := (frac_eq h6 hd).2 (by rw [h4, h5]; grind)
 have e3 : (n : Rat) * (d : Rat)⁻¹ = (((p.1 * d' - x') * (p.1 * d' - x') + (p.2 * d' - y') * (p.2 * d' - y') : Int) : Rat) * ((d' * d' : Int) : Rat)⁻¹ := (frac_eq k5 (Int.mul_pos h6 h6)).2 (by rw [k3, k4]; grind)
 rw [← e1, ← e2, e3]
 refine Dsc.ext rfl rfl ?_
 simp only [Rat.intCast_sub, Rat.intCast_add, Rat.intCast_mul]
 have e := inv_of h6
 have q := pos_of h6
 have e5 : ((d' : Rat) * (d' : Rat))⁻¹ = (d' : Rat)⁻¹ * (d' : Rat)⁻¹ := by
  have := Rat.mul_inv_cancel ((d' : Rat) * (d' : Rat)) (by have := Rat.mul_pos q q; grind)
  grind
 rw [e5]
 grind
theorem mkN_ok {x y den : Int} {p : Int × Int} (hd : 0 < den) (hd2 : den ≤ 262144) (hx : -268435456 ≤ x ∧ x ≤ 268435456) (hy : -268435456 ≤ y ∧ y ≤ 268435456) (hn : far2 x y den p ≤ 1125899906842624) : OkR (mkN x y den p) := by
 obtain ⟨g, x', y', d', h1, h2, h3, h4, h5, h6, h7, h8, h9, h10⟩ := mkN_parts (x := x) (y := y) hd
 have ax := tdiv_ab (a := x) h1
 have ay := tdiv_ab (a := y) h1
 unfold mkN
 simp only [← h2]
 rw [h8] at ax ⊢
 rw [h9] at ay ⊢
 rw [h10]
 obtain ⟨h, n, d, k1, k2, k3, k4, k5, k6, k7, k8, k9⟩ := red_parts (sq2_nn (p.1 * d' - x') (p.2 * d' - y')) (Int.mul_pos h6 h6)
 rw [← k2, k8, k9]
 have hdd : d' ≤ den := by rw [h5]; exact le_mul1 (by omega) (by omega)
 have hb := den_b (d := d') ⟨by omega, by omega⟩
 have hm : (p.1 * d' - x') * (p.1 * d' - x') + (p.2 * d' - y') * (p.2 * d' - y') ≤ far2 x y den p := by
  have e : far2 x y den p = ((p.1 * d' - x') * (p.1 * d' - x') + (p.2 * d' - y') * (p.2 * d' - y')) * (g * g) := by
   unfold far2; rw [h3, h4, h5]; grind
  rw [e]
  exact le_mul1 (sq2_nn _ _) (by have := Int.mul_le_mul (a := 1) (b := 1) (c := g) (d := g) (by omega) (by omega) (by omega) (by omega); omega)
 have hn' : n ≤ (p.1 * d' - x') * (p.1 * d' - x') + (p.2 * d' - y') * (p.2 * d' - y') := by
  rw [k3]; exact le_mul1 (by omega) (by omega)
 have hd' : d ≤ d' * d' := by rw [k4]; exact le_mul1 (by omega) (by omega)
 unfold ab at ax ay
 exact ⟨⟨by show 1 ≤ d'; omega, by show d' ≤ _; omega⟩, ⟨by show _ ≤ x'; omega, by show x' ≤ _; omega⟩, ⟨by show _ ≤ y'; omega, by show y' ≤ _; omega⟩, ⟨k6, by show n ≤ _; omega⟩, ⟨by show 1 ≤ d; omega, by show d ≤ _; omega⟩⟩
theorem mkR_can {x y den : Int} (p : Int × Int) (hd : den ≠ 0) : Can (mkR x y den p) := by
 unfold mkR; split
 ·exact mkN_can p (by omega)
 ·exact mkN_can p (by omega)
theorem mkR_ok {x y den : Int} {p : Int × Int} (hd : den ≠ 0) (hd2 : -262144 ≤ den ∧ den ≤ 262144) (hx : -268435456 ≤ x ∧ x ≤ 268435456) (hy : -268435456 ≤ y ∧ y ≤ 268435456) (hn : far2 x y den p ≤ 1125899906842624) : OkR (mkR x y den p) := by
 unfold mkR; split
 ·refine mkN_ok (by omega) (by omega) (by omega) (by omega) ?_
  rw [show far2 (-x) (-y) (-den) p = far2 x y den p by unfold far2; grind]; exact hn
 ·exact mkN_ok (by omega) (by omega) hx hy hn
theorem mkR_toD {x y den : Int} (p : Int × Int) (hd : den ≠ 0) : toD (mkR x y den p) = ⟨(x : Rat) * (den : Rat)⁻¹, (y : Rat) * (den : Rat)⁻¹, ((p.1 : Rat) - (x : Rat) * (den : Rat)⁻¹) * ((p.1 : Rat) - (x : Rat) * (den : Rat)⁻¹) + ((p.2 : Rat) - (y : Rat) * (den : Rat)⁻¹) * ((p.2 : Rat) - (y : Rat) * (den : Rat)⁻¹)⟩ := by
 unfold mkR; split
 ·rename_i h
  rw [mkN_toD p (by omega)]
  have e1 := inv_of (d := -den) (by omega)
  have e2 : (den : Rat) * (den : Rat)⁻¹ = 1 := Rat.mul_inv_cancel _ (fun e => hd (Rat.intCast_inj.1 (by simpa using e)))
  rw [Rat.intCast_neg] at e1
  have e3 : (-(den : Rat))⁻¹ = -(den : Rat)⁻¹ := by grind
  simp only [Rat.intCast_neg, e3]
  refine Dsc.ext ?_ ?_ ?_ <;> dsimp only <;> grind
 ·exact mkN_toD p (by omega)
def aloneC (p : Int × Int) : Cir := mkR p.1 p.2 1 p
def betwC (p q : Int × Int) : Cir := mkR (p.1 + q.1) (p.2 + q.2) 2 p
def cross (a b c : Int × Int) : Int := (b.1 - a.1) * (c.2 - a.2) - (b.2 - a.2) * (c.1 - a.1)
def nx (a b c : Int × Int) : Int := a.1 * (2 * cross a b c) + ((b.1 - a.1) * (b.1 - a.1) + (b.2 - a.2) * (b.2 - a.2)) * (c.2 - a.2) - ((c.1 - a.1) * (c.1 - a.1) + (c.2 - a.2) * (c.2 - a.2)) * (b.2 - a.2)
def ny (a b c : Int × Int) : Int := a.2 * (2 * cross a b c) + ((c.1 - a.1) * (c.1 - a.1) + (c.2 - a.2) * (c.2 - a.2)) * (b.1 - a.1) - ((b.1 - a.1) * (b.1 - a.1) + (b.2 - a.2) * (b.2 - a.2)) * (c.1 - a.1)
def thrC (a b c : Int × Int) : Cir := mkR (nx a b c) (ny a b c) (2 * cross a b c) a
theorem aloneC_toD (p : Int × Int) : toD (aloneC p) = alone (toQ p) := by
 unfold aloneC; rw [mkR_toD p (by omega)]
 unfold alone toQ
 have e : ((1 : Int) : Rat) = 1 := rfl
 rw [e]
 refine Dsc.ext ?_ ?_ ?_ <;> dsimp only <;> grind
theorem betwC_toD (p q : Int × Int) : toD (betwC p q) = betw (toQ p) (toQ q) := by
 unfold betwC; rw [mkR_toD p (by omega)]
 unfold betw toQ
 have e : ((2 : Int) : Rat) = 2 := rfl
 rw [e]
 simp only [Rat.intCast_add]
 refine Dsc.ext ?_ ?_ ?_ <;> dsimp only <;> grind
theorem cross_q (a b c : Int × Int) : ((cross a b c : Int) : Rat) = ((toQ b).1 - (toQ a).1) * ((toQ c).2 - (toQ a).2) - ((toQ b).2 - (toQ a).2) * ((toQ c).1 - (toQ a).1) := by
 unfold cross toQ; simp only [Rat.intCast_sub, Rat.intCast_mul]
theorem cross_ne {a b c : Int × Int} : cross a b c ≠ 0 ↔ ((toQ b).1 - (toQ a).1) * ((toQ c).2 - (toQ a).2) - ((toQ b).2 - (toQ a).2) * ((toQ c).1 - (toQ a).1) ≠ 0 := by
 rw [← cross_q]
 constructor
 ·intro h e; exact h (Rat.intCast_inj.1 (by simpa using e))
 ·intro h e; exact h (by rw [e]; rfl)
theorem thrC_toD {a b c : Int × Int} (h : cross a b c ≠ 0) : toD (thrC a b c) = thr (toQ a) (toQ b) (toQ c) := by
 unfold thrC; rw [mkR_toD a (by omega)]
 unfold thr
 have e2 : ((2 : Int) : Rat) = 2 := rfl
 have hq := cross_q a b c
 have hi : ((2 * cross a b c : Int) : Rat) * ((2 * cross a b c : Int) : Rat)⁻¹ = 1 := Rat.mul_inv_cancel _ (fun e => by have : 2 * cross a b c = 0 := Rat.intCast_inj.1 (by simpa using e); omega)
 unfold nx ny
 simp only [Rat.intCast_sub, Rat.intCast_add, Rat.intCast_mul, e2] at hi ⊢
 rw [hq] at hi ⊢
 unfold toQ at hi ⊢
 dsimp only at hi ⊢
 generalize (2 * (((b.1 : Rat) - (a.1 : Rat)) * ((c.2 : Rat) - (a.2 : Rat)) - ((b.2 : Rat) - (a.2 : Rat)) * ((c.1 : Rat) - (a.1 : Rat))))⁻¹ = i at *
 refine Dsc.ext ?_ ?_ ?_ <;> dsimp only <;> grind
end Go.Proofs.YtnehaifgcegemaaGreat.Tu
namespace Go.Proofs.YtnehaifgcegemaaGreat.Tu
open Go Go.TH Go.TH.Dsc
theorem mul_bd {a b A B : Int} (ha : -A ≤ a ∧ a ≤ A) (hb : -B ≤ b ∧ b ≤ B) : -(A * B) ≤ a * b ∧ a * b ≤ A * B := by
 have hA : 0 ≤ A := by omega
 have hB : 0 ≤ B := by omega
 have key : ∀ {a b : Int}, 0 ≤ a → a ≤ A → 0 ≤ b → b ≤ B → 0 ≤ a * b ∧ a * b ≤ A * B := fun h1 h2 h3 h4 => ⟨Int.mul_nonneg h1 h3, Int.mul_le_mul h2 h4 h3 hA⟩
 rcases Int.le_total 0 a with g | g <;> rcases Int.le_total 0 b with k | k
 ·have := key g ha.2 k hb.2; omega
 ·have := key g ha.2 (show 0 ≤ -b by omega) (by omega); rw [Int.mul_neg] at this; omega
 ·have := key (show 0 ≤ -a by omega) (by omega) k hb.2; rw [Int.neg_mul] at this; omega
 ·have := key (show 0 ≤ -a by omega) (by omega) (show 0 ≤ -b by omega) (by omega); rw [Int.neg_mul_neg] at this; omega
theorem sq_bd {a A : Int} (ha : -A ≤ a ∧ a ≤ A) : 0 ≤ a * a ∧ a * a ≤ A * A := ⟨by have := sq2_nn a 0; omega, (mul_bd ha ha).2⟩
theorem aloneC_ok {p : Int × Int} (hp : OkP p) : OkR (aloneC p) := by
 obtain ⟨h1, h2⟩ := hp
 refine mkR_ok (by omega) (by omega) (by omega) (by omega) ?_
 unfold far2
 rw [show p.1 * 1 - p.1 = 0 by omega, show p.2 * 1 - p.2 = 0 by omega]
 decide
theorem dist_bd {p q : Int × Int} (hp : OkP p) (hq : OkP q) : 0 ≤ (p.1 - q.1) * (p.1 - q.1) + (p.2 - q.2) * (p.2 - q.2) ∧ (p.1 - q.1) * (p.1 - q.1) + (p.2 - q.2) * (p.2 - q.2) ≤ 80000 := by
 obtain ⟨h1, h2⟩ := hp
 obtain ⟨h3, h4⟩ := hq
 have a := sq_bd (a := p.1 - q.1) (A := 200) (by omega)
 have b := sq_bd (a := p.2 - q.2) (A := 200) (by omega)
 omega
theorem betwC_ok {p q : Int × Int} (hp : OkP p) (hq : OkP q) : OkR (betwC p q) := by
 have hd := dist_bd hp hq
 obtain ⟨h1, h2⟩ := hp
 obtain ⟨h3, h4⟩ := hq
 refine mkR_ok (by omega) (by omega) (by omega) (by omega) ?_
 rw [show far2 (p.1 + q.1) (p.2 + q.2) 2 p = (p.1 - q.1) * (p.1 - q.1) + (p.2 - q.2) * (p.2 - q.2) by unfold far2; grind]
 omega
theorem cross_bd {a b c : Int × Int} (ha : OkP a) (hb : OkP b) (hc : OkP c) : -80000 ≤ cross a b c ∧ cross a b c ≤ 80000 := by
 obtain ⟨a1, a2⟩ := ha
 obtain ⟨b1, b2⟩ := hb
 obtain ⟨c1, c2⟩ := hc
 have h1 := mul_bd (a := b.1 - a.1) (b := c.2 - a.2) (A := 200) (B := 200) (by omega) (by omega)
 have h2 := mul_bd (a := b.2 - a.2) (b := c.1 - a.1) (A := 200) (B := 200) (by omega) (by omega)
 unfold cross; omega
theorem nx_bd {a b c : Int × Int} (ha : OkP a) (hb : OkP b) (hc : OkP c) : -48000000 ≤ nx a b c ∧ nx a b c ≤ 48000000 := by
 have d1 := dist_bd hb ha
 have d2 := dist_bd hc ha
 have hx := cross_bd ha hb hc
 obtain ⟨a1, a2⟩ := ha
 obtain ⟨b1, b2⟩ := hb
 obtain ⟨c1, c2⟩ := hc
 have h1 := mul_bd (a := a.1) (b := 2 * cross a b c) (A := 100) (B := 160000) (by omega) (by omega)
 have h2 := mul_bd (a := (b.1 - a.1) * (b.1 - a.1) + (b.2 - a.2) * (b.2 - a.2)) (b := c.2 - a.2) (A := 80000) (B := 200) (by omega) (by omega)
 have h3 := mul_bd (a := (c.1 - a.1) * (c.1 - a.1) + (c.2 - a.2) * (c.2 - a.2)) (b := b.2 - a.2) (A := 80000) (B := 200) (by omega) (by omega)
 unfold nx; omega
theorem ny_bd {a b c : Int × Int} (ha : OkP a) (hb : OkP b) (hc : OkP c) : -48000000 ≤ ny a b c ∧ ny a b c ≤ 48000000 := by
 have d1 := dist_bd hb ha
 have d2 := dist_bd hc ha
 have hx := cross_bd ha hb hc
 obtain ⟨a1, a2⟩ := ha
 obtain ⟨b1, b2⟩ := hb
 obtain ⟨c1, c2⟩ := hc
 have h1 := mul_bd (a := a.2) (b := 2 * cross a b c) (A := 100) (B := 160000) (by omega) (by omega)
 have h2 := mul_bd (a := (c.1 - a.1) * (c.1 - a.1) + (c.2 - a.2) * (c.2 - a.2)) (b := b.1 - a.1) (A := 80000) (B := 200) (by omega) (by omega)
 have h3 := mul_bd (a := (b.1 - a.1) * (b.1 - a.1) + (b.2 - a.2) * (b.2 - a.2)) (b := c.1 - a.1) (A := 80000) (B := 200) (by omega) (by omega)
 unfold ny; omega
theorem far_thr (a b c : Int × Int) : far2 (nx a b c) (ny a b c) (2 * cross a b c) a = ((b.1 - a.1) * (b.1 - a.1) + (b.2 - a.2) * (b.2 - a.2)) * ((c.1 - a.1) * (c.1 - a.1) + (c.2 - a.2) * (c.2 - a.2)) * ((b.1 - c.1) * (b.1 - c.1) + (b.2 - c.2) * (b.2 - c.2)) := by
 unfold far2 nx ny
 generalize cross a b c = x
 grind
theorem thrC_ok {a b c : Int × Int} (ha : OkP a) (hb : OkP b) (hc : OkP c) (h : cross a b c ≠ 0) : OkR (thrC a b c) := by
 have hx := cross_bd ha hb hc
 have h1 := nx_bd ha hb hc
 have h2 := ny_bd ha hb hc
 refine mkR_ok (by omega) (by omega) (by omega) (by omega) ?_
 rw [far_thr]
 have d1 := dist_bd hb ha
 have d2 := dist_bd hc ha
 have d3 := dist_bd hb hc
 have m1 := mul_bd (a := (b.1 - a.1) * (b.1 - a.1) + (b.2 - a.2) * (b.2 - a.2)) (b := (c.1 - a.1) * (c.1 - a.1) + (c.2 - a.2) * (c.2 - a.2)) (A := 80000) (B := 80000) (by omega) (by omega)
 have m2 := mul_bd (b := (b.1 - c.1) * (b.1 - c.1) + (b.2 - c.2) * (b.2 - c.2)) (A := 80000 * 80000) (B := 80000) m1 (by omega)
 omega
structure Sm (l R : List (Int × Int)) (c : Cir) : Prop where
 can : Can c
 ok : OkR c
 best : Best (l.map toQ) (R.map toQ) (toD c)
def Ex (l R : List (Int × Int)) : Prop := ∃ E, Hold E (l.map toQ) ∧ On E (R.map toQ)
theorem Sm.uniq {l R : List (Int × Int)} {c c' : Cir} (h : Sm l R c) (h' : Sm l R c') : c = c' :=
 h.can.inj h'.can (h'.best.uniq h.best.hold h.best.on (h.best.min _ h'.best.hold h'.best.on))
theorem Sm.hold {l R : List (Int × Int)} {c : Cir} (h : Sm l R c) : holdL c l := (holdL_iff h.can.den h.can.d l).2 h.best.hold
theorem Sm.on {l R : List (Int × Int)} {c : Cir} (h : Sm l R c) : ∀ p ∈ R, whr c p = 0 := fun p hp => (whr_zero h.can.den h.can.d p).2 (h.best.on _ (List.mem_map_of_mem hp))
theorem Sm.more {l l' R : List (Int × Int)} {c : Cir} (h : Sm l R c) (hs : ∀ p ∈ l, p ∈ l') (h' : holdL c l') : Sm l' R c :=
 ⟨h.can, h.ok, h.best.sub (fun p hp => by obtain ⟨q, hq, rfl⟩ := List.mem_map.1 hp; exact List.mem_map_of_mem (hs q hq)) ((holdL_iff h.can.den h.can.d l').1 h')⟩
theorem Sm.ex {l R : List (Int × Int)} {c : Cir} (h : Sm l R c) : Ex l R := ⟨_, h.best.hold, h.best.on⟩
theorem Ex.sub {l l' R : List (Int × Int)} (h : Ex l R) (hs : ∀ p ∈ l', p ∈ l) : Ex l' R := by
 obtain ⟨E, a, b⟩ := h
 exact ⟨E, fun p hp => by obtain ⟨q, hq, rfl⟩ := List.mem_map.1 hp; exact a _ (List.mem_map_of_mem (hs q hq)), b⟩
theorem Ex.nil (l : List (Int × Int)) : Ex l [] := big _
theorem map_snoc (l : List (Int × Int)) (p : Int × Int) : (l ++ [p]).map toQ = l.map toQ ++ [toQ p] := by simp
theorem Sm.next {l R : List (Int × Int)} {c : Cir} {p : Int × Int} (h : Sm l R c) (hp : 0 < whr c p) (he : Ex (l ++ [p]) R) : Ex l (p :: R) := by
 unfold Ex at he; rw [map_snoc] at he
 exact h.best.next ((whr_pos h.can.den h.can.d p).1 hp) he
theorem Sm.grow {l R : List (Int × Int)} {c c' : Cir} {p : Int × Int} (h : Sm l R c) (hp : 0 < whr c p) (h' : Sm l (p :: R) c') : Sm (l ++ [p]) R c' :=
 ⟨h'.can, h'.ok, by rw [map_snoc]; exact h.best.grow ((whr_pos h.can.den h.can.d p).1 hp) h'.best⟩
theorem Sm.alone {p : Int × Int} (hp : OkP p) : Sm [] [p] (aloneC p) := ⟨mkR_can p (by omega), aloneC_ok hp, by rw [aloneC_toD]; exact alone_best _⟩
theorem Sm.alone1 {p : Int × Int} (hp : OkP p) : Sm [p] [] (aloneC p) := ⟨mkR_can p (by omega), aloneC_ok hp, by rw [aloneC_toD]; exact alone_best1 _⟩
theorem Sm.betw {p q : Int × Int} (hp : OkP p) (hq : OkP q) : Sm [] [p, q] (betwC p q) := ⟨mkR_can p (by omega), betwC_ok hp hq, by rw [betwC_toD]; exact betw_best _ _⟩
theorem Sm.thr {l : List (Int × Int)} {p q r : Int × Int} {c : Cir} (h : Sm l [p, q] c) (hp : OkP p) (hq : OkP q) (hr : OkP r) (hn : p ≠ q) (hw : 0 < whr c r) (he : Ex (l ++ [r]) [p, q]) : cross r p q ≠ 0 ∧ Sm (l ++ [r]) [p, q] (thrC r p q) := by
 unfold Ex at he; rw [map_snoc] at he
 obtain ⟨h1, h2⟩ := both_step (fun e => hn (toQ_inj e)) h.best ((whr_pos h.can.den h.can.d r).1 hw) he
 have hx : cross r p q ≠ 0 := cross_ne.2 h1
 exact ⟨hx, mkR_can r (by omega), thrC_ok hr hp hq hx, by rw [map_snoc, thrC_toD hx]; exact h2⟩
theorem Sm.ne {l R : List (Int × Int)} {c : Cir} {p r : Int × Int} (h : Sm l R c) (hp : p ∈ R) (hw : 0 < whr c r) : r ≠ p := fun e => by
 subst e; have := h.on _ hp; omega
theorem betwC_same {p : Int × Int} : betwC p p = aloneC p := by
 refine (mkR_can p (by omega)).inj (mkR_can p (by omega)) ?_
 show toD (betwC p p) = toD (aloneC p)
 rw [betwC_toD, aloneC_toD]
 unfold Dsc.betw Dsc.alone
 refine Dsc.ext ?_ ?_ ?_ <;> dsimp only <;> grind
theorem betwC_comm {p q : Int × Int} : betwC p q = betwC q p := by
 refine (mkR_can p (by omega)).inj (mkR_can q (by omega)) ?_
 show toD (betwC p q) = toD (betwC q p)
 rw [betwC_toD, betwC_toD]
 unfold Dsc.betw
 refine Dsc.ext ?_ ?_ ?_ <;> dsimp only <;> grind
theorem thrC_perm {a b c a' b' c' : Int × Int} (h : cross a b c ≠ 0) (h' : cross a' b' c' ≠ 0) (hp : ∀ p ∈ [a', b', c'], p ∈ [a, b, c]) : thrC a b c = thrC a' b' c' := by
 refine (mkR_can a (by omega)).inj (mkR_can a' (by omega)) ?_
 show toD (thrC a b c) = toD (thrC a' b' c')
 rw [thrC_toD h, thrC_toD h']
 have o1 := thr_on (cross_ne.1 h)
 refine three (a := toQ a') (b := toQ b') (c := toQ c') (fun q hq => o1 q ?_) (thr_on (cross_ne.1 h')) (cross_ne.1 h')
 have : q ∈ [a', b', c'].map toQ := hq
 obtain ⟨r, hr, rfl⟩ := List.mem_map.1 this
 exact List.mem_map_of_mem (f := toQ) (hp r hr)
end Go.Proofs.YtnehaifgcegemaaGreat.Tu
namespace Go.Proofs.YtnehaifgcegemaaGreat.Tu
open Go Go.TH Go.TH.Dsc
abbrev Pts := List (Int × Int)
abbrev Pts.at (l : Pts) (i : Nat) : Int × Int := l.getD i (0, 0)
def candM (l : Pts) (i k : Nat) (n : Nat) : List Cir := (List.range n).flatMap fun m => if cross (l.at i) (l.at k) (l.at m) = 0 then [] else [thrC (l.at i) (l.at k) (l.at m)]
def candK (l : Pts) (i : Nat) (n : Nat) : List Cir := (List.range n).flatMap fun k => betwC (l.at i) (l.at k) :: candM l i k k
def candI (l : Pts) (n : Nat) : List Cir := (List.range n).flatMap fun i => aloneC (l.at i) :: candK l i i
def cands (l : Pts) : List Cir := candI l l.length
def lessC (a b : Cir) : Prop := cmp a.n a.d b.n b.d < 0
instance (a b : Cir) : Decidable (lessC a b) := by unfold lessC; infer_instance
def pickC (l : Pts) (b : Option Cir) (c : Cir) : Option Cir := match b with
 | none => if holdL c l then some c else none
 | some b => if lessC c b ∧ holdL c l then some c else some b
def lst (l : Pts) : Cir := ((cands l).foldl (pickC l) none).getD ⟨0, 0, 0, 0, 0⟩
structure OkC (c : Cir) : Prop where
 can : Can c
 ok : OkR c
theorem at_ok {l : Pts} (h : OkL l) {i : Nat} (hi : i < l.length) : OkP (l.at i) := h _ (getD_mem hi _)
theorem mem_candI {l : Pts} {n : Nat} {c : Cir} : c ∈ candI l n ↔ ∃ i, i < n ∧ (c = aloneC (l.at i) ∨ ∃ k, k < i ∧ (c = betwC (l.at i) (l.at k) ∨ ∃ m, m < k ∧ cross (l.at i) (l.at k) (l.at m) ≠ 0 ∧ c = thrC (l.at i) (l.at k) (l.at m))) := by
 unfold candI candK candM
 simp only [List.mem_flatMap, List.mem_range, List.mem_cons]
 constructor
 ·rintro ⟨i, hi, h | ⟨k, hk, h | ⟨m, hm, h⟩⟩⟩
  ·exact ⟨i, hi, .inl h⟩
  ·exact ⟨i, hi, .inr ⟨k, hk, .inl h⟩⟩
  ·split at h
   ·simp at h
   ·rename_i hx; exact ⟨i, hi, .inr ⟨k, hk, .inr ⟨m, hm, hx, by simpa using h⟩⟩⟩
 ·rintro ⟨i, hi, h | ⟨k, hk, h | ⟨m, hm, hx, h⟩⟩⟩
  ·exact ⟨i, hi, .inl h⟩
  ·exact ⟨i, hi, .inr ⟨k, hk, .inl h⟩⟩
  ·exact ⟨i, hi, .inr ⟨k, hk, .inr ⟨m, hm, by rw [if_neg hx]; simp [h]⟩⟩⟩
theorem cands_ok {l : Pts} (h : OkL l) : ∀ c ∈ cands l, OkC c := fun c hc => by
 obtain ⟨i, hi, rfl | ⟨k, hk, rfl | ⟨m, hm, hx, rfl⟩⟩⟩ := mem_candI.1 hc
 ·exact ⟨mkR_can _ (by omega), aloneC_ok (at_ok h hi)⟩
 ·exact ⟨mkR_can _ (by omega), betwC_ok (at_ok h hi) (at_ok h (by omega))⟩
 ·exact ⟨mkR_can _ (by omega), thrC_ok (at_ok h hi) (at_ok h (by omega)) (at_ok h (by omega)) hx⟩
structure Pick1 (l : Pts) (cs : List Cir) (c : Cir) : Prop where
 mem : c ∈ cs
 hold : holdL c l
 min : ∀ c' ∈ cs, holdL c' l → ¬ lessC c' c
theorem cmp_neg {a b c d : Int} : cmp a b c d < 0 ↔ a * d < c * b := by unfold cmp sgn; split <;> (try split) <;> omega
theorem lessC_iff {a b : Cir} (ha : OkC a) (hb : OkC b) : lessC a b ↔ (toD a).s < (toD b).s := by
 unfold lessC; rw [cmp_neg]
 exact (frac_lt ha.can.d hb.can.d).symm
theorem Pick1.sm {l : Pts} {cs : List Cir} {c c0 : Cir} (h : Pick1 l cs c) (hk : ∀ c ∈ cs, OkC c) (h0 : c0 ∈ cs) (hs : Sm l [] c0) : Sm l [] c := by
 have hc := hk _ h.mem
 have h2 := h.min _ h0 hs.hold
 rw [lessC_iff (hk _ h0) hc, Rat.not_lt] at h2
 have e := hs.best.uniq ((holdL_iff hc.can.den hc.can.d l).1 h.hold) (fun p hp => by simp at hp) h2
 rw [hc.can.inj hs.can e]; exact hs
theorem cross_perm (a b c : Int × Int) : cross a c b = -cross a b c ∧ cross b a c = -cross a b c ∧ cross b c a = cross a b c ∧ cross c a b = cross a b c ∧ cross c b a = -cross a b c := by
 unfold cross; refine ⟨?_, ?_, ?_, ?_, ?_⟩ <;> grind
theorem cand_betw {l : Pts} {a b : Nat} (ha : a < l.length) (hb : b < l.length) (hn : a ≠ b) : betwC (l.at a) (l.at b) ∈ cands l := by
 refine mem_candI.2 ?_
 rcases Nat.lt_or_ge a b with h | h
 ·exact ⟨b, hb, .inr ⟨a, h, .inl betwC_comm⟩⟩
 ·exact ⟨a, ha, .inr ⟨b, by omega, .inl rfl⟩⟩
theorem cand_thr {l : Pts} {a b c : Nat} (ha : a < l.length) (hb : b < l.length) (hc : c < l.length) (h1 : a ≠ b) (h2 : a ≠ c) (h3 : b ≠ c) (hx : cross (l.at a) (l.at b) (l.at c) ≠ 0) : thrC (l.at a) (l.at b) (l.at c) ∈ cands l := by
 obtain ⟨p1, p2, p3, p4, p5⟩ := cross_perm (l.at a) (l.at b) (l.at c)
 have key : ∀ i k m : Nat, i < l.length → k < i → m < k → cross (l.at i) (l.at k) (l.at m) ≠ 0 → (∀ p ∈ [l.at i, l.at k, l.at m], p ∈ [l.at a, l.at b, l.at c]) → thrC (l.at a) (l.at b) (l.at c) ∈ cands l := fun i k m hi hk hm hy hp =>
  mem_candI.2 ⟨i, hi, .inr ⟨k, hk, .inr ⟨m, hm, hy, thrC_perm hx hy hp⟩⟩⟩
 rcases Nat.lt_or_ge a b with g1 | g1 <;> rcases Nat.lt_or_ge b c with g2 | g2 <;> rcases Nat.lt_or_ge a c with g3 | g3
 ·exact key c b a hc (by omega) (by omega) (by omega) (by simp)
 ·omega
 ·exact key b c a hb (by omega) (by omega) (by omega) (by simp)
 ·exact key b a c hb (by omega) (by omega) (by omega) (by simp)
 ·exact key c a b hc (by omega) (by omega) (by omega) (by simp)
 ·exact key a c b ha (by omega) (by omega) (by omega) (by simp)
 ·omega
 ·exact key a b c ha (by omega) (by omega) (by omega) (by simp)
theorem mem_at {l : Pts} {p : Int × Int} (h : p ∈ l) : ∃ i, i < l.length ∧ l.at i = p := by
 obtain ⟨i, hi, e⟩ := List.getElem_of_mem h
 exact ⟨i, hi, by simp [Pts.at, hi, e]⟩
theorem two_of {D : Dsc} {r s t p q : Rat × Rat} (hb : Best [r, s, t] [] D) (ho : On D [r, s, t]) (hp : p ∈ [r, s, t]) (hq : q ∈ [r, s, t]) (ha : ∀ x ∈ [r, s, t], x = p ∨ x = q) : Dsc.betw p q = D := by
 have hbo := betw_on p q
 refine hb.uniq (fun x hx => ?_) (fun x hx => by simp at hx) ((betw_best p q).min D (fun x hx => by simp at hx) (fun x hx => ?_))
 ·rcases ha x hx with rfl | rfl
  ·rw [hbo x (by simp)]; exact Rat.le_refl
  ·rw [hbo x (by simp)]; exact Rat.le_refl
 ·have : x = p ∨ x = q := by simpa using hx
  rcases this with rfl | rfl
  ·exact ho _ hp
  ·exact ho _ hq
theorem best_cand {l : Pts} (h : OkL l) {D : Dsc} {r s t : Int × Int} (hr : r ∈ l) (hs : s ∈ l) (ht : t ∈ l) (hb : Best [toQ r, toQ s, toQ t] [] D) (ho : On D [toQ r, toQ s, toQ t]) : ∃ c ∈ cands l, toD c = D := by
 obtain ⟨i, hi, rfl⟩ := mem_at hr
 obtain ⟨k, hk, rfl⟩ := mem_at hs
 obtain ⟨m, hm, rfl⟩ := mem_at ht
 have pair : ∀ a b : Nat, a < l.length → b < l.length → toQ (l.at a) ∈ [toQ (l.at i), toQ (l.at k), toQ (l.at m)] → toQ (l.at b) ∈ [toQ (l.at i), toQ (l.at k), toQ (l.at m)] → (∀ x ∈ [toQ (l.at i), toQ (l.at k), toQ (l.at m)], x = toQ (l.at a) ∨ x = toQ (l.at b)) → ∃ c ∈ cands l, toD c = D := fun a b ha hb' hpa hpb hall => by
  have e := two_of hb ho hpa hpb hall
  rcases Decidable.em (a = b) with rfl | hn
  ·exact ⟨aloneC (l.at a), mem_candI.2 ⟨a, ha, .inl rfl⟩, by rw [← betwC_same, betwC_toD]; exact e⟩
  ·exact ⟨betwC (l.at a) (l.at b), cand_betw ha hb' hn, by rw [betwC_toD]; exact e⟩
 rcases Decidable.em (l.at i = l.at k) with e1 | e1
 ·exact pair k m hk hm (by simp) (by simp) (by rw [e1]; simp)
 rcases Decidable.em (l.at i = l.at m) with e2 | e2
 ·exact pair i k hi hk (by simp) (by simp) (by rw [← e2]; simp)
 rcases Decidable.em (l.at k = l.at m) with e3 | e3
 ·exact pair i k hi hk (by simp) (by simp) (by rw [← e3]; simp)
 have nl := not_line (E := D) (p := toQ (l.at i)) (q := toQ (l.at k)) (r := toQ (l.at m)) (ho _ (by simp)) (ho _ (by simp)) (ho _ (by simp)) (fun e => e1 (toQ_inj e)) (fun e => e2 (toQ_inj e).symm) (fun e => e3 (toQ_inj e).symm)
 have hx := cross_ne.2 nl
 refine ⟨thrC (l.at i) (l.at k) (l.at m), cand_thr hi hk hm (fun e => e1 (by rw [e])) (fun e => e2 (by rw [e])) (fun e => e3 (by rw [e])) hx, ?_⟩
 rw [thrC_toD hx]
 exact three (thr_on nl) ho nl
structure Prove (l : Pts) (D : Dsc) (r s t : Int × Int) (u v w : Rat) : Prop where
 hr : r ∈ l
 hs : s ∈ l
 ht : t ∈ l
 hu : 0 ≤ u
 hv : 0 ≤ v
 hw : 0 ≤ w
 mid : Mid D (toQ r) (toQ s) (toQ t) u v w
theorem prove_ex {l : Pts} (h0 : l ≠ []) : ∃ D r s t u v w, Best (l.map toQ) [] D ∧ Prove l D r s t u v w := by
 obtain ⟨D, hb, r, s, t, u, v, w, hr, hs, ht, hu, hv, hw, hm⟩ := best_ex (l := l.map toQ) (by simpa using h0)
 obtain ⟨r', hr', rfl⟩ := List.mem_map.1 hr
 obtain ⟨s', hs', rfl⟩ := List.mem_map.1 hs
 obtain ⟨t', ht', rfl⟩ := List.mem_map.1 ht
 exact ⟨D, r', s', t', u, v, w, hb, hr', hs', ht', hu, hv, hw, hm⟩
theorem sm_cand {l : Pts} (h : OkL l) (h0 : l ≠ []) : ∃ c ∈ cands l, Sm l [] c := by
 obtain ⟨D, r, s, t, u, v, w, hb, hp⟩ := prove_ex h0
 obtain ⟨c, hc, e⟩ := best_cand h hp.hr hp.hs hp.ht (hp.mid.best hp.hu hp.hv hp.hw) hp.mid.on
 have hk := cands_ok h c hc
 exact ⟨c, hc, hk.can, hk.ok, by rw [e]; exact hb⟩
def PickO (l : Pts) (cs : List Cir) : Option Cir → Prop
 | none => ∀ c ∈ cs, ¬ holdL c l
 | some c => Pick1 l cs c
theorem cmp_trans {a b c d e g : Int} (hb : 0 < b) (hd : 0 < d) (hg : 0 < g) (h1 : a * d < c * b) (h2 : ¬ e * d < c * g) : ¬ e * b < a * g := fun h3 => by
 have k1 := Int.mul_lt_mul_of_pos_right h1 hg
 have k2 := Int.mul_le_mul_of_nonneg_right (Int.not_lt.1 h2) (Int.le_of_lt hb)
 have k3 := Int.mul_lt_mul_of_pos_right h3 hd
 have e1 : a * d * g = a * g * d := by grind
 have e2 : c * g * b = c * b * g := by grind
 have e3 : e * d * b = e * b * d := by grind
 omega
theorem PickO.snoc {l : Pts} {cs : List Cir} {b : Option Cir} {c : Cir} (h : PickO l cs b) (hk : ∀ c ∈ cs, OkC c) (hc : OkC c) : PickO l (cs ++ [c]) (pickC l b c) := by
 unfold pickC
 cases b with
 | none =>
  dsimp only
  split
  ·rename_i h1
   exact ⟨by simp, h1, fun c' hc' hh => by
    rcases List.mem_append.1 hc' with g | g
    ·exact absurd hh (h c' g)
    ·have : c' = c := by simpa using g
     subst this; unfold lessC; rw [cmp_neg]; omega⟩
  ·rename_i h1
   exact fun c' hc' => by
    rcases List.mem_append.1 hc' with g | g
    ·exact h c' g
    ·have : c' = c := by simpa using g
     subst this; exact h1
 | some b =>
  dsimp only
  have hb : Pick1 l cs b := h
  split
  ·rename_i h1
   refine ⟨by simp, h1.2, fun c' hc' hh => ?_⟩
   rcases List.mem_append.1 hc' with g | g
   ·have := hb.min c' g hh
    have h2 := h1.1
    unfold lessC at this h2 ⊢
    rw [cmp_neg] at this h2 ⊢
    exact cmp_trans hc.can.d (hk _ hb.mem).can.d (hk _ g).can.d h2 this
   ·have : c' = c := by simpa using g
    subst this; unfold lessC; rw [cmp_neg]; omega
  ·rename_i h1
   refine ⟨by simp [hb.mem], hb.hold, fun c' hc' hh => ?_⟩
   rcases List.mem_append.1 hc' with g | g
   ·exact hb.min c' g hh
   ·have : c' = c := by simpa using g
    subst this; exact fun g => h1 ⟨g, hh⟩
theorem pickO_fold {l : Pts} : ∀ {cs : List Cir}, (∀ c ∈ cs, OkC c) → PickO l cs (cs.foldl (pickC l) none) := by
 intro cs hk
 have key : ∀ (ys xs : List Cir) (b : Option Cir), (∀ c ∈ xs ++ ys, OkC c) → PickO l xs b → PickO l (xs ++ ys) (ys.foldl (pickC l) b) := by
  intro ys
  induction ys with
  | nil => intro xs b _ hb; simpa using hb
  | cons y ys ih =>
   intro xs b hk hb
   have := ih (xs ++ [y]) (pickC l b y) (by simpa using hk) (hb.snoc (fun c hc => hk c (by simp [hc])) (hk y (by simp)))
   simpa using this
 exact key cs [] none (by simpa using hk) (fun c hc => by simp at hc)
theorem lst_sm {l : Pts} (h : OkL l) (h0 : l ≠ []) : Sm l [] (lst l) := by
 obtain ⟨c0, hc0, hs⟩ := sm_cand h h0
 have hp := pickO_fold (l := l) (cands_ok h)
 unfold lst
 cases e : (cands l).foldl (pickC l) none with
 | none => rw [e] at hp; exact absurd hs.hold (hp c0 hc0)
 | some c => rw [e] at hp; exact Pick1.sm hp (cands_ok h) hc0 hs
theorem Sm.lst {l : Pts} {c : Cir} (h : OkL l) (h0 : l ≠ []) (hs : Sm l [] c) : c = lst l := hs.uniq (lst_sm h h0)
end Go.Proofs.YtnehaifgcegemaaGreat.Tu
namespace Go.Proofs.YtnehaifgcegemaaGreat.Tu
open Go Go.TH
attribute [local irreducible] W WO pt
set_option maxRecDepth 10000
set_option maxHeartbeats 1000000
def encC (c : Cir) : List Value := [.int .i64 c.x, .int .i64 c.y, .int .i64 c.den, .int .i64 c.n, .int .i64 c.d]
def Missed (c : Cir) (l : Pts) (n : Int) : Prop := (n = -1 ∧ holdL c l) ∨ ∃ i : Nat, n = i ∧ i < l.length ∧ 0 < whr c (l.at i) ∧ holdL c (l.take i)
theorem c_missed (w : World) (c : Cir) (o : Value) (ho : o.oneCell' = true) (v : Value) (l : Pts) (hR : RdF encP 2 w.heap.size w v l) (hc : OkR c) (hl : OkL l) :
 RetE Tryz.prog 144 [.agg #[.int .i64 c.x, .int .i64 c.y, .int .i64 c.den, .int .i64 c.n, .int .i64 c.d, o], v].toArray w (fun r => ∃ n : Int, r = .int .i64 n ∧ Missed c l n) := by
 refine RetE.of mixed tyTab Tryz.func144 rfl rfl ?_
 replace hR : RdF encP 2 (fnCx mixed tyTab Tryz.f144.ntmps w).B (fnCx mixed tyTab Tryz.f144.ntmps w).w0 v l := hR
 have hle := hR.sl.le
 refine W.sreg (WO.boxA rfl rfl (fun b1 hb1 => (WO.p rfl rfl (WO.nil (W.scope (W.sreg (WO.p rfl rfl (WO.nil (W.sreg (WO.loadA rfl rfl (Cells.own Pick.head) rfl rfl (WO.p rfl rfl (WO.p rfl rfl (WO.nil (W.seq (W.label (W.seq (W.sreg (WO.p rfl rfl (WO.len rfl rfl hR.sl rfl (WO.p rfl rfl (WO.nil (W.block ?_))))))))))))))))))))))
 refine W.loop (fun (i : Nat) => i ≤ l.length ∧ holdL c (l.take i))
  (fun (i : Nat) => [(13, .int .i64 (i : Int)), (12, .int .i64 (l.length : Int)), (11, v), (5, .int .i64 (-1)), (6, .func (.func 224) #[.agg #[.int .i64 c.x, .int .i64 c.y, .int .i64 c.den, .int .i64 c.n, .int .i64 c.d, o]] #[])])
  (fun (i : Nat) => [])
  (fun (i : Nat) => l.length - i) 0
  (by exact ⟨by omega, fun x hx => by simp at hx⟩) ⟨rfl, rfl, rfl, rfl, rfl, trivial⟩ (by repeat (first | exact Sub.nil | refine Sub.cons (by repeat first | exact .head | apply Pick.tail) ?_)) ?_
 rintro i ⟨hi, hal⟩
 refine W.sreg (WO.p rfl rfl (WO.nil (W.seq ?_)))
 refine W.cond_bl rfl (fun c1 => ?_) (fun c1 => ?_)
 ·refine W.skip (W.seq (W.block (W.sreg (WO.p rfl rfl (WO.indexAddr rfl rfl rfl hR.sl (by first | omega | (simp; omega)) rfl (WO.loadA rfl rfl (RdF.cells2 hR (i := i) (by omega)) rfl rfl (WO.alloc rfl rfl rfl (fun b2 hb2 => (WO.p rfl rfl (WO.storeA rfl rfl rfl rfl Pick.head rfl rfl (WO.nil (W.sreg (WO.p rfl rfl (WO.loadA rfl rfl (Cells.own Pick.head) rfl rfl (WO.callCR (first := [.agg #[.int .i64 c.x, .int .i64 c.y, .int .i64 c.den, .int .i64 c.n, .int .i64 c.d, o]]) (captured := []) rfl rfl Tryz.call224 (fun L w hi' => c_where w c o ho (l.at i) hc (at_ok hl (by omega))) rfl (WO.p rfl rfl (WO.nil ?_)))))))))))))))))
  refine W.cond_bl rfl (fun c2 => ?_) (fun c2 => ?_)
  ·refine W.sreg (WO.p rfl rfl (WO.p rfl rfl (WO.nil (W.exit (blk_other rfl (blk_same (W.sreg (WO.p rfl rfl (WO.p rfl rfl (WO.nil (W.ret ?_)))))))))))
   exact fin.ret (Res.one rfl (RV.tmp rfl)) ⟨_, rfl, by first | exact .inl ⟨rfl, all_len (by omega) hal⟩ | exact .inr ⟨i, rfl, by omega, by omega, hal⟩⟩
  ·refine W.skip (W.region (WO.ar rfl rfl rfl (by unfold in64; omega) rfl (WO.p rfl rfl (WO.nil ?_))))
   refine' ⟨i + 1, ?hp, ?hmu, ⟨rfl, rfl, rfl, rfl, rfl, trivial⟩, ?hS⟩
   case hS => repeat (first | exact Sub.nil | refine Sub.cons (by repeat first | exact .head | apply Pick.tail) ?_)
   case hp => exact ⟨by omega, all_succ (by omega) (0, 0) hal (by show whr c (l.at i) ≤ 0; omega)⟩
   case hmu => omega
 ·refine W.exit (blk_same (W.sreg (WO.p rfl rfl (WO.p rfl rfl (WO.nil (W.ret ?_))))))
  exact fin.ret (Res.one rfl (RV.tmp rfl)) ⟨_, rfl, by first | exact .inl ⟨rfl, all_len (by omega) hal⟩ | exact .inr ⟨i, rfl, by omega, by omega, hal⟩⟩
theorem chkL0 {l : Pts} : chkL l = 0 ↔ (1 ≤ l.length ∧ l.length ≤ 24) ∧ OkL l := by
 unfold chkL
 rcases Decidable.em (l.length < 1 ∨ 24 < l.length) with h | h
 ·rw [if_pos h]; exact ⟨fun e => by omega, fun ⟨g, _⟩ => by omega⟩
 ·rw [if_neg h]
  rcases Decidable.em (OkL l) with h1 | h1
  ·rw [if_pos h1]; exact ⟨fun _ => ⟨by omega, h1⟩, fun _ => rfl⟩
  ·rw [if_neg h1]; exact ⟨fun e => by omega, fun ⟨_, g⟩ => absurd g h1⟩
end Go.Proofs.YtnehaifgcegemaaGreat.Tu
namespace Go.Proofs.YtnehaifgcegemaaGreat.Tu
open Go Go.TH
attribute [local irreducible] W WO pt
set_option maxRecDepth 10000
set_option maxHeartbeats 1000000
theorem gcdA3 {x y d : Int} (hd : 0 < d) : gcdA [x, y, d] = gcd3 x y d := by
 unfold gcdA gcd3
 simp only [List.foldl]
 rw [gcd2_0 (ab_nn x), show ab d = d by unfold ab; omega]
theorem gcdA2 {a b : Int} (ha : 0 ≤ a) (hb : 0 ≤ b) : gcdA [a, b] = gcd2 a b := by
 unfold gcdA
 simp only [List.foldl]
 rw [gcd2_0 (ab_nn a), show ab a = a by unfold ab; omega, show ab b = b by unfold ab; omega]
theorem RdF.cellsHd {C : Cx Tryz.prog} {H : List HP} {o : Value} {p : Int × Int} {l : List (Int × Int)} (h : RdF encP 2 C.B C.w0 o (p :: l)) : Cells C H (elt o 0 2) [.int .i64 p.1, .int .i64 p.2] := RdF.cells2 h (i := 0) (by simp)
theorem all_two {q : Int → Prop} {u v : Int} (h1 : q u) (h2 : q v) : ∀ x ∈ [u, v], q x := fun x hx => by
 have : x = u ∨ x = v := by simpa using hx
 rcases this with rfl | rfl <;> assumption
theorem all_three {q : Int → Prop} {u v z : Int} (h1 : q u) (h2 : q v) (h3 : q z) : ∀ x ∈ [u, v, z], q x := fun x hx => by
 have : x = u ∨ x = v ∨ x = z := by simpa using hx
 rcases this with rfl | rfl | rfl <;> assumption
theorem mkN_den {x y d : Int} (hd : 0 < d) : 1 ≤ d.tdiv (gcd3 x y d) ∧ d.tdiv (gcd3 x y d) ≤ d := by
 obtain ⟨g, x', y', d', h1, h2, h3, h4, h5, h6, h7, h8, h9, h10⟩ := mkN_parts (x := x) (y := y) hd
 rw [← h2, h10]
 exact ⟨by omega, by rw [h5]; exact le_mul1 (by omega) (by omega)⟩
theorem c_newRingP (w : World) (x y den : Int) (v : Value) (p : Int × Int) (l : Pts) (hR : RdF encP 2 w.heap.size w v (p :: l)) (hp : OkP p) (hd : 0 < den) (hd2 : -262144 ≤ den ∧ den ≤ 262144) (hx : -268435456 ≤ x ∧ x ≤ 268435456) (hy : -268435456 ≤ y ∧ y ≤ 268435456) :
 Ret Tryz.prog 173 [.int .i64 x, .int .i64 y, .int .i64 den, v].toArray w (.agg ((encC (mkN (x) (y) (den) p) ++ [v]).toArray)) := by
 refine Ret.of mixed tyTab Tryz.func173 rfl rfl ?_
 replace hR : RdF encP 2 (fnCx mixed tyTab Tryz.f173.ntmps w).B (fnCx mixed tyTab Tryz.f173.ntmps w).w0 v (p :: l) := hR
 have hD : 0 < den := by omega
 have hg := gcd3_pos (x := x) (y := y) hD
 have hl0 : 0 < (p :: l).length := by simp
 obtain ⟨hle, a0, c0, rfl, hb0⟩ := hR.sl
 have b1 := tdiv_ab (a := x) hg
 have b2 := tdiv_ab (a := y) hg
 have b3 := mkN_den (x := x) (y := y) hD
 have b4 := mul100 hp.1 (d := (den).tdiv (gcd3 (x) (y) (den))) ⟨b3.1, by omega⟩
 have b5 := mul100 hp.2 (d := (den).tdiv (gcd3 (x) (y) (den))) ⟨b3.1, by omega⟩
 have b6 := den_b (d := (den).tdiv (gcd3 (x) (y) (den))) ⟨b3.1, by omega⟩
 unfold ab at b1 b2
 have q1 := sq_b (x := p.1 * (den).tdiv (gcd3 (x) (y) (den)) - (x).tdiv (gcd3 (x) (y) (den))) (by omega)
 have q2 := sq_b (x := p.2 * (den).tdiv (gcd3 (x) (y) (den)) - (y).tdiv (gcd3 (x) (y) (den))) (by omega)
 generalize hN : (p.1 * (den).tdiv (gcd3 (x) (y) (den)) - (x).tdiv (gcd3 (x) (y) (den))) * (p.1 * (den).tdiv (gcd3 (x) (y) (den)) - (x).tdiv (gcd3 (x) (y) (den))) + (p.2 * (den).tdiv (gcd3 (x) (y) (den)) - (y).tdiv (gcd3 (x) (y) (den))) * (p.2 * (den).tdiv (gcd3 (x) (y) (den)) - (y).tdiv (gcd3 (x) (y) (den))) = n
 have hh := gcd2_pos (a := n) (b := (den).tdiv (gcd3 (x) (y) (den)) * (den).tdiv (gcd3 (x) (y) (den))) (by omega) (by omega)
 refine W.sreg (WO.alloc rfl rfl rfl (fun b1 hb1 => (WO.nil (W.seq (W.sreg (WO.p rfl rfl (WO.p rfl rfl (WO.nil ?_))))))))
 refine W.cond_bl rfl (fun c1 => ?_) (fun c1 => ?_)
 ·exfalso; omega
 ·refine W.skip (W.sreg (WO.p rfl rfl (WO.p rfl rfl (WO.p rfl rfl ?_))))
  refine' WO.buildSl (cs := _) rfl rfl rfl rfl ?hf rfl rfl ?hl rfl (fun v6 => ?_)
  case hf => (conv => lhs; simp [-List.getD_eq_getElem?_getD, -Int.neg_tdiv, fillL, vcl, wrl, TTab.pl?.lget']) <;> rfl
  case hl => rfl
  refine WO.callR (r := .int .i64 (gcd3 (x) (y) (den))) rfl Tryz.call248 (fun L w hi => by rw [← gcdA3 hD]; exact c_common w _ [x, y, den] (RdF.of_ow (e := 2) encI_ok (by repeat first | exact .head | apply Pick.tail) hi) (all_three (by unfold in64; omega) (by unfold in64; omega) (by unfold in64; omega))) rfl (WO.p rfl rfl (WO.nil (W.seq ?_)))
  refine W.drawD 11 [.r 0 [], .r 1 [], .r 2 [], .r 3 [0], .r 4 [0], .r 5 [0], .r 6 [0, 1], .r 7 [0, 1], .r 8 [0, 1], .r 9 [0], .r 10 [0, 1]] [0, 1] (A0 := []) (Sub.refl _) (by kernel_rfl) ?_ ?_
  ·repeat constructor
  refine DT.r rfl rfl rfl (WO.p rfl rfl (WO.nil ⟨rfl, rfl⟩)) (DT.r rfl rfl rfl (WO.p rfl rfl (WO.nil ⟨rfl, rfl⟩)) (DT.r rfl rfl rfl (WO.quo rfl rfl (by first | omega | assumption) (by (first | (unfold in64; omega) | (unfold in64; omega) | exact tdiv_in (by omega) (by omega) (by unfold in64; omega))) rfl (WO.nil ⟨rfl, rfl⟩)) (DT.r rfl rfl rfl (WO.p rfl rfl (WO.nil ⟨rfl, rfl⟩)) (DT.r rfl rfl rfl (WO.p rfl rfl (WO.nil ⟨rfl, rfl⟩)) (DT.r rfl rfl rfl (WO.quo rfl rfl (by first | omega | assumption) (by (first | (unfold in64; omega) | (unfold in64; omega) | exact tdiv_in (by omega) (by omega) (by unfold in64; omega))) rfl (WO.nil ⟨rfl, rfl⟩)) ?_)))))
  refine DT.r rfl rfl rfl (WO.p rfl rfl (WO.nil ⟨rfl, rfl⟩)) (DT.r rfl rfl rfl (WO.p rfl rfl (WO.nil ⟨rfl, rfl⟩)) (DT.r rfl rfl rfl (WO.quo rfl rfl (by first | omega | assumption) (by (first | (unfold in64; omega) | (unfold in64; omega) | exact tdiv_in (by omega) (by omega) (by unfold in64; omega))) rfl (WO.nil ⟨rfl, rfl⟩)) (DT.r rfl rfl rfl (WO.p rfl rfl (WO.nil ⟨rfl, rfl⟩)) (DT.r rfl rfl rfl (WO.p rfl rfl (WO.nil ⟨rfl, rfl⟩)) (DT.nil [_, _] rfl (WO.p rfl rfl (WO.nil (W.sreg (WO.p rfl rfl (WO.indexAddr (i := 0) rfl rfl rfl hR.sl (by first | omega | (simp; omega)) rfl (WO.loadA rfl rfl (RdF.cellsHd hR) rfl rfl (WO.alloc rfl rfl rfl (fun b7 hb7 => ?_)))))))))))))
  refine WO.storeA rfl rfl rfl rfl Pick.head rfl rfl (WO.nil (W.sreg (WO.indexArrL (o' := 0) rfl rfl rfl (by decide) rfl rfl (WO.load rfl rfl (Cell.own Pick.head rfl) rfl (WO.p rfl rfl (WO.ar rfl rfl rfl (by (first | (unfold in64; omega) | (unfold in64; omega) | exact tdiv_in (by omega) (by omega) (by unfold in64; omega))) rfl (WO.p rfl rfl (WO.ar rfl rfl rfl (by (first | (unfold in64; omega) | (unfold in64; omega) | exact tdiv_in (by omega) (by omega) (by unfold in64; omega))) rfl (WO.indexArrL (o' := 1) rfl rfl rfl (by decide) rfl rfl ?_)))))))))
  refine WO.load rfl rfl (Cell.own Pick.head rfl) rfl (WO.p rfl rfl (WO.ar rfl rfl rfl (by (first | (unfold in64; omega) | (unfold in64; omega) | exact tdiv_in (by omega) (by omega) (by unfold in64; omega))) rfl (WO.p rfl rfl (WO.ar rfl rfl rfl (by (first | (unfold in64; omega) | (unfold in64; omega) | exact tdiv_in (by omega) (by omega) (by unfold in64; omega))) rfl ?_))))
  refine' WO.buildSl (cs := _) rfl rfl rfl rfl ?hf rfl rfl ?hl rfl (fun v8 => ?_)
  case hf => (conv => lhs; simp [-List.getD_eq_getElem?_getD, -Int.neg_tdiv, fillL, vcl, wrl, TTab.pl?.lget']) <;> rfl
  case hl => rfl
  refine WO.callR (r := .int .i64 n) rfl Tryz.call172 (fun L w hi => by rw [← hN, ← sqL2]; exact c_squares w _ [p.1 * (den).tdiv (gcd3 (x) (y) (den)) - (x).tdiv (gcd3 (x) (y) (den)), p.2 * (den).tdiv (gcd3 (x) (y) (den)) - (y).tdiv (gcd3 (x) (y) (den))] (RdF.of_ow (e := 2) encI_ok (by repeat first | exact .head | apply Pick.tail) hi) (Nat.le_refl _) (all_two (by omega) (by omega))) rfl (WO.p rfl rfl (WO.p rfl rfl (WO.ar rfl rfl rfl (by (first | (unfold in64; omega) | (unfold in64; omega) | exact tdiv_in (by omega) (by omega) (by unfold in64; omega))) rfl (WO.p rfl rfl (WO.p rfl rfl (WO.nil (W.sreg (WO.p rfl rfl (WO.p rfl rfl ?_)))))))))
  refine' WO.buildSl (cs := _) rfl rfl rfl rfl ?hf rfl rfl ?hl rfl (fun v9 => ?_)
  case hf => (conv => lhs; simp [-List.getD_eq_getElem?_getD, -Int.neg_tdiv, fillL, vcl, wrl, TTab.pl?.lget']) <;> rfl
  case hl => rfl
  refine WO.callR (r := .int .i64 (gcd2 n ((den).tdiv (gcd3 (x) (y) (den)) * (den).tdiv (gcd3 (x) (y) (den))))) rfl Tryz.call248 (fun L w hi => by rw [← gcdA2 (a := n) (by omega) (by omega)]; exact c_common w _ [n, (den).tdiv (gcd3 (x) (y) (den)) * (den).tdiv (gcd3 (x) (y) (den))] (RdF.of_ow (e := 2) encI_ok (by repeat first | exact .head | apply Pick.tail) hi) (all_two (by unfold in64; omega) (by unfold in64; omega))) rfl (WO.p rfl rfl (WO.nil (W.seq ?_)))
  refine W.drawD 12 [.r 0 [], .r 1 [], .r 2 [], .r 3 [], .r 4 [], .r 5 [], .r 6 [], .r 7 [], .r 8 [], .r 9 [], .r 10 [], .r 11 []] [] (A0 := []) (Sub.refl _) (by kernel_rfl) ?_ ?_
  ·repeat constructor
  refine DT.r rfl rfl rfl (WO.p rfl rfl (WO.nil ⟨rfl, rfl⟩)) (DT.r rfl rfl rfl (WO.p rfl rfl (WO.nil ⟨rfl, rfl⟩)) (DT.r rfl rfl rfl (WO.p rfl rfl (WO.nil ⟨rfl, rfl⟩)) (DT.r rfl rfl rfl (WO.p rfl rfl (WO.nil ⟨rfl, rfl⟩)) (DT.r rfl rfl rfl (WO.p rfl rfl (WO.nil ⟨rfl, rfl⟩)) (DT.r rfl rfl rfl (WO.quo rfl rfl (by first | omega | assumption) (by (first | (unfold in64; omega) | (unfold in64; omega) | exact tdiv_in (by omega) (by omega) (by unfold in64; omega))) rfl (WO.nil ⟨rfl, rfl⟩)) (DT.r rfl rfl rfl (WO.p rfl rfl (WO.nil ⟨rfl, rfl⟩)) (DT.r rfl rfl rfl (WO.p rfl rfl (WO.nil ⟨rfl, rfl⟩)) ?_)))))))
  refine DT.r rfl rfl rfl (WO.quo rfl rfl (by first | omega | assumption) (by (first | (unfold in64; omega) | (unfold in64; omega) | exact tdiv_in (by omega) (by omega) (by unfold in64; omega))) rfl (WO.nil ⟨rfl, rfl⟩)) ?_
  refine' DT.r rfl rfl rfl ?hq ?_
  case hq =>
   refine' WO.build (cs := _) rfl rfl rfl ?hf rfl ?_
   case hf => (conv => lhs; simp [-List.getD_eq_getElem?_getD, -Int.neg_tdiv, fillL, vcl, wrl, TTab.pl?.lget']) <;> rfl
   exact WO.nil ⟨rfl, rfl⟩
  refine' DT.r rfl rfl rfl ?hq ?_
  case hq =>
   refine' WO.build (cs := _) rfl rfl rfl ?hf rfl ?_
   case hf => (conv => lhs; simp [-List.getD_eq_getElem?_getD, -Int.neg_tdiv, fillL, vcl, wrl, TTab.pl?.lget']) <;> rfl
   exact WO.nil ⟨rfl, rfl⟩
  refine DT.r rfl rfl rfl (WO.p rfl rfl (WO.nil ⟨rfl, rfl⟩)) (DT.nil [_, _, _, _, _] rfl ?_)
  refine' WO.build (cs := _) rfl rfl rfl ?hf rfl ?_
  case hf => (conv => lhs; simp [-List.getD_eq_getElem?_getD, -Int.neg_tdiv, fillL, vcl, wrl, TTab.pl?.lget']) <;> rfl
  refine WO.storeA rfl rfl rfl rfl (Pick.tail (Pick.tail (Pick.tail (Pick.tail (Pick.head))))) rfl rfl (WO.nil (W.ret (fin.ret (Res.one rfl (RV.cell rfl rfl rfl (Cells.own (by repeat first | exact .head | apply Pick.tail)))) ?_)))
  first | (unfold mkN encC; simp only [hN]; rfl)
theorem c_newRingN (w : World) (x y den : Int) (v : Value) (p : Int × Int) (l : Pts) (hR : RdF encP 2 w.heap.size w v (p :: l)) (hp : OkP p) (hd : den < 0) (hd2 : -262144 ≤ den ∧ den ≤ 262144) (hx : -268435456 ≤ x ∧ x ≤ 268435456) (hy : -268435456 ≤ y ∧ y ≤ 268435456) :
 Ret Tryz.prog 173 [.int .i64 x, .int .i64 y, .int .i64 den, v].toArray w (.agg ((encC (mkN (-x) (-y) (-den) p) ++ [v]).toArray)) := by
 refine Ret.of mixed tyTab Tryz.func173 rfl rfl ?_
 replace hR : RdF encP 2 (fnCx mixed tyTab Tryz.f173.ntmps w).B (fnCx mixed tyTab Tryz.f173.ntmps w).w0 v (p :: l) := hR
 have hD : 0 < -den := by omega
 have hg := gcd3_pos (x := -x) (y := -y) hD
 have hl0 : 0 < (p :: l).length := by simp
 obtain ⟨hle, a0, c0, rfl, hb0⟩ := hR.sl
 have b1 := tdiv_ab (a := -x) hg
 have b2 := tdiv_ab (a := -y) hg
 have b3 := mkN_den (x := -x) (y := -y) hD
 have b4 := mul100 hp.1 (d := (-den).tdiv (gcd3 (-x) (-y) (-den))) ⟨b3.1, by omega⟩
 have b5 := mul100 hp.2 (d := (-den).tdiv (gcd3 (-x) (-y) (-den))) ⟨b3.1, by omega⟩
 have b6 := den_b (d := (-den).tdiv (gcd3 (-x) (-y) (-den))) ⟨b3.1, by omega⟩
 unfold ab at b1 b2
 have q1 := sq_b (x := p.1 * (-den).tdiv (gcd3 (-x) (-y) (-den)) - (-x).tdiv (gcd3 (-x) (-y) (-den))) (by omega)
 have q2 := sq_b (x := p.2 * (-den).tdiv (gcd3 (-x) (-y) (-den)) - (-y).tdiv (gcd3 (-x) (-y) (-den))) (by omega)
 generalize hN : (p.1 * (-den).tdiv (gcd3 (-x) (-y) (-den)) - (-x).tdiv (gcd3 (-x) (-y) (-den))) * (p.1 * (-den).tdiv (gcd3 (-x) (-y) (-den)) - (-x).tdiv (gcd3 (-x) (-y) (-den))) + (p.2 * (-den).tdiv (gcd3 (-x) (-y) (-den)) - (-y).tdiv (gcd3 (-x) (-y) (-den))) * (p.2 * (-den).tdiv (gcd3 (-x) (-y) (-den)) - (-y).tdiv (gcd3 (-x) (-y) (-den))) = n
 have hh := gcd2_pos (a := n) (b := (-den).tdiv (gcd3 (-x) (-y) (-den)) * (-den).tdiv (gcd3 (-x) (-y) (-den))) (by omega) (by omega)
 refine W.sreg (WO.alloc rfl rfl rfl (fun b1 hb1 => (WO.nil (W.seq (W.sreg (WO.p rfl rfl (WO.p rfl rfl (WO.nil ?_))))))))
 refine W.cond_bl rfl (fun c1 => ?_) (fun c1 => ?_)
 ·refine W.region (WO.p rfl rfl (WO.neg rfl (by (first | (unfold in64; omega) | (unfold in64; omega) | exact tdiv_in (by omega) (by omega) (by unfold in64; omega))) rfl (WO.p rfl rfl (WO.neg rfl (by (first | (unfold in64; omega) | (unfold in64; omega) | exact tdiv_in (by omega) (by omega) (by unfold in64; omega))) rfl (WO.p rfl rfl (WO.neg rfl (by (first | (unfold in64; omega) | (unfold in64; omega) | exact tdiv_in (by omega) (by omega) (by unfold in64; omega))) rfl (WO.p rfl rfl (WO.p rfl rfl (WO.p rfl rfl (WO.nil (W.sreg (WO.p rfl rfl (WO.p rfl rfl (WO.p rfl rfl ?_))))))))))))))
  refine' WO.buildSl (cs := _) rfl rfl rfl rfl ?hf rfl rfl ?hl rfl (fun v2 => ?_)
  case hf => (conv => lhs; simp [-List.getD_eq_getElem?_getD, -Int.neg_tdiv, fillL, vcl, wrl, TTab.pl?.lget']) <;> rfl
  case hl => rfl
  refine WO.callR (r := .int .i64 (gcd3 (-x) (-y) (-den))) rfl Tryz.call248 (fun L w hi => by rw [← gcdA3 hD]; exact c_common w _ [-x, -y, -den] (RdF.of_ow (e := 2) encI_ok (by repeat first | exact .head | apply Pick.tail) hi) (all_three (by unfold in64; omega) (by unfold in64; omega) (by unfold in64; omega))) rfl (WO.p rfl rfl (WO.nil (W.seq ?_)))
  refine W.drawD 11 [.r 0 [], .r 1 [], .r 2 [], .r 3 [0], .r 4 [0], .r 5 [0], .r 6 [0, 1], .r 7 [0, 1], .r 8 [0, 1], .r 9 [0], .r 10 [0, 1]] [0, 1] (A0 := []) (Sub.refl _) (by kernel_rfl) ?_ ?_
  ·repeat constructor
  refine DT.r rfl rfl rfl (WO.p rfl rfl (WO.nil ⟨rfl, rfl⟩)) (DT.r rfl rfl rfl (WO.p rfl rfl (WO.nil ⟨rfl, rfl⟩)) (DT.r rfl rfl rfl (WO.quo rfl rfl (by first | omega | assumption) (by (first | (unfold in64; omega) | (unfold in64; omega) | exact tdiv_in (by omega) (by omega) (by unfold in64; omega))) rfl (WO.nil ⟨rfl, rfl⟩)) (DT.r rfl rfl rfl (WO.p rfl rfl (WO.nil ⟨rfl, rfl⟩)) (DT.r rfl rfl rfl (WO.p rfl rfl (WO.nil ⟨rfl, rfl⟩)) (DT.r rfl rfl rfl (WO.quo rfl rfl (by first | omega | assumption) (by (first | (unfold in64; omega) | (unfold in64; omega) | exact tdiv_in (by omega) (by omega) (by unfold in64; omega))) rfl (WO.nil ⟨rfl, rfl⟩)) ?_)))))
  refine DT.r rfl rfl rfl (WO.p rfl rfl (WO.nil ⟨rfl, rfl⟩)) (DT.r rfl rfl rfl (WO.p rfl rfl (WO.nil ⟨rfl, rfl⟩)) (DT.r rfl rfl rfl (WO.quo rfl rfl (by first | omega | assumption) (by (first | (unfold in64; omega) | (unfold in64; omega) | exact tdiv_in (by omega) (by omega) (by unfold in64; omega))) rfl (WO.nil ⟨rfl, rfl⟩)) (DT.r rfl rfl rfl (WO.p rfl rfl (WO.nil ⟨rfl, rfl⟩)) (DT.r rfl rfl rfl (WO.p rfl rfl (WO.nil ⟨rfl, rfl⟩)) (DT.nil [_, _] rfl (WO.p rfl rfl (WO.nil (W.sreg (WO.p rfl rfl (WO.indexAddr (i := 0) rfl rfl rfl hR.sl (by first | omega | (simp; omega)) rfl (WO.loadA rfl rfl (RdF.cellsHd hR) rfl rfl (WO.alloc rfl rfl rfl (fun b3 hb3 => ?_)))))))))))))
  refine WO.storeA rfl rfl rfl rfl Pick.head rfl rfl (WO.nil (W.sreg (WO.indexArrL (o' := 0) rfl rfl rfl (by decide) rfl rfl (WO.load rfl rfl (Cell.own Pick.head rfl) rfl (WO.p rfl rfl (WO.ar rfl rfl rfl (by (first | (unfold in64; omega) | (unfold in64; omega) | exact tdiv_in (by omega) (by omega) (by unfold in64; omega))) rfl (WO.p rfl rfl (WO.ar rfl rfl rfl (by (first | (unfold in64; omega) | (unfold in64; omega) | exact tdiv_in (by omega) (by omega) (by unfold in64; omega))) rfl (WO.indexArrL (o' := 1) rfl rfl rfl (by decide) rfl rfl ?_)))))))))
  refine WO.load rfl rfl (Cell.own Pick.head rfl) rfl (WO.p rfl rfl (WO.ar rfl rfl rfl (by (first | (unfold in64; omega) | (unfold in64; omega) | exact tdiv_in (by omega) (by omega) (by unfold in64; omega))) rfl (WO.p rfl rfl (WO.ar rfl rfl rfl (by (first | (unfold in64; omega) | (unfold in64; omega) | exact tdiv_in (by omega) (by omega) (by unfold in64; omega))) rfl ?_))))
  refine' WO.buildSl (cs := _) rfl rfl rfl rfl ?hf rfl rfl ?hl rfl (fun v4 => ?_)
  case hf => (conv => lhs; simp [-List.getD_eq_getElem?_getD, -Int.neg_tdiv, fillL, vcl, wrl, TTab.pl?.lget']) <;> rfl
  case hl => rfl
  refine WO.callR (r := .int .i64 n) rfl Tryz.call172 (fun L w hi => by rw [← hN, ← sqL2]; exact c_squares w _ [p.1 * (-den).tdiv (gcd3 (-x) (-y) (-den)) - (-x).tdiv (gcd3 (-x) (-y) (-den)), p.2 * (-den).tdiv (gcd3 (-x) (-y) (-den)) - (-y).tdiv (gcd3 (-x) (-y) (-den))] (RdF.of_ow (e := 2) encI_ok (by repeat first | exact .head | apply Pick.tail) hi) (Nat.le_refl _) (all_two (by omega) (by omega))) rfl (WO.p rfl rfl (WO.p rfl rfl (WO.ar rfl rfl rfl (by (first | (unfold in64; omega) | (unfold in64; omega) | exact tdiv_in (by omega) (by omega) (by unfold in64; omega))) rfl (WO.p rfl rfl (WO.p rfl rfl (WO.nil (W.sreg (WO.p rfl rfl (WO.p rfl rfl ?_)))))))))
  refine' WO.buildSl (cs := _) rfl rfl rfl rfl ?hf rfl rfl ?hl rfl (fun v5 => ?_)
  case hf => (conv => lhs; simp [-List.getD_eq_getElem?_getD, -Int.neg_tdiv, fillL, vcl, wrl, TTab.pl?.lget']) <;> rfl
  case hl => rfl
  refine WO.callR (r := .int .i64 (gcd2 n ((-den).tdiv (gcd3 (-x) (-y) (-den)) * (-den).tdiv (gcd3 (-x) (-y) (-den))))) rfl Tryz.call248 (fun L w hi => by rw [← gcdA2 (a := n) (by omega) (by omega)]; exact c_common w _ [n, (-den).tdiv (gcd3 (-x) (-y) (-den)) * (-den).tdiv (gcd3 (-x) (-y) (-den))] (RdF.of_ow (e := 2) encI_ok (by repeat first | exact .head | apply Pick.tail) hi) (all_two (by unfold in64; omega) (by unfold in64; omega))) rfl (WO.p rfl rfl (WO.nil (W.seq ?_)))
  refine W.drawD 12 [.r 0 [], .r 1 [], .r 2 [], .r 3 [], .r 4 [], .r 5 [], .r 6 [], .r 7 [], .r 8 [], .r 9 [], .r 10 [], .r 11 []] [] (A0 := []) (Sub.refl _) (by kernel_rfl) ?_ ?_
  ·repeat constructor
  refine DT.r rfl rfl rfl (WO.p rfl rfl (WO.nil ⟨rfl, rfl⟩)) (DT.r rfl rfl rfl (WO.p rfl rfl (WO.nil ⟨rfl, rfl⟩)) (DT.r rfl rfl rfl (WO.p rfl rfl (WO.nil ⟨rfl, rfl⟩)) (DT.r rfl rfl rfl (WO.p rfl rfl (WO.nil ⟨rfl, rfl⟩)) (DT.r rfl rfl rfl (WO.p rfl rfl (WO.nil ⟨rfl, rfl⟩)) (DT.r rfl rfl rfl (WO.quo rfl rfl (by first | omega | assumption) (by (first | (unfold in64; omega) | (unfold in64; omega) | exact tdiv_in (by omega) (by omega) (by unfold in64; omega))) rfl (WO.nil ⟨rfl, rfl⟩)) (DT.r rfl rfl rfl (WO.p rfl rfl (WO.nil ⟨rfl, rfl⟩)) (DT.r rfl rfl rfl (WO.p rfl rfl (WO.nil ⟨rfl, rfl⟩)) ?_)))))))
  refine DT.r rfl rfl rfl (WO.quo rfl rfl (by first | omega | assumption) (by (first | (unfold in64; omega) | (unfold in64; omega) | exact tdiv_in (by omega) (by omega) (by unfold in64; omega))) rfl (WO.nil ⟨rfl, rfl⟩)) ?_
  refine' DT.r rfl rfl rfl ?hq ?_
  case hq =>
   refine' WO.build (cs := _) rfl rfl rfl ?hf rfl ?_
   case hf => (conv => lhs; simp [-List.getD_eq_getElem?_getD, -Int.neg_tdiv, fillL, vcl, wrl, TTab.pl?.lget']) <;> rfl
   exact WO.nil ⟨rfl, rfl⟩
  refine' DT.r rfl rfl rfl ?hq ?_
  case hq =>
   refine' WO.build (cs := _) rfl rfl rfl ?hf rfl ?_
   case hf => (conv => lhs; simp [-List.getD_eq_getElem?_getD, -Int.neg_tdiv, fillL, vcl, wrl, TTab.pl?.lget']) <;> rfl
   exact WO.nil ⟨rfl, rfl⟩
  refine DT.r rfl rfl rfl (WO.p rfl rfl (WO.nil ⟨rfl, rfl⟩)) (DT.nil [_, _, _, _, _] rfl ?_)
  refine' WO.build (cs := _) rfl rfl rfl ?hf rfl ?_
  case hf => (conv => lhs; simp [-List.getD_eq_getElem?_getD, -Int.neg_tdiv, fillL, vcl, wrl, TTab.pl?.lget']) <;> rfl
  refine WO.storeA rfl rfl rfl rfl (Pick.tail (Pick.tail (Pick.tail (Pick.tail (Pick.head))))) rfl rfl (WO.nil (W.ret (fin.ret (Res.one rfl (RV.cell rfl rfl rfl (Cells.own (by repeat first | exact .head | apply Pick.tail)))) ?_)))
  first | (unfold mkN encC; simp only [hN]; rfl)
 ·exfalso; omega
theorem c_newRing (w : World) (x y den : Int) (v : Value) (p : Int × Int) (l : Pts) (hR : RdF encP 2 w.heap.size w v (p :: l)) (hp : OkP p) (hd : den ≠ 0) (hd2 : -262144 ≤ den ∧ den ≤ 262144) (hx : -268435456 ≤ x ∧ x ≤ 268435456) (hy : -268435456 ≤ y ∧ y ≤ 268435456) :
 Ret Tryz.prog 173 [.int .i64 x, .int .i64 y, .int .i64 den, v].toArray w (.agg ((encC (mkR x y den p) ++ [v]).toArray)) := by
 unfold mkR; split
 ·exact c_newRingN w x y den v p l hR hp (by omega) hd2 hx hy
 ·exact c_newRingP w x y den v p l hR hp (by omega) hd2 hx hy
end Go.Proofs.YtnehaifgcegemaaGreat.Tu
namespace Go.Proofs.YtnehaifgcegemaaGreat.Tu
open Go Go.TH
attribute [local irreducible] W WO pt
set_option maxRecDepth 10000
set_option maxHeartbeats 1000000
abbrev cirV (c : Cir) : Value := .agg #[.int .i64 c.x, .int .i64 c.y, .int .i64 c.den, .int .i64 c.n, .int .i64 c.d]
abbrev ringV (c : Cir) (o : Value) : Value := .agg #[.int .i64 c.x, .int .i64 c.y, .int .i64 c.den, .int .i64 c.n, .int .i64 c.d, o]
def RingR (c : Cir) (r : Value) : Prop := ∃ (a : Option Addr) (n k : Nat), r = ringV c (.slice a n k)
theorem c_alone (w : World) (p : Int × Int) (hp : OkP p) : RetE Tryz.prog 143 [.agg #[.int .i64 p.1, .int .i64 p.2]].toArray w (RingR (aloneC p)) := by
 refine RetE.of mixed tyTab Tryz.func143 rfl rfl ?_
 obtain ⟨h1, h2⟩ := id hp
 refine W.sreg (WO.boxA rfl rfl (fun b1 hb1 => (WO.alloc rfl rfl rfl (fun b2 hb2 => (WO.nil (W.sreg (WO.indexArrL (o' := 0) rfl rfl rfl (by decide) rfl rfl (WO.load rfl rfl (Cell.own (Pick.tail (Pick.head)) rfl) rfl (WO.indexArrL (o' := 1) rfl rfl rfl (by decide) rfl rfl (WO.load rfl rfl (Cell.own (Pick.tail (Pick.head)) rfl) rfl (WO.loadA rfl rfl (Cells.own (Pick.tail (Pick.head))) rfl rfl (WO.buildSl rfl rfl rfl rfl rfl rfl rfl rfl rfl (fun v3 => ?_)))))))))))))
 refine WO.callR (r := ringV (aloneC p) (.slice (some ⟨v3, 0, none⟩) 1 1)) rfl Tryz.call173 (fun L w hi => c_newRing w p.1 p.2 1 _ p [] (RdF.of_ow (e := 152) encP_ok (by repeat first | exact .head | apply Pick.tail) hi) hp (by omega) (by omega) (by omega) (by omega)) rfl (WO.storeA rfl rfl rfl rfl (Pick.tail (Pick.head)) rfl rfl (WO.nil (W.ret ?_)))
 exact fin.ret (Res.one rfl (RV.cell rfl rfl rfl (Cells.own (by repeat first | exact .head | apply Pick.tail)))) ⟨_, _, _, rfl⟩
theorem eq74 (a b c d : Int) : EqT Tryz.prog .eql 152 (.agg #[.int .i64 a, .int .i64 b]) (.agg #[.int .i64 c, .int .i64 d]) (.bool (bl ((a, b) = (c, d)))) := by
 intro x y w
 obtain ⟨i, hi⟩ : ∃ i, Tryz.prog.info? 2 = some i := ⟨_, rfl⟩
 have hc : Tryz.prog.cellsOf 2 = 1 := rfl
 have h : (Op.equalIn 10000 152 (.agg #[.int .i64 a, .int .i64 b]) (.agg #[.int .i64 c, .int .i64 d])).run Tryz.prog w = .ok (bl ((a, b) = (c, d))) w := by
  rw [show (10000 : Nat) = 9999 + 1 from rfl, run_equalIn_array _ 9999 (t := 152) (e := 2) (n := 2) _ _ rfl hi, hc]
  simp [Op.eqItems, go_sem, List.range, List.range.loop, Tryz.underlying2]
  by_cases h1 : a = c <;> by_cases h2 : b = d <;> simp [h1, h2, bl_eq]
 simp [go_sem, Tryz.eqGuardType152, Tryz.underlying152, h]
theorem c_between (w : World) (p q : Int × Int) (hp : OkP p) (hq : OkP q) : RetE Tryz.prog 250 [.agg #[.int .i64 p.1, .int .i64 p.2], .agg #[.int .i64 q.1, .int .i64 q.2]].toArray w (RingR (betwC p q)) := by
 refine RetE.of mixed tyTab Tryz.func250 rfl rfl ?_
 obtain ⟨h1, h2⟩ := id hp
 obtain ⟨h3, h4⟩ := id hq
 refine W.sreg (WO.boxA rfl rfl (fun b1 hb1 => (WO.boxA rfl rfl (fun b2 hb2 => (WO.alloc rfl rfl rfl (fun b3 hb3 => (WO.nil (W.seq (W.sreg (WO.loadA rfl rfl (Cells.own (Pick.tail (Pick.tail (Pick.head)))) rfl rfl (WO.loadA rfl rfl (Cells.own (Pick.tail (Pick.head))) rfl rfl (WO.eqT rfl rfl (eq74 _ _ _ _) rfl (WO.nil ?_)))))))))))))
 refine W.cond_bl rfl (fun c1 => ?_) (fun c1 => ?_)
 ·refine W.sreg (WO.loadA rfl rfl (Cells.own (Pick.tail (Pick.tail (Pick.head)))) rfl rfl (WO.callE rfl Tryz.call143 (fun L w hi => c_alone w p hp) rfl ?_))
  rintro _ ⟨a, n, k, rfl⟩
  refine WO.storeA rfl rfl rfl rfl Pick.head rfl rfl (WO.nil (W.ret (fin.ret (Res.one rfl (RV.cell rfl rfl rfl (Cells.own (by repeat first | exact .head | apply Pick.tail)))) ?_)))
  first | exact ⟨_, _, _, rfl⟩ | (obtain rfl : p = q := (by assumption); rw [betwC_same]; exact ⟨_, _, _, rfl⟩)
 ·refine W.skip (W.sreg (WO.indexArrL (o' := 0) rfl rfl rfl (by decide) rfl rfl (WO.load rfl rfl (Cell.own (Pick.tail (Pick.tail (Pick.head))) rfl) rfl (WO.indexArrL (o' := 0) rfl rfl rfl (by decide) rfl rfl (WO.load rfl rfl (Cell.own (Pick.tail (Pick.head)) rfl) rfl (WO.ar rfl rfl rfl (by unfold in64; omega) rfl (WO.indexArrL (o' := 1) rfl rfl rfl (by decide) rfl rfl (WO.load rfl rfl (Cell.own (Pick.tail (Pick.tail (Pick.head))) rfl) rfl (WO.indexArrL (o' := 1) rfl rfl rfl (by decide) rfl rfl ?_)))))))))
  refine WO.load rfl rfl (Cell.own (Pick.tail (Pick.head)) rfl) rfl (WO.ar rfl rfl rfl (by unfold in64; omega) rfl (WO.loadA rfl rfl (Cells.own (Pick.tail (Pick.tail (Pick.head)))) rfl rfl (WO.loadA rfl rfl (Cells.own (Pick.tail (Pick.head))) rfl rfl (WO.buildSl rfl rfl rfl rfl rfl rfl rfl rfl rfl (fun v4 => (WO.callR (r := ringV (betwC p q) (.slice (some ⟨v4, 0, none⟩) 2 2)) rfl Tryz.call173 (fun L w hi => c_newRing w (p.1 + q.1) (p.2 + q.2) 2 _ p [q] (RdF.of_ow (e := 152) encP_ok (by repeat first | exact .head | apply Pick.tail) hi) hp (by omega) (by omega) (by omega) (by omega)) rfl (WO.storeA rfl rfl rfl rfl (Pick.tail (Pick.head)) rfl rfl (WO.nil (W.ret ?_)))))))))
  refine fin.ret (Res.one rfl (RV.cell rfl rfl rfl (Cells.own (by repeat first | exact .head | apply Pick.tail)))) ?_
  first | exact ⟨_, _, _, rfl⟩ | (obtain rfl : p = q := (by assumption); rw [betwC_same]; exact ⟨_, _, _, rfl⟩)
def ThrR (a b c : Int × Int) (r : Value) : Prop := ∃ (c' : Cir) (x : Option Addr) (n k : Nat), r = .tuple #[ringV c' (.slice x n k), .bool (bl (cross a b c ≠ 0))] ∧ (cross a b c ≠ 0 → c' = thrC a b c)
theorem ThrR.no {a b c : Int × Int} (h : cross a b c = 0) : ThrR a b c (.tuple #[ringV ⟨0, 0, 0, 0, 0⟩ (.slice none 0 0), .bool false]) := ⟨_, _, _, _, by rw [bl_f.2 (fun g => g h)], fun g => absurd h g⟩
theorem ThrR.yes {a b c : Int × Int} {x : Option Addr} {n k : Nat} (h : cross a b c ≠ 0) : ThrR a b c (.tuple #[ringV (thrC a b c) (.slice x n k), .bool true]) := ⟨_, _, _, _, by rw [bl_t.2 h], fun _ => rfl⟩
theorem two_get {u v : Int} : ∀ (i : Nat) (x : Int), [u, v][i]? = some x → ∃ z, encI x = [z] ∧ lget [.int .i64 u, .int .i64 v] (0 + i) = some z := fun i x h => by
 match i with
 | 0 => simp at h; subst h; exact ⟨_, rfl, rfl⟩
 | 1 => simp at h; subst h; exact ⟨_, rfl, rfl⟩
 | i + 2 => simp at h
theorem c_through (w : World) (a b c : Int × Int) (ha : OkP a) (hb : OkP b) (hc : OkP c) : RetE Tryz.prog 86 [.agg #[.int .i64 a.1, .int .i64 a.2], .agg #[.int .i64 b.1, .int .i64 b.2], .agg #[.int .i64 c.1, .int .i64 c.2]].toArray w (ThrR a b c) := by
 refine RetE.of mixed tyTab Tryz.func86 rfl rfl ?_
 have d1 := dist_bd hb ha
 have d2 := dist_bd hc ha
 have hx := cross_bd ha hb hc
 have bx := nx_bd ha hb hc
 have bY := ny_bd ha hb hc
 obtain ⟨a1, a2⟩ := id ha
 obtain ⟨b1', b2'⟩ := id hb
 obtain ⟨c1', c2'⟩ := id hc
 have m1 := mul_bd (a := b.1 - a.1) (b := c.2 - a.2) (A := 200) (B := 200) (by omega) (by omega)
 have m2 := mul_bd (a := b.2 - a.2) (b := c.1 - a.1) (A := 200) (B := 200) (by omega) (by omega)
 have n1 := mul_bd (a := a.1) (b := 2 * cross a b c) (A := 100) (B := 160000) (by omega) (by omega)
 have n2 := mul_bd (a := (b.1 - a.1) * (b.1 - a.1) + (b.2 - a.2) * (b.2 - a.2)) (b := c.2 - a.2) (A := 80000) (B := 200) (by omega) (by omega)
 have n3 := mul_bd (a := (c.1 - a.1) * (c.1 - a.1) + (c.2 - a.2) * (c.2 - a.2)) (b := b.2 - a.2) (A := 80000) (B := 200) (by omega) (by omega)
 have n4 := mul_bd (a := a.2) (b := 2 * cross a b c) (A := 100) (B := 160000) (by omega) (by omega)
 have n5 := mul_bd (a := (c.1 - a.1) * (c.1 - a.1) + (c.2 - a.2) * (c.2 - a.2)) (b := b.1 - a.1) (A := 80000) (B := 200) (by omega) (by omega)
 have n6 := mul_bd (a := (b.1 - a.1) * (b.1 - a.1) + (b.2 - a.2) * (b.2 - a.2)) (b := c.1 - a.1) (A := 80000) (B := 200) (by omega) (by omega)
 have hcr : (b.1 - a.1) * (c.2 - a.2) - (b.2 - a.2) * (c.1 - a.1) = cross a b c := rfl
 rw [← hcr] at n1 n4
 refine W.sreg (WO.boxA rfl rfl (fun b1 hb1 => (WO.boxA rfl rfl (fun b2 hb2 => (WO.boxA rfl rfl (fun b3 hb3 => (WO.alloc rfl rfl rfl (fun b4 hb4 => (WO.p rfl rfl (WO.nil (W.seq ?_)))))))))))
 refine W.drawD 25 [.r 0 [], .b 1 [], .r 2 [], .b 3 [], .r 4 [], .r 5 [], .b 6 [], .r 7 [], .b 8 [], .r 9 [], .r 10 [], .r 11 [], .b 12 [], .r 13 [], .b 14 [], .r 15 [], .r 16 [], .b 17 [], .r 18 [], .b 19 [], .r 20 [], .r 21 [], .a 22 8 (.cells #[.int .i64 0, .int .i64 0] 152 (0, 0)), .a 23 9 (.cells #[.int .i64 0, .int .i64 0] 152 (0, 0)), .s 24 []] [] (A0 := []) (Sub.refl _) (by kernel_rfl) ?_ ?_
 ·exact (ALok.r (ALok.b (ALok.r (ALok.b (ALok.r (ALok.r (ALok.b (ALok.r (ALok.b (ALok.r (ALok.r (ALok.r (ALok.b (ALok.r (ALok.b (ALok.r (ALok.r (ALok.b (ALok.r (ALok.b (ALok.r (ALok.r (ALok.cons rfl rfl rfl rfl rfl (ALok.cons rfl rfl rfl rfl rfl (ALok.s ALok.nil)))))))))))))))))))))))))
 refine DT.r rfl rfl rfl (WO.indexArrL (o' := 0) rfl rfl rfl (by decide) rfl rfl (WO.nil ⟨rfl, rfl⟩)) (DT.b rfl rfl rfl (WO.load rfl rfl (Cell.own (Pick.tail (Pick.tail (Pick.head))) rfl) rfl (WO.nil ⟨rfl, rfl⟩)) (DT.r rfl rfl rfl (WO.indexArrL (o' := 0) rfl rfl rfl (by decide) rfl rfl (WO.nil ⟨rfl, rfl⟩)) (DT.b rfl rfl rfl (WO.load rfl rfl (Cell.own (Pick.tail (Pick.tail (Pick.tail (Pick.head)))) rfl) rfl (WO.nil ⟨rfl, rfl⟩)) (DT.r rfl rfl rfl (WO.ar rfl rfl rfl (by unfold in64; omega) rfl (WO.nil ⟨rfl, rfl⟩)) (DT.r rfl rfl rfl (WO.indexArrL (o' := 1) rfl rfl rfl (by decide) rfl rfl (WO.nil ⟨rfl, rfl⟩)) ?_)))))
 refine DT.b rfl rfl rfl (WO.load rfl rfl (Cell.own (Pick.tail (Pick.tail (Pick.head))) rfl) rfl (WO.nil ⟨rfl, rfl⟩)) (DT.r rfl rfl rfl (WO.indexArrL (o' := 1) rfl rfl rfl (by decide) rfl rfl (WO.nil ⟨rfl, rfl⟩)) (DT.b rfl rfl rfl (WO.load rfl rfl (Cell.own (Pick.tail (Pick.tail (Pick.tail (Pick.head)))) rfl) rfl (WO.nil ⟨rfl, rfl⟩)) (DT.r rfl rfl rfl (WO.ar rfl rfl rfl (by unfold in64; omega) rfl (WO.nil ⟨rfl, rfl⟩)) (DT.r rfl rfl rfl (WO.build rfl rfl rfl rfl rfl (WO.nil ⟨rfl, rfl⟩)) (DT.r rfl rfl rfl (WO.indexArrL (o' := 0) rfl rfl rfl (by decide) rfl rfl (WO.nil ⟨rfl, rfl⟩)) ?_)))))
 refine DT.b rfl rfl rfl (WO.load rfl rfl (Cell.own (Pick.tail (Pick.head)) rfl) rfl (WO.nil ⟨rfl, rfl⟩)) (DT.r rfl rfl rfl (WO.indexArrL (o' := 0) rfl rfl rfl (by decide) rfl rfl (WO.nil ⟨rfl, rfl⟩)) (DT.b rfl rfl rfl (WO.load rfl rfl (Cell.own (Pick.tail (Pick.tail (Pick.tail (Pick.head)))) rfl) rfl (WO.nil ⟨rfl, rfl⟩)) (DT.r rfl rfl rfl (WO.ar rfl rfl rfl (by unfold in64; omega) rfl (WO.nil ⟨rfl, rfl⟩)) (DT.r rfl rfl rfl (WO.indexArrL (o' := 1) rfl rfl rfl (by decide) rfl rfl (WO.nil ⟨rfl, rfl⟩)) (DT.b rfl rfl rfl (WO.load rfl rfl (Cell.own (Pick.tail (Pick.head)) rfl) rfl (WO.nil ⟨rfl, rfl⟩)) ?_)))))
 refine DT.r rfl rfl rfl (WO.indexArrL (o' := 1) rfl rfl rfl (by decide) rfl rfl (WO.nil ⟨rfl, rfl⟩)) (DT.b rfl rfl rfl (WO.load rfl rfl (Cell.own (Pick.tail (Pick.tail (Pick.tail (Pick.head)))) rfl) rfl (WO.nil ⟨rfl, rfl⟩)) (DT.r rfl rfl rfl (WO.ar rfl rfl rfl (by unfold in64; omega) rfl (WO.nil ⟨rfl, rfl⟩)) (DT.r rfl rfl rfl (WO.build rfl rfl rfl rfl rfl (WO.nil ⟨rfl, rfl⟩)) (DT.a (fun b5 => (DT.a (fun b6 => (DT.s [_, _, _, _, _, _] rfl rfl rfl (WO.storeA rfl rfl rfl rfl (Pick.tail (Pick.head)) rfl rfl ?_)))))))))
 refine WO.nil ⟨[_, _], rfl, rfl, (Keep.a (Keep.a (Keep.r (Keep.r (Keep.b (Keep.r (Keep.b (Keep.r (Keep.r (Keep.b (Keep.r (Keep.b (Keep.r (Keep.r (Keep.r (Keep.b (Keep.r (Keep.b (Keep.r (Keep.r (Keep.b (Keep.r (Keep.b (Keep.r Keep.nil)))))))))))))))))))))))), ?_⟩
 refine DT.nil [_, _, _, _, _, _] rfl (WO.storeA rfl rfl rfl rfl (Pick.tail (Pick.head)) rfl rfl (WO.nil (W.sreg (WO.indexArrL (o' := 0) rfl rfl rfl (by decide) rfl rfl (WO.load rfl rfl (Cell.own (Pick.tail (Pick.head)) rfl) rfl (WO.indexArrL (o' := 1) rfl rfl rfl (by decide) rfl rfl (WO.load rfl rfl (Cell.own Pick.head rfl) rfl (WO.ar rfl rfl rfl (by unfold in64; omega) rfl (WO.indexArrL (o' := 1) rfl rfl rfl (by decide) rfl rfl (WO.load rfl rfl (Cell.own (Pick.tail (Pick.head)) rfl) rfl (WO.indexArrL (o' := 0) rfl rfl rfl (by decide) rfl rfl ?_)))))))))))
 refine WO.load rfl rfl (Cell.own Pick.head rfl) rfl (WO.ar rfl rfl rfl (by unfold in64; omega) rfl (WO.ar rfl rfl rfl (by unfold in64; omega) rfl (WO.ar rfl rfl rfl (by unfold in64; omega) rfl (WO.p rfl rfl (WO.nil (W.seq (W.sreg (WO.p rfl rfl (WO.p rfl rfl (WO.nil ?_))))))))))
 refine W.cond_bl rfl (fun c1 => ?_) (fun c1 => ?_)
 ·refine W.sreg (WO.build rfl rfl rfl rfl rfl (WO.storeA rfl rfl rfl rfl (Pick.tail (Pick.tail (Pick.head))) rfl rfl (WO.p rfl rfl (WO.nil (W.ret (fin.ret (Res.two rfl (RV.cell rfl rfl rfl (Cells.own (by repeat first | exact .head | apply Pick.tail))) (RV.tmp rfl)) ?_))))))
  first | exact ThrR.no (by omega) | exact ThrR.yes (by omega)
 ·refine W.skip (W.seq ?_)
  refine W.drawD 3 [.r 0 [], .b 1 [], .r 2 []] [] (A0 := []) (Sub.refl _) (by kernel_rfl) ?_ ?_
  ·repeat constructor
  refine DT.r rfl rfl rfl (WO.sliceArr rfl rfl rfl (WO.nil ⟨rfl, rfl⟩)) (DT.b rfl rfl rfl (WO.callR (r := .int .i64 ((b.1 - a.1) * (b.1 - a.1) + (b.2 - a.2) * (b.2 - a.2))) rfl Tryz.call172 (fun L w hi => by rw [← sqL2]; exact c_squares w _ [b.1 - a.1, b.2 - a.2] (RdF.of_pt (fun a => ⟨_, rfl⟩) (by repeat first | exact .head | apply Pick.tail) hi rfl (by omega) two_get) (Nat.le_refl _) (all_two (by omega) (by omega))) rfl (WO.nil ⟨rfl, rfl⟩)) (DT.r rfl rfl rfl (WO.sliceArr rfl rfl rfl (WO.nil ⟨rfl, rfl⟩)) (DT.nil [_, _, _, _, _, _] rfl ?_)))
  refine WO.callR (r := .int .i64 ((c.1 - a.1) * (c.1 - a.1) + (c.2 - a.2) * (c.2 - a.2))) rfl Tryz.call172 (fun L w hi => by rw [← sqL2]; exact c_squares w _ [c.1 - a.1, c.2 - a.2] (RdF.of_pt (fun a => ⟨_, rfl⟩) (by repeat first | exact .head | apply Pick.tail) hi rfl (by omega) two_get) (Nat.le_refl _) (all_two (by omega) (by omega))) rfl (WO.p rfl rfl (WO.p rfl rfl (WO.nil (W.sreg (WO.indexArrL (o' := 0) rfl rfl rfl (by decide) rfl rfl (WO.load rfl rfl (Cell.own (Pick.tail (Pick.tail (Pick.tail (Pick.tail (Pick.tail (Pick.head)))))) rfl) rfl (WO.p rfl rfl (WO.ar rfl rfl rfl (by unfold in64; omega) rfl (WO.p rfl rfl ?_)))))))))
  refine WO.indexArrL (o' := 1) rfl rfl rfl (by decide) rfl rfl (WO.load rfl rfl (Cell.own Pick.head rfl) rfl (WO.ar rfl rfl rfl (by unfold in64; omega) rfl (WO.ar rfl rfl rfl (by unfold in64; omega) rfl (WO.p rfl rfl (WO.indexArrL (o' := 1) rfl rfl rfl (by decide) rfl rfl (WO.load rfl rfl (Cell.own (Pick.tail (Pick.head)) rfl) rfl (WO.ar rfl rfl rfl (by unfold in64; omega) rfl (WO.ar rfl rfl rfl (by unfold in64; omega) rfl (WO.indexArrL (o' := 1) rfl rfl rfl (by decide) rfl rfl (WO.load rfl rfl (Cell.own (Pick.tail (Pick.tail (Pick.tail (Pick.tail (Pick.tail (Pick.head)))))) rfl) rfl (WO.p rfl rfl (WO.ar rfl rfl rfl (by unfold in64; omega) rfl (WO.p rfl rfl ?_)))))))))))))
  refine WO.indexArrL (o' := 0) rfl rfl rfl (by decide) rfl rfl (WO.load rfl rfl (Cell.own (Pick.tail (Pick.head)) rfl) rfl (WO.ar rfl rfl rfl (by unfold in64; omega) rfl (WO.ar rfl rfl rfl (by unfold in64; omega) rfl (WO.p rfl rfl (WO.indexArrL (o' := 0) rfl rfl rfl (by decide) rfl rfl ?_)))))
  refine WO.load rfl rfl (Cell.own Pick.head rfl) rfl (WO.ar rfl rfl rfl (by unfold in64; omega) rfl (WO.ar rfl rfl rfl (by unfold in64; omega) rfl (WO.p rfl rfl (WO.loadA rfl rfl (Cells.own (Pick.tail (Pick.tail (Pick.tail (Pick.tail (Pick.tail (Pick.head))))))) rfl rfl (WO.loadA rfl rfl (Cells.own (Pick.tail (Pick.tail (Pick.tail (Pick.tail (Pick.head)))))) rfl rfl (WO.loadA rfl rfl (Cells.own (Pick.tail (Pick.tail (Pick.tail (Pick.head))))) rfl rfl (WO.buildSl rfl rfl rfl rfl rfl rfl rfl rfl rfl (fun v7 => ?_))))))))
  refine WO.callR (r := ringV (thrC a b c) (.slice (some ⟨v7, 0, none⟩) 3 3)) rfl Tryz.call173 (fun L w hi => c_newRing w (nx a b c) (ny a b c) (2 * cross a b c) _ a [b, c] (RdF.of_ow (e := 152) encP_ok (by repeat first | exact .head | apply Pick.tail) hi) ha (by omega) (by omega) (by omega) (by omega)) rfl (WO.storeA rfl rfl rfl rfl (Pick.tail (Pick.tail (Pick.tail (Pick.head)))) rfl rfl (WO.p rfl rfl (WO.nil (W.ret (fin.ret (Res.two rfl (RV.cell rfl rfl rfl (Cells.own (by repeat first | exact .head | apply Pick.tail))) (RV.tmp rfl)) ?_)))))
  first | exact ThrR.no (by omega) | exact ThrR.yes (by omega)
end Go.Proofs.YtnehaifgcegemaaGreat.Tu
namespace Go.Proofs.YtnehaifgcegemaaGreat.Tu
open Go Go.TH
attribute [local irreducible] W WO pt
set_option maxRecDepth 10000
set_option maxHeartbeats 1000000
end Go.Proofs.YtnehaifgcegemaaGreat.Tu
