/-
  What is proved here: circles in least terms, as discs (no program in sight). Conditions: none; each theorem states its own.
  What is proved here: circles through points, in least terms, and the smallest ones (no program in sight). Conditions: none; each theorem states its own.
  What is proved here: the smallest circles of points, and what they are found by (no program in sight). Conditions: none; each theorem states its own.
  What is proved here: the smallest circle of a track, as the smallest one of some circles (no program in sight). Conditions: none; each theorem states its own.
  What is proved here: the first point that a ring does not hold; whether a circle holds a point. Conditions: none; each contract states its own.
  What is proved here: the circle in least terms with a middle, which goes through a point. Conditions: none; each contract states its own.
-/
import Derived.Test.YtkhplcncfogolaaM3
import Derived.Test.YtkhplcncfogolaaM2
namespace Go.Proofs.Ytkhplcncfogolaa
open Go Go.TH Go.TH.Dsc
def toQ (p : Int × Int) : Rat × Rat := ((p.1 : Rat), (p.2 : Rat))
def toD (c : Cir) : Dsc := ⟨(c.x : Rat) * (c.den : Rat)⁻¹, (c.y : Rat) * (c.den : Rat)⁻¹, (c.n : Rat) * (c.d : Rat)⁻¹⟩
def gcd3 (x y d : Int) : Int := gcd2 (gcd2 (ab x) (ab y)) d
/-- in least terms -/
structure Can (c : Cir) : Prop where
  den : 0 < c.den
  g : gcd3 c.x c.y c.den = 1
  d : 0 < c.d
  n : 0 ≤ c.n
  h : gcd2 c.n c.d = 1
theorem toQ_inj {p q : Int × Int} (h : toQ p = toQ q) : p = q := by
  unfold toQ at h
  have h1 := congrArg Prod.fst h
  have h2 := congrArg Prod.snd h
  simp only at h1 h2
  exact Prod.ext (Rat.intCast_inj.1 h1) (Rat.intCast_inj.1 h2)
theorem inv_of {d : Int} (h : 0 < d) : (d : Rat) * (d : Rat)⁻¹ = 1 := Rat.mul_inv_cancel _ (fun e => by have : d = 0 := Rat.intCast_inj.1 (by simpa using e); omega)
theorem pos_of {d : Int} (h : 0 < d) : (0 : Rat) < (d : Rat) := by exact_mod_cast h
theorem sgn_pos {x y : Int} : 0 < sgn x y ↔ y < x := by unfold sgn; split <;> (try split) <;> omega
theorem sgn_zero {x y : Int} : sgn x y = 0 ↔ y = x := by unfold sgn; split <;> (try split) <;> omega
theorem pos_mul {a b : Rat} (hb : 0 < b) : 0 < a * b ↔ 0 < a := by
  constructor
  · intro h
    rcases (Rat.le_total : 0 ≤ a ∨ a ≤ 0) with g | g
    · rcases Rat.le_iff_lt_or_eq.1 g with g | g
      · exact g
      · rw [← g] at h; grind
    · have := Rat.mul_nonneg (a := -a) (b := b) (by grind) (by grind)
      grind
  · intro h; exact Rat.mul_pos h hb
theorem f_whr {c : Cir} (h1 : 0 < c.den) (h2 : 0 < c.d) (p : Int × Int) : f (toD c) (toQ p) * ((c.den : Rat) * (c.den : Rat) * (c.d : Rat)) =
    (((((p.1 * c.den - c.x) * (p.1 * c.den - c.x) + (p.2 * c.den - c.y) * (p.2 * c.den - c.y)) * c.d - c.n * (c.den * c.den) : Int)) : Rat) := by
  have e1 := inv_of h1
  have e2 := inv_of h2
  unfold f toD toQ
  simp only [Rat.intCast_sub, Rat.intCast_add, Rat.intCast_mul]
  generalize (c.den : Rat)⁻¹ = i at *
  generalize (c.d : Rat)⁻¹ = j at *
  generalize (c.den : Rat) = d at *
  generalize (c.d : Rat) = e at *
  generalize (c.x : Rat) = x at *
  generalize (c.y : Rat) = y at *
  generalize (c.n : Rat) = n at *
  generalize (p.1 : Rat) = a at *
  generalize (p.2 : Rat) = b at *
  have k1 : (a - x * i) * d = a * d - x := by grind
  have k2 : (b - y * i) * d = b * d - y := by grind
  have k3 : (n * j) * e = n := by grind
  have k4 : ((a - x * i) * (a - x * i) + (b - y * i) * (b - y * i) - n * j) * (d * d * e) = (((a - x * i) * d) * ((a - x * i) * d) + ((b - y * i) * d) * ((b - y * i) * d)) * e - ((n * j) * e) * (d * d) := by grind
  rw [k4, k1, k2, k3]
theorem whr_pos {c : Cir} (h1 : 0 < c.den) (h2 : 0 < c.d) (p : Int × Int) : 0 < whr c p ↔ 0 < f (toD c) (toQ p) := by
  have hp : (0 : Rat) < (c.den : Rat) * (c.den : Rat) * (c.d : Rat) := Rat.mul_pos (Rat.mul_pos (pos_of h1) (pos_of h1)) (pos_of h2)
  rw [← pos_mul hp, f_whr h1 h2]
  unfold whr cmp
  rw [sgn_pos, show ((0 : Rat) < ((((p.1 * c.den - c.x) * (p.1 * c.den - c.x) + (p.2 * c.den - c.y) * (p.2 * c.den - c.y)) * c.d - c.n * (c.den * c.den) : Int) : Rat)) ↔ 0 < (((p.1 * c.den - c.x) * (p.1 * c.den - c.x) + (p.2 * c.den - c.y) * (p.2 * c.den - c.y)) * c.d - c.n * (c.den * c.den) : Int) from by exact_mod_cast Iff.rfl]
  omega
theorem whr_zero {c : Cir} (h1 : 0 < c.den) (h2 : 0 < c.d) (p : Int × Int) : whr c p = 0 ↔ f (toD c) (toQ p) = 0 := by
  have hp : (0 : Rat) < (c.den : Rat) * (c.den : Rat) * (c.d : Rat) := Rat.mul_pos (Rat.mul_pos (pos_of h1) (pos_of h1)) (pos_of h2)
  have e : f (toD c) (toQ p) = 0 ↔ f (toD c) (toQ p) * ((c.den : Rat) * (c.den : Rat) * (c.d : Rat)) = 0 := by
    constructor
    · intro h; rw [h]; grind
    · intro h; rcases Rat.mul_eq_zero.1 h with h | h <;> grind
  rw [e, f_whr h1 h2]
  unfold whr cmp
  rw [sgn_zero, show (((((p.1 * c.den - c.x) * (p.1 * c.den - c.x) + (p.2 * c.den - c.y) * (p.2 * c.den - c.y)) * c.d - c.n * (c.den * c.den) : Int) : Rat) = 0) ↔ (((p.1 * c.den - c.x) * (p.1 * c.den - c.x) + (p.2 * c.den - c.y) * (p.2 * c.den - c.y)) * c.d - c.n * (c.den * c.den) : Int) = 0 from by exact_mod_cast Iff.rfl]
  omega
theorem whr_le {c : Cir} (h1 : 0 < c.den) (h2 : 0 < c.d) (p : Int × Int) : whr c p ≤ 0 ↔ f (toD c) (toQ p) ≤ 0 := by
  have := whr_pos h1 h2 p
  rw [← Int.not_lt, this, Rat.not_lt]
theorem holdL_iff {c : Cir} (h1 : 0 < c.den) (h2 : 0 < c.d) (l : List (Int × Int)) : holdL c l ↔ Hold (toD c) (l.map toQ) := by
  unfold holdL Hold
  constructor
  · intro h p hp
    obtain ⟨q, hq, rfl⟩ := List.mem_map.1 hp
    exact (whr_le h1 h2 q).1 (h q hq)
  · intro h p hp
    exact (whr_le h1 h2 p).2 (h _ (List.mem_map_of_mem hp))
theorem frac_eq {a b c d : Int} (hb : 0 < b) (hd : 0 < d) : (a : Rat) * (b : Rat)⁻¹ = (c : Rat) * (d : Rat)⁻¹ ↔ a * d = c * b := by
  have e1 := inv_of hb
  have e2 := inv_of hd
  have e : a * d = c * b ↔ (a : Rat) * (d : Rat) = (c : Rat) * (b : Rat) := by exact_mod_cast Iff.rfl
  rw [e]
  have p1 := pos_of hb
  have p2 := pos_of hd
  constructor
  · intro h
    have k : (a : Rat) * (d : Rat) = ((a : Rat) * (b : Rat)⁻¹) * (b : Rat) * (d : Rat) := by grind
    rw [k, h]; grind
  · intro h
    have k : (a : Rat) * (b : Rat)⁻¹ = ((a : Rat) * (d : Rat)) * ((b : Rat)⁻¹ * (d : Rat)⁻¹) := by grind
    rw [k, h]; grind
theorem frac_lt {a b c d : Int} (hb : 0 < b) (hd : 0 < d) : (a : Rat) * (b : Rat)⁻¹ < (c : Rat) * (d : Rat)⁻¹ ↔ a * d < c * b := by
  have e1 := inv_of hb
  have e2 := inv_of hd
  have p1 := pos_of hb
  have p2 := pos_of hd
  have e : a * d < c * b ↔ (0 : Rat) < (c : Rat) * (b : Rat) - (a : Rat) * (d : Rat) := by
    rw [show (0 : Rat) < (c : Rat) * (b : Rat) - (a : Rat) * (d : Rat) ↔ 0 < c * b - a * d from by exact_mod_cast Iff.rfl]; omega
  have k : ((c : Rat) * (d : Rat)⁻¹ - (a : Rat) * (b : Rat)⁻¹) * ((b : Rat) * (d : Rat)) = (c : Rat) * (b : Rat) - (a : Rat) * (d : Rat) := by grind
  rw [e, ← k, pos_mul (Rat.mul_pos p1 p2)]
  constructor <;> intro h <;> grind
theorem gcd3_nat (x y d : Int) : gcd3 x y d = (Nat.gcd (Nat.gcd x.natAbs y.natAbs) d.toNat : Nat) := by
  unfold gcd3 gcd2
  rw [show (ab x).toNat = x.natAbs by unfold ab; omega, show (ab y).toNat = y.natAbs by unfold ab; omega]
  simp
theorem can_dvd {x y d x' y' d' : Int} (hd : 0 < d) (hd' : 0 < d') (hg : gcd3 x y d = 1) (h1 : x * d' = x' * d) (h2 : y * d' = y' * d) : d ∣ d' := by
  rw [gcd3_nat] at hg
  have n1 : x.natAbs * d'.natAbs = x'.natAbs * d.natAbs := by rw [← Int.natAbs_mul, ← Int.natAbs_mul, h1]
  have n2 : y.natAbs * d'.natAbs = y'.natAbs * d.natAbs := by rw [← Int.natAbs_mul, ← Int.natAbs_mul, h2]
  have e : d.toNat = d.natAbs := by omega
  rw [e] at hg
  have k1 : d.natAbs ∣ Nat.gcd x.natAbs y.natAbs * d'.natAbs := by
    rw [← Nat.gcd_mul_right]
    exact Nat.dvd_gcd (by rw [n1]; exact Nat.dvd_mul_left _ _) (by rw [n2]; exact Nat.dvd_mul_left _ _)
  have k2 : d.natAbs ∣ Nat.gcd (Nat.gcd x.natAbs y.natAbs) d.natAbs * d'.natAbs := by
    rw [← Nat.gcd_mul_right]
    exact Nat.dvd_gcd k1 (Nat.dvd_mul_right _ _)
  have hg' : Nat.gcd (Nat.gcd x.natAbs y.natAbs) d.natAbs = 1 := by exact_mod_cast hg
  rw [hg', Nat.one_mul] at k2
  exact Int.natAbs_dvd_natAbs.1 k2
theorem pos_dvd {a b : Int} (ha : 0 < a) (hb : 0 < b) (h1 : a ∣ b) (h2 : b ∣ a) : a = b := by
  have := Int.le_of_dvd hb h1
  have := Int.le_of_dvd ha h2
  omega
theorem gcd3_2 {n d : Int} (hn : 0 ≤ n) : gcd3 n 0 d = gcd2 n d := by
  unfold gcd3; rw [show ab 0 = 0 from rfl, gcd2_zero (ab_nn n), show ab n = n by unfold ab; omega]
theorem Can.inj {c c' : Cir} (h : Can c) (h' : Can c') (e : toD c = toD c') : c = c' := by
  have e1 := (frac_eq h.den h'.den).1 (congrArg Dsc.x e)
  have e2 := (frac_eq h.den h'.den).1 (congrArg Dsc.y e)
  have e3 := (frac_eq h.d h'.d).1 (congrArg Dsc.s e)
  have d1 := can_dvd h.den h'.den h.g e1 e2
  have d2 := can_dvd h'.den h.den h'.g e1.symm e2.symm
  have k := pos_dvd h.den h'.den d1 d2
  have d3 := can_dvd (x := c.n) (y := 0) (x' := c'.n) (y' := 0) h.d h'.d (by rw [gcd3_2 h.n]; exact h.h) e3 (by omega)
  have d4 := can_dvd (x := c'.n) (y := 0) (x' := c.n) (y' := 0) h'.d h.d (by rw [gcd3_2 h'.n]; exact h'.h) e3.symm (by omega)
  have k2 := pos_dvd h.d h'.d d3 d4
  obtain ⟨x, y, den, n, d⟩ := c
  obtain ⟨x', y', den', n', d'⟩ := c'
  simp only at *
  subst k; subst k2
  have hd := h.den
  have hd2 := h.d
  simp only at hd hd2
  have a1 := Int.eq_of_mul_eq_mul_right (by omega) e1
  have a2 := Int.eq_of_mul_eq_mul_right (by omega) e2
  have a3 := Int.eq_of_mul_eq_mul_right (by omega) e3
  subst a1; subst a2; subst a3; rfl
end Go.Proofs.Ytkhplcncfogolaa
namespace Go.Proofs.Ytkhplcncfogolaa
open Go Go.TH Go.TH.Dsc
/-- what is left of a middle, for a divisor above 0 -/
def mkN (x y den : Int) (p : Int × Int) : Cir :=
  let g := gcd3 x y den
  let x' := x.tdiv g
  let y' := y.tdiv g
  let d' := den.tdiv g
  let n := (p.1 * d' - x') * (p.1 * d' - x') + (p.2 * d' - y') * (p.2 * d' - y')
  let h := gcd2 n (d' * d')
  ⟨x', y', d', n.tdiv h, (d' * d').tdiv h⟩
/-- the circle in least terms with a middle that goes through a point -/
def mkR (x y den : Int) (p : Int × Int) : Cir := if den < 0 then mkN (-x) (-y) (-den) p else mkN x y den p
def far2 (x y den : Int) (p : Int × Int) : Int := (p.1 * den - x) * (p.1 * den - x) + (p.2 * den - y) * (p.2 * den - y)
theorem gcd3_mul (x y d g : Int) (hg : 0 ≤ g) (hd : 0 ≤ d) : gcd3 (x * g) (y * g) (d * g) = gcd3 x y d * g := by
  obtain ⟨m, rfl⟩ := Int.eq_ofNat_of_zero_le hg
  obtain ⟨k, rfl⟩ := Int.eq_ofNat_of_zero_le hd
  rw [gcd3_nat, gcd3_nat, Int.natAbs_mul, Int.natAbs_mul, ← Int.natCast_mul]
  simp only [Int.natAbs_natCast, Int.toNat_natCast]
  rw [Nat.gcd_mul_right, Nat.gcd_mul_right, Int.natCast_mul]
theorem gcd3_pos {x y d : Int} (hd : 0 < d) : 0 < gcd3 x y d := gcd2_pos (gcd2_nn _ _) hd
theorem gcd3_dvd (x y : Int) {d : Int} (hd : 0 < d) : gcd3 x y d ∣ x ∧ gcd3 x y d ∣ y ∧ gcd3 x y d ∣ d := by
  rw [gcd3_nat]
  refine ⟨?_, ?_, ?_⟩
  · exact Int.ofNat_dvd_left.2 (Nat.dvd_trans (Nat.gcd_dvd_left _ _) (Nat.gcd_dvd_left _ _))
  · exact Int.ofNat_dvd_left.2 (Nat.dvd_trans (Nat.gcd_dvd_left _ _) (Nat.gcd_dvd_right _ _))
  · have h := Nat.gcd_dvd_right (Nat.gcd x.natAbs y.natAbs) d.toNat
    rw [show d = (d.toNat : Int) by omega]
    exact_mod_cast h
/-- least terms: what is divided by the greatest common divisor -/
theorem mkN_parts {x y den : Int} (hd : 0 < den) : ∃ g x' y' d' : Int, 0 < g ∧ g = gcd3 x y den ∧ x = x' * g ∧ y = y' * g ∧ den = d' * g ∧ 0 < d' ∧ gcd3 x' y' d' = 1 ∧ x.tdiv g = x' ∧ y.tdiv g = y' ∧ den.tdiv g = d' := by
  have hg := gcd3_pos (x := x) (y := y) hd
  obtain ⟨h1, h2, h3⟩ := gcd3_dvd x y hd
  have e1 := Int.tdiv_mul_cancel h1
  have e2 := Int.tdiv_mul_cancel h2
  have e3 := Int.tdiv_mul_cancel h3
  have hp : 0 < den.tdiv (gcd3 x y den) := by
    rcases Int.lt_trichotomy 0 (den.tdiv (gcd3 x y den)) with h | h | h
    · exact h
    · rw [← h] at e3; omega
    · have := Int.mul_neg_of_neg_of_pos h hg; omega
  refine ⟨gcd3 x y den, x.tdiv (gcd3 x y den), y.tdiv (gcd3 x y den), den.tdiv (gcd3 x y den), hg, rfl, e1.symm, e2.symm, e3.symm, hp, ?_, rfl, rfl, rfl⟩
  have hm := gcd3_mul (x.tdiv (gcd3 x y den)) (y.tdiv (gcd3 x y den)) (den.tdiv (gcd3 x y den)) (gcd3 x y den) (by omega) (by omega)
  rw [e1, e2, e3] at hm
  have : 1 * gcd3 x y den = gcd3 (x.tdiv (gcd3 x y den)) (y.tdiv (gcd3 x y den)) (den.tdiv (gcd3 x y den)) * gcd3 x y den := by rw [← hm]; omega
  exact (Int.eq_of_mul_eq_mul_right (by omega) this).symm
theorem le_mul1 {a b : Int} (ha : 0 ≤ a) (hb : 1 ≤ b) : a ≤ a * b := by
  have := Int.mul_le_mul_of_nonneg_left hb ha
  omega
theorem sq2_nn (a b : Int) : 0 ≤ a * a + b * b := by
  have h : ∀ a : Int, 0 ≤ a * a := fun a => by
    rcases Int.le_total 0 a with g | g
    · exact Int.mul_nonneg g g
    · exact Int.mul_nonneg_of_nonpos_of_nonpos g g
  have := h a; have := h b; omega
theorem red_parts {n d : Int} (hn : 0 ≤ n) (hd : 0 < d) : ∃ h n' d' : Int, 0 < h ∧ h = gcd2 n d ∧ n = n' * h ∧ d = d' * h ∧ 0 < d' ∧ 0 ≤ n' ∧ gcd2 n' d' = 1 ∧ n.tdiv h = n' ∧ d.tdiv h = d' := by
  obtain ⟨g, x', y', d', h1, h2, h3, h4, h5, h6, h7, h8, h9, h10⟩ := mkN_parts (x := n) (y := 0) hd
  rw [gcd3_2 hn] at h2
  have hx : 0 ≤ x' := by
    rcases Int.le_total 0 x' with g | g
    · exact g
    · have := Int.mul_nonpos_of_nonpos_of_nonneg g (show 0 ≤ _ from Int.le_of_lt h1)
      have e : x' * _ = 0 := Int.le_antisymm this (by rw [← h3]; exact hn)
      rcases Int.mul_eq_zero.1 e with e | e <;> omega
  have hy : y' = 0 := by
    rcases Int.mul_eq_zero.1 h4.symm with e | e <;> omega
  subst hy
  exact ⟨g, x', d', h1, h2, h3, h5, h6, hx, by rw [gcd3_2 hx] at h7; exact h7, h8, h10⟩
theorem mkN_can {x y den : Int} (p : Int × Int) (hd : 0 < den) : Can (mkN x y den p) := by
  obtain ⟨g, x', y', d', h1, h2, h3, h4, h5, h6, h7, h8, h9, h10⟩ := mkN_parts (x := x) (y := y) hd
  unfold mkN
  simp only [← h2, h8, h9, h10]
  obtain ⟨h, n, d, k1, k2, k3, k4, k5, k6, k7, k8, k9⟩ := red_parts (sq2_nn (p.1 * d' - x') (p.2 * d' - y')) (Int.mul_pos h6 h6)
  rw [← k2, k8, k9]
  exact ⟨h6, h7, k5, k6, k7⟩
theorem mkN_toD {x y den : Int} (p : Int × Int) (hd : 0 < den) : toD (mkN x y den p) = ⟨(x : Rat) * (den : Rat)⁻¹, (y : Rat) * (den : Rat)⁻¹, ((p.1 : Rat) - (x : Rat) * (den : Rat)⁻¹) * ((p.1 : Rat) - (x : Rat) * (den : Rat)⁻¹) + ((p.2 : Rat) - (y : Rat) * (den : Rat)⁻¹) * ((p.2 : Rat) - (y : Rat) * (den : Rat)⁻¹)⟩ := by
  obtain ⟨g, x', y', d', h1, h2, h3, h4, h5, h6, h7, h8, h9, h10⟩ := mkN_parts (x := x) (y := y) hd
  unfold mkN toD
  simp only [← h2, h8, h9, h10]
  obtain ⟨h, n, d, k1, k2, k3, k4, k5, k6, k7, k8, k9⟩ := red_parts (sq2_nn (p.1 * d' - x') (p.2 * d' - y')) (Int.mul_pos h6 h6)
  rw [← k2, k8, k9]
  have e1 : (x' : Rat) * (d' : Rat)⁻¹ = (x : Rat) * (den : Rat)⁻¹ := (frac_eq h6 hd).2 (by rw [h3, h5]; grind)
  have e2 : (y' : Rat) * (d' : Rat)⁻¹ = (y : Rat) * (den : Rat)⁻¹ := (frac_eq h6 hd).2 (by rw [h4, h5]; grind)
  have e3 : (n : Rat) * (d : Rat)⁻¹ = (((p.1 * d' - x') * (p.1 * d' - x') + (p.2 * d' - y') * (p.2 * d' - y') : Int) : Rat) * ((d' * d' : Int) : Rat)⁻¹ := (frac_eq k5 (Int.mul_pos h6 h6)).2 (by rw [k3, k4]; grind)
  rw [← e1, ← e2, e3]
  refine Dsc.ext rfl rfl ?_
  simp only [Rat.intCast_sub, Rat.intCast_add, Rat.intCast_mul]
  have e := inv_of h6
  have q := pos_of h6
  have e5 : ((d' : Rat) * (d' : Rat))⁻¹ = (d' : Rat)⁻¹ * (d' : Rat)⁻¹ := by
    have := Rat.mul_inv_cancel ((d' : Rat) * (d' : Rat)) (by have := Rat.mul_pos q q; grind)
    grind
  rw [e5]
  grind
theorem mkN_ok {x y den : Int} {p : Int × Int} (hd : 0 < den) (hd2 : den ≤ 262144) (hx : -268435456 ≤ x ∧ x ≤ 268435456) (hy : -268435456 ≤ y ∧ y ≤ 268435456) (hn : far2 x y den p ≤ 1125899906842624) : OkR (mkN x y den p) := by
  obtain ⟨g, x', y', d', h1, h2, h3, h4, h5, h6, h7, h8, h9, h10⟩ := mkN_parts (x := x) (y := y) hd
  have ax := tdiv_ab (a := x) h1
  have ay := tdiv_ab (a := y) h1
  unfold mkN
  simp only [← h2]
  rw [h8] at ax ⊢
  rw [h9] at ay ⊢
  rw [h10]
  obtain ⟨h, n, d, k1, k2, k3, k4, k5, k6, k7, k8, k9⟩ := red_parts (sq2_nn (p.1 * d' - x') (p.2 * d' - y')) (Int.mul_pos h6 h6)
  rw [← k2, k8, k9]
  have hdd : d' ≤ den := by rw [h5]; exact le_mul1 (by omega) (by omega)
  have hb := den_b (d := d') ⟨by omega, by omega⟩
  have hm : (p.1 * d' - x') * (p.1 * d' - x') + (p.2 * d' - y') * (p.2 * d' - y') ≤ far2 x y den p := by
    have e : far2 x y den p = ((p.1 * d' - x') * (p.1 * d' - x') + (p.2 * d' - y') * (p.2 * d' - y')) * (g * g) := by
      unfold far2; rw [h3, h4, h5]; grind
    rw [e]
    exact le_mul1 (sq2_nn _ _) (by have := Int.mul_le_mul (a := 1) (b := 1) (c := g) (d := g) (by omega) (by omega) (by omega) (by omega); omega)
  have hn' : n ≤ (p.1 * d' - x') * (p.1 * d' - x') + (p.2 * d' - y') * (p.2 * d' - y') := by
    rw [k3]; exact le_mul1 (by omega) (by omega)
  have hd' : d ≤ d' * d' := by rw [k4]; exact le_mul1 (by omega) (by omega)
  unfold ab at ax ay
  exact ⟨⟨by show 1 ≤ d'; omega, by show d' ≤ _; omega⟩, ⟨by show _ ≤ x'; omega, by show x' ≤ _; omega⟩, ⟨by show _ ≤ y'; omega, by show y' ≤ _; omega⟩, ⟨k6, by show n ≤ _; omega⟩, ⟨by show 1 ≤ d; omega, by show d ≤ _; omega⟩⟩
theorem mkR_can {x y den : Int} (p : Int × Int) (hd : den ≠ 0) : Can (mkR x y den p) := by
  unfold mkR; split
  · exact mkN_can p (by omega)
  · exact mkN_can p (by omega)
theorem mkR_ok {x y den : Int} {p : Int × Int} (hd : den ≠ 0) (hd2 : -262144 ≤ den ∧ den ≤ 262144) (hx : -268435456 ≤ x ∧ x ≤ 268435456) (hy : -268435456 ≤ y ∧ y ≤ 268435456) (hn : far2 x y den p ≤ 1125899906842624) : OkR (mkR x y den p) := by
  unfold mkR; split
  · refine mkN_ok (by omega) (by omega) (by omega) (by omega) ?_
    rw [show far2 (-x) (-y) (-den) p = far2 x y den p by unfold far2; grind]; exact hn
  · exact mkN_ok (by omega) (by omega) hx hy hn
theorem mkR_toD {x y den : Int} (p : Int × Int) (hd : den ≠ 0) : toD (mkR x y den p) = ⟨(x : Rat) * (den : Rat)⁻¹, (y : Rat) * (den : Rat)⁻¹, ((p.1 : Rat) - (x : Rat) * (den : Rat)⁻¹) * ((p.1 : Rat) - (x : Rat) * (den : Rat)⁻¹) + ((p.2 : Rat) - (y : Rat) * (den : Rat)⁻¹) * ((p.2 : Rat) - (y : Rat) * (den : Rat)⁻¹)⟩ := by
  unfold mkR; split
  · rename_i h
    rw [mkN_toD p (by omega)]
    have e1 := inv_of (d := -den) (by omega)
    have e2 : (den : Rat) * (den : Rat)⁻¹ = 1 := Rat.mul_inv_cancel _ (fun e => hd (Rat.intCast_inj.1 (by simpa using e)))
    rw [Rat.intCast_neg] at e1
    have e3 : (-(den : Rat))⁻¹ = -(den : Rat)⁻¹ := by grind
    simp only [Rat.intCast_neg, e3]
    refine Dsc.ext ?_ ?_ ?_ <;> dsimp only <;> grind
  · exact mkN_toD p (by omega)
def aloneC (p : Int × Int) : Cir := mkR p.1 p.2 1 p
def betwC (p q : Int × Int) : Cir := mkR (p.1 + q.1) (p.2 + q.2) 2 p
def cross (a b c : Int × Int) : Int := (b.1 - a.1) * (c.2 - a.2) - (b.2 - a.2) * (c.1 - a.1)
def nx (a b c : Int × Int) : Int := a.1 * (2 * cross a b c) + ((b.1 - a.1) * (b.1 - a.1) + (b.2 - a.2) * (b.2 - a.2)) * (c.2 - a.2) - ((c.1 - a.1) * (c.1 - a.1) + (c.2 - a.2) * (c.2 - a.2)) * (b.2 - a.2)
def ny (a b c : Int × Int) : Int := a.2 * (2 * cross a b c) + ((c.1 - a.1) * (c.1 - a.1) + (c.2 - a.2) * (c.2 - a.2)) * (b.1 - a.1) - ((b.1 - a.1) * (b.1 - a.1) + (b.2 - a.2) * (b.2 - a.2)) * (c.1 - a.1)
def thrC (a b c : Int × Int) : Cir := mkR (nx a b c) (ny a b c) (2 * cross a b c) a
theorem aloneC_toD (p : Int × Int) : toD (aloneC p) = alone (toQ p) := by
  unfold aloneC; rw [mkR_toD p (by omega)]
  unfold alone toQ
  have e : ((1 : Int) : Rat) = 1 := rfl
  rw [e]
  refine Dsc.ext ?_ ?_ ?_ <;> dsimp only <;> grind
theorem betwC_toD (p q : Int × Int) : toD (betwC p q) = betw (toQ p) (toQ q) := by
  unfold betwC; rw [mkR_toD p (by omega)]
  unfold betw toQ
  have e : ((2 : Int) : Rat) = 2 := rfl
  rw [e]
  simp only [Rat.intCast_add]
  refine Dsc.ext ?_ ?_ ?_ <;> dsimp only <;> grind
theorem cross_q (a b c : Int × Int) : ((cross a b c : Int) : Rat) = ((toQ b).1 - (toQ a).1) * ((toQ c).2 - (toQ a).2) - ((toQ b).2 - (toQ a).2) * ((toQ c).1 - (toQ a).1) := by
  unfold cross toQ; simp only [Rat.intCast_sub, Rat.intCast_mul]
theorem cross_ne {a b c : Int × Int} : cross a b c ≠ 0 ↔ ((toQ b).1 - (toQ a).1) * ((toQ c).2 - (toQ a).2) - ((toQ b).2 - (toQ a).2) * ((toQ c).1 - (toQ a).1) ≠ 0 := by
  rw [← cross_q]
  constructor
  · intro h e; exact h (Rat.intCast_inj.1 (by simpa using e))
  · intro h e; exact h (by rw [e]; rfl)
theorem thrC_toD {a b c : Int × Int} (h : cross a b c ≠ 0) : toD (thrC a b c) = thr (toQ a) (toQ b) (toQ c) := by
  unfold thrC; rw [mkR_toD a (by omega)]
  unfold thr
  have e2 : ((2 : Int) : Rat) = 2 := rfl
  have hq := cross_q a b c
  have hi : ((2 * cross a b c : Int) : Rat) * ((2 * cross a b c : Int) : Rat)⁻¹ = 1 := Rat.mul_inv_cancel _ (fun e => by have : 2 * cross a b c = 0 := Rat.intCast_inj.1 (by simpa using e); omega)
  unfold nx ny
  simp only [Rat.intCast_sub, Rat.intCast_add, Rat.intCast_mul, e2] at hi ⊢
  rw [hq] at hi ⊢
  unfold toQ at hi ⊢
  dsimp only at hi ⊢
  generalize (2 * (((b.1 : Rat) - (a.1 : Rat)) * ((c.2 : Rat) - (a.2 : Rat)) - ((b.2 : Rat) - (a.2 : Rat)) * ((c.1 : Rat) - (a.1 : Rat))))⁻¹ = i at *
  refine Dsc.ext ?_ ?_ ?_ <;> dsimp only <;> grind
end Go.Proofs.Ytkhplcncfogolaa
namespace Go.Proofs.Ytkhplcncfogolaa
open Go Go.TH Go.TH.Dsc
theorem mul_bd {a b A B : Int} (ha : -A ≤ a ∧ a ≤ A) (hb : -B ≤ b ∧ b ≤ B) : -(A * B) ≤ a * b ∧ a * b ≤ A * B := by
  have hA : 0 ≤ A := by omega
  have hB : 0 ≤ B := by omega
  have key : ∀ {a b : Int}, 0 ≤ a → a ≤ A → 0 ≤ b → b ≤ B → 0 ≤ a * b ∧ a * b ≤ A * B := fun h1 h2 h3 h4 => ⟨Int.mul_nonneg h1 h3, Int.mul_le_mul h2 h4 h3 hA⟩
  rcases Int.le_total 0 a with g | g <;> rcases Int.le_total 0 b with k | k
  · have := key g ha.2 k hb.2; omega
  · have := key g ha.2 (show 0 ≤ -b by omega) (by omega); rw [Int.mul_neg] at this; omega
  · have := key (show 0 ≤ -a by omega) (by omega) k hb.2; rw [Int.neg_mul] at this; omega
  · have := key (show 0 ≤ -a by omega) (by omega) (show 0 ≤ -b by omega) (by omega); rw [Int.neg_mul_neg] at this; omega
theorem sq_bd {a A : Int} (ha : -A ≤ a ∧ a ≤ A) : 0 ≤ a * a ∧ a * a ≤ A * A := ⟨by have := sq2_nn a 0; omega, (mul_bd ha ha).2⟩
theorem aloneC_ok {p : Int × Int} (hp : OkP p) : OkR (aloneC p) := by
  obtain ⟨h1, h2⟩ := hp
  refine mkR_ok (by omega) (by omega) (by omega) (by omega) ?_
  unfold far2
  rw [show p.1 * 1 - p.1 = 0 by omega, show p.2 * 1 - p.2 = 0 by omega]
  decide
theorem dist_bd {p q : Int × Int} (hp : OkP p) (hq : OkP q) : 0 ≤ (p.1 - q.1) * (p.1 - q.1) + (p.2 - q.2) * (p.2 - q.2) ∧ (p.1 - q.1) * (p.1 - q.1) + (p.2 - q.2) * (p.2 - q.2) ≤ 80000 := by
  obtain ⟨h1, h2⟩ := hp
  obtain ⟨h3, h4⟩ := hq
  have a := sq_bd (a := p.1 - q.1) (A := 200) (by omega)
  have b := sq_bd (a := p.2 - q.2) (A := 200) (by omega)
  omega
theorem betwC_ok {p q : Int × Int} (hp : OkP p) (hq : OkP q) : OkR (betwC p q) := by
  have hd := dist_bd hp hq
  obtain ⟨h1, h2⟩ := hp
  obtain ⟨h3, h4⟩ := hq
  refine mkR_ok (by omega) (by omega) (by omega) (by omega) ?_
  rw [show far2 (p.1 + q.1) (p.2 + q.2) 2 p = (p.1 - q.1) * (p.1 - q.1) + (p.2 - q.2) * (p.2 - q.2) by unfold far2; grind]
  omega
theorem cross_bd {a b c : Int × Int} (ha : OkP a) (hb : OkP b) (hc : OkP c) : -80000 ≤ cross a b c ∧ cross a b c ≤ 80000 := by
  obtain ⟨a1, a2⟩ := ha
  obtain ⟨b1, b2⟩ := hb
  obtain ⟨c1, c2⟩ := hc
  have h1 := mul_bd (a := b.1 - a.1) (b := c.2 - a.2) (A := 200) (B := 200) (by omega) (by omega)
  have h2 := mul_bd (a := b.2 - a.2) (b := c.1 - a.1) (A := 200) (B := 200) (by omega) (by omega)
  unfold cross; omega
theorem nx_bd {a b c : Int × Int} (ha : OkP a) (hb : OkP b) (hc : OkP c) : -48000000 ≤ nx a b c ∧ nx a b c ≤ 48000000 := by
  have d1 := dist_bd hb ha
  have d2 := dist_bd hc ha
  have hx := cross_bd ha hb hc
  obtain ⟨a1, a2⟩ := ha
  obtain ⟨b1, b2⟩ := hb
  obtain ⟨c1, c2⟩ := hc
  have h1 := mul_bd (a := a.1) (b := 2 * cross a b c) (A := 100) (B := 160000) (by omega) (by omega)
  have h2 := mul_bd (a := (b.1 - a.1) * (b.1 - a.1) + (b.2 - a.2) * (b.2 - a.2)) (b := c.2 - a.2) (A := 80000) (B := 200) (by omega) (by omega)
  have h3 := mul_bd (a := (c.1 - a.1) * (c.1 - a.1) + (c.2 - a.2) * (c.2 - a.2)) (b := b.2 - a.2) (A := 80000) (B := 200) (by omega) (by omega)
  unfold nx; omega
theorem ny_bd {a b c : Int × Int} (ha : OkP a) (hb : OkP b) (hc : OkP c) : -48000000 ≤ ny a b c ∧ ny a b c ≤ 48000000 := by
  have d1 := dist_bd hb ha
  have d2 := dist_bd hc ha
  have hx := cross_bd ha hb hc
  obtain ⟨a1, a2⟩ := ha
  obtain ⟨b1, b2⟩ := hb
  obtain ⟨c1, c2⟩ := hc
  have h1 := mul_bd (a := a.2) (b := 2 * cross a b c) (A := 100) (B := 160000) (by omega) (by omega)
  have h2 := mul_bd (a := (c.1 - a.1) * (c.1 - a.1) + (c.2 - a.2) * (c.2 - a.2)) (b := b.1 - a.1) (A := 80000) (B := 200) (by omega) (by omega)
  have h3 := mul_bd (a := (b.1 - a.1) * (b.1 - a.1) + (b.2 - a.2) * (b.2 - a.2)) (b := c.1 - a.1) (A := 80000) (B := 200) (by omega) (by omega)
  unfold ny; omega
theorem far_thr (a b c : Int × Int) : far2 (nx a b c) (ny a b c) (2 * cross a b c) a = ((b.1 - a.1) * (b.1 - a.1) + (b.2 - a.2) * (b.2 - a.2)) * ((c.1 - a.1) * (c.1 - a.1) + (c.2 - a.2) * (c.2 - a.2)) * ((b.1 - c.1) * (b.1 - c.1) + (b.2 - c.2) * (b.2 - c.2)) := by
  unfold far2 nx ny
  generalize cross a b c = x
  grind
theorem thrC_ok {a b c : Int × Int} (ha : OkP a) (hb : OkP b) (hc : OkP c) (h : cross a b c ≠ 0) : OkR (thrC a b c) := by
  have hx := cross_bd ha hb hc
  have h1 := nx_bd ha hb hc
  have h2 := ny_bd ha hb hc
  refine mkR_ok (by omega) (by omega) (by omega) (by omega) ?_
  rw [far_thr]
  have d1 := dist_bd hb ha
  have d2 := dist_bd hc ha
  have d3 := dist_bd hb hc
  have m1 := mul_bd (a := (b.1 - a.1) * (b.1 - a.1) + (b.2 - a.2) * (b.2 - a.2)) (b := (c.1 - a.1) * (c.1 - a.1) + (c.2 - a.2) * (c.2 - a.2)) (A := 80000) (B := 80000) (by omega) (by omega)
  have m2 := mul_bd (b := (b.1 - c.1) * (b.1 - c.1) + (b.2 - c.2) * (b.2 - c.2)) (A := 80000 * 80000) (B := 80000) m1 (by omega)
  omega
/-- the smallest circle that holds some points, and has some on it -/
structure Sm (l R : List (Int × Int)) (c : Cir) : Prop where
  can : Can c
  ok : OkR c
  best : Best (l.map toQ) (R.map toQ) (toD c)
def Ex (l R : List (Int × Int)) : Prop := ∃ E, Hold E (l.map toQ) ∧ On E (R.map toQ)
theorem Sm.uniq {l R : List (Int × Int)} {c c' : Cir} (h : Sm l R c) (h' : Sm l R c') : c = c' :=
  h.can.inj h'.can (h'.best.uniq h.best.hold h.best.on (h.best.min _ h'.best.hold h'.best.on))
theorem Sm.hold {l R : List (Int × Int)} {c : Cir} (h : Sm l R c) : holdL c l := (holdL_iff h.can.den h.can.d l).2 h.best.hold
theorem Sm.on {l R : List (Int × Int)} {c : Cir} (h : Sm l R c) : ∀ p ∈ R, whr c p = 0 := fun p hp => (whr_zero h.can.den h.can.d p).2 (h.best.on _ (List.mem_map_of_mem hp))
theorem Sm.more {l l' R : List (Int × Int)} {c : Cir} (h : Sm l R c) (hs : ∀ p ∈ l, p ∈ l') (h' : holdL c l') : Sm l' R c :=
  ⟨h.can, h.ok, h.best.sub (fun p hp => by obtain ⟨q, hq, rfl⟩ := List.mem_map.1 hp; exact List.mem_map_of_mem (hs q hq)) ((holdL_iff h.can.den h.can.d l').1 h')⟩
theorem Sm.ex {l R : List (Int × Int)} {c : Cir} (h : Sm l R c) : Ex l R := ⟨_, h.best.hold, h.best.on⟩
theorem Ex.sub {l l' R : List (Int × Int)} (h : Ex l R) (hs : ∀ p ∈ l', p ∈ l) : Ex l' R := by
  obtain ⟨E, a, b⟩ := h
  exact ⟨E, fun p hp => by obtain ⟨q, hq, rfl⟩ := List.mem_map.1 hp; exact a _ (List.mem_map_of_mem (hs q hq)), b⟩
theorem Ex.nil (l : List (Int × Int)) : Ex l [] := big _
theorem map_snoc (l : List (Int × Int)) (p : Int × Int) : (l ++ [p]).map toQ = l.map toQ ++ [toQ p] := by simp
theorem Sm.next {l R : List (Int × Int)} {c : Cir} {p : Int × Int} (h : Sm l R c) (hp : 0 < whr c p) (he : Ex (l ++ [p]) R) : Ex l (p :: R) := by
  unfold Ex at he; rw [map_snoc] at he
  exact h.best.next ((whr_pos h.can.den h.can.d p).1 hp) he
theorem Sm.grow {l R : List (Int × Int)} {c c' : Cir} {p : Int × Int} (h : Sm l R c) (hp : 0 < whr c p) (h' : Sm l (p :: R) c') : Sm (l ++ [p]) R c' :=
  ⟨h'.can, h'.ok, by rw [map_snoc]; exact h.best.grow ((whr_pos h.can.den h.can.d p).1 hp) h'.best⟩
theorem Sm.alone {p : Int × Int} (hp : OkP p) : Sm [] [p] (aloneC p) := ⟨mkR_can p (by omega), aloneC_ok hp, by rw [aloneC_toD]; exact alone_best _⟩
theorem Sm.alone1 {p : Int × Int} (hp : OkP p) : Sm [p] [] (aloneC p) := ⟨mkR_can p (by omega), aloneC_ok hp, by rw [aloneC_toD]; exact alone_best1 _⟩
theorem Sm.betw {p q : Int × Int} (hp : OkP p) (hq : OkP q) : Sm [] [p, q] (betwC p q) := ⟨mkR_can p (by omega), betwC_ok hp hq, by rw [betwC_toD]; exact betw_best _ _⟩
theorem Sm.thr {l : List (Int × Int)} {p q r : Int × Int} {c : Cir} (h : Sm l [p, q] c) (hp : OkP p) (hq : OkP q) (hr : OkP r) (hn : p ≠ q) (hw : 0 < whr c r) (he : Ex (l ++ [r]) [p, q]) : cross r p q ≠ 0 ∧ Sm (l ++ [r]) [p, q] (thrC r p q) := by
  unfold Ex at he; rw [map_snoc] at he
  obtain ⟨h1, h2⟩ := both_step (fun e => hn (toQ_inj e)) h.best ((whr_pos h.can.den h.can.d r).1 hw) he
  have hx : cross r p q ≠ 0 := cross_ne.2 h1
  exact ⟨hx, mkR_can r (by omega), thrC_ok hr hp hq hx, by rw [map_snoc, thrC_toD hx]; exact h2⟩
theorem Sm.ne {l R : List (Int × Int)} {c : Cir} {p r : Int × Int} (h : Sm l R c) (hp : p ∈ R) (hw : 0 < whr c r) : r ≠ p := fun e => by
  subst e; have := h.on _ hp; omega
/-- equal points have one circle -/
theorem betwC_same {p : Int × Int} : betwC p p = aloneC p := by
  refine (mkR_can p (by omega)).inj (mkR_can p (by omega)) ?_
  show toD (betwC p p) = toD (aloneC p)
  rw [betwC_toD, aloneC_toD]
  unfold Dsc.betw Dsc.alone
  refine Dsc.ext ?_ ?_ ?_ <;> dsimp only <;> grind
theorem betwC_comm {p q : Int × Int} : betwC p q = betwC q p := by
  refine (mkR_can p (by omega)).inj (mkR_can q (by omega)) ?_
  show toD (betwC p q) = toD (betwC q p)
  rw [betwC_toD, betwC_toD]
  unfold Dsc.betw
  refine Dsc.ext ?_ ?_ ?_ <;> dsimp only <;> grind
theorem thrC_perm {a b c a' b' c' : Int × Int} (h : cross a b c ≠ 0) (h' : cross a' b' c' ≠ 0) (hp : ∀ p ∈ [a', b', c'], p ∈ [a, b, c]) : thrC a b c = thrC a' b' c' := by
  refine (mkR_can a (by omega)).inj (mkR_can a' (by omega)) ?_
  show toD (thrC a b c) = toD (thrC a' b' c')
  rw [thrC_toD h, thrC_toD h']
  have o1 := thr_on (cross_ne.1 h)
  refine three (a := toQ a') (b := toQ b') (c := toQ c') (fun q hq => o1 q ?_) (thr_on (cross_ne.1 h')) (cross_ne.1 h')
  have : q ∈ [a', b', c'].map toQ := hq
  obtain ⟨r, hr, rfl⟩ := List.mem_map.1 this
  exact List.mem_map_of_mem (f := toQ) (hp r hr)
end Go.Proofs.Ytkhplcncfogolaa
namespace Go.Proofs.Ytkhplcncfogolaa
open Go Go.TH Go.TH.Dsc
abbrev Pts := List (Int × Int)
abbrev Pts.at (l : Pts) (i : Nat) : Int × Int := l.getD i (0, 0)
/-- the circles of all single points, all pairs, and all triples that are not on one line -/
def candM (l : Pts) (i k : Nat) (n : Nat) : List Cir := (List.range n).flatMap fun m => if cross (l.at i) (l.at k) (l.at m) = 0 then [] else [thrC (l.at i) (l.at k) (l.at m)]
def candK (l : Pts) (i : Nat) (n : Nat) : List Cir := (List.range n).flatMap fun k => betwC (l.at i) (l.at k) :: candM l i k k
def candI (l : Pts) (n : Nat) : List Cir := (List.range n).flatMap fun i => aloneC (l.at i) :: candK l i i
def cands (l : Pts) : List Cir := candI l l.length
def lessC (a b : Cir) : Prop := cmp a.n a.d b.n b.d < 0
instance (a b : Cir) : Decidable (lessC a b) := by unfold lessC; infer_instance
/-- the first one of the smallest that hold all -/
def pickC (l : Pts) (b : Option Cir) (c : Cir) : Option Cir := match b with
  | none => if holdL c l then some c else none
  | some b => if lessC c b ∧ holdL c l then some c else some b
def lst (l : Pts) : Cir := ((cands l).foldl (pickC l) none).getD ⟨0, 0, 0, 0, 0⟩
structure OkC (c : Cir) : Prop where
  can : Can c
  ok : OkR c
theorem at_ok {l : Pts} (h : OkL l) {i : Nat} (hi : i < l.length) : OkP (l.at i) := h _ (getD_mem hi _)
theorem mem_candI {l : Pts} {n : Nat} {c : Cir} : c ∈ candI l n ↔ ∃ i, i < n ∧ (c = aloneC (l.at i) ∨ ∃ k, k < i ∧ (c = betwC (l.at i) (l.at k) ∨ ∃ m, m < k ∧ cross (l.at i) (l.at k) (l.at m) ≠ 0 ∧ c = thrC (l.at i) (l.at k) (l.at m))) := by
  unfold candI candK candM
  simp only [List.mem_flatMap, List.mem_range, List.mem_cons]
  constructor
  · rintro ⟨i, hi, h | ⟨k, hk, h | ⟨m, hm, h⟩⟩⟩
    · exact ⟨i, hi, .inl h⟩
    · exact ⟨i, hi, .inr ⟨k, hk, .inl h⟩⟩
    · split at h
      · simp at h
      · rename_i hx; exact ⟨i, hi, .inr ⟨k, hk, .inr ⟨m, hm, hx, by simpa using h⟩⟩⟩
  · rintro ⟨i, hi, h | ⟨k, hk, h | ⟨m, hm, hx, h⟩⟩⟩
    · exact ⟨i, hi, .inl h⟩
    · exact ⟨i, hi, .inr ⟨k, hk, .inl h⟩⟩
    · exact ⟨i, hi, .inr ⟨k, hk, .inr ⟨m, hm, by rw [if_neg hx]; simp [h]⟩⟩⟩
theorem cands_ok {l : Pts} (h : OkL l) : ∀ c ∈ cands l, OkC c := fun c hc => by
  obtain ⟨i, hi, rfl | ⟨k, hk, rfl | ⟨m, hm, hx, rfl⟩⟩⟩ := mem_candI.1 hc
  · exact ⟨mkR_can _ (by omega), aloneC_ok (at_ok h hi)⟩
  · exact ⟨mkR_can _ (by omega), betwC_ok (at_ok h hi) (at_ok h (by omega))⟩
  · exact ⟨mkR_can _ (by omega), thrC_ok (at_ok h hi) (at_ok h (by omega)) (at_ok h (by omega)) hx⟩
/-- the smallest one of some circles that hold all -/
structure Pick1 (l : Pts) (cs : List Cir) (c : Cir) : Prop where
  mem : c ∈ cs
  hold : holdL c l
  min : ∀ c' ∈ cs, holdL c' l → ¬ lessC c' c
theorem cmp_neg {a b c d : Int} : cmp a b c d < 0 ↔ a * d < c * b := by unfold cmp sgn; split <;> (try split) <;> omega
theorem lessC_iff {a b : Cir} (ha : OkC a) (hb : OkC b) : lessC a b ↔ (toD a).s < (toD b).s := by
  unfold lessC; rw [cmp_neg]
  exact (frac_lt ha.can.d hb.can.d).symm
theorem Pick1.sm {l : Pts} {cs : List Cir} {c c0 : Cir} (h : Pick1 l cs c) (hk : ∀ c ∈ cs, OkC c) (h0 : c0 ∈ cs) (hs : Sm l [] c0) : Sm l [] c := by
  have hc := hk _ h.mem
  have h2 := h.min _ h0 hs.hold
  rw [lessC_iff (hk _ h0) hc, Rat.not_lt] at h2
  have e := hs.best.uniq ((holdL_iff hc.can.den hc.can.d l).1 h.hold) (fun p hp => by simp at hp) h2
  rw [hc.can.inj hs.can e]; exact hs
theorem cross_perm (a b c : Int × Int) : cross a c b = -cross a b c ∧ cross b a c = -cross a b c ∧ cross b c a = cross a b c ∧ cross c a b = cross a b c ∧ cross c b a = -cross a b c := by
  unfold cross; refine ⟨?_, ?_, ?_, ?_, ?_⟩ <;> grind
theorem cand_betw {l : Pts} {a b : Nat} (ha : a < l.length) (hb : b < l.length) (hn : a ≠ b) : betwC (l.at a) (l.at b) ∈ cands l := by
  refine mem_candI.2 ?_
  rcases Nat.lt_or_ge a b with h | h
  · exact ⟨b, hb, .inr ⟨a, h, .inl betwC_comm⟩⟩
  · exact ⟨a, ha, .inr ⟨b, by omega, .inl rfl⟩⟩
theorem cand_thr {l : Pts} {a b c : Nat} (ha : a < l.length) (hb : b < l.length) (hc : c < l.length) (h1 : a ≠ b) (h2 : a ≠ c) (h3 : b ≠ c) (hx : cross (l.at a) (l.at b) (l.at c) ≠ 0) : thrC (l.at a) (l.at b) (l.at c) ∈ cands l := by
  obtain ⟨p1, p2, p3, p4, p5⟩ := cross_perm (l.at a) (l.at b) (l.at c)
  have key : ∀ i k m : Nat, i < l.length → k < i → m < k → cross (l.at i) (l.at k) (l.at m) ≠ 0 → (∀ p ∈ [l.at i, l.at k, l.at m], p ∈ [l.at a, l.at b, l.at c]) → thrC (l.at a) (l.at b) (l.at c) ∈ cands l := fun i k m hi hk hm hy hp =>
    mem_candI.2 ⟨i, hi, .inr ⟨k, hk, .inr ⟨m, hm, hy, thrC_perm hx hy hp⟩⟩⟩
  rcases Nat.lt_or_ge a b with g1 | g1 <;> rcases Nat.lt_or_ge b c with g2 | g2 <;> rcases Nat.lt_or_ge a c with g3 | g3
  · exact key c b a hc (by omega) (by omega) (by omega) (by simp)
  · omega
  · exact key b c a hb (by omega) (by omega) (by omega) (by simp)
  · exact key b a c hb (by omega) (by omega) (by omega) (by simp)
  · exact key c a b hc (by omega) (by omega) (by omega) (by simp)
  · exact key a c b ha (by omega) (by omega) (by omega) (by simp)
  · omega
  · exact key a b c ha (by omega) (by omega) (by omega) (by simp)
theorem mem_at {l : Pts} {p : Int × Int} (h : p ∈ l) : ∃ i, i < l.length ∧ l.at i = p := by
  obtain ⟨i, hi, e⟩ := List.getElem_of_mem h
  exact ⟨i, hi, by simp [Pts.at, hi, e]⟩
theorem on3 {D : Dsc} {r s t p : Rat × Rat} (h : On D [r, s, t]) (hp : p ∈ [r, s, t]) : f D p = 0 := h p hp
theorem two_of {D : Dsc} {r s t p q : Rat × Rat} (hb : Best [r, s, t] [] D) (ho : On D [r, s, t]) (hp : p ∈ [r, s, t]) (hq : q ∈ [r, s, t]) (ha : ∀ x ∈ [r, s, t], x = p ∨ x = q) : Dsc.betw p q = D := by
  have hbo := betw_on p q
  refine hb.uniq (fun x hx => ?_) (fun x hx => by simp at hx) ((betw_best p q).min D (fun x hx => by simp at hx) (fun x hx => ?_))
  · rcases ha x hx with rfl | rfl
    · rw [hbo x (by simp)]; exact Rat.le_refl
    · rw [hbo x (by simp)]; exact Rat.le_refl
  · have : x = p ∨ x = q := by simpa using hx
    rcases this with rfl | rfl
    · exact ho _ hp
    · exact ho _ hq
/-- a disc that three of the points prove is one of the circles -/
theorem best_cand {l : Pts} (h : OkL l) {D : Dsc} {r s t : Int × Int} (hr : r ∈ l) (hs : s ∈ l) (ht : t ∈ l) (hb : Best [toQ r, toQ s, toQ t] [] D) (ho : On D [toQ r, toQ s, toQ t]) : ∃ c ∈ cands l, toD c = D := by
  obtain ⟨i, hi, rfl⟩ := mem_at hr
  obtain ⟨k, hk, rfl⟩ := mem_at hs
  obtain ⟨m, hm, rfl⟩ := mem_at ht
  have pair : ∀ a b : Nat, a < l.length → b < l.length → toQ (l.at a) ∈ [toQ (l.at i), toQ (l.at k), toQ (l.at m)] → toQ (l.at b) ∈ [toQ (l.at i), toQ (l.at k), toQ (l.at m)] → (∀ x ∈ [toQ (l.at i), toQ (l.at k), toQ (l.at m)], x = toQ (l.at a) ∨ x = toQ (l.at b)) → ∃ c ∈ cands l, toD c = D := fun a b ha hb' hpa hpb hall => by
    have e := two_of hb ho hpa hpb hall
    rcases Decidable.em (a = b) with rfl | hn
    · exact ⟨aloneC (l.at a), mem_candI.2 ⟨a, ha, .inl rfl⟩, by rw [← betwC_same, betwC_toD]; exact e⟩
    · exact ⟨betwC (l.at a) (l.at b), cand_betw ha hb' hn, by rw [betwC_toD]; exact e⟩
  rcases Decidable.em (l.at i = l.at k) with e1 | e1
  · exact pair k m hk hm (by simp) (by simp) (by rw [e1]; simp)
  rcases Decidable.em (l.at i = l.at m) with e2 | e2
  · exact pair i k hi hk (by simp) (by simp) (by rw [← e2]; simp)
  rcases Decidable.em (l.at k = l.at m) with e3 | e3
  · exact pair i k hi hk (by simp) (by simp) (by rw [← e3]; simp)
  have nl := not_line (E := D) (p := toQ (l.at i)) (q := toQ (l.at k)) (r := toQ (l.at m)) (ho _ (by simp)) (ho _ (by simp)) (ho _ (by simp)) (fun e => e1 (toQ_inj e)) (fun e => e2 (toQ_inj e).symm) (fun e => e3 (toQ_inj e).symm)
  have hx := cross_ne.2 nl
  refine ⟨thrC (l.at i) (l.at k) (l.at m), cand_thr hi hk hm (fun e => e1 (by rw [e])) (fun e => e2 (by rw [e])) (fun e => e3 (by rw [e])) hx, ?_⟩
  rw [thrC_toD hx]
  exact three (thr_on nl) ho nl
/-- three points that prove the smallest circle -/
structure Prove (l : Pts) (D : Dsc) (r s t : Int × Int) (u v w : Rat) : Prop where
  hr : r ∈ l
  hs : s ∈ l
  ht : t ∈ l
  hu : 0 ≤ u
  hv : 0 ≤ v
  hw : 0 ≤ w
  mid : Mid D (toQ r) (toQ s) (toQ t) u v w
theorem prove_ex {l : Pts} (h0 : l ≠ []) : ∃ D r s t u v w, Best (l.map toQ) [] D ∧ Prove l D r s t u v w := by
  obtain ⟨D, hb, r, s, t, u, v, w, hr, hs, ht, hu, hv, hw, hm⟩ := best_ex (l := l.map toQ) (by simpa using h0)
  obtain ⟨r', hr', rfl⟩ := List.mem_map.1 hr
  obtain ⟨s', hs', rfl⟩ := List.mem_map.1 hs
  obtain ⟨t', ht', rfl⟩ := List.mem_map.1 ht
  exact ⟨D, r', s', t', u, v, w, hb, hr', hs', ht', hu, hv, hw, hm⟩
theorem sm_cand {l : Pts} (h : OkL l) (h0 : l ≠ []) : ∃ c ∈ cands l, Sm l [] c := by
  obtain ⟨D, r, s, t, u, v, w, hb, hp⟩ := prove_ex h0
  obtain ⟨c, hc, e⟩ := best_cand h hp.hr hp.hs hp.ht (hp.mid.best hp.hu hp.hv hp.hw) hp.mid.on
  have hk := cands_ok h c hc
  exact ⟨c, hc, hk.can, hk.ok, by rw [e]; exact hb⟩
/-- what has been picked of some circles -/
def PickO (l : Pts) (cs : List Cir) : Option Cir → Prop
  | none => ∀ c ∈ cs, ¬ holdL c l
  | some c => Pick1 l cs c
theorem cmp_trans {a b c d e g : Int} (hb : 0 < b) (hd : 0 < d) (hg : 0 < g) (h1 : a * d < c * b) (h2 : ¬ e * d < c * g) : ¬ e * b < a * g := fun h3 => by
  have k1 := Int.mul_lt_mul_of_pos_right h1 hg
  have k2 := Int.mul_le_mul_of_nonneg_right (Int.not_lt.1 h2) (Int.le_of_lt hb)
  have k3 := Int.mul_lt_mul_of_pos_right h3 hd
  have e1 : a * d * g = a * g * d := by grind
  have e2 : c * g * b = c * b * g := by grind
  have e3 : e * d * b = e * b * d := by grind
  omega
theorem PickO.snoc {l : Pts} {cs : List Cir} {b : Option Cir} {c : Cir} (h : PickO l cs b) (hk : ∀ c ∈ cs, OkC c) (hc : OkC c) : PickO l (cs ++ [c]) (pickC l b c) := by
  unfold pickC
  cases b with
  | none =>
    dsimp only
    split
    · rename_i h1
      exact ⟨by simp, h1, fun c' hc' hh => by
        rcases List.mem_append.1 hc' with g | g
        · exact absurd hh (h c' g)
        · have : c' = c := by simpa using g
          subst this; unfold lessC; rw [cmp_neg]; omega⟩
    · rename_i h1
      exact fun c' hc' => by
        rcases List.mem_append.1 hc' with g | g
        · exact h c' g
        · have : c' = c := by simpa using g
          subst this; exact h1
  | some b =>
    dsimp only
    have hb : Pick1 l cs b := h
    split
    · rename_i h1
      refine ⟨by simp, h1.2, fun c' hc' hh => ?_⟩
      rcases List.mem_append.1 hc' with g | g
      · have := hb.min c' g hh
        have h2 := h1.1
        unfold lessC at this h2 ⊢
        rw [cmp_neg] at this h2 ⊢
        exact cmp_trans hc.can.d (hk _ hb.mem).can.d (hk _ g).can.d h2 this
      · have : c' = c := by simpa using g
        subst this; unfold lessC; rw [cmp_neg]; omega
    · rename_i h1
      refine ⟨by simp [hb.mem], hb.hold, fun c' hc' hh => ?_⟩
      rcases List.mem_append.1 hc' with g | g
      · exact hb.min c' g hh
      · have : c' = c := by simpa using g
        subst this; exact fun g => h1 ⟨g, hh⟩
theorem pickO_fold {l : Pts} : ∀ {cs : List Cir}, (∀ c ∈ cs, OkC c) → PickO l cs (cs.foldl (pickC l) none) := by
  intro cs hk
  have key : ∀ (ys xs : List Cir) (b : Option Cir), (∀ c ∈ xs ++ ys, OkC c) → PickO l xs b → PickO l (xs ++ ys) (ys.foldl (pickC l) b) := by
    intro ys
    induction ys with
    | nil => intro xs b _ hb; simpa using hb
    | cons y ys ih =>
      intro xs b hk hb
      have := ih (xs ++ [y]) (pickC l b y) (by simpa using hk) (hb.snoc (fun c hc => hk c (by simp [hc])) (hk y (by simp)))
      simpa using this
  exact key cs [] none (by simpa using hk) (fun c hc => by simp at hc)
theorem lst_sm {l : Pts} (h : OkL l) (h0 : l ≠ []) : Sm l [] (lst l) := by
  obtain ⟨c0, hc0, hs⟩ := sm_cand h h0
  have hp := pickO_fold (l := l) (cands_ok h)
  unfold lst
  cases e : (cands l).foldl (pickC l) none with
  | none => rw [e] at hp; exact absurd hs.hold (hp c0 hc0)
  | some c => rw [e] at hp; exact Pick1.sm hp (cands_ok h) hc0 hs
theorem Sm.lst {l : Pts} {c : Cir} (h : OkL l) (h0 : l ≠ []) (hs : Sm l [] c) : c = lst l := hs.uniq (lst_sm h h0)
end Go.Proofs.Ytkhplcncfogolaa
namespace Go.Proofs.Ytkhplcncfogolaa
open Go Go.TH
attribute [local irreducible] W WO pt
set_option maxRecDepth 10000
set_option maxHeartbeats 1000000
def encC (c : Cir) : List Value := [.int .i64 c.x, .int .i64 c.y, .int .i64 c.den, .int .i64 c.n, .int .i64 c.d]
/-- the first one that is not held -/
def Missed (c : Cir) (l : Pts) (n : Int) : Prop := (n = -1 ∧ holdL c l) ∨ ∃ i : Nat, n = i ∧ i < l.length ∧ 0 < whr c (l.at i) ∧ holdL c (l.take i)
theorem c_missed (w : World) (c : Cir) (o : Value) (ho : o.oneCell' = true) (v : Value) (l : Pts) (hR : RdF encP 2 w.heap.size w v l) (hc : OkR c) (hl : OkL l) :
    RetE Try.prog 62 [.agg #[.int .i64 c.x, .int .i64 c.y, .int .i64 c.den, .int .i64 c.n, .int .i64 c.d, o], v].toArray w (fun r => ∃ n : Int, r = .int .i64 n ∧ Missed c l n) := by
  refine RetE.of mixed tyTab Try.func62 rfl rfl ?_
  replace hR : RdF encP 2 (fnCx mixed tyTab Try.f62.ntmps w).B (fnCx mixed tyTab Try.f62.ntmps w).w0 v l := hR
  have hle := hR.sl.le
  refine W.sreg ?_
  refine WO.boxA rfl rfl (fun b1 hb1 => ?_)
  refine WO.p rfl rfl ?_
  refine WO.nil ?_
  refine W.scope ?_
  refine W.sreg ?_
  refine WO.p rfl rfl ?_
  refine WO.nil ?_
  refine W.sreg ?_
  refine WO.loadA rfl rfl (Cells.own Pick.head) rfl rfl (WO.p rfl rfl (WO.p rfl rfl ?_))
  refine WO.nil ?_
  refine W.seq ?_
  refine W.label ?_
  refine W.seq ?_
  refine W.sreg ?_
  refine WO.p rfl rfl ?_
  refine' WO.len (n := _) rfl rfl ?hs rfl ?_
  case hs => (first | exact hR.sl)
  refine WO.p rfl rfl ?_
  refine WO.nil ?_
  refine W.block ?_
  refine W.loop (fun (i : Nat) => i ≤ l.length ∧ holdL c (l.take i))
    (fun (i : Nat) => [(13, .int .i64 (i : Int)), (12, .int .i64 (l.length : Int)), (11, v), (5, .int .i64 (-1)), (6, .func (.func 48) #[.agg #[.int .i64 c.x, .int .i64 c.y, .int .i64 c.den, .int .i64 c.n, .int .i64 c.d, o]] #[])])
    (fun (i : Nat) => [])
    (fun (i : Nat) => l.length - i) 0
    (by exact ⟨by omega, fun x hx => by simp at hx⟩) ⟨rfl, rfl, rfl, rfl, rfl, trivial⟩ (by repeat (first | exact Sub.nil | refine Sub.cons (by repeat (first | exact Pick.head | apply Pick.tail)) ?_)) ?_
  rintro i ⟨hi, hal⟩
  refine W.sreg ?_
  refine WO.p rfl rfl ?_
  refine WO.nil ?_
  refine W.seq ?_
  refine W.cond_bl rfl (fun c1 => ?_) (fun c1 => ?_)
  · first
    | (exfalso; omega)
    | (refine W.skip ?_
       refine W.seq ?_
       refine W.block ?_
       refine W.sreg ?_
       refine WO.p rfl rfl ?_
       refine' WO.indexAddr (n := _) (i := _) rfl rfl rfl ?hs ?h1 rfl ?_
       case hs => (first | exact hR.sl)
       case h1 => (first | omega | (simp; omega))
       refine' WO.loadA (vs := _) rfl rfl ?hc ?hl rfl ?_
       case hc => (first | exact RdF.cells2 hR (i := i) (by omega))
       case hl => rfl
       refine WO.alloc rfl rfl rfl (fun b2 hb2 => ?_)
       refine WO.p rfl rfl (WO.storeA rfl rfl rfl rfl Pick.head rfl rfl ?_)
       refine WO.nil ?_
       refine W.sreg ?_
       refine WO.p rfl rfl (WO.loadA rfl rfl (Cells.own Pick.head) rfl rfl ?_)
       refine WO.callCR (first := [.agg #[.int .i64 c.x, .int .i64 c.y, .int .i64 c.den, .int .i64 c.n, .int .i64 c.d, o]]) (captured := []) rfl rfl Try.call48 (fun L w hi' => c_where w c o ho (l.at i) hc (at_ok hl (by omega))) rfl ?_
       refine WO.p rfl rfl ?_
       refine WO.nil ?_
       refine W.cond_bl rfl (fun c2 => ?_) (fun c2 => ?_)
       · first
         | (exfalso; omega)
         | (refine W.sreg ?_
            refine WO.p rfl rfl (WO.p rfl rfl ?_)
            refine WO.nil ?_
            refine W.exit (blk_other rfl (blk_same ?_))
            refine W.sreg ?_
            refine WO.p rfl rfl (WO.p rfl rfl ?_)
            refine WO.nil ?_
            refine W.ret ?_
            exact fin.ret (Res.one rfl (RV.tmp rfl)) ⟨_, rfl, by first | exact .inl ⟨rfl, all_len (by omega) hal⟩ | exact .inr ⟨i, rfl, by omega, by omega, hal⟩⟩)
       · first
         | (exfalso; omega)
         | (refine W.skip ?_
            refine W.region ?_
            refine WO.ar rfl rfl rfl (by (first | (unfold in64; omega) | (unfold in64; omega))) rfl (WO.p rfl rfl ?_)
            refine WO.nil ?_
            refine' ⟨i + 1, ?hp, ?hmu, ⟨rfl, rfl, rfl, rfl, rfl, trivial⟩, ?hS⟩
            case hS => repeat (first | exact Sub.nil | refine Sub.cons (by repeat (first | exact Pick.head | apply Pick.tail)) ?_)
            case hp => exact ⟨by omega, all_succ (by omega) (0, 0) hal (by show whr c (l.at i) ≤ 0; omega)⟩
            case hmu => omega))
  · first
    | (exfalso; omega)
    | (refine W.exit (blk_same ?_)
       refine W.sreg ?_
       refine WO.p rfl rfl (WO.p rfl rfl ?_)
       refine WO.nil ?_
       refine W.ret ?_
       exact fin.ret (Res.one rfl (RV.tmp rfl)) ⟨_, rfl, by first | exact .inl ⟨rfl, all_len (by omega) hal⟩ | exact .inr ⟨i, rfl, by omega, by omega, hal⟩⟩)
theorem chkR0 {c : Cir} : chkR c = 0 ↔ OkR c := by unfold chkR; split <;> simp_all
theorem chkL0 {l : Pts} : chkL l = 0 ↔ (1 ≤ l.length ∧ l.length ≤ 24) ∧ OkL l := by
  unfold chkL
  rcases Decidable.em (l.length < 1 ∨ 24 < l.length) with h | h
  · rw [if_pos h]; exact ⟨fun e => by omega, fun ⟨g, _⟩ => by omega⟩
  · rw [if_neg h]
    rcases Decidable.em (OkL l) with h1 | h1
    · rw [if_pos h1]; exact ⟨fun _ => ⟨by omega, h1⟩, fun _ => rfl⟩
    · rw [if_neg h1]; exact ⟨fun e => by omega, fun ⟨_, g⟩ => absurd g h1⟩
theorem Missed.neg {c : Cir} {l : Pts} {n : Int} (h : Missed c l n) : 0 ≤ n ↔ ¬ holdL c l := by
  rcases h with ⟨rfl, h⟩ | ⟨i, rfl, hi, hp, _⟩
  · exact ⟨fun e => by omega, fun g => absurd h g⟩
  · exact ⟨fun _ g => by have := g _ (getD_mem hi (0, 0)); simp only [Pts.at] at hp; omega, fun _ => by omega⟩
/-- what Holds answers -/
def holdsV (c : Cir) (p : Int × Int) : Value :=
  if OkR c then (if OkP p then .tuple #[.bool (bl (whr c p ≤ 0)), .bool (bl (whr c p = 0)), .int .i64 0] else .tuple #[.bool false, .bool false, .int .i64 3]) else .tuple #[.bool false, .bool false, .int .i64 2]
theorem c_Holds (w : World) (c : Cir) (p : Int × Int) : Ret Try.prog 24 [.agg #[.int .i64 c.x, .int .i64 c.y, .int .i64 c.den, .int .i64 c.n, .int .i64 c.d], .agg #[.int .i64 p.1, .int .i64 p.2]].toArray w (holdsV c p) := by
  refine Ret.of mixed tyTab Try.func24 rfl rfl ?_
  refine W.sreg ?_
  refine WO.boxA rfl rfl (fun b1 hb1 => ?_)
  refine WO.boxA rfl rfl (fun b2 hb2 => ?_)
  refine WO.p rfl rfl (WO.p rfl rfl (WO.p rfl rfl ?_))
  refine WO.nil ?_
  refine W.seq ?_
  refine W.sreg ?_
  refine WO.loadA rfl rfl (Cells.own (Pick.tail (Pick.head))) rfl rfl ?_
  refine WO.callR rfl Try.call36 (fun L w hi => c_CheckCircle w c) rfl ?_
  refine WO.p rfl rfl ?_
  refine WO.nil ?_
  refine W.block ?_
  refine W.sreg ?_
  refine WO.p rfl rfl (WO.p rfl rfl (WO.p rfl rfl ?_))
  refine WO.nil ?_
  refine W.cond_bl rfl (fun c1 => ?_) (fun c1 => ?_)
  · first
    | (exfalso; omega)
    | (refine W.sreg ?_
       refine WO.p rfl rfl (WO.p rfl rfl (WO.p rfl rfl (WO.p rfl rfl ?_)))
       refine WO.nil ?_
       refine W.ret ?_
       refine fin.ret (Res.three rfl (RV.tmp rfl) (RV.tmp rfl) (RV.tmp rfl)) ?_
       unfold holdsV
       first | (have h : ¬ OkR c := fun h => absurd (chkR0.2 h) (by assumption); rw [if_neg h]; unfold chkR; rw [if_neg h]) | (rw [if_pos (chkR0.1 (by omega)), if_neg (by assumption)]; done) | (rw [if_pos (chkR0.1 (by omega)), if_pos (by assumption)]; done))
  · first
    | (exfalso; omega)
    | (refine W.sreg ?_
       refine WO.loadA rfl rfl (Cells.own Pick.head) rfl rfl ?_
       refine WO.callR rfl Try.call50 (fun L w hi => c_isPlace w p) rfl ?_
       refine WO.p rfl rfl (WO.p rfl rfl ?_)
       refine WO.nil ?_
       refine W.cond_nbl rfl (fun c2 => ?_) (fun c2 => ?_)
       · first
         | (exfalso; omega)
         | (refine W.sreg ?_
            refine WO.p rfl rfl (WO.p rfl rfl (WO.p rfl rfl ?_))
            refine WO.nil ?_
            refine W.ret ?_
            refine fin.ret (Res.three rfl (RV.tmp rfl) (RV.tmp rfl) (RV.tmp rfl)) ?_
            unfold holdsV
            first | (have h : ¬ OkR c := fun h => absurd (chkR0.2 h) (by assumption); rw [if_neg h]; unfold chkR; rw [if_neg h]) | (rw [if_pos (chkR0.1 (by omega)), if_neg (by assumption)]; done) | (rw [if_pos (chkR0.1 (by omega)), if_pos (by assumption)]; done))
       · first
         | (exfalso; omega)
         | (refine W.skip ?_
            refine W.seq ?_
            refine W.drawD 4 [.b 0 [], .r 1 [], .b 2 [], .b 3 []] [] (A0 := []) (Sub.refl _) (by kernel_rfl) ?_ ?_
            · exact (ALok.b (ALok.r (ALok.b (ALok.b ALok.nil))))
            refine' DT.b rfl rfl rfl ?hq ?_
            case hq =>
              refine WO.loadA rfl rfl (Cells.own (Pick.tail (Pick.head))) rfl rfl ?_
              exact WO.nil ⟨rfl, rfl⟩
            refine' DT.r rfl rfl rfl ?hq ?_
            case hq =>
              refine' WO.build (cs := _) rfl rfl rfl ?hf rfl ?_
              case hf => (conv => lhs; simp [-List.getD_eq_getElem?_getD, fillL, vcl, wrl, TTab.pl?.lget']) <;> rfl
              exact WO.nil ⟨rfl, rfl⟩
            refine' DT.b rfl rfl rfl ?hq ?_
            case hq =>
              refine WO.loadA rfl rfl (Cells.own Pick.head) rfl rfl ?_
              exact WO.nil ⟨rfl, rfl⟩
            refine' DT.b rfl rfl rfl ?hq ?_
            case hq =>
              refine WO.callR rfl Try.call51 (fun L w hi => c_newPoint w p) rfl ?_
              exact WO.nil ⟨rfl, rfl⟩
            refine DT.nil [_, _] rfl ?_
            refine WO.callR rfl Try.call48 (fun L w hi => c_where w c _ rfl p (chkR0.1 (by omega)) (by assumption)) rfl ?_
            refine WO.p rfl rfl ?_
            refine WO.nil ?_
            refine W.sreg ?_
            refine WO.p rfl rfl (WO.p rfl rfl (WO.p rfl rfl (WO.p rfl rfl (WO.p rfl rfl (WO.p rfl rfl (WO.p rfl rfl ?_))))))
            refine WO.nil ?_
            refine W.ret ?_
            refine fin.ret (Res.three rfl (RV.tmp rfl) (RV.tmp rfl) (RV.tmp rfl)) ?_
            unfold holdsV
            first | (have h : ¬ OkR c := fun h => absurd (chkR0.2 h) (by assumption); rw [if_neg h]; unfold chkR; rw [if_neg h]) | (rw [if_pos (chkR0.1 (by omega)), if_neg (by assumption)]; done) | (rw [if_pos (chkR0.1 (by omega)), if_pos (by assumption)]; done)))
theorem ref_Holds (w : World) (c : Cir) (p : Int × Int) : Ret Try.prog 32 [.agg #[.int .i64 c.x, .int .i64 c.y, .int .i64 c.den, .int .i64 c.n, .int .i64 c.d], .agg #[.int .i64 p.1, .int .i64 p.2]].toArray w (holdsV c p) := by
  refine Ret.of mixed tyTab Try.func32 rfl rfl ?_
  refine W.sreg ?_
  refine WO.boxA rfl rfl (fun b1 hb1 => ?_)
  refine WO.boxA rfl rfl (fun b2 hb2 => ?_)
  refine WO.p rfl rfl (WO.p rfl rfl (WO.p rfl rfl ?_))
  refine WO.nil ?_
  refine W.seq ?_
  refine W.sreg ?_
  refine WO.loadA rfl rfl (Cells.own (Pick.tail (Pick.head))) rfl rfl ?_
  refine WO.callR rfl Try.call22 (fun L w hi => ref_CheckCircle w c) rfl ?_
  refine WO.p rfl rfl ?_
  refine WO.nil ?_
  refine W.cond_bl rfl (fun c1 => ?_) (fun c1 => ?_)
  · first
    | (exfalso; omega)
    | (refine W.sreg ?_
       refine WO.loadA rfl rfl (Cells.own (Pick.tail (Pick.head))) rfl rfl ?_
       refine WO.callR rfl Try.call22 (fun L w hi => ref_CheckCircle w c) rfl ?_
       refine WO.p rfl rfl (WO.p rfl rfl (WO.p rfl rfl ?_))
       refine WO.nil ?_
       refine W.ret ?_
       refine fin.ret (Res.three rfl (RV.tmp rfl) (RV.tmp rfl) (RV.tmp rfl)) ?_
       unfold holdsV
       first | (have h : ¬ OkR c := fun h => absurd (chkR0.2 h) (by assumption); rw [if_neg h]; unfold chkR; rw [if_neg h]) | (rw [if_pos (chkR0.1 (by omega)), if_neg (by assumption)]; done) | (rw [if_pos (chkR0.1 (by omega)), if_pos (by assumption)]; done))
  · first
    | (exfalso; omega)
    | (refine W.skip ?_
       refine W.seq ?_
       refine W.sreg ?_
       refine WO.loadA rfl rfl (Cells.own Pick.head) rfl rfl ?_
       refine WO.callR rfl Try.call57 (fun L w hi => ref_Place w p) rfl ?_
       refine WO.p rfl rfl ?_
       refine WO.nil ?_
       refine W.cond_nbl rfl (fun c2 => ?_) (fun c2 => ?_)
       · first
         | (exfalso; omega)
         | (refine W.sreg ?_
            refine WO.p rfl rfl (WO.p rfl rfl (WO.p rfl rfl ?_))
            refine WO.nil ?_
            refine W.ret ?_
            refine fin.ret (Res.three rfl (RV.tmp rfl) (RV.tmp rfl) (RV.tmp rfl)) ?_
            unfold holdsV
            first | (have h : ¬ OkR c := fun h => absurd (chkR0.2 h) (by assumption); rw [if_neg h]; unfold chkR; rw [if_neg h]) | (rw [if_pos (chkR0.1 (by omega)), if_neg (by assumption)]; done) | (rw [if_pos (chkR0.1 (by omega)), if_pos (by assumption)]; done))
       · first
         | (exfalso; omega)
         | (refine W.skip ?_
            refine W.seq ?_
            refine W.drawD 9 [.b 0 [], .b 1 [], .b 2 [], .r 3 [], .b 4 [], .b 5 [], .b 6 [], .r 7 [4], .r 8 [4]] [4] (A0 := []) (Sub.refl _) (by kernel_rfl) ?_ ?_
            · exact (ALok.b (ALok.b (ALok.b (ALok.r (ALok.b (ALok.b (ALok.b (ALok.r (ALok.r ALok.nil)))))))))
            refine' DT.b rfl rfl rfl ?hq ?_
            case hq =>
              refine WO.loadA rfl rfl (Cells.own (Pick.tail (Pick.head))) rfl rfl ?_
              exact WO.nil ⟨rfl, rfl⟩
            refine' DT.b rfl rfl rfl ?hq ?_
            case hq =>
              refine WO.loadA rfl rfl (Cells.own Pick.head) rfl rfl ?_
              exact WO.nil ⟨rfl, rfl⟩
            refine' DT.b rfl rfl rfl ?hq ?_
            case hq =>
              refine WO.callR rfl Try.call29 (fun L w hi => ref_Where w c p (chkR0.1 (by omega)) (by assumption)) rfl ?_
              exact WO.nil ⟨rfl, rfl⟩
            refine' DT.r rfl rfl rfl ?hq ?_
            case hq =>
              refine WO.p rfl rfl ?_
              exact WO.nil ⟨rfl, rfl⟩
            refine' DT.b rfl rfl rfl ?hq ?_
            case hq =>
              refine WO.loadA rfl rfl (Cells.own (Pick.tail (Pick.head))) rfl rfl ?_
              exact WO.nil ⟨rfl, rfl⟩
            refine' DT.b rfl rfl rfl ?hq ?_
            case hq =>
              refine WO.loadA rfl rfl (Cells.own Pick.head) rfl rfl ?_
              exact WO.nil ⟨rfl, rfl⟩
            refine' DT.b rfl rfl rfl ?hq ?_
            case hq =>
              refine WO.callR rfl Try.call29 (fun L w hi => ref_Where w c p (chkR0.1 (by omega)) (by assumption)) rfl ?_
              exact WO.nil ⟨rfl, rfl⟩
            refine' DT.r rfl rfl rfl ?hq ?_
            case hq =>
              refine WO.p rfl rfl ?_
              exact WO.nil ⟨rfl, rfl⟩
            refine' DT.r rfl rfl rfl ?hq ?_
            case hq =>
              refine WO.p rfl rfl ?_
              exact WO.nil ⟨rfl, rfl⟩
            refine DT.nil [_, _] rfl ?_
            refine WO.p rfl rfl (WO.p rfl rfl ?_)
            refine WO.nil ?_
            refine W.ret ?_
            refine fin.ret (Res.three rfl (RV.tmp rfl) (RV.tmp rfl) (RV.tmp rfl)) ?_
            unfold holdsV
            first | (have h : ¬ OkR c := fun h => absurd (chkR0.2 h) (by assumption); rw [if_neg h]; unfold chkR; rw [if_neg h]) | (rw [if_pos (chkR0.1 (by omega)), if_neg (by assumption)]; done) | (rw [if_pos (chkR0.1 (by omega)), if_pos (by assumption)]; done)))
/-- what Check answers -/
def chkCL (c : Cir) (l : Pts) : Int := if OkR c then (if chkL l = 0 then (if holdL c l then 0 else 4) else chkL l) else 2
theorem c_Check (w : World) (c : Cir) (v : Value) (l : Pts) (hR : RdF encP 2 w.heap.size w v l) : Ret Try.prog 37 [.agg #[.int .i64 c.x, .int .i64 c.y, .int .i64 c.den, .int .i64 c.n, .int .i64 c.d], v].toArray w (.int .i64 (chkCL c l)) := by
  refine Ret.of mixed tyTab Try.func37 rfl rfl ?_
  replace hR : RdF encP 2 (fnCx mixed tyTab Try.f37.ntmps w).B (fnCx mixed tyTab Try.f37.ntmps w).w0 v l := hR
  refine W.sreg ?_
  refine WO.boxA rfl rfl (fun b1 hb1 => ?_)
  refine WO.p rfl rfl ?_
  refine WO.nil ?_
  refine W.seq ?_
  refine W.sreg ?_
  refine WO.loadA rfl rfl (Cells.own Pick.head) rfl rfl ?_
  refine WO.callR rfl Try.call36 (fun L w hi => c_CheckCircle w c) rfl ?_
  refine WO.p rfl rfl ?_
  refine WO.nil ?_
  refine W.sreg ?_
  refine WO.p rfl rfl (WO.p rfl rfl ?_)
  refine WO.nil ?_
  refine W.cond_bl rfl (fun c1 => ?_) (fun c1 => ?_)
  · first
    | (exfalso; omega)
    | (refine W.sreg ?_
       refine WO.p rfl rfl (WO.p rfl rfl ?_)
       refine WO.nil ?_
       refine W.ret ?_
       refine fin.ret (Res.one rfl (RV.tmp rfl)) (congrArg (Value.int .i64) ?_)
       unfold chkCL
       first | (have h : ¬ OkR c := fun h => absurd (chkR0.2 h) (by assumption); rw [if_neg h]; unfold chkR; rw [if_neg h]) | (rw [if_pos (chkR0.1 (by omega)), if_neg (by assumption)]; done) | (rw [if_pos (chkR0.1 (by omega)), if_pos (by omega), if_neg (hn.neg.1 (by omega))]; done) | (rw [if_pos (chkR0.1 (by omega)), if_pos (by omega), if_pos (Decidable.not_not.1 (fun g => absurd (hn.neg.2 g) (by omega)))]; done))
  · first
    | (exfalso; omega)
    | (refine W.skip ?_
       refine W.seq ?_
       refine W.sreg ?_
       refine WO.p rfl rfl ?_
       refine WO.callR rfl Try.call34 (fun L w hi => c_CheckTrack w v l (hR.later hi)) rfl ?_
       refine WO.p rfl rfl ?_
       refine WO.nil ?_
       refine W.sreg ?_
       refine WO.p rfl rfl (WO.p rfl rfl ?_)
       refine WO.nil ?_
       refine W.cond_bl rfl (fun c2 => ?_) (fun c2 => ?_)
       · first
         | (exfalso; omega)
         | (refine W.sreg ?_
            refine WO.p rfl rfl (WO.p rfl rfl ?_)
            refine WO.nil ?_
            refine W.ret ?_
            refine fin.ret (Res.one rfl (RV.tmp rfl)) (congrArg (Value.int .i64) ?_)
            unfold chkCL
            first | (have h : ¬ OkR c := fun h => absurd (chkR0.2 h) (by assumption); rw [if_neg h]; unfold chkR; rw [if_neg h]) | (rw [if_pos (chkR0.1 (by omega)), if_neg (by assumption)]; done) | (rw [if_pos (chkR0.1 (by omega)), if_pos (by omega), if_neg (hn.neg.1 (by omega))]; done) | (rw [if_pos (chkR0.1 (by omega)), if_pos (by omega), if_pos (Decidable.not_not.1 (fun g => absurd (hn.neg.2 g) (by omega)))]; done))
       · first
         | (exfalso; omega)
         | (refine W.skip ?_
            refine W.seq ?_
            refine W.seq ?_
            refine W.drawD 4 [.b 0 [], .r 1 [], .r 2 [], .c 3 []] [] (A0 := []) (Sub.refl _) (by kernel_rfl) ?_ ?_
            · exact (ALok.b (ALok.r (ALok.r (ALok.c ALok.nil))))
            refine' DT.b rfl rfl rfl ?hq ?_
            case hq =>
              refine WO.loadA rfl rfl (Cells.own Pick.head) rfl rfl ?_
              exact WO.nil ⟨rfl, rfl⟩
            refine' DT.r rfl rfl rfl ?hq ?_
            case hq =>
              refine' WO.build (cs := _) rfl rfl rfl ?hf rfl ?_
              case hf => (conv => lhs; simp [-List.getD_eq_getElem?_getD, fillL, vcl, wrl, TTab.pl?.lget']) <;> rfl
              exact WO.nil ⟨rfl, rfl⟩
            refine' DT.r rfl rfl rfl ?hq ?_
            case hq =>
              refine WO.p rfl rfl ?_
              exact WO.nil ⟨rfl, rfl⟩
            refine DT.c [_] rfl rfl rfl rfl ?_
            have hok := chkL0.1 (show chkL l = 0 by omega)
            refine WO.call (Post := fun r Hq => Hq = [OwE encP 74 2 r l]) rfl Try.call46 (fun L w hi => c_points w v l (hR.later hi) (by omega)) rfl ?_
            rintro pv _ rfl
            refine WO.nil ⟨_, [_], rfl, rfl, (Keep.r (Keep.r (Keep.b Keep.nil))), ?_⟩
            refine DT.nil [_, _] rfl ?_
            refine WO.callE rfl Try.call62 (fun L w hi => c_missed w c _ rfl pv l (RdF.of_ow (e := 74) encP_ok (by repeat (first | exact Pick.head | apply Pick.tail)) hi) (chkR0.1 (by omega)) hok.2) rfl ?_
            rintro _ ⟨n, rfl, hn⟩
            refine WO.p rfl rfl ?_
            refine WO.nil ?_
            refine W.cond_bl rfl (fun c3 => ?_) (fun c3 => ?_)
            · first
              | (exfalso; omega)
              | (refine W.sreg ?_
                 refine WO.p rfl rfl ?_
                 refine WO.nil ?_
                 refine W.ret ?_
                 refine fin.ret (Res.one rfl (RV.tmp rfl)) (congrArg (Value.int .i64) ?_)
                 unfold chkCL
                 first | (have h : ¬ OkR c := fun h => absurd (chkR0.2 h) (by assumption); rw [if_neg h]; unfold chkR; rw [if_neg h]) | (rw [if_pos (chkR0.1 (by omega)), if_neg (by assumption)]; done) | (rw [if_pos (chkR0.1 (by omega)), if_pos (by omega), if_neg (hn.neg.1 (by omega))]; done) | (rw [if_pos (chkR0.1 (by omega)), if_pos (by omega), if_pos (Decidable.not_not.1 (fun g => absurd (hn.neg.2 g) (by omega)))]; done))
            · first
              | (exfalso; omega)
              | (refine W.skip ?_
                 refine W.sreg ?_
                 refine WO.p rfl rfl ?_
                 refine WO.nil ?_
                 refine W.ret ?_
                 refine fin.ret (Res.one rfl (RV.tmp rfl)) (congrArg (Value.int .i64) ?_)
                 unfold chkCL
                 first | (have h : ¬ OkR c := fun h => absurd (chkR0.2 h) (by assumption); rw [if_neg h]; unfold chkR; rw [if_neg h]) | (rw [if_pos (chkR0.1 (by omega)), if_neg (by assumption)]; done) | (rw [if_pos (chkR0.1 (by omega)), if_pos (by omega), if_neg (hn.neg.1 (by omega))]; done) | (rw [if_pos (chkR0.1 (by omega)), if_pos (by omega), if_pos (Decidable.not_not.1 (fun g => absurd (hn.neg.2 g) (by omega)))]; done))))
theorem ref_Check (w : World) (c : Cir) (v : Value) (l : Pts) (hR : RdF encP 2 w.heap.size w v l) : Ret Try.prog 38 [.agg #[.int .i64 c.x, .int .i64 c.y, .int .i64 c.den, .int .i64 c.n, .int .i64 c.d], v].toArray w (.int .i64 (chkCL c l)) := by
  refine Ret.of mixed tyTab Try.func38 rfl rfl ?_
  replace hR : RdF encP 2 (fnCx mixed tyTab Try.f38.ntmps w).B (fnCx mixed tyTab Try.f38.ntmps w).w0 v l := hR
  refine W.sreg ?_
  refine WO.boxA rfl rfl (fun b1 hb1 => ?_)
  refine WO.p rfl rfl ?_
  refine WO.nil ?_
  refine W.seq ?_
  refine W.sreg ?_
  refine WO.loadA rfl rfl (Cells.own Pick.head) rfl rfl ?_
  refine WO.callR rfl Try.call22 (fun L w hi => ref_CheckCircle w c) rfl ?_
  refine WO.p rfl rfl ?_
  refine WO.nil ?_
  refine W.cond_bl rfl (fun c1 => ?_) (fun c1 => ?_)
  · first
    | (exfalso; omega)
    | (refine W.sreg ?_
       refine WO.loadA rfl rfl (Cells.own Pick.head) rfl rfl ?_
       refine WO.callR rfl Try.call22 (fun L w hi => ref_CheckCircle w c) rfl ?_
       refine WO.p rfl rfl ?_
       refine WO.nil ?_
       refine W.ret ?_
       refine fin.ret (Res.one rfl (RV.tmp rfl)) (congrArg (Value.int .i64) ?_)
       unfold chkCL
       first | (have h : ¬ OkR c := fun h => absurd (chkR0.2 h) (by assumption); rw [if_neg h]; unfold chkR; rw [if_neg h]) | (rw [if_pos (chkR0.1 (by omega)), if_neg (by assumption)]; done) | (rw [if_pos (chkR0.1 (by omega)), if_pos (by omega), if_neg (by assumption)]; done) | (rw [if_pos (chkR0.1 (by omega)), if_pos (by omega), if_pos (by assumption)]; done))
  · first
    | (exfalso; omega)
    | (refine W.skip ?_
       refine W.seq ?_
       refine W.sreg ?_
       refine WO.p rfl rfl ?_
       refine WO.callR rfl Try.call35 (fun L w hi => ref_CheckTrack w v l (hR.later hi)) rfl ?_
       refine WO.p rfl rfl ?_
       refine WO.nil ?_
       refine W.cond_bl rfl (fun c2 => ?_) (fun c2 => ?_)
       · first
         | (exfalso; omega)
         | (refine W.sreg ?_
            refine WO.p rfl rfl ?_
            refine WO.callR rfl Try.call35 (fun L w hi => ref_CheckTrack w v l (hR.later hi)) rfl ?_
            refine WO.p rfl rfl ?_
            refine WO.nil ?_
            refine W.ret ?_
            refine fin.ret (Res.one rfl (RV.tmp rfl)) (congrArg (Value.int .i64) ?_)
            unfold chkCL
            first | (have h : ¬ OkR c := fun h => absurd (chkR0.2 h) (by assumption); rw [if_neg h]; unfold chkR; rw [if_neg h]) | (rw [if_pos (chkR0.1 (by omega)), if_neg (by assumption)]; done) | (rw [if_pos (chkR0.1 (by omega)), if_pos (by omega), if_neg (by assumption)]; done) | (rw [if_pos (chkR0.1 (by omega)), if_pos (by omega), if_pos (by assumption)]; done))
       · first
         | (exfalso; omega)
         | (refine W.skip ?_
            refine W.seq ?_
            refine W.sreg ?_
            refine WO.loadA rfl rfl (Cells.own Pick.head) rfl rfl (WO.p rfl rfl ?_)
            refine WO.callR rfl Try.call63 (fun L w hi => ref_All w c v l (hR.later hi) (chkR0.1 (by omega)) (chkL0.1 (show chkL l = 0 by omega)).2) rfl ?_
            refine WO.p rfl rfl ?_
            refine WO.nil ?_
            refine W.cond_nbl rfl (fun c3 => ?_) (fun c3 => ?_)
            · first
              | (exfalso; omega)
              | (refine W.sreg ?_
                 refine WO.p rfl rfl ?_
                 refine WO.nil ?_
                 refine W.ret ?_
                 refine fin.ret (Res.one rfl (RV.tmp rfl)) (congrArg (Value.int .i64) ?_)
                 unfold chkCL
                 first | (have h : ¬ OkR c := fun h => absurd (chkR0.2 h) (by assumption); rw [if_neg h]; unfold chkR; rw [if_neg h]) | (rw [if_pos (chkR0.1 (by omega)), if_neg (by assumption)]; done) | (rw [if_pos (chkR0.1 (by omega)), if_pos (by omega), if_neg (by assumption)]; done) | (rw [if_pos (chkR0.1 (by omega)), if_pos (by omega), if_pos (by assumption)]; done))
            · first
              | (exfalso; omega)
              | (refine W.skip ?_
                 refine W.sreg ?_
                 refine WO.p rfl rfl ?_
                 refine WO.nil ?_
                 refine W.ret ?_
                 refine fin.ret (Res.one rfl (RV.tmp rfl)) (congrArg (Value.int .i64) ?_)
                 unfold chkCL
                 first | (have h : ¬ OkR c := fun h => absurd (chkR0.2 h) (by assumption); rw [if_neg h]; unfold chkR; rw [if_neg h]) | (rw [if_pos (chkR0.1 (by omega)), if_neg (by assumption)]; done) | (rw [if_pos (chkR0.1 (by omega)), if_pos (by omega), if_neg (by assumption)]; done) | (rw [if_pos (chkR0.1 (by omega)), if_pos (by omega), if_pos (by assumption)]; done))))
end Go.Proofs.Ytkhplcncfogolaa
namespace Go.Proofs.Ytkhplcncfogolaa
open Go Go.TH
attribute [local irreducible] W WO pt
set_option maxRecDepth 10000
set_option maxHeartbeats 1000000
theorem gcdA3 {x y d : Int} (hd : 0 < d) : gcdA [x, y, d] = gcd3 x y d := by
  unfold gcdA gcd3
  simp only [List.foldl]
  rw [gcd2_0 (ab_nn x), show ab d = d by unfold ab; omega]
theorem gcdA2 {a b : Int} (ha : 0 ≤ a) (hb : 0 ≤ b) : gcdA [a, b] = gcd2 a b := by
  unfold gcdA
  simp only [List.foldl]
  rw [gcd2_0 (ab_nn a), show ab a = a by unfold ab; omega, show ab b = b by unfold ab; omega]
theorem RdF.cellsHd {C : Cx Try.prog} {H : List HP} {o : Value} {p : Int × Int} {l : List (Int × Int)} (h : RdF encP 2 C.B C.w0 o (p :: l)) : Cells C H (elt o 0 2) [.int .i64 p.1, .int .i64 p.2] := RdF.cells2 h (i := 0) (by simp)
theorem all_two {q : Int → Prop} {u v : Int} (h1 : q u) (h2 : q v) : ∀ x ∈ [u, v], q x := fun x hx => by
  have : x = u ∨ x = v := by simpa using hx
  rcases this with rfl | rfl <;> assumption
theorem all_three {q : Int → Prop} {u v z : Int} (h1 : q u) (h2 : q v) (h3 : q z) : ∀ x ∈ [u, v, z], q x := fun x hx => by
  have : x = u ∨ x = v ∨ x = z := by simpa using hx
  rcases this with rfl | rfl | rfl <;> assumption
theorem mkN_den {x y d : Int} (hd : 0 < d) : 1 ≤ d.tdiv (gcd3 x y d) ∧ d.tdiv (gcd3 x y d) ≤ d := by
  obtain ⟨g, x', y', d', h1, h2, h3, h4, h5, h6, h7, h8, h9, h10⟩ := mkN_parts (x := x) (y := y) hd
  rw [← h2, h10]
  exact ⟨by omega, by rw [h5]; exact le_mul1 (by omega) (by omega)⟩
theorem c_newRingP (w : World) (x y den : Int) (v : Value) (p : Int × Int) (l : Pts) (hR : RdF encP 2 w.heap.size w v (p :: l)) (hp : OkP p) (hd : 0 < den) (hd2 : -262144 ≤ den ∧ den ≤ 262144) (hx : -268435456 ≤ x ∧ x ≤ 268435456) (hy : -268435456 ≤ y ∧ y ≤ 268435456) :
    Ret Try.prog 74 [.int .i64 x, .int .i64 y, .int .i64 den, v].toArray w (.agg ((encC (mkN (x) (y) (den) p) ++ [v]).toArray)) := by
  refine Ret.of mixed tyTab Try.func74 rfl rfl ?_
  replace hR : RdF encP 2 (fnCx mixed tyTab Try.f74.ntmps w).B (fnCx mixed tyTab Try.f74.ntmps w).w0 v (p :: l) := hR
  have hD : 0 < den := by omega
  have hg := gcd3_pos (x := x) (y := y) hD
  have hl0 : 0 < (p :: l).length := by simp
  obtain ⟨hle, a0, c0, rfl, hb0⟩ := hR.sl
  have b1 := tdiv_ab (a := x) hg
  have b2 := tdiv_ab (a := y) hg
  have b3 := mkN_den (x := x) (y := y) hD
  have b4 := mul100 hp.1 (d := (den).tdiv (gcd3 (x) (y) (den))) ⟨b3.1, by omega⟩
  have b5 := mul100 hp.2 (d := (den).tdiv (gcd3 (x) (y) (den))) ⟨b3.1, by omega⟩
  have b6 := den_b (d := (den).tdiv (gcd3 (x) (y) (den))) ⟨b3.1, by omega⟩
  unfold ab at b1 b2
  have q1 := sq_b (x := p.1 * (den).tdiv (gcd3 (x) (y) (den)) - (x).tdiv (gcd3 (x) (y) (den))) (by omega)
  have q2 := sq_b (x := p.2 * (den).tdiv (gcd3 (x) (y) (den)) - (y).tdiv (gcd3 (x) (y) (den))) (by omega)
  generalize hN : (p.1 * (den).tdiv (gcd3 (x) (y) (den)) - (x).tdiv (gcd3 (x) (y) (den))) * (p.1 * (den).tdiv (gcd3 (x) (y) (den)) - (x).tdiv (gcd3 (x) (y) (den))) + (p.2 * (den).tdiv (gcd3 (x) (y) (den)) - (y).tdiv (gcd3 (x) (y) (den))) * (p.2 * (den).tdiv (gcd3 (x) (y) (den)) - (y).tdiv (gcd3 (x) (y) (den))) = n
  have hh := gcd2_pos (a := n) (b := (den).tdiv (gcd3 (x) (y) (den)) * (den).tdiv (gcd3 (x) (y) (den))) (by omega) (by omega)
  refine W.sreg ?_
  refine WO.alloc rfl rfl rfl (fun b1 hb1 => ?_)
  refine WO.nil ?_
  refine W.seq ?_
  refine W.sreg ?_
  refine WO.p rfl rfl (WO.p rfl rfl ?_)
  refine WO.nil ?_
  refine W.cond_bl rfl (fun c1 => ?_) (fun c1 => ?_)
  · first
    | (exfalso; omega)
    | (refine W.region ?_
       refine WO.p rfl rfl (WO.neg rfl (by (first | (unfold in64; omega) | (unfold in64; omega) | exact tdiv_in (by omega) (by omega) (by unfold in64; omega))) rfl (WO.p rfl rfl (WO.neg rfl (by (first | (unfold in64; omega) | (unfold in64; omega) | exact tdiv_in (by omega) (by omega) (by unfold in64; omega))) rfl (WO.p rfl rfl (WO.neg rfl (by (first | (unfold in64; omega) | (unfold in64; omega) | exact tdiv_in (by omega) (by omega) (by unfold in64; omega))) rfl (WO.p rfl rfl (WO.p rfl rfl (WO.p rfl rfl ?_))))))))
       refine WO.nil ?_
       refine W.sreg ?_
       refine WO.p rfl rfl (WO.p rfl rfl (WO.p rfl rfl ?_))
       refine' WO.buildSl (cs := _) rfl rfl rfl rfl ?hf rfl rfl ?hl rfl (fun v2 => ?_)
       case hf => (conv => lhs; simp [-List.getD_eq_getElem?_getD, -Int.neg_tdiv, fillL, vcl, wrl, TTab.pl?.lget']) <;> rfl
       case hl => rfl
       refine WO.callR (r := .int .i64 (gcd3 (x) (y) (den))) rfl Try.call82 (fun L w hi => by rw [← gcdA3 hD]; exact c_common w _ [x, y, den] (RdF.of_ow (e := 2) encI_ok (by repeat (first | exact Pick.head | apply Pick.tail)) hi) (all_three (by unfold in64; omega) (by unfold in64; omega) (by unfold in64; omega))) rfl ?_
       refine WO.p rfl rfl ?_
       refine WO.nil ?_
       refine W.seq ?_
       refine W.drawD 11 [.r 0 [], .r 1 [], .r 2 [], .r 3 [0], .r 4 [0], .r 5 [0], .r 6 [0, 1], .r 7 [0, 1], .r 8 [0, 1], .r 9 [0], .r 10 [0, 1]] [0, 1] (A0 := []) (Sub.refl _) (by kernel_rfl) ?_ ?_
       · exact (ALok.r (ALok.r (ALok.r (ALok.r (ALok.r (ALok.r (ALok.r (ALok.r (ALok.r (ALok.r (ALok.r ALok.nil)))))))))))
       refine' DT.r rfl rfl rfl ?hq ?_
       case hq =>
         refine WO.p rfl rfl ?_
         exact WO.nil ⟨rfl, rfl⟩
       refine' DT.r rfl rfl rfl ?hq ?_
       case hq =>
         refine WO.p rfl rfl ?_
         exact WO.nil ⟨rfl, rfl⟩
       refine' DT.r rfl rfl rfl ?hq ?_
       case hq =>
         refine WO.quo rfl rfl (by first | omega | assumption) (by (first | (unfold in64; omega) | (unfold in64; omega) | exact tdiv_in (by omega) (by omega) (by unfold in64; omega))) rfl ?_
         exact WO.nil ⟨rfl, rfl⟩
       refine' DT.r rfl rfl rfl ?hq ?_
       case hq =>
         refine WO.p rfl rfl ?_
         exact WO.nil ⟨rfl, rfl⟩
       refine' DT.r rfl rfl rfl ?hq ?_
       case hq =>
         refine WO.p rfl rfl ?_
         exact WO.nil ⟨rfl, rfl⟩
       refine' DT.r rfl rfl rfl ?hq ?_
       case hq =>
         refine WO.quo rfl rfl (by first | omega | assumption) (by (first | (unfold in64; omega) | (unfold in64; omega) | exact tdiv_in (by omega) (by omega) (by unfold in64; omega))) rfl ?_
         exact WO.nil ⟨rfl, rfl⟩
       refine' DT.r rfl rfl rfl ?hq ?_
       case hq =>
         refine WO.p rfl rfl ?_
         exact WO.nil ⟨rfl, rfl⟩
       refine' DT.r rfl rfl rfl ?hq ?_
       case hq =>
         refine WO.p rfl rfl ?_
         exact WO.nil ⟨rfl, rfl⟩
       refine' DT.r rfl rfl rfl ?hq ?_
       case hq =>
         refine WO.quo rfl rfl (by first | omega | assumption) (by (first | (unfold in64; omega) | (unfold in64; omega) | exact tdiv_in (by omega) (by omega) (by unfold in64; omega))) rfl ?_
         exact WO.nil ⟨rfl, rfl⟩
       refine' DT.r rfl rfl rfl ?hq ?_
       case hq =>
         refine WO.p rfl rfl ?_
         exact WO.nil ⟨rfl, rfl⟩
       refine' DT.r rfl rfl rfl ?hq ?_
       case hq =>
         refine WO.p rfl rfl ?_
         exact WO.nil ⟨rfl, rfl⟩
       refine DT.nil [_, _] rfl ?_
       refine WO.p rfl rfl ?_
       refine WO.nil ?_
       refine W.sreg ?_
       refine WO.p rfl rfl ?_
       refine' WO.indexAddr (n := _) (i := 0) rfl rfl rfl ?hs ?h1 rfl ?_
       case hs => (first | exact hR.sl)
       case h1 => (first | omega | (simp; omega))
       refine' WO.loadA (vs := _) rfl rfl ?hc ?hl rfl ?_
       case hc => (first | exact RdF.cellsHd hR)
       case hl => rfl
       refine WO.alloc rfl rfl rfl (fun b3 hb3 => ?_)
       refine WO.storeA rfl rfl rfl rfl Pick.head rfl rfl ?_
       refine WO.nil ?_
       refine W.sreg ?_
       refine WO.indexArrL (o' := 0) rfl rfl rfl (by decide) rfl rfl ?_
       refine WO.load rfl rfl (Cell.own Pick.head rfl) rfl (WO.p rfl rfl (WO.ar rfl rfl rfl (by (first | (unfold in64; omega) | (unfold in64; omega) | exact tdiv_in (by omega) (by omega) (by unfold in64; omega))) rfl (WO.p rfl rfl (WO.ar rfl rfl rfl (by (first | (unfold in64; omega) | (unfold in64; omega) | exact tdiv_in (by omega) (by omega) (by unfold in64; omega))) rfl ?_))))
       refine WO.indexArrL (o' := 1) rfl rfl rfl (by decide) rfl rfl ?_
       refine WO.load rfl rfl (Cell.own Pick.head rfl) rfl (WO.p rfl rfl (WO.ar rfl rfl rfl (by (first | (unfold in64; omega) | (unfold in64; omega) | exact tdiv_in (by omega) (by omega) (by unfold in64; omega))) rfl (WO.p rfl rfl (WO.ar rfl rfl rfl (by (first | (unfold in64; omega) | (unfold in64; omega) | exact tdiv_in (by omega) (by omega) (by unfold in64; omega))) rfl ?_))))
       refine' WO.buildSl (cs := _) rfl rfl rfl rfl ?hf rfl rfl ?hl rfl (fun v4 => ?_)
       case hf => (conv => lhs; simp [-List.getD_eq_getElem?_getD, -Int.neg_tdiv, fillL, vcl, wrl, TTab.pl?.lget']) <;> rfl
       case hl => rfl
       refine WO.callR (r := .int .i64 n) rfl Try.call69 (fun L w hi => by rw [← hN, ← sqL2]; exact c_squares w _ [p.1 * (den).tdiv (gcd3 (x) (y) (den)) - (x).tdiv (gcd3 (x) (y) (den)), p.2 * (den).tdiv (gcd3 (x) (y) (den)) - (y).tdiv (gcd3 (x) (y) (den))] (RdF.of_ow (e := 2) encI_ok (by repeat (first | exact Pick.head | apply Pick.tail)) hi) (Nat.le_refl _) (all_two (by omega) (by omega))) rfl ?_
       refine WO.p rfl rfl (WO.p rfl rfl (WO.ar rfl rfl rfl (by (first | (unfold in64; omega) | (unfold in64; omega) | exact tdiv_in (by omega) (by omega) (by unfold in64; omega))) rfl (WO.p rfl rfl (WO.p rfl rfl ?_))))
       refine WO.nil ?_
       refine W.sreg ?_
       refine WO.p rfl rfl (WO.p rfl rfl ?_)
       refine' WO.buildSl (cs := _) rfl rfl rfl rfl ?hf rfl rfl ?hl rfl (fun v5 => ?_)
       case hf => (conv => lhs; simp [-List.getD_eq_getElem?_getD, -Int.neg_tdiv, fillL, vcl, wrl, TTab.pl?.lget']) <;> rfl
       case hl => rfl
       refine WO.callR (r := .int .i64 (gcd2 n ((den).tdiv (gcd3 (x) (y) (den)) * (den).tdiv (gcd3 (x) (y) (den))))) rfl Try.call82 (fun L w hi => by rw [← gcdA2 (a := n) (by omega) (by omega)]; exact c_common w _ [n, (den).tdiv (gcd3 (x) (y) (den)) * (den).tdiv (gcd3 (x) (y) (den))] (RdF.of_ow (e := 2) encI_ok (by repeat (first | exact Pick.head | apply Pick.tail)) hi) (all_two (by unfold in64; omega) (by unfold in64; omega))) rfl ?_
       refine WO.p rfl rfl ?_
       refine WO.nil ?_
       refine W.seq ?_
       refine W.drawD 12 [.r 0 [], .r 1 [], .r 2 [], .r 3 [], .r 4 [], .r 5 [], .r 6 [], .r 7 [], .r 8 [], .r 9 [], .r 10 [], .r 11 []] [] (A0 := []) (Sub.refl _) (by kernel_rfl) ?_ ?_
       · exact (ALok.r (ALok.r (ALok.r (ALok.r (ALok.r (ALok.r (ALok.r (ALok.r (ALok.r (ALok.r (ALok.r (ALok.r ALok.nil))))))))))))
       refine' DT.r rfl rfl rfl ?hq ?_
       case hq =>
         refine WO.p rfl rfl ?_
         exact WO.nil ⟨rfl, rfl⟩
       refine' DT.r rfl rfl rfl ?hq ?_
       case hq =>
         refine WO.p rfl rfl ?_
         exact WO.nil ⟨rfl, rfl⟩
       refine' DT.r rfl rfl rfl ?hq ?_
       case hq =>
         refine WO.p rfl rfl ?_
         exact WO.nil ⟨rfl, rfl⟩
       refine' DT.r rfl rfl rfl ?hq ?_
       case hq =>
         refine WO.p rfl rfl ?_
         exact WO.nil ⟨rfl, rfl⟩
       refine' DT.r rfl rfl rfl ?hq ?_
       case hq =>
         refine WO.p rfl rfl ?_
         exact WO.nil ⟨rfl, rfl⟩
       refine' DT.r rfl rfl rfl ?hq ?_
       case hq =>
         refine WO.quo rfl rfl (by first | omega | assumption) (by (first | (unfold in64; omega) | (unfold in64; omega) | exact tdiv_in (by omega) (by omega) (by unfold in64; omega))) rfl ?_
         exact WO.nil ⟨rfl, rfl⟩
       refine' DT.r rfl rfl rfl ?hq ?_
       case hq =>
         refine WO.p rfl rfl ?_
         exact WO.nil ⟨rfl, rfl⟩
       refine' DT.r rfl rfl rfl ?hq ?_
       case hq =>
         refine WO.p rfl rfl ?_
         exact WO.nil ⟨rfl, rfl⟩
       refine' DT.r rfl rfl rfl ?hq ?_
       case hq =>
         refine WO.quo rfl rfl (by first | omega | assumption) (by (first | (unfold in64; omega) | (unfold in64; omega) | exact tdiv_in (by omega) (by omega) (by unfold in64; omega))) rfl ?_
         exact WO.nil ⟨rfl, rfl⟩
       refine' DT.r rfl rfl rfl ?hq ?_
       case hq =>
         refine' WO.build (cs := _) rfl rfl rfl ?hf rfl ?_
         case hf => (conv => lhs; simp [-List.getD_eq_getElem?_getD, -Int.neg_tdiv, fillL, vcl, wrl, TTab.pl?.lget']) <;> rfl
         exact WO.nil ⟨rfl, rfl⟩
       refine' DT.r rfl rfl rfl ?hq ?_
       case hq =>
         refine' WO.build (cs := _) rfl rfl rfl ?hf rfl ?_
         case hf => (conv => lhs; simp [-List.getD_eq_getElem?_getD, -Int.neg_tdiv, fillL, vcl, wrl, TTab.pl?.lget']) <;> rfl
         exact WO.nil ⟨rfl, rfl⟩
       refine' DT.r rfl rfl rfl ?hq ?_
       case hq =>
         refine WO.p rfl rfl ?_
         exact WO.nil ⟨rfl, rfl⟩
       refine DT.nil [_, _, _, _, _] rfl ?_
       refine' WO.build (cs := _) rfl rfl rfl ?hf rfl ?_
       case hf => (conv => lhs; simp [-List.getD_eq_getElem?_getD, -Int.neg_tdiv, fillL, vcl, wrl, TTab.pl?.lget']) <;> rfl
       refine WO.storeA rfl rfl rfl rfl (Pick.tail (Pick.tail (Pick.tail (Pick.tail (Pick.head))))) rfl rfl ?_
       refine WO.nil ?_
       refine W.ret ?_
       refine fin.ret (Res.one rfl (RV.cell rfl rfl rfl (Cells.own (by repeat (first | exact Pick.head | apply Pick.tail))))) ?_
       first | (unfold mkN encC; simp only [hN]; rfl))
  · first
    | (exfalso; omega)
    | (refine W.skip ?_
       refine W.sreg ?_
       refine WO.p rfl rfl (WO.p rfl rfl (WO.p rfl rfl ?_))
       refine' WO.buildSl (cs := _) rfl rfl rfl rfl ?hf rfl rfl ?hl rfl (fun v6 => ?_)
       case hf => (conv => lhs; simp [-List.getD_eq_getElem?_getD, -Int.neg_tdiv, fillL, vcl, wrl, TTab.pl?.lget']) <;> rfl
       case hl => rfl
       refine WO.callR (r := .int .i64 (gcd3 (x) (y) (den))) rfl Try.call82 (fun L w hi => by rw [← gcdA3 hD]; exact c_common w _ [x, y, den] (RdF.of_ow (e := 2) encI_ok (by repeat (first | exact Pick.head | apply Pick.tail)) hi) (all_three (by unfold in64; omega) (by unfold in64; omega) (by unfold in64; omega))) rfl ?_
       refine WO.p rfl rfl ?_
       refine WO.nil ?_
       refine W.seq ?_
       refine W.drawD 11 [.r 0 [], .r 1 [], .r 2 [], .r 3 [0], .r 4 [0], .r 5 [0], .r 6 [0, 1], .r 7 [0, 1], .r 8 [0, 1], .r 9 [0], .r 10 [0, 1]] [0, 1] (A0 := []) (Sub.refl _) (by kernel_rfl) ?_ ?_
       · exact (ALok.r (ALok.r (ALok.r (ALok.r (ALok.r (ALok.r (ALok.r (ALok.r (ALok.r (ALok.r (ALok.r ALok.nil)))))))))))
       refine' DT.r rfl rfl rfl ?hq ?_
       case hq =>
         refine WO.p rfl rfl ?_
         exact WO.nil ⟨rfl, rfl⟩
       refine' DT.r rfl rfl rfl ?hq ?_
       case hq =>
         refine WO.p rfl rfl ?_
         exact WO.nil ⟨rfl, rfl⟩
       refine' DT.r rfl rfl rfl ?hq ?_
       case hq =>
         refine WO.quo rfl rfl (by first | omega | assumption) (by (first | (unfold in64; omega) | (unfold in64; omega) | exact tdiv_in (by omega) (by omega) (by unfold in64; omega))) rfl ?_
         exact WO.nil ⟨rfl, rfl⟩
       refine' DT.r rfl rfl rfl ?hq ?_
       case hq =>
         refine WO.p rfl rfl ?_
         exact WO.nil ⟨rfl, rfl⟩
       refine' DT.r rfl rfl rfl ?hq ?_
       case hq =>
         refine WO.p rfl rfl ?_
         exact WO.nil ⟨rfl, rfl⟩
       refine' DT.r rfl rfl rfl ?hq ?_
       case hq =>
         refine WO.quo rfl rfl (by first | omega | assumption) (by (first | (unfold in64; omega) | (unfold in64; omega) | exact tdiv_in (by omega) (by omega) (by unfold in64; omega))) rfl ?_
         exact WO.nil ⟨rfl, rfl⟩
       refine' DT.r rfl rfl rfl ?hq ?_
       case hq =>
         refine WO.p rfl rfl ?_
         exact WO.nil ⟨rfl, rfl⟩
       refine' DT.r rfl rfl rfl ?hq ?_
       case hq =>
         refine WO.p rfl rfl ?_
         exact WO.nil ⟨rfl, rfl⟩
       refine' DT.r rfl rfl rfl ?hq ?_
       case hq =>
         refine WO.quo rfl rfl (by first | omega | assumption) (by (first | (unfold in64; omega) | (unfold in64; omega) | exact tdiv_in (by omega) (by omega) (by unfold in64; omega))) rfl ?_
         exact WO.nil ⟨rfl, rfl⟩
       refine' DT.r rfl rfl rfl ?hq ?_
       case hq =>
         refine WO.p rfl rfl ?_
         exact WO.nil ⟨rfl, rfl⟩
       refine' DT.r rfl rfl rfl ?hq ?_
       case hq =>
         refine WO.p rfl rfl ?_
         exact WO.nil ⟨rfl, rfl⟩
       refine DT.nil [_, _] rfl ?_
       refine WO.p rfl rfl ?_
       refine WO.nil ?_
       refine W.sreg ?_
       refine WO.p rfl rfl ?_
       refine' WO.indexAddr (n := _) (i := 0) rfl rfl rfl ?hs ?h1 rfl ?_
       case hs => (first | exact hR.sl)
       case h1 => (first | omega | (simp; omega))
       refine' WO.loadA (vs := _) rfl rfl ?hc ?hl rfl ?_
       case hc => (first | exact RdF.cellsHd hR)
       case hl => rfl
       refine WO.alloc rfl rfl rfl (fun b7 hb7 => ?_)
       refine WO.storeA rfl rfl rfl rfl Pick.head rfl rfl ?_
       refine WO.nil ?_
       refine W.sreg ?_
       refine WO.indexArrL (o' := 0) rfl rfl rfl (by decide) rfl rfl ?_
       refine WO.load rfl rfl (Cell.own Pick.head rfl) rfl (WO.p rfl rfl (WO.ar rfl rfl rfl (by (first | (unfold in64; omega) | (unfold in64; omega) | exact tdiv_in (by omega) (by omega) (by unfold in64; omega))) rfl (WO.p rfl rfl (WO.ar rfl rfl rfl (by (first | (unfold in64; omega) | (unfold in64; omega) | exact tdiv_in (by omega) (by omega) (by unfold in64; omega))) rfl ?_))))
       refine WO.indexArrL (o' := 1) rfl rfl rfl (by decide) rfl rfl ?_
       refine WO.load rfl rfl (Cell.own Pick.head rfl) rfl (WO.p rfl rfl (WO.ar rfl rfl rfl (by (first | (unfold in64; omega) | (unfold in64; omega) | exact tdiv_in (by omega) (by omega) (by unfold in64; omega))) rfl (WO.p rfl rfl (WO.ar rfl rfl rfl (by (first | (unfold in64; omega) | (unfold in64; omega) | exact tdiv_in (by omega) (by omega) (by unfold in64; omega))) rfl ?_))))
       refine' WO.buildSl (cs := _) rfl rfl rfl rfl ?hf rfl rfl ?hl rfl (fun v8 => ?_)
       case hf => (conv => lhs; simp [-List.getD_eq_getElem?_getD, -Int.neg_tdiv, fillL, vcl, wrl, TTab.pl?.lget']) <;> rfl
       case hl => rfl
       refine WO.callR (r := .int .i64 n) rfl Try.call69 (fun L w hi => by rw [← hN, ← sqL2]; exact c_squares w _ [p.1 * (den).tdiv (gcd3 (x) (y) (den)) - (x).tdiv (gcd3 (x) (y) (den)), p.2 * (den).tdiv (gcd3 (x) (y) (den)) - (y).tdiv (gcd3 (x) (y) (den))] (RdF.of_ow (e := 2) encI_ok (by repeat (first | exact Pick.head | apply Pick.tail)) hi) (Nat.le_refl _) (all_two (by omega) (by omega))) rfl ?_
       refine WO.p rfl rfl (WO.p rfl rfl (WO.ar rfl rfl rfl (by (first | (unfold in64; omega) | (unfold in64; omega) | exact tdiv_in (by omega) (by omega) (by unfold in64; omega))) rfl (WO.p rfl rfl (WO.p rfl rfl ?_))))
       refine WO.nil ?_
       refine W.sreg ?_
       refine WO.p rfl rfl (WO.p rfl rfl ?_)
       refine' WO.buildSl (cs := _) rfl rfl rfl rfl ?hf rfl rfl ?hl rfl (fun v9 => ?_)
       case hf => (conv => lhs; simp [-List.getD_eq_getElem?_getD, -Int.neg_tdiv, fillL, vcl, wrl, TTab.pl?.lget']) <;> rfl
       case hl => rfl
       refine WO.callR (r := .int .i64 (gcd2 n ((den).tdiv (gcd3 (x) (y) (den)) * (den).tdiv (gcd3 (x) (y) (den))))) rfl Try.call82 (fun L w hi => by rw [← gcdA2 (a := n) (by omega) (by omega)]; exact c_common w _ [n, (den).tdiv (gcd3 (x) (y) (den)) * (den).tdiv (gcd3 (x) (y) (den))] (RdF.of_ow (e := 2) encI_ok (by repeat (first | exact Pick.head | apply Pick.tail)) hi) (all_two (by unfold in64; omega) (by unfold in64; omega))) rfl ?_
       refine WO.p rfl rfl ?_
       refine WO.nil ?_
       refine W.seq ?_
       refine W.drawD 12 [.r 0 [], .r 1 [], .r 2 [], .r 3 [], .r 4 [], .r 5 [], .r 6 [], .r 7 [], .r 8 [], .r 9 [], .r 10 [], .r 11 []] [] (A0 := []) (Sub.refl _) (by kernel_rfl) ?_ ?_
       · exact (ALok.r (ALok.r (ALok.r (ALok.r (ALok.r (ALok.r (ALok.r (ALok.r (ALok.r (ALok.r (ALok.r (ALok.r ALok.nil))))))))))))
       refine' DT.r rfl rfl rfl ?hq ?_
       case hq =>
         refine WO.p rfl rfl ?_
         exact WO.nil ⟨rfl, rfl⟩
       refine' DT.r rfl rfl rfl ?hq ?_
       case hq =>
         refine WO.p rfl rfl ?_
         exact WO.nil ⟨rfl, rfl⟩
       refine' DT.r rfl rfl rfl ?hq ?_
       case hq =>
         refine WO.p rfl rfl ?_
         exact WO.nil ⟨rfl, rfl⟩
       refine' DT.r rfl rfl rfl ?hq ?_
       case hq =>
         refine WO.p rfl rfl ?_
         exact WO.nil ⟨rfl, rfl⟩
       refine' DT.r rfl rfl rfl ?hq ?_
       case hq =>
         refine WO.p rfl rfl ?_
         exact WO.nil ⟨rfl, rfl⟩
       refine' DT.r rfl rfl rfl ?hq ?_
       case hq =>
         refine WO.quo rfl rfl (by first | omega | assumption) (by (first | (unfold in64; omega) | (unfold in64; omega) | exact tdiv_in (by omega) (by omega) (by unfold in64; omega))) rfl ?_
         exact WO.nil ⟨rfl, rfl⟩
       refine' DT.r rfl rfl rfl ?hq ?_
       case hq =>
         refine WO.p rfl rfl ?_
         exact WO.nil ⟨rfl, rfl⟩
       refine' DT.r rfl rfl rfl ?hq ?_
       case hq =>
         refine WO.p rfl rfl ?_
         exact WO.nil ⟨rfl, rfl⟩
       refine' DT.r rfl rfl rfl ?hq ?_
       case hq =>
         refine WO.quo rfl rfl (by first | omega | assumption) (by (first | (unfold in64; omega) | (unfold in64; omega) | exact tdiv_in (by omega) (by omega) (by unfold in64; omega))) rfl ?_
         exact WO.nil ⟨rfl, rfl⟩
       refine' DT.r rfl rfl rfl ?hq ?_
       case hq =>
         refine' WO.build (cs := _) rfl rfl rfl ?hf rfl ?_
         case hf => (conv => lhs; simp [-List.getD_eq_getElem?_getD, -Int.neg_tdiv, fillL, vcl, wrl, TTab.pl?.lget']) <;> rfl
         exact WO.nil ⟨rfl, rfl⟩
       refine' DT.r rfl rfl rfl ?hq ?_
       case hq =>
         refine' WO.build (cs := _) rfl rfl rfl ?hf rfl ?_
         case hf => (conv => lhs; simp [-List.getD_eq_getElem?_getD, -Int.neg_tdiv, fillL, vcl, wrl, TTab.pl?.lget']) <;> rfl
         exact WO.nil ⟨rfl, rfl⟩
       refine' DT.r rfl rfl rfl ?hq ?_
       case hq =>
         refine WO.p rfl rfl ?_
         exact WO.nil ⟨rfl, rfl⟩
       refine DT.nil [_, _, _, _, _] rfl ?_
       refine' WO.build (cs := _) rfl rfl rfl ?hf rfl ?_
       case hf => (conv => lhs; simp [-List.getD_eq_getElem?_getD, -Int.neg_tdiv, fillL, vcl, wrl, TTab.pl?.lget']) <;> rfl
       refine WO.storeA rfl rfl rfl rfl (Pick.tail (Pick.tail (Pick.tail (Pick.tail (Pick.head))))) rfl rfl ?_
       refine WO.nil ?_
       refine W.ret ?_
       refine fin.ret (Res.one rfl (RV.cell rfl rfl rfl (Cells.own (by repeat (first | exact Pick.head | apply Pick.tail))))) ?_
       first | (unfold mkN encC; simp only [hN]; rfl))
theorem c_newRingN (w : World) (x y den : Int) (v : Value) (p : Int × Int) (l : Pts) (hR : RdF encP 2 w.heap.size w v (p :: l)) (hp : OkP p) (hd : den < 0) (hd2 : -262144 ≤ den ∧ den ≤ 262144) (hx : -268435456 ≤ x ∧ x ≤ 268435456) (hy : -268435456 ≤ y ∧ y ≤ 268435456) :
    Ret Try.prog 74 [.int .i64 x, .int .i64 y, .int .i64 den, v].toArray w (.agg ((encC (mkN (-x) (-y) (-den) p) ++ [v]).toArray)) := by
  refine Ret.of mixed tyTab Try.func74 rfl rfl ?_
  replace hR : RdF encP 2 (fnCx mixed tyTab Try.f74.ntmps w).B (fnCx mixed tyTab Try.f74.ntmps w).w0 v (p :: l) := hR
  have hD : 0 < -den := by omega
  have hg := gcd3_pos (x := -x) (y := -y) hD
  have hl0 : 0 < (p :: l).length := by simp
  obtain ⟨hle, a0, c0, rfl, hb0⟩ := hR.sl
  have b1 := tdiv_ab (a := -x) hg
  have b2 := tdiv_ab (a := -y) hg
  have b3 := mkN_den (x := -x) (y := -y) hD
  have b4 := mul100 hp.1 (d := (-den).tdiv (gcd3 (-x) (-y) (-den))) ⟨b3.1, by omega⟩
  have b5 := mul100 hp.2 (d := (-den).tdiv (gcd3 (-x) (-y) (-den))) ⟨b3.1, by omega⟩
  have b6 := den_b (d := (-den).tdiv (gcd3 (-x) (-y) (-den))) ⟨b3.1, by omega⟩
  unfold ab at b1 b2
  have q1 := sq_b (x := p.1 * (-den).tdiv (gcd3 (-x) (-y) (-den)) - (-x).tdiv (gcd3 (-x) (-y) (-den))) (by omega)
  have q2 := sq_b (x := p.2 * (-den).tdiv (gcd3 (-x) (-y) (-den)) - (-y).tdiv (gcd3 (-x) (-y) (-den))) (by omega)
  generalize hN : (p.1 * (-den).tdiv (gcd3 (-x) (-y) (-den)) - (-x).tdiv (gcd3 (-x) (-y) (-den))) * (p.1 * (-den).tdiv (gcd3 (-x) (-y) (-den)) - (-x).tdiv (gcd3 (-x) (-y) (-den))) + (p.2 * (-den).tdiv (gcd3 (-x) (-y) (-den)) - (-y).tdiv (gcd3 (-x) (-y) (-den))) * (p.2 * (-den).tdiv (gcd3 (-x) (-y) (-den)) - (-y).tdiv (gcd3 (-x) (-y) (-den))) = n
  have hh := gcd2_pos (a := n) (b := (-den).tdiv (gcd3 (-x) (-y) (-den)) * (-den).tdiv (gcd3 (-x) (-y) (-den))) (by omega) (by omega)
  refine W.sreg ?_
  refine WO.alloc rfl rfl rfl (fun b1 hb1 => ?_)
  refine WO.nil ?_
  refine W.seq ?_
  refine W.sreg ?_
  refine WO.p rfl rfl (WO.p rfl rfl ?_)
  refine WO.nil ?_
  refine W.cond_bl rfl (fun c1 => ?_) (fun c1 => ?_)
  · first
    | (exfalso; omega)
    | (refine W.region ?_
       refine WO.p rfl rfl (WO.neg rfl (by (first | (unfold in64; omega) | (unfold in64; omega) | exact tdiv_in (by omega) (by omega) (by unfold in64; omega))) rfl (WO.p rfl rfl (WO.neg rfl (by (first | (unfold in64; omega) | (unfold in64; omega) | exact tdiv_in (by omega) (by omega) (by unfold in64; omega))) rfl (WO.p rfl rfl (WO.neg rfl (by (first | (unfold in64; omega) | (unfold in64; omega) | exact tdiv_in (by omega) (by omega) (by unfold in64; omega))) rfl (WO.p rfl rfl (WO.p rfl rfl (WO.p rfl rfl ?_))))))))
       refine WO.nil ?_
       refine W.sreg ?_
       refine WO.p rfl rfl (WO.p rfl rfl (WO.p rfl rfl ?_))
       refine' WO.buildSl (cs := _) rfl rfl rfl rfl ?hf rfl rfl ?hl rfl (fun v2 => ?_)
       case hf => (conv => lhs; simp [-List.getD_eq_getElem?_getD, -Int.neg_tdiv, fillL, vcl, wrl, TTab.pl?.lget']) <;> rfl
       case hl => rfl
       refine WO.callR (r := .int .i64 (gcd3 (-x) (-y) (-den))) rfl Try.call82 (fun L w hi => by rw [← gcdA3 hD]; exact c_common w _ [-x, -y, -den] (RdF.of_ow (e := 2) encI_ok (by repeat (first | exact Pick.head | apply Pick.tail)) hi) (all_three (by unfold in64; omega) (by unfold in64; omega) (by unfold in64; omega))) rfl ?_
       refine WO.p rfl rfl ?_
       refine WO.nil ?_
       refine W.seq ?_
       refine W.drawD 11 [.r 0 [], .r 1 [], .r 2 [], .r 3 [0], .r 4 [0], .r 5 [0], .r 6 [0, 1], .r 7 [0, 1], .r 8 [0, 1], .r 9 [0], .r 10 [0, 1]] [0, 1] (A0 := []) (Sub.refl _) (by kernel_rfl) ?_ ?_
       · exact (ALok.r (ALok.r (ALok.r (ALok.r (ALok.r (ALok.r (ALok.r (ALok.r (ALok.r (ALok.r (ALok.r ALok.nil)))))))))))
       refine' DT.r rfl rfl rfl ?hq ?_
       case hq =>
         refine WO.p rfl rfl ?_
         exact WO.nil ⟨rfl, rfl⟩
       refine' DT.r rfl rfl rfl ?hq ?_
       case hq =>
         refine WO.p rfl rfl ?_
         exact WO.nil ⟨rfl, rfl⟩
       refine' DT.r rfl rfl rfl ?hq ?_
       case hq =>
         refine WO.quo rfl rfl (by first | omega | assumption) (by (first | (unfold in64; omega) | (unfold in64; omega) | exact tdiv_in (by omega) (by omega) (by unfold in64; omega))) rfl ?_
         exact WO.nil ⟨rfl, rfl⟩
       refine' DT.r rfl rfl rfl ?hq ?_
       case hq =>
         refine WO.p rfl rfl ?_
         exact WO.nil ⟨rfl, rfl⟩
       refine' DT.r rfl rfl rfl ?hq ?_
       case hq =>
         refine WO.p rfl rfl ?_
         exact WO.nil ⟨rfl, rfl⟩
       refine' DT.r rfl rfl rfl ?hq ?_
       case hq =>
         refine WO.quo rfl rfl (by first | omega | assumption) (by (first | (unfold in64; omega) | (unfold in64; omega) | exact tdiv_in (by omega) (by omega) (by unfold in64; omega))) rfl ?_
         exact WO.nil ⟨rfl, rfl⟩
       refine' DT.r rfl rfl rfl ?hq ?_
       case hq =>
         refine WO.p rfl rfl ?_
         exact WO.nil ⟨rfl, rfl⟩
       refine' DT.r rfl rfl rfl ?hq ?_
       case hq =>
         refine WO.p rfl rfl ?_
         exact WO.nil ⟨rfl, rfl⟩
       refine' DT.r rfl rfl rfl ?hq ?_
       case hq =>
         refine WO.quo rfl rfl (by first | omega | assumption) (by (first | (unfold in64; omega) | (unfold in64; omega) | exact tdiv_in (by omega) (by omega) (by unfold in64; omega))) rfl ?_
         exact WO.nil ⟨rfl, rfl⟩
       refine' DT.r rfl rfl rfl ?hq ?_
       case hq =>
         refine WO.p rfl rfl ?_
         exact WO.nil ⟨rfl, rfl⟩
       refine' DT.r rfl rfl rfl ?hq ?_
       case hq =>
         refine WO.p rfl rfl ?_
         exact WO.nil ⟨rfl, rfl⟩
       refine DT.nil [_, _] rfl ?_
       refine WO.p rfl rfl ?_
       refine WO.nil ?_
       refine W.sreg ?_
       refine WO.p rfl rfl ?_
       refine' WO.indexAddr (n := _) (i := 0) rfl rfl rfl ?hs ?h1 rfl ?_
       case hs => (first | exact hR.sl)
       case h1 => (first | omega | (simp; omega))
       refine' WO.loadA (vs := _) rfl rfl ?hc ?hl rfl ?_
       case hc => (first | exact RdF.cellsHd hR)
       case hl => rfl
       refine WO.alloc rfl rfl rfl (fun b3 hb3 => ?_)
       refine WO.storeA rfl rfl rfl rfl Pick.head rfl rfl ?_
       refine WO.nil ?_
       refine W.sreg ?_
       refine WO.indexArrL (o' := 0) rfl rfl rfl (by decide) rfl rfl ?_
       refine WO.load rfl rfl (Cell.own Pick.head rfl) rfl (WO.p rfl rfl (WO.ar rfl rfl rfl (by (first | (unfold in64; omega) | (unfold in64; omega) | exact tdiv_in (by omega) (by omega) (by unfold in64; omega))) rfl (WO.p rfl rfl (WO.ar rfl rfl rfl (by (first | (unfold in64; omega) | (unfold in64; omega) | exact tdiv_in (by omega) (by omega) (by unfold in64; omega))) rfl ?_))))
       refine WO.indexArrL (o' := 1) rfl rfl rfl (by decide) rfl rfl ?_
       refine WO.load rfl rfl (Cell.own Pick.head rfl) rfl (WO.p rfl rfl (WO.ar rfl rfl rfl (by (first | (unfold in64; omega) | (unfold in64; omega) | exact tdiv_in (by omega) (by omega) (by unfold in64; omega))) rfl (WO.p rfl rfl (WO.ar rfl rfl rfl (by (first | (unfold in64; omega) | (unfold in64; omega) | exact tdiv_in (by omega) (by omega) (by unfold in64; omega))) rfl ?_))))
       refine' WO.buildSl (cs := _) rfl rfl rfl rfl ?hf rfl rfl ?hl rfl (fun v4 => ?_)
       case hf => (conv => lhs; simp [-List.getD_eq_getElem?_getD, -Int.neg_tdiv, fillL, vcl, wrl, TTab.pl?.lget']) <;> rfl
       case hl => rfl
       refine WO.callR (r := .int .i64 n) rfl Try.call69 (fun L w hi => by rw [← hN, ← sqL2]; exact c_squares w _ [p.1 * (-den).tdiv (gcd3 (-x) (-y) (-den)) - (-x).tdiv (gcd3 (-x) (-y) (-den)), p.2 * (-den).tdiv (gcd3 (-x) (-y) (-den)) - (-y).tdiv (gcd3 (-x) (-y) (-den))] (RdF.of_ow (e := 2) encI_ok (by repeat (first | exact Pick.head | apply Pick.tail)) hi) (Nat.le_refl _) (all_two (by omega) (by omega))) rfl ?_
       refine WO.p rfl rfl (WO.p rfl rfl (WO.ar rfl rfl rfl (by (first | (unfold in64; omega) | (unfold in64; omega) | exact tdiv_in (by omega) (by omega) (by unfold in64; omega))) rfl (WO.p rfl rfl (WO.p rfl rfl ?_))))
       refine WO.nil ?_
       refine W.sreg ?_
       refine WO.p rfl rfl (WO.p rfl rfl ?_)
       refine' WO.buildSl (cs := _) rfl rfl rfl rfl ?hf rfl rfl ?hl rfl (fun v5 => ?_)
       case hf => (conv => lhs; simp [-List.getD_eq_getElem?_getD, -Int.neg_tdiv, fillL, vcl, wrl, TTab.pl?.lget']) <;> rfl
       case hl => rfl
       refine WO.callR (r := .int .i64 (gcd2 n ((-den).tdiv (gcd3 (-x) (-y) (-den)) * (-den).tdiv (gcd3 (-x) (-y) (-den))))) rfl Try.call82 (fun L w hi => by rw [← gcdA2 (a := n) (by omega) (by omega)]; exact c_common w _ [n, (-den).tdiv (gcd3 (-x) (-y) (-den)) * (-den).tdiv (gcd3 (-x) (-y) (-den))] (RdF.of_ow (e := 2) encI_ok (by repeat (first | exact Pick.head | apply Pick.tail)) hi) (all_two (by unfold in64; omega) (by unfold in64; omega))) rfl ?_
       refine WO.p rfl rfl ?_
       refine WO.nil ?_
       refine W.seq ?_
       refine W.drawD 12 [.r 0 [], .r 1 [], .r 2 [], .r 3 [], .r 4 [], .r 5 [], .r 6 [], .r 7 [], .r 8 [], .r 9 [], .r 10 [], .r 11 []] [] (A0 := []) (Sub.refl _) (by kernel_rfl) ?_ ?_
       · exact (ALok.r (ALok.r (ALok.r (ALok.r (ALok.r (ALok.r (ALok.r (ALok.r (ALok.r (ALok.r (ALok.r (ALok.r ALok.nil))))))))))))
       refine' DT.r rfl rfl rfl ?hq ?_
       case hq =>
         refine WO.p rfl rfl ?_
         exact WO.nil ⟨rfl, rfl⟩
       refine' DT.r rfl rfl rfl ?hq ?_
       case hq =>
         refine WO.p rfl rfl ?_
         exact WO.nil ⟨rfl, rfl⟩
       refine' DT.r rfl rfl rfl ?hq ?_
       case hq =>
         refine WO.p rfl rfl ?_
         exact WO.nil ⟨rfl, rfl⟩
       refine' DT.r rfl rfl rfl ?hq ?_
       case hq =>
         refine WO.p rfl rfl ?_
         exact WO.nil ⟨rfl, rfl⟩
       refine' DT.r rfl rfl rfl ?hq ?_
       case hq =>
         refine WO.p rfl rfl ?_
         exact WO.nil ⟨rfl, rfl⟩
       refine' DT.r rfl rfl rfl ?hq ?_
       case hq =>
         refine WO.quo rfl rfl (by first | omega | assumption) (by (first | (unfold in64; omega) | (unfold in64; omega) | exact tdiv_in (by omega) (by omega) (by unfold in64; omega))) rfl ?_
         exact WO.nil ⟨rfl, rfl⟩
       refine' DT.r rfl rfl rfl ?hq ?_
       case hq =>
         refine WO.p rfl rfl ?_
         exact WO.nil ⟨rfl, rfl⟩
       refine' DT.r rfl rfl rfl ?hq ?_
       case hq =>
         refine WO.p rfl rfl ?_
         exact WO.nil ⟨rfl, rfl⟩
       refine' DT.r rfl rfl rfl ?hq ?_
       case hq =>
         refine WO.quo rfl rfl (by first | omega | assumption) (by (first | (unfold in64; omega) | (unfold in64; omega) | exact tdiv_in (by omega) (by omega) (by unfold in64; omega))) rfl ?_
         exact WO.nil ⟨rfl, rfl⟩
       refine' DT.r rfl rfl rfl ?hq ?_
       case hq =>
         refine' WO.build (cs := _) rfl rfl rfl ?hf rfl ?_
         case hf => (conv => lhs; simp [-List.getD_eq_getElem?_getD, -Int.neg_tdiv, fillL, vcl, wrl, TTab.pl?.lget']) <;> rfl
         exact WO.nil ⟨rfl, rfl⟩
       refine' DT.r rfl rfl rfl ?hq ?_
       case hq =>
         refine' WO.build (cs := _) rfl rfl rfl ?hf rfl ?_
         case hf => (conv => lhs; simp [-List.getD_eq_getElem?_getD, -Int.neg_tdiv, fillL, vcl, wrl, TTab.pl?.lget']) <;> rfl
         exact WO.nil ⟨rfl, rfl⟩
       refine' DT.r rfl rfl rfl ?hq ?_
       case hq =>
         refine WO.p rfl rfl ?_
         exact WO.nil ⟨rfl, rfl⟩
       refine DT.nil [_, _, _, _, _] rfl ?_
       refine' WO.build (cs := _) rfl rfl rfl ?hf rfl ?_
       case hf => (conv => lhs; simp [-List.getD_eq_getElem?_getD, -Int.neg_tdiv, fillL, vcl, wrl, TTab.pl?.lget']) <;> rfl
       refine WO.storeA rfl rfl rfl rfl (Pick.tail (Pick.tail (Pick.tail (Pick.tail (Pick.head))))) rfl rfl ?_
       refine WO.nil ?_
       refine W.ret ?_
       refine fin.ret (Res.one rfl (RV.cell rfl rfl rfl (Cells.own (by repeat (first | exact Pick.head | apply Pick.tail))))) ?_
       first | (unfold mkN encC; simp only [hN]; rfl))
  · first
    | (exfalso; omega)
    | (refine W.skip ?_
       refine W.sreg ?_
       refine WO.p rfl rfl (WO.p rfl rfl (WO.p rfl rfl ?_))
       refine' WO.buildSl (cs := _) rfl rfl rfl rfl ?hf rfl rfl ?hl rfl (fun v6 => ?_)
       case hf => (conv => lhs; simp [-List.getD_eq_getElem?_getD, -Int.neg_tdiv, fillL, vcl, wrl, TTab.pl?.lget']) <;> rfl
       case hl => rfl
       refine WO.callR (r := .int .i64 (gcd3 (-x) (-y) (-den))) rfl Try.call82 (fun L w hi => by rw [← gcdA3 hD]; exact c_common w _ [-x, -y, -den] (RdF.of_ow (e := 2) encI_ok (by repeat (first | exact Pick.head | apply Pick.tail)) hi) (all_three (by unfold in64; omega) (by unfold in64; omega) (by unfold in64; omega))) rfl ?_
       refine WO.p rfl rfl ?_
       refine WO.nil ?_
       refine W.seq ?_
       refine W.drawD 11 [.r 0 [], .r 1 [], .r 2 [], .r 3 [0], .r 4 [0], .r 5 [0], .r 6 [0, 1], .r 7 [0, 1], .r 8 [0, 1], .r 9 [0], .r 10 [0, 1]] [0, 1] (A0 := []) (Sub.refl _) (by kernel_rfl) ?_ ?_
       · exact (ALok.r (ALok.r (ALok.r (ALok.r (ALok.r (ALok.r (ALok.r (ALok.r (ALok.r (ALok.r (ALok.r ALok.nil)))))))))))
       refine' DT.r rfl rfl rfl ?hq ?_
       case hq =>
         refine WO.p rfl rfl ?_
         exact WO.nil ⟨rfl, rfl⟩
       refine' DT.r rfl rfl rfl ?hq ?_
       case hq =>
         refine WO.p rfl rfl ?_
         exact WO.nil ⟨rfl, rfl⟩
       refine' DT.r rfl rfl rfl ?hq ?_
       case hq =>
         refine WO.quo rfl rfl (by first | omega | assumption) (by (first | (unfold in64; omega) | (unfold in64; omega) | exact tdiv_in (by omega) (by omega) (by unfold in64; omega))) rfl ?_
         exact WO.nil ⟨rfl, rfl⟩
       refine' DT.r rfl rfl rfl ?hq ?_
       case hq =>
         refine WO.p rfl rfl ?_
         exact WO.nil ⟨rfl, rfl⟩
       refine' DT.r rfl rfl rfl ?hq ?_
       case hq =>
         refine WO.p rfl rfl ?_
         exact WO.nil ⟨rfl, rfl⟩
       refine' DT.r rfl rfl rfl ?hq ?_
       case hq =>
         refine WO.quo rfl rfl (by first | omega | assumption) (by (first | (unfold in64; omega) | (unfold in64; omega) | exact tdiv_in (by omega) (by omega) (by unfold in64; omega))) rfl ?_
         exact WO.nil ⟨rfl, rfl⟩
       refine' DT.r rfl rfl rfl ?hq ?_
       case hq =>
         refine WO.p rfl rfl ?_
         exact WO.nil ⟨rfl, rfl⟩
       refine' DT.r rfl rfl rfl ?hq ?_
       case hq =>
         refine WO.p rfl rfl ?_
         exact WO.nil ⟨rfl, rfl⟩
       refine' DT.r rfl rfl rfl ?hq ?_
       case hq =>
         refine WO.quo rfl rfl (by first | omega | assumption) (by (first | (unfold in64; omega) | (unfold in64; omega) | exact tdiv_in (by omega) (by omega) (by unfold in64; omega))) rfl ?_
         exact WO.nil ⟨rfl, rfl⟩
       refine' DT.r rfl rfl rfl ?hq ?_
       case hq =>
         refine WO.p rfl rfl ?_
         exact WO.nil ⟨rfl, rfl⟩
       refine' DT.r rfl rfl rfl ?hq ?_
       case hq =>
         refine WO.p rfl rfl ?_
         exact WO.nil ⟨rfl, rfl⟩
       refine DT.nil [_, _] rfl ?_
       refine WO.p rfl rfl ?_
       refine WO.nil ?_
       refine W.sreg ?_
       refine WO.p rfl rfl ?_
       refine' WO.indexAddr (n := _) (i := 0) rfl rfl rfl ?hs ?h1 rfl ?_
       case hs => (first | exact hR.sl)
       case h1 => (first | omega | (simp; omega))
       refine' WO.loadA (vs := _) rfl rfl ?hc ?hl rfl ?_
       case hc => (first | exact RdF.cellsHd hR)
       case hl => rfl
       refine WO.alloc rfl rfl rfl (fun b7 hb7 => ?_)
       refine WO.storeA rfl rfl rfl rfl Pick.head rfl rfl ?_
       refine WO.nil ?_
       refine W.sreg ?_
       refine WO.indexArrL (o' := 0) rfl rfl rfl (by decide) rfl rfl ?_
       refine WO.load rfl rfl (Cell.own Pick.head rfl) rfl (WO.p rfl rfl (WO.ar rfl rfl rfl (by (first | (unfold in64; omega) | (unfold in64; omega) | exact tdiv_in (by omega) (by omega) (by unfold in64; omega))) rfl (WO.p rfl rfl (WO.ar rfl rfl rfl (by (first | (unfold in64; omega) | (unfold in64; omega) | exact tdiv_in (by omega) (by omega) (by unfold in64; omega))) rfl ?_))))
       refine WO.indexArrL (o' := 1) rfl rfl rfl (by decide) rfl rfl ?_
       refine WO.load rfl rfl (Cell.own Pick.head rfl) rfl (WO.p rfl rfl (WO.ar rfl rfl rfl (by (first | (unfold in64; omega) | (unfold in64; omega) | exact tdiv_in (by omega) (by omega) (by unfold in64; omega))) rfl (WO.p rfl rfl (WO.ar rfl rfl rfl (by (first | (unfold in64; omega) | (unfold in64; omega) | exact tdiv_in (by omega) (by omega) (by unfold in64; omega))) rfl ?_))))
       refine' WO.buildSl (cs := _) rfl rfl rfl rfl ?hf rfl rfl ?hl rfl (fun v8 => ?_)
       case hf => (conv => lhs; simp [-List.getD_eq_getElem?_getD, -Int.neg_tdiv, fillL, vcl, wrl, TTab.pl?.lget']) <;> rfl
       case hl => rfl
       refine WO.callR (r := .int .i64 n) rfl Try.call69 (fun L w hi => by rw [← hN, ← sqL2]; exact c_squares w _ [p.1 * (-den).tdiv (gcd3 (-x) (-y) (-den)) - (-x).tdiv (gcd3 (-x) (-y) (-den)), p.2 * (-den).tdiv (gcd3 (-x) (-y) (-den)) - (-y).tdiv (gcd3 (-x) (-y) (-den))] (RdF.of_ow (e := 2) encI_ok (by repeat (first | exact Pick.head | apply Pick.tail)) hi) (Nat.le_refl _) (all_two (by omega) (by omega))) rfl ?_
       refine WO.p rfl rfl (WO.p rfl rfl (WO.ar rfl rfl rfl (by (first | (unfold in64; omega) | (unfold in64; omega) | exact tdiv_in (by omega) (by omega) (by unfold in64; omega))) rfl (WO.p rfl rfl (WO.p rfl rfl ?_))))
       refine WO.nil ?_
       refine W.sreg ?_
       refine WO.p rfl rfl (WO.p rfl rfl ?_)
       refine' WO.buildSl (cs := _) rfl rfl rfl rfl ?hf rfl rfl ?hl rfl (fun v9 => ?_)
       case hf => (conv => lhs; simp [-List.getD_eq_getElem?_getD, -Int.neg_tdiv, fillL, vcl, wrl, TTab.pl?.lget']) <;> rfl
       case hl => rfl
       refine WO.callR (r := .int .i64 (gcd2 n ((-den).tdiv (gcd3 (-x) (-y) (-den)) * (-den).tdiv (gcd3 (-x) (-y) (-den))))) rfl Try.call82 (fun L w hi => by rw [← gcdA2 (a := n) (by omega) (by omega)]; exact c_common w _ [n, (-den).tdiv (gcd3 (-x) (-y) (-den)) * (-den).tdiv (gcd3 (-x) (-y) (-den))] (RdF.of_ow (e := 2) encI_ok (by repeat (first | exact Pick.head | apply Pick.tail)) hi) (all_two (by unfold in64; omega) (by unfold in64; omega))) rfl ?_
       refine WO.p rfl rfl ?_
       refine WO.nil ?_
       refine W.seq ?_
       refine W.drawD 12 [.r 0 [], .r 1 [], .r 2 [], .r 3 [], .r 4 [], .r 5 [], .r 6 [], .r 7 [], .r 8 [], .r 9 [], .r 10 [], .r 11 []] [] (A0 := []) (Sub.refl _) (by kernel_rfl) ?_ ?_
       · exact (ALok.r (ALok.r (ALok.r (ALok.r (ALok.r (ALok.r (ALok.r (ALok.r (ALok.r (ALok.r (ALok.r (ALok.r ALok.nil))))))))))))
       refine' DT.r rfl rfl rfl ?hq ?_
       case hq =>
         refine WO.p rfl rfl ?_
         exact WO.nil ⟨rfl, rfl⟩
       refine' DT.r rfl rfl rfl ?hq ?_
       case hq =>
         refine WO.p rfl rfl ?_
         exact WO.nil ⟨rfl, rfl⟩
       refine' DT.r rfl rfl rfl ?hq ?_
       case hq =>
         refine WO.p rfl rfl ?_
         exact WO.nil ⟨rfl, rfl⟩
       refine' DT.r rfl rfl rfl ?hq ?_
       case hq =>
         refine WO.p rfl rfl ?_
         exact WO.nil ⟨rfl, rfl⟩
       refine' DT.r rfl rfl rfl ?hq ?_
       case hq =>
         refine WO.p rfl rfl ?_
         exact WO.nil ⟨rfl, rfl⟩
       refine' DT.r rfl rfl rfl ?hq ?_
       case hq =>
         refine WO.quo rfl rfl (by first | omega | assumption) (by (first | (unfold in64; omega) | (unfold in64; omega) | exact tdiv_in (by omega) (by omega) (by unfold in64; omega))) rfl ?_
         exact WO.nil ⟨rfl, rfl⟩
       refine' DT.r rfl rfl rfl ?hq ?_
       case hq =>
         refine WO.p rfl rfl ?_
         exact WO.nil ⟨rfl, rfl⟩
       refine' DT.r rfl rfl rfl ?hq ?_
       case hq =>
         refine WO.p rfl rfl ?_
         exact WO.nil ⟨rfl, rfl⟩
       refine' DT.r rfl rfl rfl ?hq ?_
       case hq =>
         refine WO.quo rfl rfl (by first | omega | assumption) (by (first | (unfold in64; omega) | (unfold in64; omega) | exact tdiv_in (by omega) (by omega) (by unfold in64; omega))) rfl ?_
         exact WO.nil ⟨rfl, rfl⟩
       refine' DT.r rfl rfl rfl ?hq ?_
       case hq =>
         refine' WO.build (cs := _) rfl rfl rfl ?hf rfl ?_
         case hf => (conv => lhs; simp [-List.getD_eq_getElem?_getD, -Int.neg_tdiv, fillL, vcl, wrl, TTab.pl?.lget']) <;> rfl
         exact WO.nil ⟨rfl, rfl⟩
       refine' DT.r rfl rfl rfl ?hq ?_
       case hq =>
         refine' WO.build (cs := _) rfl rfl rfl ?hf rfl ?_
         case hf => (conv => lhs; simp [-List.getD_eq_getElem?_getD, -Int.neg_tdiv, fillL, vcl, wrl, TTab.pl?.lget']) <;> rfl
         exact WO.nil ⟨rfl, rfl⟩
       refine' DT.r rfl rfl rfl ?hq ?_
       case hq =>
         refine WO.p rfl rfl ?_
         exact WO.nil ⟨rfl, rfl⟩
       refine DT.nil [_, _, _, _, _] rfl ?_
       refine' WO.build (cs := _) rfl rfl rfl ?hf rfl ?_
       case hf => (conv => lhs; simp [-List.getD_eq_getElem?_getD, -Int.neg_tdiv, fillL, vcl, wrl, TTab.pl?.lget']) <;> rfl
       refine WO.storeA rfl rfl rfl rfl (Pick.tail (Pick.tail (Pick.tail (Pick.tail (Pick.head))))) rfl rfl ?_
       refine WO.nil ?_
       refine W.ret ?_
       refine fin.ret (Res.one rfl (RV.cell rfl rfl rfl (Cells.own (by repeat (first | exact Pick.head | apply Pick.tail))))) ?_
       first | (unfold mkN encC; simp only [hN]; rfl))
theorem c_newRing (w : World) (x y den : Int) (v : Value) (p : Int × Int) (l : Pts) (hR : RdF encP 2 w.heap.size w v (p :: l)) (hp : OkP p) (hd : den ≠ 0) (hd2 : -262144 ≤ den ∧ den ≤ 262144) (hx : -268435456 ≤ x ∧ x ≤ 268435456) (hy : -268435456 ≤ y ∧ y ≤ 268435456) :
    Ret Try.prog 74 [.int .i64 x, .int .i64 y, .int .i64 den, v].toArray w (.agg ((encC (mkR x y den p) ++ [v]).toArray)) := by
  unfold mkR; split
  · exact c_newRingN w x y den v p l hR hp (by omega) hd2 hx hy
  · exact c_newRingP w x y den v p l hR hp (by omega) hd2 hx hy
end Go.Proofs.Ytkhplcncfogolaa
