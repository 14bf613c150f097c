/-
  What is proved here: fractions, and the ends of what a hull can have (no program in sight). Conditions: none; each theorem states its own.
-/
import Derived.Test.YtgihklgpehfbpaaB24
namespace Go.Proofs.Ytgihklgpehfbpaa
open Go Go.TH
set_option maxRecDepth 10000
theorem red_nat (a b : Nat) : red (a : Int) (b : Int) = (((a / Nat.gcd a b : Nat) : Int), ((b / Nat.gcd a b : Nat) : Int)) := by
  unfold red gcd2
  simp only [Int.toNat_natCast]
  rw [← Int.ofNat_tdiv, ← Int.ofNat_tdiv]
theorem red_cross {n d : Int} (hn : 0 ≤ n) (hd : 0 < d) : (red n d).1 * d = n * (red n d).2 ∧ 0 < (red n d).2 ∧ 0 ≤ (red n d).1 ∧ (red n d).1 ≤ n ∧ (red n d).2 ≤ d := by
  obtain ⟨a, rfl⟩ := Int.eq_ofNat_of_zero_le hn
  obtain ⟨b, rfl⟩ := Int.eq_ofNat_of_zero_le (Int.le_of_lt hd)
  rw [red_nat]
  have hg : 0 < Nat.gcd a b := Nat.gcd_pos_of_pos_right _ (by omega)
  obtain ⟨p, hp⟩ := Nat.gcd_dvd_left a b
  obtain ⟨q, hq⟩ := Nat.gcd_dvd_right a b
  have e1 : a / Nat.gcd a b = p := Nat.div_eq_of_eq_mul_right hg hp
  have e2 : b / Nat.gcd a b = q := Nat.div_eq_of_eq_mul_right hg hq
  rw [e1, e2]
  have hq0 : 0 < q := by
    rcases Nat.eq_zero_or_pos q with h | h
    · rw [h] at hq; omega
    · exact h
  have hpa : p ≤ a := by rw [hp]; exact Nat.le_mul_of_pos_left _ hg
  have hqb : q ≤ b := by rw [hq]; exact Nat.le_mul_of_pos_left _ hg
  refine ⟨?_, by omega, by omega, by omega, by omega⟩
  have : p * b = a * q := by
    calc p * b = p * (Nat.gcd a b * q) := by rw [← hq]
      _ = Nat.gcd a b * p * q := by rw [← Nat.mul_assoc, Nat.mul_comm p]
      _ = a * q := by rw [← hp]
  show (p : Int) * (b : Int) = (a : Int) * (q : Int)
  exact_mod_cast this
theorem coprime_eq {p q r s : Nat} (h1 : Nat.Coprime p q) (h2 : Nat.Coprime r s) (hq : 0 < q) (hs : 0 < s) (h : p * s = r * q) : p = r ∧ q = s := by
  have a1 : q ∣ s := Nat.Coprime.dvd_of_dvd_mul_left h1.symm ⟨r, by rw [h, Nat.mul_comm]⟩
  have a2 : s ∣ q := Nat.Coprime.dvd_of_dvd_mul_left h2.symm ⟨p, by rw [← h, Nat.mul_comm]⟩
  have e : q = s := Nat.dvd_antisymm a1 a2
  subst e
  exact ⟨Nat.eq_of_mul_eq_mul_right hq h, rfl⟩
theorem red_eq {n1 d1 n2 d2 : Int} (a1 : 0 ≤ n1) (a2 : 0 < d1) (a3 : 0 ≤ n2) (a4 : 0 < d2) (h : n1 * d2 = n2 * d1) : red n1 d1 = red n2 d2 := by
  obtain ⟨a, rfl⟩ := Int.eq_ofNat_of_zero_le a1
  obtain ⟨b, rfl⟩ := Int.eq_ofNat_of_zero_le (Int.le_of_lt a2)
  obtain ⟨c, rfl⟩ := Int.eq_ofNat_of_zero_le a3
  obtain ⟨d, rfl⟩ := Int.eq_ofNat_of_zero_le (Int.le_of_lt a4)
  have h' : a * d = c * b := by exact_mod_cast h
  rw [red_nat, red_nat]
  have hg : 0 < Nat.gcd a b := Nat.gcd_pos_of_pos_right _ (by omega)
  have hg' : 0 < Nat.gcd c d := Nat.gcd_pos_of_pos_right _ (by omega)
  have c1 := Nat.coprime_div_gcd_div_gcd hg
  have c2 := Nat.coprime_div_gcd_div_gcd hg'
  obtain ⟨p, hp⟩ := Nat.gcd_dvd_left a b
  obtain ⟨q, hq⟩ := Nat.gcd_dvd_right a b
  obtain ⟨r, hr⟩ := Nat.gcd_dvd_left c d
  obtain ⟨s, hs⟩ := Nat.gcd_dvd_right c d
  have e1 : a / Nat.gcd a b = p := Nat.div_eq_of_eq_mul_right hg hp
  have e2 : b / Nat.gcd a b = q := Nat.div_eq_of_eq_mul_right hg hq
  have e3 : c / Nat.gcd c d = r := Nat.div_eq_of_eq_mul_right hg' hr
  have e4 : d / Nat.gcd c d = s := Nat.div_eq_of_eq_mul_right hg' hs
  rw [e1, e2] at c1
  rw [e3, e4] at c2
  rw [e1, e2, e3, e4]
  have hq0 : 0 < q := by
    rcases Nat.eq_zero_or_pos q with h | h
    · rw [h] at hq; omega
    · exact h
  have hs0 : 0 < s := by
    rcases Nat.eq_zero_or_pos s with h | h
    · rw [h] at hs; omega
    · exact h
  have key : p * s = r * q := by
    have h2 : (Nat.gcd a b * Nat.gcd c d) * (p * s) = (Nat.gcd a b * Nat.gcd c d) * (r * q) := by
      calc (Nat.gcd a b * Nat.gcd c d) * (p * s) = (Nat.gcd a b * p) * (Nat.gcd c d * s) := by simp only [Nat.mul_assoc, Nat.mul_left_comm, Nat.mul_comm]
        _ = a * d := by rw [← hp, ← hs]
        _ = c * b := h'
        _ = (Nat.gcd c d * r) * (Nat.gcd a b * q) := by rw [← hr, ← hq]
        _ = (Nat.gcd a b * Nat.gcd c d) * (r * q) := by simp only [Nat.mul_assoc, Nat.mul_left_comm, Nat.mul_comm]
    exact Nat.eq_of_mul_eq_mul_left (Nat.mul_pos hg hg') h2
  obtain ⟨x, y⟩ := coprime_eq c1 c2 hq0 hs0 key
  rw [x, y]
theorem red_cross_of {n1 d1 n2 d2 : Int} (a1 : 0 ≤ n1) (a2 : 0 < d1) (a3 : 0 ≤ n2) (a4 : 0 < d2) (h : red n1 d1 = red n2 d2) : n1 * d2 = n2 * d1 := by
  obtain ⟨x1, x2, _⟩ := red_cross a1 a2
  obtain ⟨y1, y2, _⟩ := red_cross a3 a4
  rw [h] at x1 x2
  -- r * d1 = n1 * s ; r * d2 = n2 * s
  have : (n1 * d2) * (red n2 d2).2 = (n2 * d1) * (red n2 d2).2 := by
    calc (n1 * d2) * (red n2 d2).2 = (n1 * (red n2 d2).2) * d2 := by rw [Int.mul_right_comm]
      _ = ((red n2 d2).1 * d1) * d2 := by rw [x1]
      _ = ((red n2 d2).1 * d2) * d1 := by rw [Int.mul_right_comm]
      _ = (n2 * (red n2 d2).2) * d1 := by rw [y1]
      _ = (n2 * d1) * (red n2 d2).2 := by rw [Int.mul_right_comm]
  exact Int.eq_of_mul_eq_mul_right (by omega) this
theorem pSum_lin (a b : Int) (f g : Nat × Nat → Int) : ∀ l : List (Nat × Nat), pSum (fun q => a * f q - b * g q) l = a * pSum f l - b * pSum g l
  | [] => by simp [pSum]
  | x :: l => by
    have e : ∀ h : Nat × Nat → Int, pSum h (x :: l) = h x + pSum h l := fun h => by rw [show x :: l = [x] ++ l from rfl, pSum_app]; simp [pSum]
    rw [e, e, e, pSum_lin a b f g l, Int.mul_add, Int.mul_add]; omega
theorem pSum_mul (a : Int) (f : Nat × Nat → Int) (l : List (Nat × Nat)) : pSum (fun q => a * f q) l = a * pSum f l := by
  have := pSum_lin a 0 f f l
  simpa using this
theorem pSum_mono {f g : Nat × Nat → Int} : ∀ {l : List (Nat × Nat)}, (∀ x ∈ l, f x ≤ g x) → pSum f l ≤ pSum g l
  | [], _ => by simp [pSum]
  | x :: l, h => by
    have e : ∀ h : Nat × Nat → Int, pSum h (x :: l) = h x + pSum h l := fun h => by rw [show x :: l = [x] ++ l from rfl, pSum_app]; simp [pSum]
    rw [e, e]
    have h1 := pSum_mono (l := l) (fun y hy => h y (by simp [hy]))
    have h2 := h x (by simp)
    omega
theorem pSum_congr {f g : Nat × Nat → Int} {l : List (Nat × Nat)} (h : ∀ x ∈ l, f x = g x) : pSum f l = pSum g l :=
  Int.le_antisymm (pSum_mono fun x hx => Int.le_of_eq (h x hx)) (pSum_mono fun x hx => Int.le_of_eq (h x hx).symm)
theorem bestV_max {f : Int → Int} {high : Bool} {lo : Int} : ∀ {j : Nat} {y : Int}, lo ≤ y → y ≤ lo + j → sgn high * f y ≤ sgn high * bestV f high lo j
  | 0, y, h1, h2 => by obtain rfl : y = lo := by omega
                       exact Int.le_refl _
  | j + 1, y, h1, h2 => by
    simp only [bestV]
    rcases Int.lt_or_le (lo + j) y with h | h
    · obtain rfl : y = lo + (j + 1 : Nat) := by omega
      cases high
      · simp only [sgn, if_false, Bool.false_eq_true, false_and, false_or, true_and]
        split <;> omega
      · simp only [sgn, if_true, true_and, Bool.true_eq_false, false_and, or_false, Int.one_mul]
        split <;> omega
    · have ih := bestV_max (f := f) (high := high) (lo := lo) (j := j) h1 h
      cases high
      · simp only [sgn, if_false, Bool.false_eq_true, false_and, false_or, true_and] at *
        split <;> omega
      · simp only [sgn, if_true, true_and, Bool.true_eq_false, false_and, or_false, Int.one_mul] at *
        split <;> omega
section
variable {what sp st num den : Int} {high : Bool} {rows : List (List (Int × Int))} {ys zs : List (List Int)}
theorem ex_sum (hv : HV sp st rows) (tv : TV rows ys) (hw : 0 ≤ what ∧ what ≤ 2) : den * tN sp st ys what - num * tD st ys what = pSum (fun q => exT what sp st num den rows.length (rows.getD q.1 []).length q.1 q.2 (yy ys q.1 q.2)) (plc rows) := by
  rw [← tAP_all hv tv hw, ← tBP_all tv hw, ← pSum_lin]; rfl
theorem ex_max (hv : HV sp st rows) (tv : TV rows ys) (hw : 0 ≤ what ∧ what ≤ 2) : sgn high * (den * tN sp st ys what - num * tD st ys what) ≤ sgn high * partS what sp st num den high rows rows.length := by
  rw [ex_sum hv tv hw, ← sum_best, ← pSum_mul, ← pSum_mul]
  refine pSum_mono fun x hx => ?_
  have hm := plc_mem hx
  have h1 := hv.ok x.1 x.2 hm.1 hm.2
  have hl := tv.len
  have h2 := tv.within x.1 x.2 (by omega) (by rw [tv.row x.1 (by omega)]; exact hm.2)
  have e1 : lo0 rows x.1 x.2 = ((rows.getD x.1 []).getD x.2 (0, 0)).1 := rfl
  have e2 : hi0 rows x.1 x.2 = ((rows.getD x.1 []).getD x.2 (0, 0)).2 := rfl
  exact bestV_max (by omega) (by omega)
theorem ex_exH (hv : HV sp st rows) (hw : 0 ≤ what ∧ what ≤ 2) : den * tN sp st (exH what sp st num den high rows) what - num * tD st (exH what sp st num den high rows) what = partS what sp st num den high rows rows.length := by
  rw [ex_sum hv (exH_tv hv) hw, ← sum_best]
  refine pSum_congr fun x hx => ?_
  have hm := plc_mem hx
  rw [exH, mk_y hm.1 hm.2, exY_best]
/-- an end: a true hull that none is beyond -/
structure IsEnd (sp st what : Int) (high : Bool) (rows : List (List (Int × Int))) (ys : List (List Int)) : Prop where
  tv : TV rows ys
  best : ∀ zs, TV rows zs → sgn high * (tN sp st zs what * tD st ys what - tN sp st ys what * tD st zs what) ≤ 0
theorem sgn_cases (high : Bool) : sgn high = 1 ∨ sgn high = -1 := by cases high <;> simp [sgn]
theorem IsEnd.uniq (hv : HV sp st rows) (h1 : IsEnd sp st what high rows ys) (h2 : IsEnd sp st what high rows zs) : valQ sp st ys what = valQ sp st zs what := by
  obtain ⟨⟨a1, _⟩, a2, _⟩ := tN_bound hv h1.tv what
  obtain ⟨⟨b1, _⟩, b2, _⟩ := tN_bound hv h2.tv what
  have x := h1.best zs h2.tv
  have y := h2.best ys h1.tv
  refine red_eq a1 a2 b1 b2 ?_
  rcases sgn_cases high with e | e <;> rw [e] at x y <;> omega
/-- how far it is from the end -/
def far (sp st what : Int) (high : Bool) (ys : List (List Int)) : Nat :=
  if high then (1000000000000000000000000000 - tN sp st ys what * 10000000000000000 / tD st ys what).toNat else (tN sp st ys what * 10000000000000000 / tD st ys what).toNat
theorem st_zero {r s n d n1 d1 : Int} (x1 : r * d = n * s) (hd : 0 < d) (hc : n1 * d = n * d1) : s * n1 - r * d1 = 0 := by
  have h : d * (s * n1 - r * d1) = d * 0 := by
    calc d * (s * n1 - r * d1) = s * (n1 * d) - (r * d) * d1 := by rw [Int.mul_sub]; congr 1 <;> simp only [Int.mul_comm, Int.mul_left_comm]
      _ = s * (n * d1) - (n * s) * d1 := by rw [hc, x1]
      _ = d * 0 := by rw [Int.mul_zero, show s * (n * d1) = n * s * d1 by simp only [Int.mul_comm, Int.mul_left_comm]]; omega
  exact Int.eq_of_mul_eq_mul_left (by omega) h
theorem st_cross {r s n d n1 d1 : Int} (x1 : r * d = n * s) : s * (n1 * d - n * d1) = d * (s * n1 - r * d1) := by
  have e1 : s * (n * d1) = d * (r * d1) := by
    calc s * (n * d1) = (n * s) * d1 := by simp only [Int.mul_comm, Int.mul_left_comm]
      _ = (r * d) * d1 := by rw [x1]
      _ = d * (r * d1) := by simp only [Int.mul_comm, Int.mul_left_comm]
  rw [Int.mul_sub, Int.mul_sub, e1]
  congr 1
  simp only [Int.mul_comm, Int.mul_left_comm]
theorem st_sgn {sg x y s d : Int} (hs : 0 < s) (hd : 0 < d) (e : s * x = d * y) : (sg * y ≤ 0 → sg * x ≤ 0) ∧ (0 < sg * y → 0 < sg * x) := by
  have e2 : s * (sg * x) = d * (sg * y) := by rw [Int.mul_left_comm, e, Int.mul_left_comm]
  constructor
  · intro h
    have h3 : s * (sg * x) ≤ s * 0 := by rw [e2, Int.mul_zero]; exact Int.mul_nonpos_of_nonneg_of_nonpos (by omega) h
    exact Int.le_of_mul_le_mul_left h3 hs
  · intro h
    have h3 : s * 0 < s * (sg * x) := by rw [e2, Int.mul_zero]; exact Int.mul_pos hd h
    exact Int.lt_of_mul_lt_mul_left h3 (by omega)
theorem floor_lt {n d n1 d1 M : Int} (hd : 0 < d) (hd1 : 0 < d1) (hM : d * d1 ≤ M) (h : n * d1 < n1 * d) : n * M / d + 1 ≤ n1 * M / d1 := by
  rw [Int.le_ediv_iff_mul_le hd1]
  have h1 : n * M / d * d ≤ n * M := Int.ediv_mul_le _ (by omega)
  have hM0 : 0 ≤ M := Int.le_trans (Int.le_of_lt (Int.mul_pos hd hd1)) hM
  generalize n * M / d = k at *
  have h2 : (n * d1 + 1) * M ≤ (n1 * d) * M := Int.mul_le_mul_of_nonneg_right (by omega) hM0
  have h3 : k * d * d1 ≤ n * M * d1 := Int.mul_le_mul_of_nonneg_right h1 (by omega)
  have h4 : (k + 1) * d1 * d ≤ n1 * M * d := by
    have e1 : (k + 1) * d1 * d = k * d * d1 + d * d1 := by
      rw [Int.add_mul, Int.add_mul, Int.one_mul, Int.mul_right_comm k d1 d, Int.mul_comm d1 d]
    have e2 : (n * d1 + 1) * M = n * M * d1 + M := by rw [Int.add_mul, Int.one_mul, Int.mul_right_comm]
    have e3 : (n1 * d) * M = n1 * M * d := Int.mul_right_comm _ _ _
    omega
  exact Int.le_of_mul_le_mul_right h4 hd
/-- a step: from a true hull to one that is beyond it, or there is none -/
theorem step_end (hv : HV sp st rows) (tv : TV rows ys) (hw : 0 ≤ what ∧ what ≤ 2) (he : valQ sp st (exH what sp st (valQ sp st ys what).1 (valQ sp st ys what).2 high rows) what = valQ sp st ys what) : IsEnd sp st what high rows ys := by
  obtain ⟨⟨a1, _⟩, a2, _⟩ := tN_bound hv tv what
  obtain ⟨x1, x2, x3, _⟩ := red_cross a1 a2
  have tv' := exH_tv (what := what) (num := (valQ sp st ys what).1) (den := (valQ sp st ys what).2) (high := high) hv
  obtain ⟨⟨b1, _⟩, b2, _⟩ := tN_bound hv tv' what
  have hc := red_cross_of b1 b2 a1 a2 he
  have h0 := st_zero x1 a2 hc
  have hz := ex_exH (what := what) (num := (valQ sp st ys what).1) (den := (valQ sp st ys what).2) (high := high) hv hw
  refine ⟨tv, fun zs hzs => ?_⟩
  have hm := ex_max (what := what) (num := (valQ sp st ys what).1) (den := (valQ sp st ys what).2) (high := high) hv hzs hw
  rw [← hz] at hm
  have h0' : (valQ sp st ys what).2 * tN sp st (exH what sp st (valQ sp st ys what).1 (valQ sp st ys what).2 high rows) what - (valQ sp st ys what).1 * tD st (exH what sp st (valQ sp st ys what).1 (valQ sp st ys what).2 high rows) what = 0 := h0
  rw [h0', Int.mul_zero] at hm
  exact (st_sgn x2 a2 (st_cross x1)).1 hm
theorem step_far (hv : HV sp st rows) (tv : TV rows ys) (hw : 0 ≤ what ∧ what ≤ 2) (he : valQ sp st (exH what sp st (valQ sp st ys what).1 (valQ sp st ys what).2 high rows) what ≠ valQ sp st ys what) :
    far sp st what high (exH what sp st (valQ sp st ys what).1 (valQ sp st ys what).2 high rows) < far sp st what high ys := by
  obtain ⟨⟨a1, a1'⟩, a2, a2'⟩ := tN_bound hv tv what
  obtain ⟨x1, x2, x3, _⟩ := red_cross a1 a2
  have tv' := exH_tv (what := what) (num := (valQ sp st ys what).1) (den := (valQ sp st ys what).2) (high := high) hv
  obtain ⟨⟨b1, b1'⟩, b2, b2'⟩ := tN_bound hv tv' what
  have hz := ex_exH (what := what) (num := (valQ sp st ys what).1) (den := (valQ sp st ys what).2) (high := high) hv hw
  have hm := ex_max (what := what) (num := (valQ sp st ys what).1) (den := (valQ sp st ys what).2) (high := high) hv tv hw
  rw [← hz] at hm
  have h0 : (valQ sp st ys what).2 * tN sp st ys what - (valQ sp st ys what).1 * tD st ys what = 0 := st_zero x1 a2 rfl
  rw [h0, Int.mul_zero] at hm
  have hc := st_cross (n1 := tN sp st (exH what sp st (valQ sp st ys what).1 (valQ sp st ys what).2 high rows) what) (d1 := tD st (exH what sp st (valQ sp st ys what).1 (valQ sp st ys what).2 high rows) what) x1
  have hs := st_sgn (sg := sgn high) x2 a2 hc
  have hne : ¬ tN sp st (exH what sp st (valQ sp st ys what).1 (valQ sp st ys what).2 high rows) what * tD st ys what = tN sp st ys what * tD st (exH what sp st (valQ sp st ys what).1 (valQ sp st ys what).2 high rows) what := fun e => he (red_eq b1 b2 a1 a2 e)
  have hne2 : ¬ (valQ sp st ys what).2 * tN sp st (exH what sp st (valQ sp st ys what).1 (valQ sp st ys what).2 high rows) what - (valQ sp st ys what).1 * tD st (exH what sp st (valQ sp st ys what).1 (valQ sp st ys what).2 high rows) what = 0 := fun e => by
    have e' : (red (tN sp st ys what) (tD st ys what)).2 * tN sp st (exH what sp st (valQ sp st ys what).1 (valQ sp st ys what).2 high rows) what - (red (tN sp st ys what) (tD st ys what)).1 * tD st (exH what sp st (valQ sp st ys what).1 (valQ sp st ys what).2 high rows) what = 0 := e
    rw [e', Int.mul_zero] at hc
    have := Int.eq_of_mul_eq_mul_left (show (red (tN sp st ys what) (tD st ys what)).2 ≠ 0 by omega) (hc.trans (Int.mul_zero _).symm)
    omega
  have hpos : 0 < sgn high * ((valQ sp st ys what).2 * tN sp st (exH what sp st (valQ sp st ys what).1 (valQ sp st ys what).2 high rows) what - (valQ sp st ys what).1 * tD st (exH what sp st (valQ sp st ys what).1 (valQ sp st ys what).2 high rows) what) := by
    rcases sgn_cases high with e | e <;> rw [e] at hm ⊢ <;> omega
  have hx := hs.2 hpos
  clear hs hpos hne2 hne hc hm h0 hz
  generalize exH what sp st (valQ sp st ys what).1 (valQ sp st ys what).2 high rows = zs at *
  have hdd : tD st ys what * tD st zs what ≤ 10000000000000000 := (mulB (A := 100000000) (B := 100000000) ⟨by omega, a2'⟩ ⟨by omega, b2'⟩).2
  have hU : ∀ n d : Int, 0 ≤ n → n ≤ 100000000000 → 0 < d → n * 10000000000000000 / d ≤ 1000000000000000000000000000 ∧ 0 ≤ n * 10000000000000000 / d := fun n d h1 h2 h3 =>
    ⟨Int.le_trans (Int.ediv_le_self _ (by omega)) (by omega), Int.ediv_nonneg (by omega) (by omega)⟩
  have u1 := hU _ _ a1 a1' a2
  have u2 := hU _ _ b1 b1' b2
  unfold far
  cases high
  · simp only [sgn, if_false, Bool.false_eq_true] at hx ⊢
    have := floor_lt (M := 10000000000000000) b2 a2 (by rw [Int.mul_comm]; exact hdd) (show tN sp st zs what * tD st ys what < tN sp st ys what * tD st zs what by omega)
    omega
  · simp only [sgn, if_true, Int.one_mul] at hx ⊢
    have := floor_lt (M := 10000000000000000) a2 b2 hdd (show tN sp st ys what * tD st zs what < tN sp st zs what * tD st ys what by omega)
    omega
theorem exists_end (hv : HV sp st rows) (hw : 0 ≤ what ∧ what ≤ 2) (high : Bool) : ∃ ys, IsEnd sp st what high rows ys := by
  have key : ∀ n ys, far sp st what high ys = n → TV rows ys → ∃ ys, IsEnd sp st what high rows ys := by
    intro n
    induction n using Nat.strongRecOn with
    | _ n ih =>
      intro ys hn tv
      by_cases he : valQ sp st (exH what sp st (valQ sp st ys what).1 (valQ sp st ys what).2 high rows) what = valQ sp st ys what
      · exact ⟨ys, step_end hv tv hw he⟩
      · exact ih _ (hn ▸ step_far hv tv hw he) _ rfl (exH_tv hv)
  exact key _ _ rfl (ends_tv hv true)
/-- the number at an end -/
noncomputable def endV (sp st what : Int) (high : Bool) (rows : List (List (Int × Int))) : Int × Int := open Classical in if h : ∃ ys, IsEnd sp st what high rows ys then valQ sp st (Classical.choose h) what else (0, 0)
theorem endV_eq (hv : HV sp st rows) (h : IsEnd sp st what high rows ys) : valQ sp st ys what = endV sp st what high rows := by
  have hx : ∃ ys, IsEnd sp st what high rows ys := ⟨ys, h⟩
  unfold endV
  rw [dif_pos hx]
  exact h.uniq hv (Classical.choose_spec hx)
end
end Go.Proofs.Ytgihklgpehfbpaa

