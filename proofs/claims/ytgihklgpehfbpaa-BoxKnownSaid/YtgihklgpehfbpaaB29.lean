/-
  What is proved here: the examples that every law asks for. Conditions: none; each contract states its own.
-/
import Derived.Test.YtgihklgpehfbpaaB28
namespace Go.Proofs.Ytgihklgpehfbpaa
open Go Go.TH
attribute [local irreducible] W WO pt
set_option maxRecDepth 10000
set_option maxHeartbeats 2000000
def exRows : List (List (Int × Int)) := [[(2, 4), (6, 6)], [(0, 1), (3, 3)]]
theorem ex_hv : HV 10 6 exRows := HV.of (by decide)
theorem ex_tv {ys : List (List Int)} (t : TV exRows ys) : ∃ a b, ys = [[a, 6], [b, 3]] ∧ 2 ≤ a ∧ a ≤ 4 ∧ 0 ≤ b ∧ b ≤ 1 := by
  have hl : ys.length = 2 := t.len
  match ys, hl with
  | [r, s], _ =>
    have h0 : r.length = 2 := t.row 0 (by simp)
    have h1 : s.length = 2 := t.row 1 (by simp)
    match r, h0, s, h1 with
    | [a, c], _, [b, d], _ =>
      have w1 := t.within 0 0 (by simp) (by simp)
      have w2 := t.within 0 1 (by simp) (by simp)
      have w3 := t.within 1 0 (by simp) (by simp)
      have w4 := t.within 1 1 (by simp) (by simp)
      simp [exRows, yy] at w1 w2 w3 w4
      obtain rfl : c = 6 := by omega
      obtain rfl : d = 3 := by omega
      exact ⟨a, b, rfl, by omega⟩
theorem ex_tv' (a b : Int) (h : 2 ≤ a ∧ a ≤ 4 ∧ 0 ≤ b ∧ b ≤ 1) : TV exRows [[a, 6], [b, 3]] := by
  refine ⟨rfl, fun i hi => ?_, fun i k hi hk => ?_⟩
  · match i, hi with
    | 0, _ => rfl
    | 1, _ => rfl
  · match i, hi with
    | 0, _ => match k, hk with
      | 0, _ => simp [exRows, yy]; omega
      | 1, _ => simp [exRows, yy]
    | 1, _ => match k, hk with
      | 0, _ => simp [exRows, yy]; omega
      | 1, _ => simp [exRows, yy]
theorem ex_end (what : Int) (high : Bool) (a b : Int) (hw : 0 ≤ what ∧ what ≤ 2) (h : 2 ≤ a ∧ a ≤ 4 ∧ 0 ≤ b ∧ b ≤ 1) (he : valQ 10 6 (exH what 10 6 (valQ 10 6 [[a, 6], [b, 3]] what).1 (valQ 10 6 [[a, 6], [b, 3]] what).2 high exRows) what = valQ 10 6 [[a, 6], [b, 3]] what) : endV 10 6 what high exRows = valQ 10 6 [[a, 6], [b, 3]] what :=
  (endV_eq ex_hv (step_end ex_hv (ex_tv' a b h) hw he)).symm
theorem ex_e00 : endV 10 6 0 false exRows = (30, 13) := (ex_end 0 false 4 0 (by omega) (by omega) (by decide +kernel)).trans (by decide +kernel)
theorem ex_e01 : endV 10 6 0 true exRows = (10, 3) := (ex_end 0 true 2 1 (by omega) (by omega) (by decide +kernel)).trans (by decide +kernel)
theorem ex_e10 : endV 10 6 1 false exRows = (27, 7) := (ex_end 1 false 4 1 (by omega) (by omega) (by decide +kernel)).trans (by decide +kernel)
theorem ex_e11 : endV 10 6 1 true exRows = (54, 11) := (ex_end 1 true 2 0 (by omega) (by omega) (by decide +kernel)).trans (by decide +kernel)
theorem ex_uniq {ys : List (List Int)} (h : IsEnd 10 6 0 true exRows ys) : ys = [[2, 6], [1, 3]] := by
  have hv := endV_eq ex_hv h
  rw [ex_e01] at hv
  obtain ⟨a, b, rfl, h1, h2, h3, h4⟩ := ex_tv h.tv
  have key : ∀ a : Fin 3, ∀ b : Fin 2, valQ 10 6 [[(a.1 : Int) + 2, 6], [(b.1 : Int), 3]] 0 = (10, 3) → a.1 = 0 ∧ b.1 = 1 := by decide +kernel
  have := key ⟨(a - 2).toNat, by omega⟩ ⟨b.toNat, by omega⟩ (by simp only; rw [show (((a - 2).toNat : Nat) : Int) + 2 = a by omega, show ((b.toNat : Nat) : Int) = b by omega]; exact hv)
  simp only at this
  rw [show a = 2 by omega, show b = 1 by omega]
theorem ex_vol : volR 10 6 exRows [[2, 6], [0, 3]] = .tuple #[.agg #[.int .i64 330, .int .i64 1], .int .i64 0] := by
  have h1 : chkTrue 10 6 exRows [[2, 6], [0, 3]] = 0 := TV.to ex_hv (ex_tv' 2 0 (by omega))
  have h2 : volQ 10 6 [[2, 6], [0, 3]] = (330, 1) := by decide +kernel
  rw [← volR_0 h1, h2]; rfl
theorem ex_val (what : Int) (hw : 0 ≤ what ∧ what ≤ 2) {q : Int × Int} (hq : valQ 10 6 [[2, 6], [0, 3]] what = q) : valR 10 6 exRows [[2, 6], [0, 3]] what = .tuple #[.agg #[.int .i64 q.1, .int .i64 q.2], .int .i64 0] := by
  have h1 : chkTrue 10 6 exRows [[2, 6], [0, 3]] = 0 := TV.to ex_hv (ex_tv' 2 0 (by omega))
  rw [← valR_0 h1 (by omega), hq]; rfl
theorem ex_plan {what : Int} (hw : 0 ≤ what ∧ what ≤ 2) : planE 10 6 exRows what = 0 := by
  unfold planE; rw [if_neg (by rw [ex_hv.to]; simp), if_neg (by omega)]
theorem ex_s0 : spanR 10 6 0 exRows = .tuple #[.agg #[.int .i64 30, .int .i64 13, .int .i64 10, .int .i64 3], .int .i64 0] := by
  rw [← spanR_0 (by rw [ex_plan (by omega)]; simp), ex_e00, ex_e01]; rfl
theorem ex_s1 : spanR 10 6 1 exRows = .tuple #[.agg #[.int .i64 27, .int .i64 7, .int .i64 54, .int .i64 11], .int .i64 0] := by
  rw [← spanR_0 (by rw [ex_plan (by omega)]; simp), ex_e10, ex_e11]; rfl
theorem ex_b1 : chkBound 10 6 0 10 3 true exRows = 0 := by decide +kernel
theorem ex_b2 : chkBound 10 6 0 3 1 true exRows = 14 := by decide +kernel
theorem ex_b3 : chkBound 10 6 0 30 13 false exRows = 0 := by decide +kernel
theorem eq29t (a b : Int) : EqT Try.prog .eql 29 (.agg #[.int .i64 a, .int .i64 b]) (.agg #[.int .i64 a, .int .i64 b]) (.bool true) := by
  have := eq29 a b a b
  rwa [show bl ((a, b) = (a, b)) = true from bl_t.2 rfl] at this
theorem eq41 (a b c d a' b' c' d' : Int) : EqT Try.prog .eql 41 (.agg #[.int .i64 a, .int .i64 b, .int .i64 c, .int .i64 d]) (.agg #[.int .i64 a', .int .i64 b', .int .i64 c', .int .i64 d']) (.bool (bl ((a, b, c, d) = (a', b', c', d')))) := by
  intro x y w
  simp [go_sem, Try.eqGuardType41, Try.underlying41, Try.underlying29, Try.eqGuardType29]
  by_cases h1 : a = a' <;> by_cases h2 : b = b' <;> by_cases h3 : c = c' <;> by_cases h4 : d = d' <;> simp [h1, h2, h3, h4, bl_eq]
theorem eq41t (a b c d : Int) : EqT Try.prog .eql 41 (.agg #[.int .i64 a, .int .i64 b, .int .i64 c, .int .i64 d]) (.agg #[.int .i64 a, .int .i64 b, .int .i64 c, .int .i64 d]) (.bool true) := by
  have := eq41 a b c d a b c d
  rwa [show bl ((a, b, c, d) = (a, b, c, d)) = true from bl_t.2 rfl] at this
end Go.Proofs.Ytgihklgpehfbpaa

