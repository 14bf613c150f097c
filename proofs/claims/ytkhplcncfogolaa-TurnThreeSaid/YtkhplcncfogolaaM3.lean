/-
  What is proved here: a table of the program's types (cells, fields, elements, zero values) agrees with the program. Conditions: none.
  What is proved here: smallest discs of points, that have some points on them (no program in sight). Conditions: none; each theorem states its own.
  What is proved here: discs through one, two and three points (no program in sight). Conditions: none; each theorem states its own.
  What is proved here: a disc that grows with each point that it does not hold is the smallest one (no program in sight). Conditions: none; each theorem states its own.
  What is proved here: the middle of the smallest disc is between at most three of its points (no program in sight). Conditions: none; each theorem states its own.
  What is proved here: the greatest common divisor. Conditions: none; each contract states its own.
  What is proved here: how fractions are compared. Conditions: none; each contract states its own.
  What is proved here: where a point is of a circle. Conditions: none; each contract states its own.
  What is proved here: the reference: which tracks and circles are valid, and whether a circle holds a track. Conditions: none; each contract states its own.
  What is proved here: which tracks and circles are valid. Conditions: none; each contract states its own.
  What is proved here: which tracks and circles are valid. Conditions: none; each contract states its own.
  What is proved here: which circles are valid; points. Conditions: none; each contract states its own.
  What is proved here: where a point is of a ring. Conditions: none; each contract states its own.
  What is proved here: the points of a track. Conditions: none; each contract states its own.
  What is proved here: the greatest common divisor of some numbers. Conditions: none; each contract states its own.
-/
import Derived.Test.YtkhplcncfogolaaM2
import Derived.Test.YtkhplcncfogolaaChecked
import Derived.KernelRfl
namespace Go.Proofs.Ytkhplcncfogolaa
open Go Go.TH
def tyList : List TI := [⟨.none, 0, none⟩,
  ⟨.one, 1, some (.nilFunc)⟩,
  ⟨.int .i64, 1, some (.int .i64 0)⟩,
  ⟨.int .i64, 1, some (.int .i64 0)⟩,
  ⟨.one, 1, some (.bool false)⟩,
  ⟨.int .u8, 1, some (.int .u8 0)⟩,
  ⟨.int .u8, 1, some (.int .u8 0)⟩,
  ⟨.st [(0, 2), (1, 3), (2, 4), (3, 6)], 4, some (.agg #[.int .i64 0, .int .i64 0, .bool false, .int .u8 0])⟩,
  ⟨.st [(0, 2), (1, 3), (2, 4), (3, 6)], 4, some (.agg #[.int .i64 0, .int .i64 0, .bool false, .int .u8 0])⟩,
  ⟨.none, 0, none⟩,
  ⟨.none, 0, none⟩,
  ⟨.none, 0, none⟩,
  ⟨.int .u64, 1, some (.int .u64 0)⟩,
  ⟨.st [(0, 9), (1, 12)], 2, none⟩,
  ⟨.st [(0, 9), (1, 12)], 2, none⟩,
  ⟨.one, 1, some (.pointer none)⟩,
  ⟨.one, 1, some (.pointer none)⟩,
  ⟨.one, 1, some (.pointer none)⟩,
  ⟨.st [(0, 17)], 1, some (.agg #[.pointer none])⟩,
  ⟨.st [(0, 17)], 1, some (.agg #[.pointer none])⟩,
  ⟨.one, 1, some (.nilIface)⟩,
  ⟨.int .i32, 1, some (.int .i32 0)⟩,
  ⟨.sl 39 2 16, 1, some (.slice none 0 0)⟩,
  ⟨.one, 1, some (.nilFunc)⟩,
  ⟨.st [(0, 2), (1, 2)], 2, some (.agg #[.int .i64 0, .int .i64 0])⟩,
  ⟨.st [(0, 2), (1, 2)], 2, some (.agg #[.int .i64 0, .int .i64 0])⟩,
  ⟨.st [(0, 2), (1, 2), (2, 2), (3, 25)], 5, some (.agg #[.int .i64 0, .int .i64 0, .int .i64 0, .int .i64 0, .int .i64 0])⟩,
  ⟨.st [(0, 2), (1, 2), (2, 2), (3, 25)], 5, some (.agg #[.int .i64 0, .int .i64 0, .int .i64 0, .int .i64 0, .int .i64 0])⟩,
  ⟨.int .i64, 1, some (.int .i64 0)⟩,
  ⟨.none, 0, none⟩,
  ⟨.one, 1, some (.nilFunc)⟩,
  ⟨.one, 1, some (.nilFunc)⟩,
  ⟨.sl 25 2 16, 1, some (.slice none 0 0)⟩,
  ⟨.none, 0, none⟩,
  ⟨.one, 1, some (.nilFunc)⟩,
  ⟨.one, 1, some (.nilFunc)⟩,
  ⟨.int .i8, 1, some (.int .i8 0)⟩,
  ⟨.one, 1, some (.nilFunc)⟩,
  ⟨.st [(0, 2), (1, 2)], 2, some (.agg #[.int .i64 0, .int .i64 0])⟩,
  ⟨.st [(0, 2), (1, 2)], 2, some (.agg #[.int .i64 0, .int .i64 0])⟩,
  ⟨.one, 1, some (.nilFunc)⟩,
  ⟨.one, 1, some (.nilFunc)⟩,
  ⟨.none, 0, none⟩,
  ⟨.one, 1, some (.nilFunc)⟩,
  ⟨.one, 1, some (.nilFunc)⟩,
  ⟨.sl 3 1 8, 1, some (.slice none 0 0)⟩,
  ⟨.none, 0, none⟩,
  ⟨.one, 1, some (.nilFunc)⟩,
  ⟨.one, 1, some (.nilFunc)⟩,
  ⟨.one, 1, some (.nilFunc)⟩,
  ⟨.one, 1, some (.nilFunc)⟩,
  ⟨.one, 1, some (.nilFunc)⟩,
  ⟨.one, 1, some (.nilFunc)⟩,
  ⟨.one, 1, some (.nilFunc)⟩,
  ⟨.one, 1, some (.nilFunc)⟩,
  ⟨.one, 1, some (.nilFunc)⟩,
  ⟨.one, 1, some (.nilFunc)⟩,
  ⟨.one, 1, some (.nilFunc)⟩,
  ⟨.one, 1, some (.nilFunc)⟩,
  ⟨.one, 1, some (.nilFunc)⟩,
  ⟨.one, 1, some (.nilFunc)⟩,
  ⟨.one, 1, some (.nilFunc)⟩,
  ⟨.one, 1, some (.nilFunc)⟩,
  ⟨.one, 1, some (.nilFunc)⟩,
  ⟨.sl 74 2 16, 1, some (.slice none 0 0)⟩,
  ⟨.st [(0, 27), (5, 64)], 6, some (.agg #[.int .i64 0, .int .i64 0, .int .i64 0, .int .i64 0, .int .i64 0, .slice none 0 0])⟩,
  ⟨.st [(0, 27), (5, 64)], 6, some (.agg #[.int .i64 0, .int .i64 0, .int .i64 0, .int .i64 0, .int .i64 0, .slice none 0 0])⟩,
  ⟨.one, 1, some (.nilFunc)⟩,
  ⟨.one, 1, some (.nilFunc)⟩,
  ⟨.one, 1, some (.nilFunc)⟩,
  ⟨.one, 1, some (.map none)⟩,
  ⟨.none, 0, none⟩,
  ⟨.one, 1, some (.nilFunc)⟩,
  ⟨.ar 2 2 1, 2, some (.agg #[.int .i64 0, .int .i64 0])⟩,
  ⟨.ar 2 2 1, 2, some (.agg #[.int .i64 0, .int .i64 0])⟩,
  ⟨.one, 1, some (.nilFunc)⟩,
  ⟨.one, 1, some (.nilFunc)⟩,
  ⟨.one, 1, some (.nilFunc)⟩,
  ⟨.one, 1, some (.nilFunc)⟩,
  ⟨.one, 1, some (.nilFunc)⟩,
  ⟨.one, 1, some (.nilFunc)⟩,
  ⟨.one, 1, some (.nilFunc)⟩,
  ⟨.one, 1, some (.nilFunc)⟩,
  ⟨.one, 1, some (.nilFunc)⟩,
  ⟨.one, 1, some (.nilFunc)⟩,
  ⟨.one, 1, some (.nilFunc)⟩,
  ⟨.one, 1, some (.nilFunc)⟩,
  ⟨.one, 1, some (.nilFunc)⟩,
  ⟨.one, 1, some (.nilFunc)⟩,
  ⟨.one, 1, some (.nilFunc)⟩,
  ⟨.sl 45 1 24, 1, some (.slice none 0 0)⟩,
  ⟨.one, 1, some (.nilFunc)⟩,
  ⟨.one, 1, some (.nilFunc)⟩,
  ⟨.one, 1, some (.nilFunc)⟩,
  ⟨.sl 27 5 40, 1, some (.slice none 0 0)⟩,
  ⟨.one, 1, some (.nilFunc)⟩,
  ⟨.one, 1, some (.nilFunc)⟩,
  ⟨.one, 1, some (.nilFunc)⟩,
  ⟨.sl 66 6 64, 1, some (.slice none 0 0)⟩,
  ⟨.one, 1, some (.nilFunc)⟩,
  ⟨.one, 1, some (.nilFunc)⟩,
  ⟨.one, 1, some (.nilFunc)⟩,
  ⟨.sl 2 1 8, 1, some (.slice none 0 0)⟩,
  ⟨.one, 1, some (.nilFunc)⟩,
  ⟨.one, 1, some (.nilFunc)⟩,
  ⟨.one, 1, some (.nilFunc)⟩,
  ⟨.one, 1, some (.nilFunc)⟩,
  ⟨.one, 1, some (.nilFunc)⟩,
  ⟨.one, 1, some (.nilFunc)⟩,
  ⟨.one, 1, some (.nilFunc)⟩,
  ⟨.one, 1, some (.nilFunc)⟩,
  ⟨.one, 1, some (.nilFunc)⟩,
  ⟨.one, 1, some (.nilFunc)⟩,
  ⟨.st [(0, 17), (1, 17), (2, 17), (3, 9)], 4, none⟩,
  ⟨.st [(0, 17), (1, 17), (2, 17), (3, 9)], 4, none⟩,
  ⟨.none, 0, none⟩,
  ⟨.none, 0, none⟩,
  ⟨.none, 0, none⟩,
  ⟨.one, 1, some (.nilFunc)⟩,
  ⟨.int .u32, 1, some (.int .u32 0)⟩,
  ⟨.int .u8, 1, some (.int .u8 0)⟩,
  ⟨.int .u8, 1, some (.int .u8 0)⟩,
  ⟨.one, 1, some (.nilFunc)⟩,
  ⟨.one, 1, some (.pointer none)⟩,
  ⟨.int .i32, 1, some (.int .i32 0)⟩,
  ⟨.int .i32, 1, some (.int .i32 0)⟩,
  ⟨.st [(0, 12), (1, 12), (2, 119), (3, 120), (4, 5), (5, 5), (6, 121), (7, 122), (8, 123), (9, 124), (10, 125)], 11, some (.agg #[.int .u64 0, .int .u64 0, .int .u32 0, .int .u8 0, .int .u8 0, .int .u8 0, .int .u8 0, .nilFunc, .pointer none, .int .i32 0, .int .i32 0])⟩,
  ⟨.st [(0, 12), (1, 12), (2, 119), (3, 120), (4, 5), (5, 5), (6, 121), (7, 122), (8, 123), (9, 124), (10, 125)], 11, some (.agg #[.int .u64 0, .int .u64 0, .int .u32 0, .int .u8 0, .int .u8 0, .int .u8 0, .int .u8 0, .nilFunc, .pointer none, .int .i32 0, .int .i32 0])⟩,
  ⟨.none, 0, none⟩]
theorem ty_ok : (tyList.zipIdx.all fun (ti, T) => tiChk Try.prog T ti) = true := by kernel_rfl
def tyTab : TTab Try.prog := ⟨tyList, ty_ok⟩
theorem mixed : Try.prog.follows .mixedOrders = true := by kernel_rfl
end Go.Proofs.Ytkhplcncfogolaa
namespace Go.TH.Dsc
/-- a disc: its middle, and the square of its radius -/
@[ext] structure Dsc where
  x : Rat
  y : Rat
  s : Rat
/-- by how much a point is outside -/
def f (D : Dsc) (p : Rat × Rat) : Rat := (p.1 - D.x) * (p.1 - D.x) + (p.2 - D.y) * (p.2 - D.y) - D.s
def Hold (D : Dsc) (l : List (Rat × Rat)) : Prop := ∀ p ∈ l, f D p ≤ 0
def On (D : Dsc) (l : List (Rat × Rat)) : Prop := ∀ p ∈ l, f D p = 0
/-- between two discs -/
def mix (t : Rat) (D E : Dsc) : Dsc where
  x := (1 - t) * D.x + t * E.x
  y := (1 - t) * D.y + t * E.y
  s := (1 - t) * D.s + t * E.s - t * (1 - t) * ((D.x - E.x) * (D.x - E.x) + (D.y - E.y) * (D.y - E.y))
theorem f_mix (t : Rat) (D E : Dsc) (p : Rat × Rat) : f (mix t D E) p = (1 - t) * f D p + t * f E p := by
  unfold f mix; dsimp only; grind
theorem sq_nn (a : Rat) : 0 ≤ a * a := by
  rcases (Rat.le_total : (0 : Rat) ≤ a ∨ a ≤ 0) with h | h
  · exact Rat.mul_nonneg h h
  · have := Rat.mul_nonneg (a := -a) (b := -a) (by grind) (by grind)
    grind
theorem sq_0 {a : Rat} (h : a * a ≤ 0) : a = 0 := by
  have := sq_nn a
  have h2 : a * a = 0 := by grind
  rcases Rat.mul_eq_zero.1 h2 with h | h <;> exact h
theorem s_mix {t : Rat} (D E : Dsc) (h0 : 0 ≤ t) (h1 : t ≤ 1) (h : D.s ≤ E.s) : (mix t D E).s ≤ E.s := by
  unfold mix; dsimp only
  have a := Rat.mul_nonneg (a := t) (b := 1 - t) h0 (by grind)
  have b := Rat.mul_nonneg a (b := (D.x - E.x) * (D.x - E.x) + (D.y - E.y) * (D.y - E.y)) (by have := sq_nn (D.x - E.x); have := sq_nn (D.y - E.y); grind)
  have c := Rat.mul_nonneg (a := 1 - t) (b := E.s - D.s) (by grind) (by grind)
  grind
theorem hold_mix {t : Rat} {D E : Dsc} {l : List (Rat × Rat)} (h0 : 0 ≤ t) (h1 : t ≤ 1) (hD : Hold D l) (hE : Hold E l) : Hold (mix t D E) l := fun p hp => by
  rw [f_mix]
  have a := Rat.mul_nonneg (a := 1 - t) (b := -f D p) (by grind) (by have := hD p hp; grind)
  have b := Rat.mul_nonneg (a := t) (b := -f E p) h0 (by have := hE p hp; grind)
  grind
theorem on_mix {t : Rat} {D E : Dsc} {l : List (Rat × Rat)} (hD : On D l) (hE : On E l) : On (mix t D E) l := fun p hp => by
  rw [f_mix, hD p hp, hE p hp]; grind
/-- the smallest disc that holds l and has R on it -/
structure Best (l R : List (Rat × Rat)) (D : Dsc) : Prop where
  hold : Hold D l
  on : On D R
  min : ∀ E, Hold E l → On E R → D.s ≤ E.s
theorem Best.uniq {l R : List (Rat × Rat)} {D E : Dsc} (h : Best l R D) (hE : Hold E l) (oE : On E R) (hs : E.s ≤ D.s) : E = D := by
  have hm := h.min (mix (1/2) D E) (hold_mix (by grind) (by grind) h.hold hE) (on_mix h.on oE)
  have he := h.min E hE oE
  have hx := sq_nn (D.x - E.x)
  have hy := sq_nn (D.y - E.y)
  unfold mix at hm
  dsimp only at hm
  have h1 : (D.x - E.x) * (D.x - E.x) ≤ 0 := by grind
  have h2 : (D.y - E.y) * (D.y - E.y) ≤ 0 := by grind
  have h3 := sq_0 h1
  have h4 := sq_0 h2
  apply Dsc.ext <;> grind
/-- where a disc goes through a point that it did not hold -/
theorem cut {D E : Dsc} {p : Rat × Rat} (hD : 0 < f D p) (hE : f E p ≤ 0) : ∃ t : Rat, 0 ≤ t ∧ t ≤ 1 ∧ f (mix t D E) p = 0 := by
  have h3 : 0 < f D p - f E p := by grind
  have hi : 0 < (f D p - f E p)⁻¹ := Rat.inv_pos.2 h3
  have h4 : (f D p - f E p) * (f D p - f E p)⁻¹ = 1 := Rat.mul_inv_cancel _ (by grind)
  have h5 := Rat.mul_nonneg (a := -f E p) (b := (f D p - f E p)⁻¹) (by grind) (by grind)
  refine ⟨f D p * (f D p - f E p)⁻¹, Rat.mul_nonneg (by grind) (by grind), by grind, ?_⟩
  rw [f_mix]; grind
theorem Best.step {l R : List (Rat × Rat)} {D E : Dsc} {p : Rat × Rat} (h : Best l R D) (hp : 0 < f D p) (hE : Hold E l) (hEp : f E p ≤ 0) (oE : On E R) : ∃ E', Hold E' l ∧ On E' (p :: R) ∧ E'.s ≤ E.s := by
  obtain ⟨t, t0, t1, ht⟩ := cut hp hEp
  refine ⟨mix t D E, hold_mix t0 t1 h.hold hE, fun q hq => ?_, s_mix D E t0 t1 (h.min E hE oE)⟩
  rcases List.mem_cons.1 hq with rfl | hq
  · exact ht
  · exact on_mix h.on oE q hq
/-- a point that is not held is on the smallest disc with it -/
theorem Best.grow {l R : List (Rat × Rat)} {D D' : Dsc} {p : Rat × Rat} (h : Best l R D) (hp : 0 < f D p) (h' : Best l (p :: R) D') : Best (l ++ [p]) R D' := by
  refine ⟨fun q hq => ?_, fun q hq => h'.on q (List.mem_cons_of_mem _ hq), fun E hE oE => ?_⟩
  · rcases List.mem_append.1 hq with hq | hq
    · exact h'.hold q hq
    · have : q = p := by simpa using hq
      subst this
      have := h'.on q (by simp)
      grind
  · obtain ⟨E', a, b, c⟩ := h.step hp (fun q hq => hE q (by simp [hq])) (hE p (by simp)) oE
    have := h'.min E' a b
    grind
theorem Best.next {l R : List (Rat × Rat)} {D : Dsc} {p : Rat × Rat} (h : Best l R D) (hp : 0 < f D p) (he : ∃ E, Hold E (l ++ [p]) ∧ On E R) : ∃ E', Hold E' l ∧ On E' (p :: R) := by
  obtain ⟨E, hE, oE⟩ := he
  obtain ⟨E', a, b, _⟩ := h.step hp (fun q hq => hE q (by simp [hq])) (hE p (by simp)) oE
  exact ⟨E', a, b⟩
theorem Best.more {l R : List (Rat × Rat)} {D : Dsc} {p : Rat × Rat} (h : Best l R D) (hp : f D p ≤ 0) : Best (l ++ [p]) R D := by
  refine ⟨fun q hq => ?_, h.on, fun E hE oE => h.min E (fun q hq => hE q (by simp [hq])) oE⟩
  rcases List.mem_append.1 hq with hq | hq
  · exact h.hold q hq
  · have : q = p := by simpa using hq
    subst this; exact hp
/-- two discs with three points on both, not on one line, are one -/
theorem three {D E : Dsc} {a b c : Rat × Rat} (hD : On D [a, b, c]) (hE : On E [a, b, c]) (h : (b.1 - a.1) * (c.2 - a.2) - (b.2 - a.2) * (c.1 - a.1) ≠ 0) : D = E := by
  have d1 := hD a (by simp); have d2 := hD b (by simp); have d3 := hD c (by simp)
  have e1 := hE a (by simp); have e2 := hE b (by simp); have e3 := hE c (by simp)
  unfold f at d1 d2 d3 e1 e2 e3
  have k1 : ((b.1 - a.1) * (c.2 - a.2) - (b.2 - a.2) * (c.1 - a.1)) * (D.x - E.x) = 0 := by grind
  have k2 : ((b.1 - a.1) * (c.2 - a.2) - (b.2 - a.2) * (c.1 - a.1)) * (D.y - E.y) = 0 := by grind
  have x : D.x = E.x := by rcases Rat.mul_eq_zero.1 k1 with k | k <;> grind
  have y : D.y = E.y := by rcases Rat.mul_eq_zero.1 k2 with k | k <;> grind
  refine Dsc.ext x y ?_
  rw [x, y] at d1
  grind
end Go.TH.Dsc
namespace Go.TH.Dsc
def alone (p : Rat × Rat) : Dsc := ⟨p.1, p.2, 0⟩
def betw (p q : Rat × Rat) : Dsc := ⟨(p.1 + q.1) * (1/2), (p.2 + q.2) * (1/2), ((p.1 - q.1) * (p.1 - q.1) + (p.2 - q.2) * (p.2 - q.2)) * (1/4)⟩
theorem two_nn (a b : Rat) : 0 ≤ a * a + b * b := by
  have := sq_nn a; have := sq_nn b; grind
theorem two_0 {a b : Rat} (h : a * a + b * b ≤ 0) : a = 0 ∧ b = 0 := by
  have h1 := sq_nn a; have h2 := sq_nn b
  exact ⟨sq_0 (by grind), sq_0 (by grind)⟩
theorem On.s_nn {D : Dsc} {p : Rat × Rat} (h : f D p = 0) : 0 ≤ D.s := by
  have := two_nn (p.1 - D.x) (p.2 - D.y)
  unfold f at h; grind
theorem alone_on (p : Rat × Rat) : On (alone p) [p] := fun q hq => by
  have : q = p := by simpa using hq
  subst this; unfold f alone; dsimp only; grind
theorem alone_best (p : Rat × Rat) : Best [] [p] (alone p) := ⟨fun q hq => by simp at hq, alone_on p, fun E _ oE => On.s_nn (oE p (by simp))⟩
theorem alone_best1 (p : Rat × Rat) : Best [p] [] (alone p) := ⟨fun q hq => by have := alone_on p q hq; grind, fun q hq => by simp at hq, fun E hE _ => by
  have h := hE p (by simp)
  have := two_nn (p.1 - E.x) (p.2 - E.y)
  unfold f at h; unfold alone; dsimp only; grind⟩
theorem betw_on (p q : Rat × Rat) : On (betw p q) [p, q] := fun r hr => by
  have : r = p ∨ r = q := by simpa using hr
  rcases this with rfl | rfl <;> (unfold f betw; dsimp only; grind)
theorem betw_best (p q : Rat × Rat) : Best [] [p, q] (betw p q) := ⟨fun r hr => by simp at hr, betw_on p q, fun E _ oE => by
  have h1 := oE p (by simp)
  have h2 := oE q (by simp)
  unfold f at h1 h2
  have := two_nn (p.1 - E.x + (q.1 - E.x)) (p.2 - E.y + (q.2 - E.y))
  unfold betw; dsimp only; grind⟩
/-- there is a disc that holds all -/
theorem big (l : List (Rat × Rat)) : ∃ E, Hold E l ∧ On E [] := by
  have : ∃ s : Rat, ∀ p ∈ l, p.1 * p.1 + p.2 * p.2 ≤ s := by
    induction l with
    | nil => exact ⟨0, fun p hp => by simp at hp⟩
    | cons a l ih =>
      obtain ⟨s, hs⟩ := ih
      rcases (Rat.le_total : s ≤ a.1 * a.1 + a.2 * a.2 ∨ _) with h | h
      · exact ⟨_, fun p hp => by
          rcases List.mem_cons.1 hp with rfl | hp
          · exact Rat.le_refl
          · exact Rat.le_trans (hs p hp) h⟩
      · exact ⟨s, fun p hp => by
          rcases List.mem_cons.1 hp with rfl | hp
          · exact h
          · exact hs p hp⟩
  obtain ⟨s, hs⟩ := this
  refine ⟨⟨0, 0, s⟩, fun p hp => ?_, fun p hp => by simp at hp⟩
  have := hs p hp
  unfold f; dsimp only; grind
/-- three points on a disc are not on one line -/
theorem not_line {E : Dsc} {p q r : Rat × Rat} (hp : f E p = 0) (hq : f E q = 0) (hr : f E r = 0) (n1 : p ≠ q) (n2 : r ≠ p) (n3 : r ≠ q) : (q.1 - p.1) * (r.2 - p.2) - (q.2 - p.2) * (r.1 - p.1) ≠ 0 := by
  intro h
  obtain ⟨p1, p2⟩ := p
  obtain ⟨q1, q2⟩ := q
  obtain ⟨r1, r2⟩ := r
  unfold f at hp hq hr
  dsimp only at *
  have hn : (q1 - p1) * (q1 - p1) + (q2 - p2) * (q2 - p2) ≠ 0 := fun e => by
    obtain ⟨a, b⟩ := two_0 (a := q1 - p1) (b := q2 - p2) (by rw [e]; exact Rat.le_refl)
    exact n1 (by rw [show p1 = q1 by grind, show p2 = q2 by grind])
  have hu : (q1 - p1) * (q1 - p1) + (q2 - p2) * (q2 - p2) + 2 * ((q1 - p1) * (p1 - E.x) + (q2 - p2) * (p2 - E.y)) = 0 := by grind
  have hv : (r1 - p1) * (r1 - p1) + (r2 - p2) * (r2 - p2) + 2 * ((r1 - p1) * (p1 - E.x) + (r2 - p2) * (p2 - E.y)) = 0 := by grind
  generalize ea : q1 - p1 = a at *
  generalize eb : q2 - p2 = b at *
  generalize ec : r1 - p1 = c at *
  generalize ed : r2 - p2 = d at *
  generalize ex : p1 - E.x = x at *
  generalize ey : p2 - E.y = y at *
  -- n v = k u
  have v1 : (a * a + b * b) * c = (a * c + b * d) * a := by grind
  have v2 : (a * a + b * b) * d = (a * c + b * d) * b := by grind
  have k1 : (a * a + b * b) * (c * c + d * d) = (a * c + b * d) * (a * a + b * b) := by
    have e1 : (a * a + b * b) * (c * x + d * y) = (a * c + b * d) * (a * x + b * y) := by grind
    grind
  have k2 : c * c + d * d = a * c + b * d := by
    have : (a * a + b * b) * (c * c + d * d - (a * c + b * d)) = 0 := by grind
    rcases Rat.mul_eq_zero.1 this with h | h
    · exact absurd h hn
    · grind
  have k3 : (a * c + b * d) * (a * c + b * d - (a * a + b * b)) = 0 := by grind
  rcases Rat.mul_eq_zero.1 k3 with k | k
  · have ⟨z1, z2⟩ := two_0 (show c * c + d * d ≤ (0 : Rat) by rw [k2, k]; exact Rat.le_refl)
    exact n2 (by rw [show r1 = p1 by grind, show r2 = p2 by grind])
  · have ⟨z1, z2⟩ := two_0 (show (c - a) * (c - a) + (d - b) * (d - b) ≤ (0 : Rat) by grind)
    exact n3 (by rw [show r1 = q1 by grind, show r2 = q2 by grind])
/-- of three points that are on a disc it is the only one -/
theorem three_best {l : List (Rat × Rat)} {D : Dsc} {a b c : Rat × Rat} (hD : On D [a, b, c]) (h : (b.1 - a.1) * (c.2 - a.2) - (b.2 - a.2) * (c.1 - a.1) ≠ 0) (he : ∃ E, Hold E l ∧ On E [a, b, c]) : Best l [a, b, c] D := by
  obtain ⟨E, hE, oE⟩ := he
  have e := three hD oE h
  subst e
  exact ⟨hE, hD, fun F hF oF => by rw [three hD oF h]; exact Rat.le_refl⟩
end Go.TH.Dsc
namespace Go.TH.Dsc
/-- the disc through three points -/
def thr (a b c : Rat × Rat) : Dsc :=
  let x1 := b.1 - a.1
  let x2 := b.2 - a.2
  let y1 := c.1 - a.1
  let y2 := c.2 - a.2
  let i := (2 * (x1 * y2 - x2 * y1))⁻¹
  let u := ((x1 * x1 + x2 * x2) * y2 - (y1 * y1 + y2 * y2) * x2) * i
  let v := ((y1 * y1 + y2 * y2) * x1 - (x1 * x1 + x2 * x2) * y1) * i
  ⟨a.1 + u, a.2 + v, u * u + v * v⟩
theorem thr_on {a b c : Rat × Rat} (h : (b.1 - a.1) * (c.2 - a.2) - (b.2 - a.2) * (c.1 - a.1) ≠ 0) : On (thr a b c) [a, b, c] := by
  have hi : (2 * ((b.1 - a.1) * (c.2 - a.2) - (b.2 - a.2) * (c.1 - a.1))) * (2 * ((b.1 - a.1) * (c.2 - a.2) - (b.2 - a.2) * (c.1 - a.1)))⁻¹ = 1 := Rat.mul_inv_cancel _ (by grind)
  generalize hI : (2 * ((b.1 - a.1) * (c.2 - a.2) - (b.2 - a.2) * (c.1 - a.1)))⁻¹ = i at hi
  intro r hr
  have : r = a ∨ r = b ∨ r = c := by simpa using hr
  unfold f thr
  dsimp only
  rw [hI]
  rcases this with rfl | rfl | rfl <;> grind
/-- the first points -/
def pre (l : Nat → Rat × Rat) (k : Nat) : List (Rat × Rat) := (List.range k).map l
theorem pre_succ (l : Nat → Rat × Rat) (k : Nat) : pre l (k + 1) = pre l k ++ [l k] := by unfold pre; rw [List.range_succ, List.map_append]; rfl
theorem hold_pre {E : Dsc} {l : Nat → Rat × Rat} {k : Nat} (h : Hold E (pre l (k + 1))) : Hold E (pre l k) := fun p hp => h p (by rw [pre_succ]; simp [hp])
open Classical in
noncomputable def bothN (l : Nat → Rat × Rat) (p q : Rat × Rat) : Nat → Dsc
  | 0 => betw p q
  | i + 1 => if 0 < f (bothN l p q i) (l i) then thr (l i) p q else bothN l p q i
open Classical in
noncomputable def withN (l : Nat → Rat × Rat) (p : Rat × Rat) : Nat → Dsc
  | 0 => alone p
  | i + 1 => if 0 < f (withN l p i) (l i) then bothN l (l i) p i else withN l p i
open Classical in
noncomputable def grownN (l : Nat → Rat × Rat) : Nat → Dsc
  | 0 => alone (l 0)
  | i + 1 => if 0 < f (grownN l i) (l (i + 1)) then withN l (l (i + 1)) (i + 1) else grownN l i
theorem ne_of {D : Dsc} {p r : Rat × Rat} (h0 : f D p = 0) (h : 0 < f D r) : r ≠ p := fun e => by subst e; grind
theorem both_best {l : Nat → Rat × Rat} {p q : Rat × Rat} (hn : p ≠ q) : ∀ {k : Nat}, (∃ E, Hold E (pre l k) ∧ On E [p, q]) → Best (pre l k) [p, q] (bothN l p q k)
  | 0, _ => betw_best p q
  | k + 1, he => by
    obtain ⟨E, hE, oE⟩ := he
    have ih := both_best (l := l) hn (k := k) ⟨E, hold_pre hE, oE⟩
    rw [pre_succ]
    unfold bothN
    split
    · rename_i hp
      obtain ⟨E', a, b⟩ := ih.next hp ⟨E, by rw [← pre_succ]; exact hE, oE⟩
      have nl := not_line (E := E') (p := p) (q := q) (r := l k) (b p (by simp)) (b q (by simp)) (b (l k) (by simp)) hn (ne_of (ih.on p (by simp)) hp) (ne_of (ih.on q (by simp)) hp)
      have nl' : (p.1 - (l k).1) * (q.2 - (l k).2) - (p.2 - (l k).2) * (q.1 - (l k).1) ≠ 0 := fun e => nl (by grind)
      exact ih.grow hp (three_best (thr_on nl') nl' ⟨E', a, b⟩)
    · rename_i hp
      exact ih.more (Rat.not_lt.1 hp)
theorem with_best {l : Nat → Rat × Rat} {p : Rat × Rat} : ∀ {k : Nat}, (∃ E, Hold E (pre l k) ∧ On E [p]) → Best (pre l k) [p] (withN l p k)
  | 0, _ => alone_best p
  | k + 1, he => by
    obtain ⟨E, hE, oE⟩ := he
    have ih := with_best (l := l) (k := k) ⟨E, hold_pre hE, oE⟩
    rw [pre_succ]
    unfold withN
    split
    · rename_i hp
      exact ih.grow hp (both_best (ne_of (ih.on p (by simp)) hp) (ih.next hp ⟨E, by rw [← pre_succ]; exact hE, oE⟩))
    · rename_i hp
      exact ih.more (Rat.not_lt.1 hp)
/-- the smallest disc of points -/
theorem grown_best (l : Nat → Rat × Rat) : ∀ k : Nat, Best (pre l (k + 1)) [] (grownN l k)
  | 0 => alone_best1 (l 0)
  | k + 1 => by
    have ih := grown_best l k
    rw [pre_succ]
    unfold grownN
    split
    · rename_i hp
      exact ih.grow hp (with_best (ih.next hp (big _)))
    · rename_i hp
      exact ih.more (Rat.not_lt.1 hp)
end Go.TH.Dsc
namespace Go.TH.Dsc
/-- the middle, by weights of three points that are on the disc -/
structure Mid (D : Dsc) (r s t : Rat × Rat) (u v w : Rat) : Prop where
  one : u + v + w = 1
  x : u * r.1 + v * s.1 + w * t.1 = D.x
  y : u * r.2 + v * s.2 + w * t.2 = D.y
  on : On D [r, s, t]
theorem Mid.sum {D : Dsc} {r s t : Rat × Rat} {u v w : Rat} (h : Mid D r s t u v w) (E : Dsc) :
    u * f E r + v * f E s + w * f E t = (D.x - E.x) * (D.x - E.x) + (D.y - E.y) * (D.y - E.y) + D.s - E.s := by
  have h1 : u * f D r = 0 := by rw [h.on r (by simp)]; grind
  have h2 : v * f D s = 0 := by rw [h.on s (by simp)]; grind
  have h3 : w * f D t = 0 := by rw [h.on t (by simp)]; grind
  have k1 := h.one; have k2 := h.x; have k3 := h.y
  have e1 : ∀ p : Rat × Rat, f E p - f D p = 2 * (D.x - E.x) * p.1 + 2 * (D.y - E.y) * p.2 + (E.x * E.x - D.x * D.x + E.y * E.y - D.y * D.y - E.s + D.s) := fun p => by unfold f; grind
  have e2 : u * (f E r - f D r) + v * (f E s - f D s) + w * (f E t - f D t) = 2 * (D.x - E.x) * (u * r.1 + v * s.1 + w * t.1) + 2 * (D.y - E.y) * (u * r.2 + v * s.2 + w * t.2) + (u + v + w) * (E.x * E.x - D.x * D.x + E.y * E.y - D.y * D.y - E.s + D.s) := by
    rw [e1, e1, e1]; grind
  rw [k1, k2, k3] at e2
  grind
theorem Mid.nn {D : Dsc} {r s t : Rat × Rat} {u v w : Rat} (h : Mid D r s t u v w) {E : Dsc} (hs : E.s ≤ D.s) : 0 ≤ u * f E r + v * f E s + w * f E t := by
  rw [h.sum E]
  have := two_nn (D.x - E.x) (D.y - E.y)
  grind
/-- a middle between three points -/
theorem Mid.best {D : Dsc} {r s t : Rat × Rat} {u v w : Rat} (h : Mid D r s t u v w) (hu : 0 ≤ u) (hv : 0 ≤ v) (hw : 0 ≤ w) : Best [r, s, t] [] D := by
  refine ⟨fun p hp => by rw [h.on p hp]; exact Rat.le_refl, fun p hp => by simp at hp, fun E hE _ => ?_⟩
  have a := Rat.mul_nonneg hu (show 0 ≤ -f E r by have := hE r (by simp); grind)
  have b := Rat.mul_nonneg hv (show 0 ≤ -f E s by have := hE s (by simp); grind)
  have c := Rat.mul_nonneg hw (show 0 ≤ -f E t by have := hE t (by simp); grind)
  have k := h.sum E
  have := two_nn (D.x - E.x) (D.y - E.y)
  grind
theorem Best.sub {l l' R : List (Rat × Rat)} {D : Dsc} (h : Best l R D) (hs : ∀ p ∈ l, p ∈ l') (h' : Hold D l') : Best l' R D := ⟨h', h.on, fun E hE oE => h.min E (fun p hp => hE p (hs p hp)) oE⟩
theorem bary {a b c : Rat × Rat} (h : (b.1 - a.1) * (c.2 - a.2) - (b.2 - a.2) * (c.1 - a.1) ≠ 0) (x y : Rat) : ∃ u v w : Rat, u + v + w = 1 ∧ u * a.1 + v * b.1 + w * c.1 = x ∧ u * a.2 + v * b.2 + w * c.2 = y := by
  have hi : ((b.1 - a.1) * (c.2 - a.2) - (b.2 - a.2) * (c.1 - a.1)) * ((b.1 - a.1) * (c.2 - a.2) - (b.2 - a.2) * (c.1 - a.1))⁻¹ = 1 := Rat.mul_inv_cancel _ h
  generalize ((b.1 - a.1) * (c.2 - a.2) - (b.2 - a.2) * (c.1 - a.1))⁻¹ = i at hi
  refine ⟨1 - ((x - a.1) * (c.2 - a.2) - (y - a.2) * (c.1 - a.1)) * i - ((b.1 - a.1) * (y - a.2) - (b.2 - a.2) * (x - a.1)) * i, ((x - a.1) * (c.2 - a.2) - (y - a.2) * (c.1 - a.1)) * i, ((b.1 - a.1) * (y - a.2) - (b.2 - a.2) * (x - a.1)) * i, by grind, ?_, ?_⟩ <;> grind
theorem both_step {l : List (Rat × Rat)} {p q r : Rat × Rat} {D : Dsc} (hn : p ≠ q) (hb : Best l [p, q] D) (hp : 0 < f D r) (he : ∃ E, Hold E (l ++ [r]) ∧ On E [p, q]) :
    (p.1 - r.1) * (q.2 - r.2) - (p.2 - r.2) * (q.1 - r.1) ≠ 0 ∧ Best (l ++ [r]) [p, q] (thr r p q) := by
  obtain ⟨E', a, b⟩ := hb.next hp he
  have nl := not_line (E := E') (p := p) (q := q) (r := r) (b p (by simp)) (b q (by simp)) (b r (by simp)) hn (ne_of (hb.on p (by simp)) hp) (ne_of (hb.on q (by simp)) hp)
  have nl' : (p.1 - r.1) * (q.2 - r.2) - (p.2 - r.2) * (q.1 - r.1) ≠ 0 := fun e => nl (by grind)
  exact ⟨nl', hb.grow hp (three_best (thr_on nl') nl' ⟨E', a, b⟩)⟩
theorem nn_of {a b : Rat} (h : 0 < b) (hm : 0 ≤ a * b) : 0 ≤ a := by
  rcases (Rat.le_total : 0 ≤ a ∨ a ≤ 0) with g | g
  · exact g
  · have := Rat.mul_nonneg (a := -a) (b := b) (by grind) (by grind)
    have e : a * b = 0 := by grind
    rcases Rat.mul_eq_zero.1 e with e | e <;> grind
theorem Mid.betw (p q : Rat × Rat) : Mid (betw p q) p p q 0 (1/2) (1/2) := ⟨by grind, by unfold Dsc.betw; dsimp only; grind, by unfold Dsc.betw; dsimp only; grind, fun x hx => betw_on p q x (by simp at hx ⊢; rcases hx with rfl | rfl | rfl <;> simp)⟩
theorem Mid.alone (p : Rat × Rat) : Mid (alone p) p p p 0 0 1 := ⟨by grind, by unfold Dsc.alone; dsimp only; grind, by unfold Dsc.alone; dsimp only; grind, fun x hx => alone_on p x (by simp at hx ⊢; rcases hx with rfl | rfl | rfl <;> simp)⟩
theorem both_cert {l : Nat → Rat × Rat} {p q : Rat × Rat} (hn : p ≠ q) : ∀ {k : Nat}, (∃ E, Hold E (pre l k) ∧ On E [p, q]) → ∃ r u v w, (r ∈ pre l k ∨ (u = 0 ∧ r = p)) ∧ 0 ≤ u ∧ Mid (bothN l p q k) r p q u v w
  | 0, _ => ⟨p, 0, 1/2, 1/2, .inr ⟨rfl, rfl⟩, Rat.le_refl, Mid.betw p q⟩
  | k + 1, he => by
    obtain ⟨E, hE, oE⟩ := he
    have hb := both_best (l := l) hn (k := k) ⟨E, hold_pre hE, oE⟩
    have hb' := both_best (l := l) hn (k := k + 1) ⟨E, hE, oE⟩
    obtain ⟨r, u, v, w, hr, hu, hm⟩ := both_cert (l := l) hn (k := k) ⟨E, hold_pre hE, oE⟩
    unfold bothN at hb' ⊢
    split
    · rename_i hp
      rw [if_pos hp] at hb'
      obtain ⟨nl, _⟩ := both_step hn hb hp ⟨E, by rw [← pre_succ]; exact hE, oE⟩
      obtain ⟨u', v', w', h1, h2, h3⟩ := bary nl (thr (l k) p q).x (thr (l k) p q).y
      have m : Mid (thr (l k) p q) (l k) p q u' v' w' := ⟨h1, h2, h3, thr_on nl⟩
      have := m.nn (hb.min _ (hold_pre hb'.hold) hb'.on)
      rw [hb.on p (by simp), hb.on q (by simp)] at this
      exact ⟨l k, u', v', w', .inl (by rw [pre_succ]; simp), nn_of hp (by grind), m⟩
    · exact ⟨r, u, v, w, hr.imp (fun h => by rw [pre_succ]; simp [h]) id, hu, hm⟩
theorem with_cert {l : Nat → Rat × Rat} {p : Rat × Rat} : ∀ {k : Nat}, (∃ E, Hold E (pre l k) ∧ On E [p]) → ∃ r s u v w, (r ∈ pre l k ∨ (u = 0 ∧ r = p)) ∧ (s ∈ pre l k ∨ (v = 0 ∧ s = p)) ∧ 0 ≤ u ∧ 0 ≤ v ∧ Mid (withN l p k) r s p u v w
  | 0, _ => ⟨p, p, 0, 0, 1, .inr ⟨rfl, rfl⟩, .inr ⟨rfl, rfl⟩, Rat.le_refl, Rat.le_refl, Mid.alone p⟩
  | k + 1, he => by
    obtain ⟨E, hE, oE⟩ := he
    have hb := with_best (l := l) (k := k) ⟨E, hold_pre hE, oE⟩
    have hb' := with_best (l := l) (k := k + 1) ⟨E, hE, oE⟩
    obtain ⟨r, s, u, v, w, hr, hs, hu, hv, hm⟩ := with_cert (l := l) (k := k) ⟨E, hold_pre hE, oE⟩
    unfold withN at hb' ⊢
    split
    · rename_i hp
      rw [if_pos hp] at hb'
      have hn := ne_of (hb.on p (by simp)) hp
      obtain ⟨r', u', v', w', hr', hu', m⟩ := both_cert (l := l) hn (k := k) (hb.next hp ⟨E, by rw [← pre_succ]; exact hE, oE⟩)
      have k1 := m.nn (hb.min _ (hold_pre hb'.hold) hb'.on)
      rw [hb.on p (by simp)] at k1
      have k2 : 0 ≤ -(u' * f (withN l p k) r') := by
        rcases hr' with h | ⟨h, _⟩
        · have := Rat.mul_nonneg hu' (show 0 ≤ -f (withN l p k) r' by have := hb.hold _ h; grind)
          grind
        · rw [h]; grind
      refine ⟨r', l k, u', v', w', ?_, .inl (by rw [pre_succ]; simp), hu', nn_of hp (by grind), m⟩
      rcases hr' with h | ⟨_, h⟩
      · exact .inl (by rw [pre_succ]; simp [h])
      · exact .inl (by rw [pre_succ, h]; simp)
    · exact ⟨r, s, u, v, w, hr.imp (fun h => by rw [pre_succ]; simp [h]) id, hs.imp (fun h => by rw [pre_succ]; simp [h]) id, hu, hv, hm⟩
theorem grown_cert (l : Nat → Rat × Rat) : ∀ k : Nat, ∃ r s t u v w, r ∈ pre l (k + 1) ∧ s ∈ pre l (k + 1) ∧ t ∈ pre l (k + 1) ∧ 0 ≤ u ∧ 0 ≤ v ∧ 0 ≤ w ∧ Mid (grownN l k) r s t u v w
  | 0 => ⟨l 0, l 0, l 0, 0, 0, 1, by simp [pre], by simp [pre], by simp [pre], Rat.le_refl, Rat.le_refl, by grind, Mid.alone _⟩
  | k + 1 => by
    have hb := grown_best l k
    have hb' := grown_best l (k + 1)
    obtain ⟨r, s, t, u, v, w, hr, hs, ht, hu, hv, hw, hm⟩ := grown_cert l k
    unfold grownN at hb' ⊢
    split
    · rename_i hp
      rw [if_pos hp] at hb'
      obtain ⟨r', s', u', v', w', hr', hs', hu', hv', m⟩ := with_cert (l := l) (p := l (k + 1)) (k := k + 1) (hb.next hp (big _))
      have k1 := m.nn (hb.min _ (hold_pre hb'.hold) hb'.on)
      have k2 : 0 ≤ -(u' * f (grownN l k) r') := by
        rcases hr' with h | ⟨h, _⟩
        · have := Rat.mul_nonneg hu' (show 0 ≤ -f (grownN l k) r' by have := hb.hold _ h; grind)
          grind
        · rw [h]; grind
      have k3 : 0 ≤ -(v' * f (grownN l k) s') := by
        rcases hs' with h | ⟨h, _⟩
        · have := Rat.mul_nonneg hv' (show 0 ≤ -f (grownN l k) s' by have := hb.hold _ h; grind)
          grind
        · rw [h]; grind
      refine ⟨r', s', l (k + 1), u', v', w', ?_, ?_, by rw [pre_succ]; simp, hu', hv', nn_of hp (by grind), m⟩
      · rcases hr' with h | ⟨_, h⟩
        · rw [pre_succ]; simp [h]
        · rw [pre_succ, h]; simp
      · rcases hs' with h | ⟨_, h⟩
        · rw [pre_succ]; simp [h]
        · rw [pre_succ, h]; simp
    · exact ⟨r, s, t, u, v, w, by rw [pre_succ]; simp [hr], by rw [pre_succ]; simp [hs], by rw [pre_succ]; simp [ht], hu, hv, hw, hm⟩
theorem pre_getD (l : List (Rat × Rat)) (z : Rat × Rat) : pre (fun i => l.getD i z) l.length = l := by
  unfold pre
  apply List.ext_getElem
  · simp
  · intro i h1 h2; simp [h2]
/-- the smallest disc of some points, and three of them that prove it -/
theorem best_ex {l : List (Rat × Rat)} (h : l ≠ []) : ∃ D, Best l [] D ∧ ∃ r s t u v w, r ∈ l ∧ s ∈ l ∧ t ∈ l ∧ 0 ≤ u ∧ 0 ≤ v ∧ 0 ≤ w ∧ Mid D r s t u v w := by
  obtain ⟨k, hk⟩ : ∃ k, l.length = k + 1 := ⟨l.length - 1, by have := List.length_pos_iff.2 h; omega⟩
  have e := pre_getD l (0, 0)
  rw [hk] at e
  have hb := grown_best (fun i => l.getD i (0, 0)) k
  obtain ⟨r, s, t, u, v, w, hr, hs, ht, hu, hv, hw, hm⟩ := grown_cert (fun i => l.getD i (0, 0)) k
  rw [e] at hb hr hs ht
  exact ⟨_, hb, r, s, t, u, v, w, hr, hs, ht, hu, hv, hw, hm⟩
end Go.TH.Dsc
namespace Go.Proofs.Ytkhplcncfogolaa
open Go Go.TH
attribute [local irreducible] W WO pt
set_option maxRecDepth 10000
/-- the greatest common divisor -/
def gcd2 (a b : Int) : Int := (Nat.gcd a.toNat b.toNat : Nat)
theorem gcd2_zero {a : Int} (h : 0 ≤ a) : gcd2 a 0 = a := by simp [gcd2]; omega
theorem gcd2_step {a b : Int} (ha : 0 ≤ a) (hb : 0 < b) : gcd2 b (a.tmod b) = gcd2 a b := by
  unfold gcd2
  obtain ⟨n, rfl⟩ := Int.eq_ofNat_of_zero_le ha
  obtain ⟨m, rfl⟩ := Int.eq_ofNat_of_zero_le (Int.le_of_lt hb)
  rw [Int.tmod_eq_emod_of_nonneg (by omega), ← Int.natCast_emod]
  simp only [Int.toNat_natCast]
  rw [Nat.gcd_comm m (n % m), ← Nat.gcd_rec, Nat.gcd_comm]
theorem tmod_lt {a b : Int} (ha : 0 ≤ a) (hb : 0 < b) : 0 ≤ a.tmod b ∧ a.tmod b < b := ⟨Int.tmod_nonneg b ha, Int.tmod_lt_of_pos a hb⟩
theorem gcd2_pos {a b : Int} (ha : 0 ≤ a) (hb : 0 < b) : 0 < gcd2 a b := by
  unfold gcd2
  have : 0 < Nat.gcd a.toNat b.toNat := Nat.gcd_pos_of_pos_right _ (by omega)
  omega
theorem gcd2_le {a b : Int} (ha : 0 ≤ a) (hb : 0 < b) : gcd2 a b ≤ b := by
  unfold gcd2
  have : Nat.gcd a.toNat b.toNat ≤ b.toNat := Nat.gcd_le_right _ (by omega)
  omega
theorem tdiv_in {a b : Int} (ha : 0 ≤ a) (hb : 0 < b) (h : in64 a) : in64 (a.tdiv b) := by
  unfold in64 at *
  have h1 : 0 ≤ a.tdiv b := Int.tdiv_nonneg ha (by omega)
  have h2 : a.tdiv b ≤ a := by
    rw [Int.tdiv_eq_ediv_of_nonneg ha]
    exact Int.ediv_le_self _ ha
  omega
theorem gcd2_0 {a : Int} (h : 0 ≤ a) : gcd2 0 a = a := by unfold gcd2; rw [show (0 : Int).toNat = 0 from rfl, Nat.gcd_zero_left]; omega
theorem gcd2_nn (a b : Int) : 0 ≤ gcd2 a b := by unfold gcd2; omega
/-- a number without its sign -/
def ab (n : Int) : Int := max n (-n)
theorem ab_nn (n : Int) : 0 ≤ ab n := by unfold ab; omega
/-- a fraction in least terms -/
def red (n d : Int) : Int × Int := (n.tdiv (gcd2 (ab n) d), d.tdiv (gcd2 (ab n) d))
/-- the greatest common divisor of all -/
def gcdL (l : List Int) : Int := l.foldl gcd2 0
theorem tdiv_ab {a b : Int} (hb : 0 < b) : ab (a.tdiv b) ≤ ab a := by
  unfold ab
  have h1 : a.tdiv b ≤ max a (-a) := by
    rcases Int.le_total 0 a with h | h
    · have := Int.tdiv_le_self b h; omega
    · have h2 : a.tdiv b = -((-a).tdiv b) := by rw [Int.neg_tdiv, Int.neg_neg]
      have := Int.tdiv_nonneg (a := -a) (b := b) (by omega) (by omega)
      omega
  have h2 : -(a.tdiv b) ≤ max a (-a) := by
    rcases Int.le_total 0 a with h | h
    · have := Int.tdiv_nonneg (a := a) (b := b) h (by omega); omega
    · have h2 : a.tdiv b = -((-a).tdiv b) := by rw [Int.neg_tdiv, Int.neg_neg]
      have := Int.tdiv_le_self (a := -a) b (by omega)
      omega
  omega
theorem ref_gcd (w : World) (a b : Int) (ha : 0 ≤ a) (hb : 0 ≤ b) :
    Ret Try.prog 75 [.int .i64 a, .int .i64 b].toArray w (.int .i64 (gcd2 a b)) := by
  refine Ret.of mixed tyTab Try.func75 rfl rfl ?_
  refine W.sreg ?_
  refine WO.p rfl rfl ?_
  refine WO.nil ?_
  refine W.seq ?_
  refine W.block ?_
  refine W.loop2 (fun (x : Int) (y : Int) => 0 ≤ x ∧ 0 ≤ y ∧ gcd2 x y = gcd2 a b)
    (fun (x : Int) (y : Int) => [(0, .int .i64 x), (1, .int .i64 y)])
    (fun (x : Int) (y : Int) => [])
    (fun (x : Int) (y : Int) => y.toNat) a b
    (by exact ⟨ha, hb, rfl⟩) ⟨rfl, rfl, trivial⟩ (by repeat (first | exact Sub.nil | refine Sub.cons (by repeat (first | exact Pick.head | apply Pick.tail)) ?_)) ?_
  rintro x y ⟨hx, hy, hg⟩
  refine W.seq ?_
  refine W.sreg ?_
  refine WO.p rfl rfl (WO.p rfl rfl ?_)
  refine WO.nil ?_
  refine W.cond_bl rfl (fun c1 => ?_) (fun c1 => ?_)
  · first
    | (exfalso; omega)
    | (refine W.skip ?_
       refine W.block ?_
       refine W.drawD 5 [.r 0 [], .r 1 [], .r 2 [0], .r 3 [0], .r 4 [0]] [0] (A0 := []) (Sub.refl _) (by kernel_rfl) ?_ ?_
       · exact (ALok.r (ALok.r (ALok.r (ALok.r (ALok.r ALok.nil)))))
       refine' DT.r rfl rfl rfl ?hq ?_
       case hq =>
         refine WO.p rfl rfl ?_
         exact WO.nil ⟨rfl, rfl⟩
       refine' DT.r rfl rfl rfl ?hq ?_
       case hq =>
         refine WO.p rfl rfl ?_
         exact WO.nil ⟨rfl, rfl⟩
       refine' DT.r rfl rfl rfl ?hq ?_
       case hq =>
         refine WO.p rfl rfl ?_
         exact WO.nil ⟨rfl, rfl⟩
       refine' DT.r rfl rfl rfl ?hq ?_
       case hq =>
         refine WO.rem rfl rfl (by first | omega | assumption) rfl ?_
         exact WO.nil ⟨rfl, rfl⟩
       refine' DT.r rfl rfl rfl ?hq ?_
       case hq =>
         refine WO.p rfl rfl ?_
         exact WO.nil ⟨rfl, rfl⟩
       refine DT.nil [] rfl ?_
       refine WO.p rfl rfl ?_
       refine WO.nil ?_
       refine' ⟨_, _, ?hp, ?hmu, ⟨rfl, rfl, trivial⟩, ?hS⟩
       case hS => repeat (first | exact Sub.nil | refine Sub.cons (by repeat (first | exact Pick.head | apply Pick.tail)) ?_)
       case hp => exact ⟨hy, (tmod_lt hx (by omega)).1, by rw [gcd2_step hx (by omega)]; exact hg⟩
       case hmu => have := tmod_lt hx (show 0 < y by omega); omega)
  · first
    | (exfalso; omega)
    | (refine W.exit (blk_same ?_)
       refine W.sreg ?_
       refine WO.p rfl rfl (WO.p rfl rfl ?_)
       refine WO.nil ?_
       refine W.ret ?_
       refine fin.ret (Res.one rfl (RV.tmp rfl)) ?_
       obtain rfl : y = 0 := by omega
       rw [← hg, gcd2_zero hx])
theorem ref_amount (w : World) (n : Int) (h : in64 (-n)) : Ret Try.prog 76 [.int .i64 n].toArray w (.int .i64 (ab n)) := by
  refine Ret.of mixed tyTab Try.func76 rfl rfl ?_
  refine W.sreg ?_
  refine WO.p rfl rfl ?_
  refine WO.nil ?_
  refine W.sreg ?_
  refine WO.p rfl rfl (WO.p rfl rfl (WO.neg rfl (by (first | (unfold in64; omega) | assumption)) rfl ?_))
  refine WO.max2 rfl rfl rfl ?_
  refine WO.p rfl rfl ?_
  refine WO.nil ?_
  refine W.ret ?_
  exact fin.ret (Res.one rfl (RV.tmp rfl)) rfl
end Go.Proofs.Ytkhplcncfogolaa
namespace Go.Proofs.Ytkhplcncfogolaa
open Go Go.TH
attribute [local irreducible] W WO pt
set_option maxRecDepth 10000
set_option maxHeartbeats 1000000
/-- -1, 0 or 1 -/
def sgn (x y : Int) : Int := if x < y then -1 else if y < x then 1 else 0
/-- a fraction and another one -/
def cmp (a b c d : Int) : Int := sgn (a * d) (c * b)
theorem sgn_in (x y : Int) : -1 ≤ sgn x y ∧ sgn x y ≤ 1 := by unfold sgn; split <;> (try split) <;> omega
theorem sgn_neg (x y : Int) : sgn y x = -(sgn x y) := by unfold sgn; split <;> (try split) <;> (try split) <;> omega
theorem div_lt {a b c d : Int} (ha : 0 ≤ a) (hb : 0 < b) (hc : 0 ≤ c) (hd : 0 < d) (h : a.tdiv b < c.tdiv d) : a * d < c * b := by
  rw [Int.tdiv_eq_ediv_of_nonneg ha, Int.tdiv_eq_ediv_of_nonneg hc] at h
  have a1 := Int.mul_ediv_add_emod a b
  have a2 := Int.emod_lt_of_pos a hb
  have c1 := Int.mul_ediv_add_emod c d
  have c2 := Int.emod_nonneg c (show d ≠ 0 by omega)
  have h1 : a + 1 ≤ (c / d) * b := by
    have := Int.mul_le_mul_of_nonneg_right (show a / b + 1 ≤ c / d by omega) (show 0 ≤ b by omega)
    rw [Int.add_mul, Int.mul_comm (a / b) b] at this
    omega
  have h2 := Int.mul_le_mul_of_nonneg_right h1 (show 0 ≤ d by omega)
  have h3 : (c / d) * d ≤ c := by rw [Int.mul_comm]; omega
  have h4 := Int.mul_le_mul_of_nonneg_right h3 (show 0 ≤ b by omega)
  rw [Int.add_mul] at h2
  have e : (c / d) * b * d = (c / d) * d * b := by grind
  omega
theorem cmp_lt {a b c d : Int} (ha : 0 ≤ a) (hb : 0 < b) (hc : 0 ≤ c) (hd : 0 < d) (h : a.tdiv b < c.tdiv d) : cmp a b c d = -1 := by
  unfold cmp sgn; rw [if_pos (div_lt ha hb hc hd h)]
theorem cmp_gt {a b c d : Int} (ha : 0 ≤ a) (hb : 0 < b) (hc : 0 ≤ c) (hd : 0 < d) (h : c.tdiv d < a.tdiv b) : cmp a b c d = 1 := by
  have := div_lt hc hd ha hb h
  unfold cmp sgn; rw [if_neg (by omega), if_pos this]
theorem cmp_mod {a b c d : Int} (h : a.tdiv b = c.tdiv d) : cmp a b c d = cmp (a.tmod b) b (c.tmod d) d := by
  have a1 := Int.mul_tdiv_add_tmod a b
  have c1 := Int.mul_tdiv_add_tmod c d
  unfold cmp
  generalize a.tmod b = x at *
  generalize c.tmod d = y at *
  rw [h] at a1
  generalize c.tdiv d = q at *
  have e1 : a * d = b * q * d + x * d := by rw [← a1]; grind
  have e2 : c * b = b * q * d + y * b := by rw [← c1]; grind
  rw [e1, e2]
  unfold sgn
  split <;> split <;> (try split) <;> (try split) <;> omega
theorem cmp_00 {b d : Int} : cmp 0 b 0 d = 0 := by unfold cmp sgn; simp
theorem cmp_0l {b c d : Int} (hb : 0 < b) (hc : 0 < c) : cmp 0 b c d = -1 := by
  have := Int.mul_pos hc hb
  unfold cmp sgn; rw [if_pos (by omega)]
theorem cmp_0r {a b d : Int} (ha : 0 < a) (hd : 0 < d) : cmp a b 0 d = 1 := by
  have := Int.mul_pos ha hd
  unfold cmp sgn; rw [if_neg (by omega), if_pos (by omega)]
theorem cmp_turn (a b c d : Int) : cmp d c b a = cmp a b c d := by
  unfold cmp; rw [Int.mul_comm d a, Int.mul_comm b c]
theorem cmp_flip (a b c d : Int) : cmp b a d c = -(cmp a b c d) := by
  unfold cmp; rw [← sgn_neg, Int.mul_comm b c, Int.mul_comm d a]
theorem ref_Compare (w : World) (a b c d : Int) (ha : 0 ≤ a) (hb : 0 < b) (hc : 0 ≤ c) (hd : 0 < d) (ia : in64 a) (ib : in64 b) (ic : in64 c) (id' : in64 d) : Ret Try.prog 27 [.int .i64 a, .int .i64 b, .int .i64 c, .int .i64 d].toArray w (.int .i64 (cmp a b c d)) := by
  refine Ret.of mixed tyTab Try.func27 rfl rfl ?_
  refine W.sreg ?_
  refine WO.p rfl rfl ?_
  refine WO.nil ?_
  refine W.sreg ?_
  refine WO.p rfl rfl ?_
  refine WO.nil ?_
  refine W.block ?_
  refine W.loop5 (fun (p : Int) (q : Int) (r : Int) (s : Int) (g : Int) => 0 ≤ p ∧ 0 < q ∧ 0 ≤ r ∧ 0 < s ∧ (g = 1 ∨ g = -1) ∧ g * cmp p q r s = cmp a b c d ∧ in64 p ∧ in64 q ∧ in64 r ∧ in64 s)
    (fun (p : Int) (q : Int) (r : Int) (s : Int) (g : Int) => [(9, .int .i64 g), (0, .int .i64 p), (1, .int .i64 q), (2, .int .i64 r), (3, .int .i64 s)])
    (fun (p : Int) (q : Int) (r : Int) (s : Int) (g : Int) => [])
    (fun (p : Int) (q : Int) (r : Int) (s : Int) (g : Int) => q.toNat) a b c d 1
    (by exact ⟨ha, hb, hc, hd, .inl rfl, Int.one_mul _, ia, ib, ic, id'⟩) ⟨rfl, rfl, rfl, rfl, rfl, trivial⟩ (by repeat (first | exact Sub.nil | refine Sub.cons (by repeat (first | exact Pick.head | apply Pick.tail)) ?_)) ?_
  rintro p q r s g ⟨h1, h2, h3, h4, h5, h6, i1, i2, i3, i4⟩
  refine W.block ?_
  refine W.seq ?_
  refine W.seq ?_
  refine W.drawD 6 [.r 0 [], .r 1 [], .r 2 [], .r 3 [], .r 4 [], .r 5 []] [] (A0 := []) (Sub.refl _) (by kernel_rfl) ?_ ?_
  · exact (ALok.r (ALok.r (ALok.r (ALok.r (ALok.r (ALok.r ALok.nil))))))
  refine' DT.r rfl rfl rfl ?hq ?_
  case hq =>
    refine WO.p rfl rfl ?_
    exact WO.nil ⟨rfl, rfl⟩
  refine' DT.r rfl rfl rfl ?hq ?_
  case hq =>
    refine WO.p rfl rfl ?_
    exact WO.nil ⟨rfl, rfl⟩
  refine' DT.r rfl rfl rfl ?hq ?_
  case hq =>
    refine WO.quo rfl rfl (by first | omega | assumption) (by (first | (unfold in64; omega) | exact tdiv_in h1 h2 i1 | exact tdiv_in h3 h4 i3 | (unfold in64; omega))) rfl ?_
    exact WO.nil ⟨rfl, rfl⟩
  refine' DT.r rfl rfl rfl ?hq ?_
  case hq =>
    refine WO.p rfl rfl ?_
    exact WO.nil ⟨rfl, rfl⟩
  refine' DT.r rfl rfl rfl ?hq ?_
  case hq =>
    refine WO.p rfl rfl ?_
    exact WO.nil ⟨rfl, rfl⟩
  refine' DT.r rfl rfl rfl ?hq ?_
  case hq =>
    refine WO.quo rfl rfl (by first | omega | assumption) (by (first | (unfold in64; omega) | exact tdiv_in h1 h2 i1 | exact tdiv_in h3 h4 i3 | (unfold in64; omega))) rfl ?_
    exact WO.nil ⟨rfl, rfl⟩
  refine DT.nil [] rfl ?_
  refine WO.p rfl rfl ?_
  refine WO.nil ?_
  refine W.cond_bl rfl (fun c1 => ?_) (fun c1 => ?_)
  · first
    | (exfalso; omega)
    | (refine W.seq ?_
       refine W.seq ?_
       refine W.drawD 6 [.r 0 [], .r 1 [], .r 2 [], .r 3 [], .r 4 [], .r 5 []] [] (A0 := []) (Sub.refl _) (by kernel_rfl) ?_ ?_
       · exact (ALok.r (ALok.r (ALok.r (ALok.r (ALok.r (ALok.r ALok.nil))))))
       refine' DT.r rfl rfl rfl ?hq ?_
       case hq =>
         refine WO.p rfl rfl ?_
         exact WO.nil ⟨rfl, rfl⟩
       refine' DT.r rfl rfl rfl ?hq ?_
       case hq =>
         refine WO.p rfl rfl ?_
         exact WO.nil ⟨rfl, rfl⟩
       refine' DT.r rfl rfl rfl ?hq ?_
       case hq =>
         refine WO.quo rfl rfl (by first | omega | assumption) (by (first | (unfold in64; omega) | exact tdiv_in h1 h2 i1 | exact tdiv_in h3 h4 i3 | (unfold in64; omega))) rfl ?_
         exact WO.nil ⟨rfl, rfl⟩
       refine' DT.r rfl rfl rfl ?hq ?_
       case hq =>
         refine WO.p rfl rfl ?_
         exact WO.nil ⟨rfl, rfl⟩
       refine' DT.r rfl rfl rfl ?hq ?_
       case hq =>
         refine WO.p rfl rfl ?_
         exact WO.nil ⟨rfl, rfl⟩
       refine' DT.r rfl rfl rfl ?hq ?_
       case hq =>
         refine WO.quo rfl rfl (by first | omega | assumption) (by (first | (unfold in64; omega) | exact tdiv_in h1 h2 i1 | exact tdiv_in h3 h4 i3 | (unfold in64; omega))) rfl ?_
         exact WO.nil ⟨rfl, rfl⟩
       refine DT.nil [] rfl ?_
       refine WO.p rfl rfl ?_
       refine WO.nil ?_
       refine W.cond_bl rfl (fun c2 => ?_) (fun c2 => ?_)
       · first
         | (exfalso; omega)
         | (refine W.sreg ?_
            refine WO.p rfl rfl (WO.neg rfl (by (first | (unfold in64; omega) | exact tdiv_in h1 h2 i1 | exact tdiv_in h3 h4 i3 | (unfold in64; omega))) rfl (WO.p rfl rfl ?_))
            refine WO.nil ?_
            refine W.ret ?_
            refine fin.ret (Res.one rfl (RV.tmp rfl)) (congrArg (Value.int .i64) ?_)
            first | (rw [← h6, cmp_lt h1 h2 h3 h4 (by omega)]; omega) | (rw [← h6, cmp_gt h1 h2 h3 h4 (by omega)]; omega) | (rw [← h6, cmp_mod (by omega), show p.tmod q = 0 by omega, show r.tmod s = 0 by omega, cmp_00]; omega) | (rw [← h6, cmp_mod (by omega), show p.tmod q = 0 by omega, cmp_0l h2 (by omega)]; omega) | (rw [← h6, cmp_mod (by omega), show r.tmod s = 0 by omega, cmp_0r (by omega) h4]; omega))
       · first
         | (exfalso; omega)
         | (refine W.skip ?_
            refine W.sreg ?_
            refine WO.p rfl rfl (WO.p rfl rfl ?_)
            refine WO.nil ?_
            refine W.ret ?_
            refine fin.ret (Res.one rfl (RV.tmp rfl)) (congrArg (Value.int .i64) ?_)
            first | (rw [← h6, cmp_lt h1 h2 h3 h4 (by omega)]; omega) | (rw [← h6, cmp_gt h1 h2 h3 h4 (by omega)]; omega) | (rw [← h6, cmp_mod (by omega), show p.tmod q = 0 by omega, show r.tmod s = 0 by omega, cmp_00]; omega) | (rw [← h6, cmp_mod (by omega), show p.tmod q = 0 by omega, cmp_0l h2 (by omega)]; omega) | (rw [← h6, cmp_mod (by omega), show r.tmod s = 0 by omega, cmp_0r (by omega) h4]; omega)))
  · first
    | (exfalso; omega)
    | (refine W.skip ?_
       refine W.seq ?_
       have m1 := tmod_lt h1 h2
       have m2 := tmod_lt h3 h4
       refine W.drawD 7 [.r 0 [], .r 1 [], .r 2 [], .r 3 [0], .r 4 [0], .r 5 [0], .r 6 [0]] [0] (A0 := []) (Sub.refl _) (by kernel_rfl) ?_ ?_
       · exact (ALok.r (ALok.r (ALok.r (ALok.r (ALok.r (ALok.r (ALok.r ALok.nil)))))))
       refine' DT.r rfl rfl rfl ?hq ?_
       case hq =>
         refine WO.p rfl rfl ?_
         exact WO.nil ⟨rfl, rfl⟩
       refine' DT.r rfl rfl rfl ?hq ?_
       case hq =>
         refine WO.p rfl rfl ?_
         exact WO.nil ⟨rfl, rfl⟩
       refine' DT.r rfl rfl rfl ?hq ?_
       case hq =>
         refine WO.rem rfl rfl (by first | omega | assumption) rfl ?_
         exact WO.nil ⟨rfl, rfl⟩
       refine' DT.r rfl rfl rfl ?hq ?_
       case hq =>
         refine WO.p rfl rfl ?_
         exact WO.nil ⟨rfl, rfl⟩
       refine' DT.r rfl rfl rfl ?hq ?_
       case hq =>
         refine WO.p rfl rfl ?_
         exact WO.nil ⟨rfl, rfl⟩
       refine' DT.r rfl rfl rfl ?hq ?_
       case hq =>
         refine WO.rem rfl rfl (by first | omega | assumption) rfl ?_
         exact WO.nil ⟨rfl, rfl⟩
       refine' DT.r rfl rfl rfl ?hq ?_
       case hq =>
         refine WO.p rfl rfl ?_
         exact WO.nil ⟨rfl, rfl⟩
       refine DT.nil [] rfl ?_
       refine WO.p rfl rfl ?_
       refine WO.nil ?_
       refine W.seq ?_
       refine W.sreg ?_
       refine WO.p rfl rfl (WO.p rfl rfl (WO.p rfl rfl ?_))
       refine WO.guard_bl rfl rfl (fun c3 => ?_) (fun c3 => ?_)
       · first
         | (exfalso; omega)
         | (refine WO.no rfl rfl (WO.no rfl rfl (WO.p rfl rfl ?_))
            refine WO.nil ?_
            refine W.cond_t rfl ?_
            refine W.seq ?_
            refine W.sreg ?_
            refine WO.p rfl rfl (WO.p rfl rfl (WO.p rfl rfl ?_))
            refine WO.nil ?_
            refine W.cond_bl rfl (fun c4 => ?_) (fun c4 => ?_)
            · first
              | (exfalso; omega)
              | (refine W.sreg ?_
                 refine WO.p rfl rfl ?_
                 refine WO.nil ?_
                 refine W.ret ?_
                 refine fin.ret (Res.one rfl (RV.tmp rfl)) (congrArg (Value.int .i64) ?_)
                 first | (rw [← h6, cmp_lt h1 h2 h3 h4 (by omega)]; omega) | (rw [← h6, cmp_gt h1 h2 h3 h4 (by omega)]; omega) | (rw [← h6, cmp_mod (by omega), show p.tmod q = 0 by omega, show r.tmod s = 0 by omega, cmp_00]; omega) | (rw [← h6, cmp_mod (by omega), show p.tmod q = 0 by omega, cmp_0l h2 (by omega)]; omega) | (rw [← h6, cmp_mod (by omega), show r.tmod s = 0 by omega, cmp_0r (by omega) h4]; omega))
            · first
              | (exfalso; omega)
              | (refine W.skip ?_
                 refine W.seq ?_
                 refine W.sreg ?_
                 refine WO.p rfl rfl (WO.p rfl rfl ?_)
                 refine WO.nil ?_
                 refine W.cond_bl rfl (fun c5 => ?_) (fun c5 => ?_)
                 · first
                   | (exfalso; omega)
                   | (refine W.sreg ?_
                      refine WO.p rfl rfl (WO.neg rfl (by (first | (unfold in64; omega) | exact tdiv_in h1 h2 i1 | exact tdiv_in h3 h4 i3 | (unfold in64; omega))) rfl (WO.p rfl rfl ?_))
                      refine WO.nil ?_
                      refine W.ret ?_
                      refine fin.ret (Res.one rfl (RV.tmp rfl)) (congrArg (Value.int .i64) ?_)
                      first | (rw [← h6, cmp_lt h1 h2 h3 h4 (by omega)]; omega) | (rw [← h6, cmp_gt h1 h2 h3 h4 (by omega)]; omega) | (rw [← h6, cmp_mod (by omega), show p.tmod q = 0 by omega, show r.tmod s = 0 by omega, cmp_00]; omega) | (rw [← h6, cmp_mod (by omega), show p.tmod q = 0 by omega, cmp_0l h2 (by omega)]; omega) | (rw [← h6, cmp_mod (by omega), show r.tmod s = 0 by omega, cmp_0r (by omega) h4]; omega))
                 · first
                   | (exfalso; omega)
                   | (refine W.skip ?_
                      refine W.sreg ?_
                      refine WO.p rfl rfl (WO.p rfl rfl ?_)
                      refine WO.nil ?_
                      refine W.ret ?_
                      refine fin.ret (Res.one rfl (RV.tmp rfl)) (congrArg (Value.int .i64) ?_)
                      first | (rw [← h6, cmp_lt h1 h2 h3 h4 (by omega)]; omega) | (rw [← h6, cmp_gt h1 h2 h3 h4 (by omega)]; omega) | (rw [← h6, cmp_mod (by omega), show p.tmod q = 0 by omega, show r.tmod s = 0 by omega, cmp_00]; omega) | (rw [← h6, cmp_mod (by omega), show p.tmod q = 0 by omega, cmp_0l h2 (by omega)]; omega) | (rw [← h6, cmp_mod (by omega), show r.tmod s = 0 by omega, cmp_0r (by omega) h4]; omega))))
       · first
         | (exfalso; omega)
         | (refine WO.pg rfl rfl rfl (WO.pg rfl rfl rfl (WO.p rfl rfl ?_))
            refine WO.nil ?_
            refine W.cond_bl rfl (fun c6 => ?_) (fun c6 => ?_)
            · first
              | (exfalso; omega)
              | (refine W.seq ?_
                 refine W.sreg ?_
                 refine WO.p rfl rfl (WO.p rfl rfl (WO.p rfl rfl ?_))
                 refine WO.nil ?_
                 refine W.cond_bl rfl (fun c7 => ?_) (fun c7 => ?_)
                 · first
                   | (exfalso; omega)
                   | (refine W.sreg ?_
                      refine WO.p rfl rfl ?_
                      refine WO.nil ?_
                      refine W.ret ?_
                      refine fin.ret (Res.one rfl (RV.tmp rfl)) (congrArg (Value.int .i64) ?_)
                      first | (rw [← h6, cmp_lt h1 h2 h3 h4 (by omega)]; omega) | (rw [← h6, cmp_gt h1 h2 h3 h4 (by omega)]; omega) | (rw [← h6, cmp_mod (by omega), show p.tmod q = 0 by omega, show r.tmod s = 0 by omega, cmp_00]; omega) | (rw [← h6, cmp_mod (by omega), show p.tmod q = 0 by omega, cmp_0l h2 (by omega)]; omega) | (rw [← h6, cmp_mod (by omega), show r.tmod s = 0 by omega, cmp_0r (by omega) h4]; omega))
                 · first
                   | (exfalso; omega)
                   | (refine W.skip ?_
                      refine W.seq ?_
                      refine W.sreg ?_
                      refine WO.p rfl rfl (WO.p rfl rfl ?_)
                      refine WO.nil ?_
                      refine W.cond_bl rfl (fun c8 => ?_) (fun c8 => ?_)
                      · first
                        | (exfalso; omega)
                        | (refine W.sreg ?_
                           refine WO.p rfl rfl (WO.neg rfl (by (first | (unfold in64; omega) | exact tdiv_in h1 h2 i1 | exact tdiv_in h3 h4 i3 | (unfold in64; omega))) rfl (WO.p rfl rfl ?_))
                           refine WO.nil ?_
                           refine W.ret ?_
                           refine fin.ret (Res.one rfl (RV.tmp rfl)) (congrArg (Value.int .i64) ?_)
                           first | (rw [← h6, cmp_lt h1 h2 h3 h4 (by omega)]; omega) | (rw [← h6, cmp_gt h1 h2 h3 h4 (by omega)]; omega) | (rw [← h6, cmp_mod (by omega), show p.tmod q = 0 by omega, show r.tmod s = 0 by omega, cmp_00]; omega) | (rw [← h6, cmp_mod (by omega), show p.tmod q = 0 by omega, cmp_0l h2 (by omega)]; omega) | (rw [← h6, cmp_mod (by omega), show r.tmod s = 0 by omega, cmp_0r (by omega) h4]; omega))
                      · first
                        | (exfalso; omega)
                        | (refine W.skip ?_
                           refine W.sreg ?_
                           refine WO.p rfl rfl (WO.p rfl rfl ?_)
                           refine WO.nil ?_
                           refine W.ret ?_
                           refine fin.ret (Res.one rfl (RV.tmp rfl)) (congrArg (Value.int .i64) ?_)
                           first | (rw [← h6, cmp_lt h1 h2 h3 h4 (by omega)]; omega) | (rw [← h6, cmp_gt h1 h2 h3 h4 (by omega)]; omega) | (rw [← h6, cmp_mod (by omega), show p.tmod q = 0 by omega, show r.tmod s = 0 by omega, cmp_00]; omega) | (rw [← h6, cmp_mod (by omega), show p.tmod q = 0 by omega, cmp_0l h2 (by omega)]; omega) | (rw [← h6, cmp_mod (by omega), show r.tmod s = 0 by omega, cmp_0r (by omega) h4]; omega))))
            · first
              | (exfalso; omega)
              | (refine W.skip ?_
                 refine W.sreg ?_
                 refine WO.p rfl rfl (WO.p rfl rfl (WO.p rfl rfl (WO.p rfl rfl (WO.p rfl rfl (WO.p rfl rfl (WO.p rfl rfl (WO.p rfl rfl ?_)))))))
                 refine WO.nil ?_
                 refine W.region ?_
                 refine WO.p rfl rfl (WO.neg rfl (by (first | (unfold in64; omega) | exact tdiv_in h1 h2 i1 | exact tdiv_in h3 h4 i3 | (unfold in64; omega))) rfl (WO.p rfl rfl ?_))
                 refine WO.nil ?_
                 refine' ⟨_, _, _, _, _, ?hp, ?hmu, ⟨rfl, rfl, rfl, rfl, rfl, trivial⟩, ?hS⟩
                 case hS => repeat (first | exact Sub.nil | refine Sub.cons (by repeat (first | exact Pick.head | apply Pick.tail)) ?_)
                 case hp => exact ⟨by omega, by omega, by omega, by omega, by omega, by rw [cmp_flip, ← h6, cmp_mod (a := p) (b := q) (c := r) (d := s) (by omega)]; grind, i2, by unfold in64 at *; omega, i4, by unfold in64 at *; omega⟩
                 case hmu => omega)))
theorem c_compare_step (n : Nat) (ih : ∀ (w : World) (a b c d : Int), 0 ≤ a → 0 < b → 0 ≤ c → 0 < d → in64 a → in64 b → in64 c → in64 d → b + d ≤ n → Ret Try.prog 68 [.int .i64 a, .int .i64 b, .int .i64 c, .int .i64 d].toArray w (.int .i64 (cmp a b c d)))
    (w : World) (a b c d : Int) (ha : 0 ≤ a) (hb : 0 < b) (hc : 0 ≤ c) (hd : 0 < d) (ia : in64 a) (ib : in64 b) (ic : in64 c) (id' : in64 d) (hn : b + d ≤ n + 1) : Ret Try.prog 68 [.int .i64 a, .int .i64 b, .int .i64 c, .int .i64 d].toArray w (.int .i64 (cmp a b c d)) := by
  refine Ret.of mixed tyTab Try.func68 rfl rfl ?_
  refine W.sreg ?_
  refine WO.p rfl rfl ?_
  refine WO.nil ?_
  refine W.seq ?_
  refine W.seq ?_
  refine W.drawD 7 [.r 0 [], .r 1 [], .r 2 [], .r 3 [], .r 4 [], .r 5 [], .r 6 []] [] (A0 := []) (Sub.refl _) (by kernel_rfl) ?_ ?_
  · exact (ALok.r (ALok.r (ALok.r (ALok.r (ALok.r (ALok.r (ALok.r ALok.nil)))))))
  refine' DT.r rfl rfl rfl ?hq ?_
  case hq =>
    refine WO.p rfl rfl ?_
    exact WO.nil ⟨rfl, rfl⟩
  refine' DT.r rfl rfl rfl ?hq ?_
  case hq =>
    refine WO.p rfl rfl ?_
    exact WO.nil ⟨rfl, rfl⟩
  refine' DT.r rfl rfl rfl ?hq ?_
  case hq =>
    refine WO.quo rfl rfl (by first | omega | assumption) (by (first | (unfold in64; omega) | exact tdiv_in ha hb ia | exact tdiv_in hc hd ic)) rfl ?_
    exact WO.nil ⟨rfl, rfl⟩
  refine' DT.r rfl rfl rfl ?hq ?_
  case hq =>
    refine WO.p rfl rfl ?_
    exact WO.nil ⟨rfl, rfl⟩
  refine' DT.r rfl rfl rfl ?hq ?_
  case hq =>
    refine WO.p rfl rfl ?_
    exact WO.nil ⟨rfl, rfl⟩
  refine' DT.r rfl rfl rfl ?hq ?_
  case hq =>
    refine WO.quo rfl rfl (by first | omega | assumption) (by (first | (unfold in64; omega) | exact tdiv_in ha hb ia | exact tdiv_in hc hd ic)) rfl ?_
    exact WO.nil ⟨rfl, rfl⟩
  refine' DT.r rfl rfl rfl ?hq ?_
  case hq =>
    refine WO.p rfl rfl ?_
    exact WO.nil ⟨rfl, rfl⟩
  refine DT.nil [] rfl ?_
  refine WO.p rfl rfl ?_
  refine WO.nil ?_
  refine W.block ?_
  refine W.sreg ?_
  refine WO.p rfl rfl (WO.p rfl rfl (WO.p rfl rfl (WO.p rfl rfl ?_)))
  refine WO.nil ?_
  refine W.cond_bl rfl (fun c1 => ?_) (fun c1 => ?_)
  · first
    | (exfalso; omega)
    | (refine W.sreg ?_
       refine WO.p rfl rfl ?_
       refine WO.nil ?_
       refine W.ret ?_
       refine fin.ret (Res.one rfl (RV.tmp rfl)) (congrArg (Value.int .i64) ?_)
       first | exact (cmp_lt ha hb hc hd (by omega)).symm | exact (cmp_gt ha hb hc hd (by omega)).symm | (rw [cmp_mod (by omega), show a.tmod b = 0 by omega, show c.tmod d = 0 by omega, cmp_00]) | (rw [cmp_mod (by omega), show a.tmod b = 0 by omega, cmp_0l hb (by omega)]) | (rw [cmp_mod (by omega), show c.tmod d = 0 by omega, cmp_0r (by omega) hd]) | (rw [cmp_turn, ← cmp_mod (by omega)]))
  · first
    | (exfalso; omega)
    | (refine W.sreg ?_
       refine WO.p rfl rfl (WO.p rfl rfl (WO.p rfl rfl (WO.p rfl rfl ?_)))
       refine WO.nil ?_
       refine W.cond_bl rfl (fun c2 => ?_) (fun c2 => ?_)
       · first
         | (exfalso; omega)
         | (refine W.sreg ?_
            refine WO.p rfl rfl ?_
            refine WO.nil ?_
            refine W.ret ?_
            refine fin.ret (Res.one rfl (RV.tmp rfl)) (congrArg (Value.int .i64) ?_)
            first | exact (cmp_lt ha hb hc hd (by omega)).symm | exact (cmp_gt ha hb hc hd (by omega)).symm | (rw [cmp_mod (by omega), show a.tmod b = 0 by omega, show c.tmod d = 0 by omega, cmp_00]) | (rw [cmp_mod (by omega), show a.tmod b = 0 by omega, cmp_0l hb (by omega)]) | (rw [cmp_mod (by omega), show c.tmod d = 0 by omega, cmp_0r (by omega) hd]) | (rw [cmp_turn, ← cmp_mod (by omega)]))
       · first
         | (exfalso; omega)
         | (refine W.skip ?_
            refine W.seq ?_
            have m1 := tmod_lt ha hb
            have m2 := tmod_lt hc hd
            refine W.drawD 7 [.r 0 [], .r 1 [], .r 2 [], .r 3 [0], .r 4 [0], .r 5 [0], .r 6 [0]] [0] (A0 := []) (Sub.refl _) (by kernel_rfl) ?_ ?_
            · exact (ALok.r (ALok.r (ALok.r (ALok.r (ALok.r (ALok.r (ALok.r ALok.nil)))))))
            refine' DT.r rfl rfl rfl ?hq ?_
            case hq =>
              refine WO.p rfl rfl ?_
              exact WO.nil ⟨rfl, rfl⟩
            refine' DT.r rfl rfl rfl ?hq ?_
            case hq =>
              refine WO.p rfl rfl ?_
              exact WO.nil ⟨rfl, rfl⟩
            refine' DT.r rfl rfl rfl ?hq ?_
            case hq =>
              refine WO.rem rfl rfl (by first | omega | assumption) rfl ?_
              exact WO.nil ⟨rfl, rfl⟩
            refine' DT.r rfl rfl rfl ?hq ?_
            case hq =>
              refine WO.p rfl rfl ?_
              exact WO.nil ⟨rfl, rfl⟩
            refine' DT.r rfl rfl rfl ?hq ?_
            case hq =>
              refine WO.p rfl rfl ?_
              exact WO.nil ⟨rfl, rfl⟩
            refine' DT.r rfl rfl rfl ?hq ?_
            case hq =>
              refine WO.rem rfl rfl (by first | omega | assumption) rfl ?_
              exact WO.nil ⟨rfl, rfl⟩
            refine' DT.r rfl rfl rfl ?hq ?_
            case hq =>
              refine WO.p rfl rfl ?_
              exact WO.nil ⟨rfl, rfl⟩
            refine DT.nil [] rfl ?_
            refine WO.p rfl rfl ?_
            refine WO.nil ?_
            refine W.seq ?_
            refine W.block ?_
            refine W.sreg ?_
            refine WO.p rfl rfl (WO.p rfl rfl (WO.p rfl rfl ?_))
            refine WO.guard_bl rfl rfl (fun c3 => ?_) (fun c3 => ?_)
            · first
              | (exfalso; omega)
              | (refine WO.pg rfl rfl rfl (WO.pg rfl rfl rfl (WO.p rfl rfl (WO.p rfl rfl ?_)))
                 refine WO.nil ?_
                 refine W.cond_bl rfl (fun c4 => ?_) (fun c4 => ?_)
                 · first
                   | (exfalso; omega)
                   | (refine W.sreg ?_
                      refine WO.p rfl rfl ?_
                      refine WO.nil ?_
                      refine W.ret ?_
                      refine fin.ret (Res.one rfl (RV.tmp rfl)) (congrArg (Value.int .i64) ?_)
                      first | exact (cmp_lt ha hb hc hd (by omega)).symm | exact (cmp_gt ha hb hc hd (by omega)).symm | (rw [cmp_mod (by omega), show a.tmod b = 0 by omega, show c.tmod d = 0 by omega, cmp_00]) | (rw [cmp_mod (by omega), show a.tmod b = 0 by omega, cmp_0l hb (by omega)]) | (rw [cmp_mod (by omega), show c.tmod d = 0 by omega, cmp_0r (by omega) hd]) | (rw [cmp_turn, ← cmp_mod (by omega)]))
                 · first
                   | (exfalso; omega)
                   | (refine W.sreg ?_
                      refine WO.p rfl rfl (WO.p rfl rfl (WO.p rfl rfl ?_))
                      refine WO.nil ?_
                      refine W.cond_bl rfl (fun c5 => ?_) (fun c5 => ?_)
                      · first
                        | (exfalso; omega)
                        | (refine W.sreg ?_
                           refine WO.p rfl rfl ?_
                           refine WO.nil ?_
                           refine W.ret ?_
                           refine fin.ret (Res.one rfl (RV.tmp rfl)) (congrArg (Value.int .i64) ?_)
                           first | exact (cmp_lt ha hb hc hd (by omega)).symm | exact (cmp_gt ha hb hc hd (by omega)).symm | (rw [cmp_mod (by omega), show a.tmod b = 0 by omega, show c.tmod d = 0 by omega, cmp_00]) | (rw [cmp_mod (by omega), show a.tmod b = 0 by omega, cmp_0l hb (by omega)]) | (rw [cmp_mod (by omega), show c.tmod d = 0 by omega, cmp_0r (by omega) hd]) | (rw [cmp_turn, ← cmp_mod (by omega)]))
                      · first
                        | (exfalso; omega)
                        | (refine W.sreg ?_
                           refine WO.p rfl rfl (WO.p rfl rfl (WO.p rfl rfl ?_))
                           refine WO.nil ?_
                           refine W.cond_bl rfl (fun c6 => ?_) (fun c6 => ?_)
                           · first
                             | (exfalso; omega)
                             | (refine W.sreg ?_
                                refine WO.p rfl rfl ?_
                                refine WO.nil ?_
                                refine W.ret ?_
                                refine fin.ret (Res.one rfl (RV.tmp rfl)) (congrArg (Value.int .i64) ?_)
                                first | exact (cmp_lt ha hb hc hd (by omega)).symm | exact (cmp_gt ha hb hc hd (by omega)).symm | (rw [cmp_mod (by omega), show a.tmod b = 0 by omega, show c.tmod d = 0 by omega, cmp_00]) | (rw [cmp_mod (by omega), show a.tmod b = 0 by omega, cmp_0l hb (by omega)]) | (rw [cmp_mod (by omega), show c.tmod d = 0 by omega, cmp_0r (by omega) hd]) | (rw [cmp_turn, ← cmp_mod (by omega)]))
                           · first
                             | (exfalso; omega)
                             | (refine W.skip ?_
                                refine W.sreg ?_
                                refine WO.p rfl rfl (WO.p rfl rfl (WO.p rfl rfl (WO.p rfl rfl ?_)))
                                refine WO.callR rfl Try.call68 (fun L w hi => ih w d (c.tmod d) b (a.tmod b) (by omega) (by omega) (by omega) (by omega) id' (by unfold in64 at *; omega) ib (by unfold in64 at *; omega) (by omega)) rfl ?_
                                refine WO.p rfl rfl ?_
                                refine WO.nil ?_
                                refine W.ret ?_
                                refine fin.ret (Res.one rfl (RV.tmp rfl)) (congrArg (Value.int .i64) ?_)
                                first | exact (cmp_lt ha hb hc hd (by omega)).symm | exact (cmp_gt ha hb hc hd (by omega)).symm | (rw [cmp_mod (by omega), show a.tmod b = 0 by omega, show c.tmod d = 0 by omega, cmp_00]) | (rw [cmp_mod (by omega), show a.tmod b = 0 by omega, cmp_0l hb (by omega)]) | (rw [cmp_mod (by omega), show c.tmod d = 0 by omega, cmp_0r (by omega) hd]) | (rw [cmp_turn, ← cmp_mod (by omega)])))))
            · first
              | (exfalso; omega)
              | (refine WO.no rfl rfl (WO.no rfl rfl (WO.p rfl rfl (WO.p rfl rfl ?_)))
                 refine WO.nil ?_
                 refine W.cond_f rfl ?_
                 refine W.sreg ?_
                 refine WO.p rfl rfl (WO.p rfl rfl (WO.p rfl rfl ?_))
                 refine WO.nil ?_
                 refine W.cond_bl rfl (fun c7 => ?_) (fun c7 => ?_)
                 · first
                   | (exfalso; omega)
                   | (refine W.sreg ?_
                      refine WO.p rfl rfl ?_
                      refine WO.nil ?_
                      refine W.ret ?_
                      refine fin.ret (Res.one rfl (RV.tmp rfl)) (congrArg (Value.int .i64) ?_)
                      first | exact (cmp_lt ha hb hc hd (by omega)).symm | exact (cmp_gt ha hb hc hd (by omega)).symm | (rw [cmp_mod (by omega), show a.tmod b = 0 by omega, show c.tmod d = 0 by omega, cmp_00]) | (rw [cmp_mod (by omega), show a.tmod b = 0 by omega, cmp_0l hb (by omega)]) | (rw [cmp_mod (by omega), show c.tmod d = 0 by omega, cmp_0r (by omega) hd]) | (rw [cmp_turn, ← cmp_mod (by omega)]))
                 · first
                   | (exfalso; omega)
                   | (refine W.sreg ?_
                      refine WO.p rfl rfl (WO.p rfl rfl (WO.p rfl rfl ?_))
                      refine WO.nil ?_
                      refine W.cond_bl rfl (fun c8 => ?_) (fun c8 => ?_)
                      · first
                        | (exfalso; omega)
                        | (refine W.sreg ?_
                           refine WO.p rfl rfl ?_
                           refine WO.nil ?_
                           refine W.ret ?_
                           refine fin.ret (Res.one rfl (RV.tmp rfl)) (congrArg (Value.int .i64) ?_)
                           first | exact (cmp_lt ha hb hc hd (by omega)).symm | exact (cmp_gt ha hb hc hd (by omega)).symm | (rw [cmp_mod (by omega), show a.tmod b = 0 by omega, show c.tmod d = 0 by omega, cmp_00]) | (rw [cmp_mod (by omega), show a.tmod b = 0 by omega, cmp_0l hb (by omega)]) | (rw [cmp_mod (by omega), show c.tmod d = 0 by omega, cmp_0r (by omega) hd]) | (rw [cmp_turn, ← cmp_mod (by omega)]))
                      · first
                        | (exfalso; omega)
                        | (refine W.skip ?_
                           refine W.sreg ?_
                           refine WO.p rfl rfl (WO.p rfl rfl (WO.p rfl rfl (WO.p rfl rfl ?_)))
                           refine WO.callR rfl Try.call68 (fun L w hi => ih w d (c.tmod d) b (a.tmod b) (by omega) (by omega) (by omega) (by omega) id' (by unfold in64 at *; omega) ib (by unfold in64 at *; omega) (by omega)) rfl ?_
                           refine WO.p rfl rfl ?_
                           refine WO.nil ?_
                           refine W.ret ?_
                           refine fin.ret (Res.one rfl (RV.tmp rfl)) (congrArg (Value.int .i64) ?_)
                           first | exact (cmp_lt ha hb hc hd (by omega)).symm | exact (cmp_gt ha hb hc hd (by omega)).symm | (rw [cmp_mod (by omega), show a.tmod b = 0 by omega, show c.tmod d = 0 by omega, cmp_00]) | (rw [cmp_mod (by omega), show a.tmod b = 0 by omega, cmp_0l hb (by omega)]) | (rw [cmp_mod (by omega), show c.tmod d = 0 by omega, cmp_0r (by omega) hd]) | (rw [cmp_turn, ← cmp_mod (by omega)]))))))
theorem c_compare_n : ∀ (n : Nat) (w : World) (a b c d : Int), 0 ≤ a → 0 < b → 0 ≤ c → 0 < d → in64 a → in64 b → in64 c → in64 d → b + d ≤ n → Ret Try.prog 68 [.int .i64 a, .int .i64 b, .int .i64 c, .int .i64 d].toArray w (.int .i64 (cmp a b c d))
  | 0 => fun _ _ _ _ _ _ _ _ _ _ _ _ _ _ => by omega
  | n + 1 => fun w a b c d ha hb hc hd ia ib ic id' hn => c_compare_step n (c_compare_n n) w a b c d ha hb hc hd ia ib ic id' (by omega)
theorem c_compare (w : World) (a b c d : Int) (ha : 0 ≤ a) (hb : 0 < b) (hc : 0 ≤ c) (hd : 0 < d) (ia : in64 a) (ib : in64 b) (ic : in64 c) (id' : in64 d) : Ret Try.prog 68 [.int .i64 a, .int .i64 b, .int .i64 c, .int .i64 d].toArray w (.int .i64 (cmp a b c d)) := c_compare_n (b + d).toNat w a b c d ha hb hc hd ia ib ic id' (by omega)
end Go.Proofs.Ytkhplcncfogolaa
namespace Go.Proofs.Ytkhplcncfogolaa
open Go Go.TH
attribute [local irreducible] W WO pt
set_option maxRecDepth 10000
set_option maxHeartbeats 1000000
def sqL (xs : List Int) : Int := xs.foldl (fun a x => a + x * x) 0
theorem sq_b {x : Int} (h : -2000000000 ≤ x ∧ x ≤ 2000000000) : 0 ≤ x * x ∧ x * x ≤ 4000000000000000000 := by
  rcases Int.le_total 0 x with g | g
  · exact ⟨Int.mul_nonneg g g, Int.mul_le_mul (c := 2000000000) (d := 2000000000) h.2 h.2 g (by omega)⟩
  · have e : x * x = (-x) * (-x) := by grind
    rw [e]
    exact ⟨Int.mul_nonneg (by omega) (by omega), Int.mul_le_mul (c := 2000000000) (d := 2000000000) (by omega) (by omega) (by omega) (by omega)⟩
theorem c_squares (w : World) (v : Value) (xs : List Int) (hR : RdF encI 1 w.heap.size w v xs) (hl : xs.length ≤ 2) (hb : ∀ x ∈ xs, -2000000000 ≤ x ∧ x ≤ 2000000000) : Ret Try.prog 69 [v].toArray w (.int .i64 (sqL xs)) := by
  refine Ret.of mixed tyTab Try.func69 rfl rfl ?_
  replace hR : RdF encI 1 (fnCx mixed tyTab Try.f69.ntmps w).B (fnCx mixed tyTab Try.f69.ntmps w).w0 v xs := hR
  have hle := hR.sl.le
  refine W.sreg ?_
  refine WO.p rfl rfl ?_
  refine WO.nil ?_
  refine W.sreg ?_
  refine WO.p rfl rfl ?_
  refine WO.nil ?_
  refine W.seq ?_
  refine W.sreg ?_
  refine WO.p rfl rfl ?_
  refine' WO.len (n := _) rfl rfl ?hs rfl ?_
  case hs => (first | exact hR.sl)
  refine WO.p rfl rfl ?_
  refine WO.nil ?_
  refine W.block ?_
  refine W.loop2 (fun (i : Nat) (n : Int) => i ≤ xs.length ∧ 0 ≤ n ∧ n ≤ 4000000000000000000 * i ∧ n = sqL (xs.take i))
    (fun (i : Nat) (n : Int) => [(8, .int .i64 (i : Int)), (7, .int .i64 (xs.length : Int)), (6, v), (3, .int .i64 n)])
    (fun (i : Nat) (n : Int) => [])
    (fun (i : Nat) (n : Int) => xs.length - i) 0 0
    (by exact ⟨by omega, by omega, by omega, rfl⟩) ⟨rfl, rfl, rfl, rfl, trivial⟩ (by repeat (first | exact Sub.nil | refine Sub.cons (by repeat (first | exact Pick.head | apply Pick.tail)) ?_)) ?_
  rintro i n ⟨hi, hn0, hn1, hn⟩
  refine W.sreg ?_
  refine WO.p rfl rfl ?_
  refine WO.nil ?_
  refine W.seq ?_
  refine W.cond_bl rfl (fun c1 => ?_) (fun c1 => ?_)
  · first
    | (exfalso; omega)
    | (refine W.skip ?_
       refine W.seq ?_
       refine W.block ?_
       refine W.sreg ?_
       refine' WO.indexAddr (n := _) (i := _) rfl rfl rfl ?hs ?h1 rfl ?_
       case hs => (first | exact hR.sl)
       case h1 => (first | omega | (simp; omega))
       refine' WO.load (v := _) rfl rfl ?hc rfl ?_
       case hc => (first | (refine hR.cell0 ?_ 0 ?_ <;> first | rfl | omega))
       refine WO.p rfl rfl ?_
       refine WO.nil ?_
       have hq := sq_b (hb _ (getD_mem (l := xs) (i := i) (by omega) 0))
       refine W.region ?_
       refine WO.p rfl rfl (WO.p rfl rfl (WO.p rfl rfl (WO.ar rfl rfl rfl (by (first | (unfold in64; omega) | (unfold in64; omega))) rfl (WO.ar rfl rfl rfl (by (first | (unfold in64; omega) | (unfold in64; omega))) rfl (WO.p rfl rfl ?_)))))
       refine WO.nil ?_
       refine W.region ?_
       refine WO.ar rfl rfl rfl (by (first | (unfold in64; omega) | (unfold in64; omega))) rfl (WO.p rfl rfl ?_)
       refine WO.nil ?_
       refine' ⟨i + 1, _, ?hp, ?hmu, ⟨rfl, rfl, rfl, rfl, trivial⟩, ?hS⟩
       case hS => repeat (first | exact Sub.nil | refine Sub.cons (by repeat (first | exact Pick.head | apply Pick.tail)) ?_)
       case hp => exact ⟨by omega, by omega, by omega, by unfold sqL at *; rw [take_succ_getD (by omega) 0, List.foldl_append, ← hn]; rfl⟩
       case hmu => omega)
  · first
    | (exfalso; omega)
    | (refine W.exit (blk_same ?_)
       refine W.sreg ?_
       refine WO.p rfl rfl (WO.p rfl rfl ?_)
       refine WO.nil ?_
       refine W.ret ?_
       refine fin.ret (Res.one rfl (RV.tmp rfl)) ?_
       obtain rfl : i = xs.length := by omega
       rw [hn, List.take_length])
/-- a circle: its middle, and the square of its radius, as fractions -/
structure Cir where
  x : Int
  y : Int
  den : Int
  n : Int
  d : Int
structure OkR (c : Cir) : Prop where
  den : 1 ≤ c.den ∧ c.den ≤ 262144
  x : -268435456 ≤ c.x ∧ c.x ≤ 268435456
  y : -268435456 ≤ c.y ∧ c.y ≤ 268435456
  n : 0 ≤ c.n ∧ c.n ≤ 1125899906842624
  d : 1 ≤ c.d ∧ c.d ≤ 1125899906842624
def OkP (p : Int × Int) : Prop := (-100 ≤ p.1 ∧ p.1 ≤ 100) ∧ -100 ≤ p.2 ∧ p.2 ≤ 100
/-- -1, 0 or 1 -/
def whr (c : Cir) (p : Int × Int) : Int := cmp ((p.1 * c.den - c.x) * (p.1 * c.den - c.x) + (p.2 * c.den - c.y) * (p.2 * c.den - c.y)) (c.den * c.den) c.n c.d
theorem mul100 {p d : Int} (hp : -100 ≤ p ∧ p ≤ 100) (hd : 1 ≤ d ∧ d ≤ 262144) : -26214400 ≤ p * d ∧ p * d ≤ 26214400 := by
  have h1 := Int.mul_le_mul_of_nonneg_right hp.1 (show 0 ≤ d by omega)
  have h2 := Int.mul_le_mul_of_nonneg_right hp.2 (show 0 ≤ d by omega)
  omega
theorem den_b {d : Int} (hd : 1 ≤ d ∧ d ≤ 262144) : 1 ≤ d * d ∧ d * d ≤ 68719476736 :=
  ⟨by have := Int.mul_le_mul (a := 1) (b := 1) hd.1 hd.1 (by omega) (by omega); omega, Int.mul_le_mul (c := 262144) (d := 262144) hd.2 hd.2 (by omega) (by omega)⟩
theorem ref_Where (w : World) (c : Cir) (p : Int × Int) (hc : OkR c) (hp : OkP p) : Ret Try.prog 29 [.agg #[.int .i64 c.x, .int .i64 c.y, .int .i64 c.den, .int .i64 c.n, .int .i64 c.d], .agg #[.int .i64 p.1, .int .i64 p.2]].toArray w (.int .i64 (whr c p)) := by
  refine Ret.of mixed tyTab Try.func29 rfl rfl ?_
  have h1 := mul100 hp.1 hc.den
  have h2 := mul100 hp.2 hc.den
  have h3 := den_b hc.den
  have h4 := hc.x; have h5 := hc.y; have h6 := hc.n; have h7 := hc.d; have h8 := hc.den
  have q1 := sq_b (x := p.1 * c.den - c.x) (by omega)
  have q2 := sq_b (x := p.2 * c.den - c.y) (by omega)
  refine W.sreg ?_
  refine WO.boxA rfl rfl (fun b1 hb1 => ?_)
  refine WO.boxA rfl rfl (fun b2 hb2 => ?_)
  refine WO.p rfl rfl ?_
  refine WO.nil ?_
  refine W.seq ?_
  refine W.drawD 17 [.r 0 [], .b 1 [], .r 2 [], .b 3 [], .r 4 [], .r 5 [], .b 6 [], .r 7 [], .r 8 [], .b 9 [], .r 10 [], .b 11 [], .r 12 [], .r 13 [], .b 14 [], .r 15 [], .r 16 []] [] (A0 := []) (Sub.refl _) (by kernel_rfl) ?_ ?_
  · exact (ALok.r (ALok.b (ALok.r (ALok.b (ALok.r (ALok.r (ALok.b (ALok.r (ALok.r (ALok.b (ALok.r (ALok.b (ALok.r (ALok.r (ALok.b (ALok.r (ALok.r ALok.nil)))))))))))))))))
  refine' DT.r rfl rfl rfl ?hq ?_
  case hq =>
    refine WO.field0 rfl rfl rfl ?_
    exact WO.nil ⟨rfl, rfl⟩
  refine' DT.b rfl rfl rfl ?hq ?_
  case hq =>
    refine WO.load rfl rfl (Cell.own Pick.head rfl) rfl ?_
    exact WO.nil ⟨rfl, rfl⟩
  refine' DT.r rfl rfl rfl ?hq ?_
  case hq =>
    refine WO.fieldL rfl rfl rfl ?_
    exact WO.nil ⟨rfl, rfl⟩
  refine' DT.b rfl rfl rfl ?hq ?_
  case hq =>
    refine WO.load rfl rfl (Cell.own (Pick.tail (Pick.head)) rfl) rfl ?_
    exact WO.nil ⟨rfl, rfl⟩
  refine' DT.r rfl rfl rfl ?hq ?_
  case hq =>
    refine WO.ar rfl rfl rfl (by (first | (unfold in64; omega) | (unfold in64; omega))) rfl ?_
    exact WO.nil ⟨rfl, rfl⟩
  refine' DT.r rfl rfl rfl ?hq ?_
  case hq =>
    refine WO.field0 rfl rfl rfl ?_
    exact WO.nil ⟨rfl, rfl⟩
  refine' DT.b rfl rfl rfl ?hq ?_
  case hq =>
    refine WO.load rfl rfl (Cell.own (Pick.tail (Pick.head)) rfl) rfl ?_
    exact WO.nil ⟨rfl, rfl⟩
  refine' DT.r rfl rfl rfl ?hq ?_
  case hq =>
    refine WO.ar rfl rfl rfl (by (first | (unfold in64; omega) | (unfold in64; omega))) rfl ?_
    exact WO.nil ⟨rfl, rfl⟩
  refine' DT.r rfl rfl rfl ?hq ?_
  case hq =>
    refine WO.fieldL rfl rfl rfl ?_
    exact WO.nil ⟨rfl, rfl⟩
  refine' DT.b rfl rfl rfl ?hq ?_
  case hq =>
    refine WO.load rfl rfl (Cell.own Pick.head rfl) rfl ?_
    exact WO.nil ⟨rfl, rfl⟩
  refine' DT.r rfl rfl rfl ?hq ?_
  case hq =>
    refine WO.fieldL rfl rfl rfl ?_
    exact WO.nil ⟨rfl, rfl⟩
  refine' DT.b rfl rfl rfl ?hq ?_
  case hq =>
    refine WO.load rfl rfl (Cell.own (Pick.tail (Pick.head)) rfl) rfl ?_
    exact WO.nil ⟨rfl, rfl⟩
  refine' DT.r rfl rfl rfl ?hq ?_
  case hq =>
    refine WO.ar rfl rfl rfl (by (first | (unfold in64; omega) | (unfold in64; omega))) rfl ?_
    exact WO.nil ⟨rfl, rfl⟩
  refine' DT.r rfl rfl rfl ?hq ?_
  case hq =>
    refine WO.fieldL rfl rfl rfl ?_
    exact WO.nil ⟨rfl, rfl⟩
  refine' DT.b rfl rfl rfl ?hq ?_
  case hq =>
    refine WO.load rfl rfl (Cell.own (Pick.tail (Pick.head)) rfl) rfl ?_
    exact WO.nil ⟨rfl, rfl⟩
  refine' DT.r rfl rfl rfl ?hq ?_
  case hq =>
    refine WO.ar rfl rfl rfl (by (first | (unfold in64; omega) | (unfold in64; omega))) rfl ?_
    exact WO.nil ⟨rfl, rfl⟩
  refine' DT.r rfl rfl rfl ?hq ?_
  case hq =>
    refine WO.p rfl rfl ?_
    exact WO.nil ⟨rfl, rfl⟩
  refine DT.nil [_, _] rfl ?_
  refine WO.p rfl rfl ?_
  refine WO.nil ?_
  refine W.sreg ?_
  refine WO.p rfl rfl (WO.p rfl rfl (WO.ar rfl rfl rfl (by (first | (unfold in64; omega) | (unfold in64; omega))) rfl (WO.p rfl rfl (WO.p rfl rfl (WO.ar rfl rfl rfl (by (first | (unfold in64; omega) | (unfold in64; omega))) rfl (WO.ar rfl rfl rfl (by (first | (unfold in64; omega) | (unfold in64; omega))) rfl (WO.fieldL rfl rfl rfl (WO.load rfl rfl (Cell.own (Pick.tail (Pick.head)) rfl) rfl (WO.fieldL rfl rfl rfl (WO.load rfl rfl (Cell.own (Pick.tail (Pick.head)) rfl) rfl (WO.ar rfl rfl rfl (by (first | (unfold in64; omega) | (unfold in64; omega))) rfl ?_)))))))))))
  refine WO.fieldL rfl rfl rfl (WO.field0 rfl rfl rfl (WO.load rfl rfl (Cell.own (Pick.tail (Pick.head)) rfl) rfl (WO.fieldL rfl rfl rfl (WO.fieldL rfl rfl rfl (WO.load rfl rfl (Cell.own (Pick.tail (Pick.head)) rfl) rfl ?_)))))
  refine WO.callR rfl Try.call27 (fun L w hi => ref_Compare w _ _ c.n c.d (by omega) (by omega) (by omega) (by omega) (by unfold in64; omega) (by unfold in64; omega) (by unfold in64; omega) (by unfold in64; omega)) rfl ?_
  refine WO.p rfl rfl ?_
  refine WO.nil ?_
  refine W.ret ?_
  exact fin.ret (Res.one rfl (RV.tmp rfl)) rfl
end Go.Proofs.Ytkhplcncfogolaa
namespace Go.Proofs.Ytkhplcncfogolaa
open Go Go.TH
attribute [local irreducible] W WO pt
set_option maxRecDepth 10000
set_option maxHeartbeats 1000000
instance (p : Int × Int) : Decidable (OkP p) := by unfold OkP; infer_instance
def OkL (l : List (Int × Int)) : Prop := ∀ p ∈ l, OkP p
instance (l : List (Int × Int)) : Decidable (OkL l) := by unfold OkL; infer_instance
/-- what CheckTrack answers -/
def chkL (l : List (Int × Int)) : Int := if l.length < 1 ∨ 24 < l.length then 6 else if OkL l then 0 else 3
theorem OkR_iff (c : Cir) : OkR c ↔ (1 ≤ c.den ∧ c.den ≤ 262144) ∧ (-268435456 ≤ c.x ∧ c.x ≤ 268435456) ∧ (-268435456 ≤ c.y ∧ c.y ≤ 268435456) ∧ (0 ≤ c.n ∧ c.n ≤ 1125899906842624) ∧ (1 ≤ c.d ∧ c.d ≤ 1125899906842624) :=
  ⟨fun h => ⟨h.den, h.x, h.y, h.n, h.d⟩, fun h => ⟨h.1, h.2.1, h.2.2.1, h.2.2.2.1, h.2.2.2.2⟩⟩
instance (c : Cir) : Decidable (OkR c) := decidable_of_iff' _ (OkR_iff c)
/-- what CheckCircle answers -/
def chkR (c : Cir) : Int := if OkR c then 0 else 2
theorem RdF.cells2 {C : Cx Try.prog} {H : List HP} {o : Value} {l : List (Int × Int)} (h : RdF encP 2 C.B C.w0 o l) {i : Nat} (h1 : i < l.length) : Cells C H (elt o i 2) [.int .i64 (l.getD i (0, 0)).1, .int .i64 (l.getD i (0, 0)).2] := RdF.cells h h1 (0, 0)
theorem ref_Place (w : World) (p : Int × Int) : Ret Try.prog 57 [.agg #[.int .i64 p.1, .int .i64 p.2]].toArray w (.bool (bl (OkP p))) := by
  refine Ret.of mixed tyTab Try.func57 rfl rfl ?_
  refine W.sreg ?_
  refine WO.boxA rfl rfl (fun b1 hb1 => ?_)
  refine WO.p rfl rfl ?_
  refine WO.nil ?_
  refine W.sreg ?_
  refine WO.field0 rfl rfl rfl (WO.load rfl rfl (Cell.own Pick.head rfl) rfl (WO.p rfl rfl (WO.p rfl rfl ?_)))
  refine WO.guard_bl rfl rfl (fun c1 => ?_) (fun c1 => ?_)
  · first
    | (exfalso; omega)
    | (refine WO.go' rfl (WO.field0 rfl rfl rfl (WO.go' rfl (WO.load rfl rfl (Cell.own Pick.head rfl) rfl (WO.pg rfl rfl rfl (WO.p rfl rfl (WO.p rfl rfl ?_))))))
       refine WO.guard_bl rfl rfl (fun c2 => ?_) (fun c2 => ?_)
       · first
         | (exfalso; omega)
         | (refine WO.go' rfl (WO.fieldL rfl rfl rfl (WO.go' rfl (WO.load rfl rfl (Cell.own Pick.head rfl) rfl (WO.pg rfl rfl rfl (WO.p rfl rfl (WO.p rfl rfl ?_))))))
            refine WO.guard_bl rfl rfl (fun c3 => ?_) (fun c3 => ?_)
            · first
              | (exfalso; omega)
              | (refine WO.go' rfl (WO.fieldL rfl rfl rfl (WO.go' rfl (WO.load rfl rfl (Cell.own Pick.head rfl) rfl (WO.pg rfl rfl rfl (WO.p rfl rfl (WO.p rfl rfl ?_))))))
                 refine WO.nil ?_
                 refine W.ret ?_
                 refine fin.ret (Res.one rfl (RV.tmp rfl)) (congrArg Value.bool ?_)
                 first | exact (bl_f.2 (fun h => by obtain ⟨h1, h2⟩ := h; omega)).symm | (rw [bl_eq, bl_eq, decide_eq_decide]; unfold OkP; omega))
            · first
              | (exfalso; omega)
              | (refine WO.no rfl rfl (WO.no rfl rfl (WO.no rfl rfl (WO.p rfl rfl (WO.p rfl rfl ?_))))
                 refine WO.nil ?_
                 refine W.ret ?_
                 refine fin.ret (Res.one rfl (RV.tmp rfl)) (congrArg Value.bool ?_)
                 first | exact (bl_f.2 (fun h => by obtain ⟨h1, h2⟩ := h; omega)).symm | (rw [bl_eq, bl_eq, decide_eq_decide]; unfold OkP; omega)))
       · first
         | (exfalso; omega)
         | (refine WO.no rfl rfl (WO.no rfl rfl (WO.no rfl rfl (WO.p rfl rfl (WO.p rfl rfl (WO.no rfl rfl (WO.no rfl rfl (WO.no rfl rfl (WO.p rfl rfl (WO.p rfl rfl ?_)))))))))
            refine WO.nil ?_
            refine W.ret ?_
            refine fin.ret (Res.one rfl (RV.tmp rfl)) (congrArg Value.bool ?_)
            first | exact (bl_f.2 (fun h => by obtain ⟨h1, h2⟩ := h; omega)).symm | (rw [bl_eq, bl_eq, decide_eq_decide]; unfold OkP; omega)))
  · first
    | (exfalso; omega)
    | (refine WO.no rfl rfl (WO.no rfl rfl (WO.no rfl rfl (WO.p rfl rfl (WO.p rfl rfl (WO.no rfl rfl (WO.no rfl rfl (WO.no rfl rfl (WO.p rfl rfl (WO.p rfl rfl (WO.no rfl rfl (WO.no rfl rfl ?_)))))))))))
       refine WO.no rfl rfl (WO.p rfl rfl (WO.p rfl rfl ?_))
       refine WO.nil ?_
       refine W.ret ?_
       refine fin.ret (Res.one rfl (RV.tmp rfl)) (congrArg Value.bool ?_)
       first | exact (bl_f.2 (fun h => by obtain ⟨h1, h2⟩ := h; omega)).symm | (rw [bl_eq, bl_eq, decide_eq_decide]; unfold OkP; omega))
theorem ref_CheckTrack (w : World) (v : Value) (l : List (Int × Int)) (hR : RdF encP 2 w.heap.size w v l) : Ret Try.prog 35 [v].toArray w (.int .i64 (chkL l)) := by
  refine Ret.of mixed tyTab Try.func35 rfl rfl ?_
  replace hR : RdF encP 2 (fnCx mixed tyTab Try.f35.ntmps w).B (fnCx mixed tyTab Try.f35.ntmps w).w0 v l := hR
  have hle := hR.sl.le
  refine W.sreg ?_
  refine WO.p rfl rfl ?_
  refine WO.nil ?_
  refine W.seq ?_
  refine W.sreg ?_
  refine WO.p rfl rfl ?_
  refine' WO.len (n := _) rfl rfl ?hs rfl ?_
  case hs => (first | exact hR.sl)
  refine WO.p rfl rfl (WO.p rfl rfl ?_)
  refine WO.guard_bl rfl rfl (fun c1 => ?_) (fun c1 => ?_)
  · first
    | (exfalso; omega)
    | (refine WO.no rfl rfl (WO.no rfl rfl (WO.no rfl rfl (WO.p rfl rfl ?_)))
       refine WO.nil ?_
       refine W.cond_t rfl ?_
       refine W.sreg ?_
       refine WO.p rfl rfl ?_
       refine WO.nil ?_
       refine W.ret ?_
       refine fin.ret (Res.one rfl (RV.tmp rfl)) (congrArg (Value.int .i64) ?_)
       first | (unfold chkL; rw [if_pos (by omega)]) | (unfold chkL; rw [if_neg (by omega), if_neg (fun h => (by assumption : ¬ OkP (l.getD i (0, 0))) (h _ (getD_mem (by omega) (0, 0))))]) | (unfold chkL; rw [if_neg (by omega), if_pos (by rw [show i = l.length by omega, List.take_length] at hin; exact hin)]))
  · first
    | (exfalso; omega)
    | (refine WO.pg rfl rfl rfl (WO.go' rfl ?_)
       refine' WO.len (n := _) rfl rfl ?hs rfl ?_
       case hs => (first | exact hR.sl)
       refine WO.pg rfl rfl rfl (WO.p rfl rfl ?_)
       refine WO.nil ?_
       refine W.cond_bl rfl (fun c2 => ?_) (fun c2 => ?_)
       · first
         | (exfalso; omega)
         | (refine W.sreg ?_
            refine WO.p rfl rfl ?_
            refine WO.nil ?_
            refine W.ret ?_
            refine fin.ret (Res.one rfl (RV.tmp rfl)) (congrArg (Value.int .i64) ?_)
            first | (unfold chkL; rw [if_pos (by omega)]) | (unfold chkL; rw [if_neg (by omega), if_neg (fun h => (by assumption : ¬ OkP (l.getD i (0, 0))) (h _ (getD_mem (by omega) (0, 0))))]) | (unfold chkL; rw [if_neg (by omega), if_pos (by rw [show i = l.length by omega, List.take_length] at hin; exact hin)]))
       · first
         | (exfalso; omega)
         | (refine W.skip ?_
            refine W.seq ?_
            refine W.sreg ?_
            refine WO.p rfl rfl ?_
            refine WO.nil ?_
            refine W.block ?_
            refine W.loop (fun (i : Nat) => i ≤ l.length ∧ OkL (l.take i))
              (fun (i : Nat) => [(3, .int .i64 (i : Int)), (0, v)])
              (fun (i : Nat) => [])
              (fun (i : Nat) => l.length - i) 0
              (by exact ⟨by omega, fun x hx => by simp at hx⟩) ⟨rfl, rfl, trivial⟩ (by repeat (first | exact Sub.nil | refine Sub.cons (by repeat (first | exact Pick.head | apply Pick.tail)) ?_)) ?_
            rintro i ⟨hi, hin⟩
            refine W.seq ?_
            refine W.sreg ?_
            refine WO.p rfl rfl (WO.p rfl rfl ?_)
            refine' WO.len (n := _) rfl rfl ?hs rfl ?_
            case hs => (first | exact hR.sl)
            refine WO.p rfl rfl ?_
            refine WO.nil ?_
            refine W.cond_bl rfl (fun c3 => ?_) (fun c3 => ?_)
            · first
              | (exfalso; omega)
              | (refine W.skip ?_
                 refine W.seq ?_
                 refine W.block ?_
                 refine W.sreg ?_
                 refine WO.p rfl rfl (WO.p rfl rfl ?_)
                 refine' WO.indexAddr (n := _) (i := _) rfl rfl rfl ?hs ?h1 rfl ?_
                 case hs => (first | exact hR.sl)
                 case h1 => (first | omega | (simp; omega))
                 refine' WO.loadA (vs := _) rfl rfl ?hc ?hl rfl ?_
                 case hc => (first | exact RdF.cells2 hR (i := i) (by omega))
                 case hl => rfl
                 refine WO.callR rfl Try.call57 (fun L w hi => ref_Place w (l.getD i (0, 0))) rfl ?_
                 refine WO.p rfl rfl ?_
                 refine WO.nil ?_
                 refine W.cond_nbl rfl (fun c4 => ?_) (fun c4 => ?_)
                 · first
                   | (exfalso; omega)
                   | (refine W.sreg ?_
                      refine WO.p rfl rfl ?_
                      refine WO.nil ?_
                      refine W.ret ?_
                      refine fin.ret (Res.one rfl (RV.tmp rfl)) (congrArg (Value.int .i64) ?_)
                      first | (unfold chkL; rw [if_pos (by omega)]) | (unfold chkL; rw [if_neg (by omega), if_neg (fun h => (by assumption : ¬ OkP (l.getD i (0, 0))) (h _ (getD_mem (by omega) (0, 0))))]) | (unfold chkL; rw [if_neg (by omega), if_pos (by rw [show i = l.length by omega, List.take_length] at hin; exact hin)]))
                 · first
                   | (exfalso; omega)
                   | (refine W.skip ?_
                      refine W.region ?_
                      refine WO.p rfl rfl (WO.ar rfl rfl rfl (by (first | (unfold in64; omega) | (unfold in64; omega))) rfl (WO.p rfl rfl ?_))
                      refine WO.nil ?_
                      refine' ⟨i + 1, ?hp, ?hmu, ⟨rfl, rfl, trivial⟩, ?hS⟩
                      case hS => repeat (first | exact Sub.nil | refine Sub.cons (by repeat (first | exact Pick.head | apply Pick.tail)) ?_)
                      case hp => exact ⟨by omega, all_succ (by omega) (0, 0) hin (by assumption)⟩
                      case hmu => omega))
            · first
              | (exfalso; omega)
              | (refine W.exit (blk_same ?_)
                 refine W.sreg ?_
                 refine WO.p rfl rfl ?_
                 refine WO.nil ?_
                 refine W.ret ?_
                 refine fin.ret (Res.one rfl (RV.tmp rfl)) (congrArg (Value.int .i64) ?_)
                 first | (unfold chkL; rw [if_pos (by omega)]) | (unfold chkL; rw [if_neg (by omega), if_neg (fun h => (by assumption : ¬ OkP (l.getD i (0, 0))) (h _ (getD_mem (by omega) (0, 0))))]) | (unfold chkL; rw [if_neg (by omega), if_pos (by rw [show i = l.length by omega, List.take_length] at hin; exact hin)]))))
theorem ref_within (w : World) (n lo hi : Int) : Ret Try.prog 49 [.int .i64 n, .int .i64 lo, .int .i64 hi].toArray w (.bool (bl (lo ≤ n ∧ n ≤ hi))) := by
  refine Ret.of mixed tyTab Try.func49 rfl rfl ?_
  refine W.sreg ?_
  refine WO.p rfl rfl ?_
  refine WO.nil ?_
  refine W.sreg ?_
  refine WO.p rfl rfl (WO.p rfl rfl (WO.p rfl rfl (WO.p rfl rfl ?_)))
  refine WO.guard_bl rfl rfl (fun c1 => ?_) (fun c1 => ?_)
  · first
    | (exfalso; omega)
    | (refine WO.pg rfl rfl rfl (WO.pg rfl rfl rfl (WO.pg rfl rfl rfl (WO.p rfl rfl (WO.p rfl rfl ?_))))
       refine WO.nil ?_
       refine W.ret ?_
       refine fin.ret (Res.one rfl (RV.tmp rfl)) ?_
       refine congrArg Value.bool ?_
       first | (simp_all [bl_eq]; done) | (simp_all [bl_eq]; omega))
  · first
    | (exfalso; omega)
    | (refine WO.no rfl rfl (WO.no rfl rfl (WO.no rfl rfl (WO.p rfl rfl (WO.p rfl rfl ?_))))
       refine WO.nil ?_
       refine W.ret ?_
       refine fin.ret (Res.one rfl (RV.tmp rfl)) ?_
       refine congrArg Value.bool ?_
       first | (simp_all [bl_eq]; done) | (simp_all [bl_eq]; omega))
theorem ref_CheckCircle (w : World) (c : Cir) : Ret Try.prog 22 [.agg #[.int .i64 c.x, .int .i64 c.y, .int .i64 c.den, .int .i64 c.n, .int .i64 c.d]].toArray w (.int .i64 (chkR c)) := by
  refine Ret.of mixed tyTab Try.func22 rfl rfl ?_
  refine W.sreg ?_
  refine WO.boxA rfl rfl (fun b1 hb1 => ?_)
  refine WO.p rfl rfl ?_
  refine WO.nil ?_
  refine W.seq ?_
  refine W.sreg ?_
  refine WO.fieldL rfl rfl rfl (WO.load rfl rfl (Cell.own Pick.head rfl) rfl ?_)
  refine WO.callR rfl Try.call49 (fun L w hi => ref_within w _ _ _) rfl ?_
  refine WO.p rfl rfl (WO.p rfl rfl ?_)
  refine WO.guard_nbl rfl rfl (fun c1 => ?_) (fun c1 => ?_)
  · first
    | (exfalso; omega)
    | (refine WO.no rfl rfl (WO.no rfl rfl (WO.no rfl rfl (WO.no rfl rfl (WO.p rfl rfl (WO.p rfl rfl (WO.no rfl rfl (WO.no rfl rfl (WO.no rfl rfl (WO.no rfl rfl (WO.p rfl rfl (WO.p rfl rfl ?_)))))))))))
       refine WO.no rfl rfl (WO.no rfl rfl (WO.no rfl rfl (WO.no rfl rfl (WO.no rfl rfl (WO.p rfl rfl (WO.p rfl rfl (WO.no rfl rfl (WO.no rfl rfl (WO.no rfl rfl (WO.no rfl rfl (WO.no rfl rfl ?_)))))))))))
       refine WO.p rfl rfl ?_
       refine WO.nil ?_
       refine W.cond_t rfl ?_
       refine W.sreg ?_
       refine WO.p rfl rfl ?_
       refine WO.nil ?_
       refine W.ret ?_
       refine fin.ret (Res.one rfl (RV.tmp rfl)) (congrArg (Value.int .i64) ?_)
       first | (unfold chkR; rw [if_pos ⟨by omega, by omega, by omega, by omega, by omega⟩]; done) | (unfold chkR; rw [if_neg (fun h => by have h1 := h.den; have h2 := h.x; have h3 := h.y; have h4 := h.n; have h5 := h.d; omega)]; done))
  · first
    | (exfalso; omega)
    | (refine WO.go' rfl (WO.field0 rfl rfl rfl (WO.go' rfl (WO.load rfl rfl (Cell.own Pick.head rfl) rfl (WO.go' rfl ?_))))
       refine WO.callR rfl Try.call49 (fun L w hi => ref_within w _ _ _) rfl ?_
       refine WO.pg rfl rfl rfl (WO.p rfl rfl (WO.p rfl rfl ?_))
       refine WO.guard_nbl rfl rfl (fun c2 => ?_) (fun c2 => ?_)
       · first
         | (exfalso; omega)
         | (refine WO.no rfl rfl (WO.no rfl rfl (WO.no rfl rfl (WO.no rfl rfl (WO.p rfl rfl (WO.p rfl rfl (WO.no rfl rfl (WO.no rfl rfl (WO.no rfl rfl (WO.no rfl rfl (WO.no rfl rfl (WO.p rfl rfl ?_)))))))))))
            refine WO.p rfl rfl (WO.no rfl rfl (WO.no rfl rfl (WO.no rfl rfl (WO.no rfl rfl (WO.no rfl rfl (WO.p rfl rfl ?_))))))
            refine WO.nil ?_
            refine W.cond_t rfl ?_
            refine W.sreg ?_
            refine WO.p rfl rfl ?_
            refine WO.nil ?_
            refine W.ret ?_
            refine fin.ret (Res.one rfl (RV.tmp rfl)) (congrArg (Value.int .i64) ?_)
            first | (unfold chkR; rw [if_pos ⟨by omega, by omega, by omega, by omega, by omega⟩]; done) | (unfold chkR; rw [if_neg (fun h => by have h1 := h.den; have h2 := h.x; have h3 := h.y; have h4 := h.n; have h5 := h.d; omega)]; done))
       · first
         | (exfalso; omega)
         | (refine WO.go' rfl (WO.fieldL rfl rfl rfl (WO.go' rfl (WO.load rfl rfl (Cell.own Pick.head rfl) rfl (WO.go' rfl ?_))))
            refine WO.callR rfl Try.call49 (fun L w hi => ref_within w _ _ _) rfl ?_
            refine WO.pg rfl rfl rfl (WO.p rfl rfl (WO.p rfl rfl ?_))
            refine WO.guard_nbl rfl rfl (fun c3 => ?_) (fun c3 => ?_)
            · first
              | (exfalso; omega)
              | (refine WO.no rfl rfl (WO.no rfl rfl (WO.no rfl rfl (WO.no rfl rfl (WO.no rfl rfl (WO.p rfl rfl (WO.p rfl rfl (WO.no rfl rfl (WO.no rfl rfl (WO.no rfl rfl (WO.no rfl rfl (WO.no rfl rfl ?_)))))))))))
                 refine WO.p rfl rfl ?_
                 refine WO.nil ?_
                 refine W.cond_t rfl ?_
                 refine W.sreg ?_
                 refine WO.p rfl rfl ?_
                 refine WO.nil ?_
                 refine W.ret ?_
                 refine fin.ret (Res.one rfl (RV.tmp rfl)) (congrArg (Value.int .i64) ?_)
                 first | (unfold chkR; rw [if_pos ⟨by omega, by omega, by omega, by omega, by omega⟩]; done) | (unfold chkR; rw [if_neg (fun h => by have h1 := h.den; have h2 := h.x; have h3 := h.y; have h4 := h.n; have h5 := h.d; omega)]; done))
            · first
              | (exfalso; omega)
              | (refine WO.go' rfl (WO.fieldL rfl rfl rfl (WO.go' rfl (WO.field0 rfl rfl rfl (WO.go' rfl (WO.load rfl rfl (Cell.own Pick.head rfl) rfl (WO.go' rfl ?_))))))
                 refine WO.callR rfl Try.call49 (fun L w hi => ref_within w _ _ _) rfl ?_
                 refine WO.pg rfl rfl rfl (WO.p rfl rfl (WO.p rfl rfl ?_))
                 refine WO.guard_nbl rfl rfl (fun c4 => ?_) (fun c4 => ?_)
                 · first
                   | (exfalso; omega)
                   | (refine WO.no rfl rfl (WO.no rfl rfl (WO.no rfl rfl (WO.no rfl rfl (WO.no rfl rfl (WO.p rfl rfl ?_)))))
                      refine WO.nil ?_
                      refine W.cond_t rfl ?_
                      refine W.sreg ?_
                      refine WO.p rfl rfl ?_
                      refine WO.nil ?_
                      refine W.ret ?_
                      refine fin.ret (Res.one rfl (RV.tmp rfl)) (congrArg (Value.int .i64) ?_)
                      first | (unfold chkR; rw [if_pos ⟨by omega, by omega, by omega, by omega, by omega⟩]; done) | (unfold chkR; rw [if_neg (fun h => by have h1 := h.den; have h2 := h.x; have h3 := h.y; have h4 := h.n; have h5 := h.d; omega)]; done))
                 · first
                   | (exfalso; omega)
                   | (refine WO.go' rfl (WO.fieldL rfl rfl rfl (WO.go' rfl (WO.fieldL rfl rfl rfl (WO.go' rfl (WO.load rfl rfl (Cell.own Pick.head rfl) rfl (WO.go' rfl ?_))))))
                      refine WO.callR rfl Try.call49 (fun L w hi => ref_within w _ _ _) rfl ?_
                      refine WO.pg rfl rfl rfl (WO.p rfl rfl ?_)
                      refine WO.nil ?_
                      refine W.cond_nbl rfl (fun c5 => ?_) (fun c5 => ?_)
                      · first
                        | (exfalso; omega)
                        | (refine W.sreg ?_
                           refine WO.p rfl rfl ?_
                           refine WO.nil ?_
                           refine W.ret ?_
                           refine fin.ret (Res.one rfl (RV.tmp rfl)) (congrArg (Value.int .i64) ?_)
                           first | (unfold chkR; rw [if_pos ⟨by omega, by omega, by omega, by omega, by omega⟩]; done) | (unfold chkR; rw [if_neg (fun h => by have h1 := h.den; have h2 := h.x; have h3 := h.y; have h4 := h.n; have h5 := h.d; omega)]; done))
                      · first
                        | (exfalso; omega)
                        | (refine W.skip ?_
                           refine W.sreg ?_
                           refine WO.p rfl rfl ?_
                           refine WO.nil ?_
                           refine W.ret ?_
                           refine fin.ret (Res.one rfl (RV.tmp rfl)) (congrArg (Value.int .i64) ?_)
                           first | (unfold chkR; rw [if_pos ⟨by omega, by omega, by omega, by omega, by omega⟩]; done) | (unfold chkR; rw [if_neg (fun h => by have h1 := h.den; have h2 := h.x; have h3 := h.y; have h4 := h.n; have h5 := h.d; omega)]; done))))))
/-- whether a circle holds all of some points -/
def holdL (c : Cir) (l : List (Int × Int)) : Prop := ∀ p ∈ l, whr c p ≤ 0
instance (c : Cir) (l : List (Int × Int)) : Decidable (holdL c l) := by unfold holdL; infer_instance
theorem ref_All (w : World) (c : Cir) (v : Value) (l : List (Int × Int)) (hR : RdF encP 2 w.heap.size w v l) (hc : OkR c) (hl : OkL l) : Ret Try.prog 63 [.agg #[.int .i64 c.x, .int .i64 c.y, .int .i64 c.den, .int .i64 c.n, .int .i64 c.d], v].toArray w (.bool (bl (holdL c l))) := by
  refine Ret.of mixed tyTab Try.func63 rfl rfl ?_
  replace hR : RdF encP 2 (fnCx mixed tyTab Try.f63.ntmps w).B (fnCx mixed tyTab Try.f63.ntmps w).w0 v l := hR
  have hle := hR.sl.le
  refine W.sreg ?_
  refine WO.boxA rfl rfl (fun b1 hb1 => ?_)
  refine WO.p rfl rfl ?_
  refine WO.nil ?_
  refine W.seq ?_
  refine W.sreg ?_
  refine WO.p rfl rfl ?_
  refine WO.nil ?_
  refine W.block ?_
  refine W.loop (fun (i : Nat) => i ≤ l.length ∧ holdL c (l.take i))
    (fun (i : Nat) => [(5, .int .i64 (i : Int)), (2, .pointer (some ⟨b1, 0, none⟩)), (1, v)])
    (fun (i : Nat) => [pt b1 (.cells #[.int .i64 c.x, .int .i64 c.y, .int .i64 c.den, .int .i64 c.n, .int .i64 c.d] 27 (0, 0))])
    (fun (i : Nat) => l.length - i) 0
    (by exact ⟨by omega, fun x hx => by simp at hx⟩) ⟨rfl, rfl, rfl, trivial⟩ (by repeat (first | exact Sub.nil | refine Sub.cons (by repeat (first | exact Pick.head | apply Pick.tail)) ?_)) ?_
  rintro i ⟨hi, hin⟩
  refine W.seq ?_
  refine W.sreg ?_
  refine WO.p rfl rfl (WO.p rfl rfl ?_)
  refine' WO.len (n := _) rfl rfl ?hs rfl ?_
  case hs => (first | exact hR.sl)
  refine WO.p rfl rfl ?_
  refine WO.nil ?_
  refine W.cond_bl rfl (fun c1 => ?_) (fun c1 => ?_)
  · first
    | (exfalso; omega)
    | (refine W.skip ?_
       refine W.seq ?_
       refine W.block ?_
       refine W.seq ?_
       refine W.drawD 5 [.b 0 [], .r 1 [], .r 2 [], .r 3 [], .b 4 []] [] (A0 := []) (Sub.refl _) (by kernel_rfl) ?_ ?_
       · exact (ALok.b (ALok.r (ALok.r (ALok.r (ALok.b ALok.nil)))))
       refine' DT.b rfl rfl rfl ?hq ?_
       case hq =>
         refine WO.loadA rfl rfl (Cells.own Pick.head) rfl rfl ?_
         exact WO.nil ⟨rfl, rfl⟩
       refine' DT.r rfl rfl rfl ?hq ?_
       case hq =>
         refine WO.p rfl rfl ?_
         exact WO.nil ⟨rfl, rfl⟩
       refine' DT.r rfl rfl rfl ?hq ?_
       case hq =>
         refine WO.p rfl rfl ?_
         exact WO.nil ⟨rfl, rfl⟩
       refine' DT.r rfl rfl rfl ?hq ?_
       case hq =>
         refine' WO.indexAddr (n := _) (i := _) rfl rfl rfl ?hs ?h1 rfl ?_
         case hs => (first | exact hR.sl)
         case h1 => (first | omega | (simp; omega))
         exact WO.nil ⟨rfl, rfl⟩
       refine' DT.b rfl rfl rfl ?hq ?_
       case hq =>
         refine' WO.loadA (vs := _) rfl rfl ?hc ?hl rfl ?_
         case hc => (first | exact RdF.cells2 hR (i := i) (by omega))
         case hl => rfl
         exact WO.nil ⟨rfl, rfl⟩
       refine DT.nil [_] rfl ?_
       refine WO.callR (r := .int .i64 (whr c (l.getD i (0, 0)))) rfl Try.call29 (fun L w hi => ref_Where w c (l.getD i (0, 0)) hc (hl _ (getD_mem (by omega) (0, 0)))) rfl ?_
       refine WO.p rfl rfl ?_
       refine WO.nil ?_
       refine W.cond_bl rfl (fun c2 => ?_) (fun c2 => ?_)
       · first
         | (exfalso; omega)
         | (refine W.sreg ?_
            refine WO.p rfl rfl ?_
            refine WO.nil ?_
            refine W.ret ?_
            refine fin.ret (Res.one rfl (RV.tmp rfl)) (congrArg Value.bool ?_)
            first | exact (bl_f.2 (fun h => by have := h _ (getD_mem (l := l) (i := i) (by omega) (0, 0)); omega)).symm | exact (bl_t.2 (by rw [show i = l.length by omega, List.take_length] at hin; exact hin)).symm)
       · first
         | (exfalso; omega)
         | (refine W.skip ?_
            refine W.region ?_
            refine WO.p rfl rfl (WO.ar rfl rfl rfl (by (first | (unfold in64; omega) | (unfold in64; omega))) rfl (WO.p rfl rfl ?_))
            refine WO.nil ?_
            refine' ⟨i + 1, ?hp, ?hmu, ⟨rfl, rfl, rfl, trivial⟩, ?hS⟩
            case hS => repeat (first | exact Sub.nil | refine Sub.cons (by repeat (first | exact Pick.head | apply Pick.tail)) ?_)
            case hp => exact ⟨by omega, all_succ (by omega) (0, 0) hin (by omega)⟩
            case hmu => omega))
  · first
    | (exfalso; omega)
    | (refine W.exit (blk_same ?_)
       refine W.sreg ?_
       refine WO.p rfl rfl ?_
       refine WO.nil ?_
       refine W.ret ?_
       refine fin.ret (Res.one rfl (RV.tmp rfl)) (congrArg Value.bool ?_)
       first | exact (bl_f.2 (fun h => by have := h _ (getD_mem (l := l) (i := i) (by omega) (0, 0)); omega)).symm | exact (bl_t.2 (by rw [show i = l.length by omega, List.take_length] at hin; exact hin)).symm)
end Go.Proofs.Ytkhplcncfogolaa
namespace Go.Proofs.Ytkhplcncfogolaa
open Go Go.TH
attribute [local irreducible] W WO pt
set_option maxRecDepth 10000
set_option maxHeartbeats 1000000
theorem c_within1 (w : World) (x lo hi : Int) (p q : Addr) (h1 : Cap w p (.int .i64 lo)) (h2 : Cap w q (.int .i64 hi)) : Ret Try.prog 79 [.int .i64 x, .pointer (some p), .pointer (some q)].toArray w (.bool (bl (¬ (lo ≤ x ∧ x ≤ hi)))) := by
  refine Ret.of mixed tyTab Try.func79 rfl rfl ?_
  replace h1 : Cap (fnCx mixed tyTab Try.f79.ntmps w).w0 p (.int .i64 lo) := h1
  replace h2 : Cap (fnCx mixed tyTab Try.f79.ntmps w).w0 q (.int .i64 hi) := h2
  refine W.sreg ?_
  refine WO.p rfl rfl ?_
  refine WO.nil ?_
  refine W.sreg ?_
  refine WO.p rfl rfl ?_
  refine' WO.load (v := _) rfl rfl ?hc rfl ?_
  case hc => (first | (refine Cap.cell (v := .int .i64 lo) rfl h1))
  refine WO.p rfl rfl (WO.p rfl rfl ?_)
  refine WO.guard_bl rfl rfl (fun c1 => ?_) (fun c1 => ?_)
  · first
    | (exfalso; omega)
    | (refine WO.no rfl rfl (WO.no rfl rfl (WO.no rfl rfl (WO.p rfl rfl (WO.p rfl rfl ?_))))
       refine WO.nil ?_
       refine W.ret ?_
       refine fin.ret (Res.one rfl (RV.tmp rfl)) (congrArg Value.bool ?_)
       first | exact (bl_t.2 (by omega)).symm | (rw [bl_eq, bl_eq, decide_eq_decide]; omega))
  · first
    | (exfalso; omega)
    | (refine WO.pg rfl rfl rfl (WO.go' rfl ?_)
       refine' WO.load (v := _) rfl rfl ?hc rfl ?_
       case hc => (first | (refine Cap.cell (v := .int .i64 hi) rfl h2))
       refine WO.pg rfl rfl rfl (WO.p rfl rfl (WO.p rfl rfl ?_))
       refine WO.nil ?_
       refine W.ret ?_
       refine fin.ret (Res.one rfl (RV.tmp rfl)) (congrArg Value.bool ?_)
       first | exact (bl_t.2 (by omega)).symm | (rw [bl_eq, bl_eq, decide_eq_decide]; omega))
theorem c_IndexI (w : World) (v : Value) (xs : List Int) (lo hi : Int) (p q : Addr) (hR : RdF encI 1 w.heap.size w v xs) (h1 : Cap w p (.int .i64 lo)) (h2 : Cap w q (.int .i64 hi)) : RetE Try.prog 83 [v, .func (.func 79) #[] #[.pointer (some p), .pointer (some q)]].toArray w (fun r => ∃ n : Int, r = .int .i64 n ∧ (0 ≤ n ↔ ¬ ∀ x ∈ xs, lo ≤ x ∧ x ≤ hi)) := by
  refine RetE.of mixed tyTab Try.func83 rfl rfl ?_
  replace hR : RdF encI 1 (fnCx mixed tyTab Try.f83.ntmps w).B (fnCx mixed tyTab Try.f83.ntmps w).w0 v xs := hR
  replace h1 : Cap (fnCx mixed tyTab Try.f83.ntmps w).w0 p (.int .i64 lo) := h1
  replace h2 : Cap (fnCx mixed tyTab Try.f83.ntmps w).w0 q (.int .i64 hi) := h2
  have hle := hR.sl.le
  refine W.sreg ?_
  refine WO.p rfl rfl ?_
  refine WO.nil ?_
  refine W.seq ?_
  refine W.sreg ?_
  refine WO.p rfl rfl ?_
  refine' WO.len (n := _) rfl rfl ?hs rfl ?_
  case hs => (first | exact hR.sl)
  refine WO.p rfl rfl ?_
  refine WO.nil ?_
  refine W.block ?_
  refine W.loop (fun (i : Nat) => i ≤ xs.length ∧ ∀ x ∈ xs.take i, lo ≤ x ∧ x ≤ hi)
    (fun (i : Nat) => [(8, .int .i64 (i : Int)), (7, .int .i64 (xs.length : Int)), (0, v), (1, .func (.func 79) #[] #[.pointer (some p), .pointer (some q)])])
    (fun (i : Nat) => [])
    (fun (i : Nat) => xs.length - i) 0
    (by exact ⟨by omega, by simp⟩) ⟨rfl, rfl, rfl, rfl, trivial⟩ (by repeat (first | exact Sub.nil | refine Sub.cons (by repeat (first | exact Pick.head | apply Pick.tail)) ?_)) ?_
  rintro i ⟨hi0, hal⟩
  refine W.sreg ?_
  refine WO.p rfl rfl ?_
  refine WO.nil ?_
  refine W.seq ?_
  refine W.cond_bl rfl (fun c1 => ?_) (fun c1 => ?_)
  · first
    | (exfalso; omega)
    | (refine W.skip ?_
       refine W.seq ?_
       refine W.block ?_
       refine W.sreg ?_
       refine WO.p rfl rfl (WO.p rfl rfl ?_)
       refine WO.nil ?_
       refine W.sreg ?_
       refine WO.p rfl rfl (WO.p rfl rfl (WO.p rfl rfl ?_))
       refine' WO.indexAddr (n := _) (i := _) rfl rfl rfl ?hs ?h1 rfl ?_
       case hs => (first | exact hR.sl)
       case h1 => (first | omega | (simp; omega))
       refine' WO.load (v := _) rfl rfl ?hc rfl ?_
       case hc => (first | (refine hR.cell0 ?_ 0 ?_ <;> first | rfl | omega))
       refine WO.callCR (first := []) (captured := [.pointer (some p), .pointer (some q)]) rfl rfl Try.call79 (fun L w hi' => c_within1 w (xs.getD i 0) lo hi p q (h1.old rfl hi') (h2.old rfl hi')) rfl ?_
       refine WO.nil ?_
       refine W.cond_bl rfl (fun c2 => ?_) (fun c2 => ?_)
       · first
         | (exfalso; omega)
         | (refine W.sreg ?_
            refine WO.p rfl rfl (WO.p rfl rfl ?_)
            refine WO.nil ?_
            refine W.ret ?_
            exact fin.ret (Res.one rfl (RV.tmp rfl)) ⟨_, rfl, by first | exact ⟨fun h => by omega, fun h => absurd (all_len (by omega) hal) h⟩ | exact ⟨fun _ => not_all_getD (i := i) (by omega) 0 (by assumption), fun _ => by omega⟩⟩)
       · first
         | (exfalso; omega)
         | (refine W.skip ?_
            refine W.region ?_
            refine WO.ar rfl rfl rfl (by (first | (unfold in64; omega) | (unfold in64; omega))) rfl (WO.p rfl rfl ?_)
            refine WO.nil ?_
            refine' ⟨i + 1, ?hp, ?hmu, ⟨rfl, rfl, rfl, rfl, trivial⟩, ?hS⟩
            case hS => repeat (first | exact Sub.nil | refine Sub.cons (by repeat (first | exact Pick.head | apply Pick.tail)) ?_)
            case hp => exact ⟨by omega, all_succ (by omega) 0 hal (Decidable.not_not.1 (by assumption))⟩
            case hmu => omega))
  · first
    | (exfalso; omega)
    | (refine W.exit (blk_same ?_)
       refine W.sreg ?_
       refine WO.p rfl rfl ?_
       refine WO.nil ?_
       refine W.ret ?_
       exact fin.ret (Res.one rfl (RV.tmp rfl)) ⟨_, rfl, by first | exact ⟨fun h => by omega, fun h => absurd (all_len (by omega) hal) h⟩ | exact ⟨fun _ => not_all_getD (i := i) (by omega) 0 (by assumption), fun _ => by omega⟩⟩)
theorem c_ContI (w : World) (v : Value) (xs : List Int) (lo hi : Int) (p q : Addr) (hR : RdF encI 1 w.heap.size w v xs) (h1 : Cap w p (.int .i64 lo)) (h2 : Cap w q (.int .i64 hi)) : Ret Try.prog 78 [v, .func (.func 79) #[] #[.pointer (some p), .pointer (some q)]].toArray w (.bool (bl (¬ ∀ x ∈ xs, lo ≤ x ∧ x ≤ hi))) := by
  refine Ret.of mixed tyTab Try.func78 rfl rfl ?_
  replace hR : RdF encI 1 (fnCx mixed tyTab Try.f78.ntmps w).B (fnCx mixed tyTab Try.f78.ntmps w).w0 v xs := hR
  replace h1 : Cap (fnCx mixed tyTab Try.f78.ntmps w).w0 p (.int .i64 lo) := h1
  replace h2 : Cap (fnCx mixed tyTab Try.f78.ntmps w).w0 q (.int .i64 hi) := h2
  refine W.sreg ?_
  refine WO.p rfl rfl ?_
  refine WO.nil ?_
  refine W.sreg ?_
  refine WO.p rfl rfl (WO.p rfl rfl ?_)
  refine WO.callE rfl Try.call83 (fun L w hi' => c_IndexI w v xs lo hi p q (hR.later hi') (h1.old rfl hi') (h2.old rfl hi')) rfl ?_
  rintro _ ⟨n, rfl, hn⟩
  refine WO.p rfl rfl (WO.p rfl rfl ?_)
  refine WO.nil ?_
  refine W.ret ?_
  refine fin.ret (Res.one rfl (RV.tmp rfl)) ?_
  refine congrArg Value.bool ?_
  rw [bl_eq, bl_eq]; exact decide_eq_decide.2 hn
theorem c_within (w : World) (v : Value) (xs : List Int) (lo hi : Int) (hR : RdF encI 1 w.heap.size w v xs) : Ret Try.prog 61 [.int .i64 lo, .int .i64 hi, v].toArray w (.bool (bl (∀ x ∈ xs, lo ≤ x ∧ x ≤ hi))) := by
  refine Ret.of mixed tyTab Try.func61 rfl rfl ?_
  replace hR : RdF encI 1 (fnCx mixed tyTab Try.f61.ntmps w).B (fnCx mixed tyTab Try.f61.ntmps w).w0 v xs := hR
  refine W.sreg ?_
  refine WO.box1 rfl (by first | rfl | assumption) rfl (fun b1 hb1 => ?_)
  refine WO.box1 rfl (by first | rfl | assumption) rfl (fun b2 hb2 => ?_)
  refine WO.p rfl rfl ?_
  refine WO.nil ?_
  refine W.sreg ?_
  refine WO.p rfl rfl (WO.p rfl rfl ?_)
  refine WO.callR rfl Try.call78 (fun L w hi' => c_ContI w v xs lo hi _ _ (hR.later hi') (Cap.of (b := b1) (by repeat (first | exact Pick.head | apply Pick.tail)) rfl hi') (Cap.of (b := b2) (by repeat (first | exact Pick.head | apply Pick.tail)) rfl hi')) rfl ?_
  refine WO.p rfl rfl (WO.p rfl rfl ?_)
  refine WO.nil ?_
  refine W.ret ?_
  refine fin.ret (Res.one rfl (RV.tmp rfl)) (congrArg Value.bool ?_)
  rcases Decidable.em (∀ x ∈ xs, lo ≤ x ∧ x ≤ hi) with h | h
  · (rw [bl_t.2 h, bl_f.2 (fun g => g h)]; try rfl)
  · (rw [bl_f.2 h, bl_t.2 h]; try rfl)
end Go.Proofs.Ytkhplcncfogolaa
namespace Go.Proofs.Ytkhplcncfogolaa
open Go Go.TH
attribute [local irreducible] W WO pt
set_option maxRecDepth 10000
set_option maxHeartbeats 1000000
theorem all1 {lo hi x : Int} : bl (∀ y ∈ [x], lo ≤ y ∧ y ≤ hi) = bl (lo ≤ x ∧ x ≤ hi) := by rw [bl_eq, bl_eq, decide_eq_decide]; simp
theorem all2 {lo hi x z : Int} : bl (∀ y ∈ [x, z], lo ≤ y ∧ y ≤ hi) = bl (lo ≤ x ∧ x ≤ hi ∧ lo ≤ z ∧ z ≤ hi) := by rw [bl_eq, bl_eq, decide_eq_decide]; simp; omega
theorem c_isPlace (w : World) (p : Int × Int) : Ret Try.prog 50 [.agg #[.int .i64 p.1, .int .i64 p.2]].toArray w (.bool (bl (OkP p))) := by
  refine Ret.of mixed tyTab Try.func50 rfl rfl ?_
  refine W.sreg ?_
  refine WO.boxA rfl rfl (fun b1 hb1 => ?_)
  refine WO.p rfl rfl ?_
  refine WO.nil ?_
  refine W.sreg ?_
  refine WO.field0 rfl rfl rfl (WO.load rfl rfl (Cell.own Pick.head rfl) rfl (WO.fieldL rfl rfl rfl (WO.load rfl rfl (Cell.own Pick.head rfl) rfl ?_)))
  refine' WO.buildSl (cs := _) rfl rfl rfl rfl ?hf rfl rfl ?hl rfl (fun v2 => ?_)
  case hf => (conv => lhs; simp [-List.getD_eq_getElem?_getD, fillL, vcl, wrl, TTab.pl?.lget']) <;> rfl
  case hl => rfl
  refine WO.callR (r := .bool (bl (-100 ≤ p.1 ∧ p.1 ≤ 100 ∧ -100 ≤ p.2 ∧ p.2 ≤ 100))) rfl Try.call61 (fun L w hi => by rw [← all2]; exact c_within w _ [p.1, p.2] _ _ (RdF.of_ow (e := 2) encI_ok (by repeat (first | exact Pick.head | apply Pick.tail)) hi)) rfl ?_
  refine WO.p rfl rfl ?_
  refine WO.nil ?_
  refine W.ret ?_
  refine fin.ret (Res.one rfl (RV.tmp rfl)) (congrArg Value.bool ?_)
  rw [bl_eq, bl_eq, decide_eq_decide]; unfold OkP; omega
theorem c_track1 (w : World) (p : Int × Int) : Ret Try.prog 60 [.agg #[.int .i64 p.1, .int .i64 p.2]].toArray w (.bool (bl (¬ OkP p))) := by
  refine Ret.of mixed tyTab Try.func60 rfl rfl ?_
  refine W.sreg ?_
  refine WO.boxA rfl rfl (fun b1 hb1 => ?_)
  refine WO.p rfl rfl ?_
  refine WO.nil ?_
  refine W.sreg ?_
  refine WO.loadA rfl rfl (Cells.own Pick.head) rfl rfl ?_
  refine WO.callR rfl Try.call50 (fun L w hi => c_isPlace w p) rfl ?_
  refine WO.p rfl rfl (WO.p rfl rfl ?_)
  refine WO.nil ?_
  refine W.ret ?_
  refine fin.ret (Res.one rfl (RV.tmp rfl)) (congrArg Value.bool ?_)
  rcases Decidable.em (OkP p) with h | h
  · (rw [bl_t.2 h, bl_f.2 (fun g => g h)]; try rfl)
  · (rw [bl_f.2 h, bl_t.2 h]; try rfl)
theorem c_IndexP (w : World) (v : Value) (l : List (Int × Int)) (hR : RdF encP 2 w.heap.size w v l) : RetE Try.prog 77 [v, .func (.func 60) #[] #[]].toArray w (fun r => ∃ n : Int, r = .int .i64 n ∧ (0 ≤ n ↔ ¬ OkL l)) := by
  refine RetE.of mixed tyTab Try.func77 rfl rfl ?_
  replace hR : RdF encP 2 (fnCx mixed tyTab Try.f77.ntmps w).B (fnCx mixed tyTab Try.f77.ntmps w).w0 v l := hR
  have hle := hR.sl.le
  refine W.sreg ?_
  refine WO.p rfl rfl ?_
  refine WO.nil ?_
  refine W.seq ?_
  refine W.sreg ?_
  refine WO.p rfl rfl ?_
  refine' WO.len (n := _) rfl rfl ?hs rfl ?_
  case hs => (first | exact hR.sl)
  refine WO.p rfl rfl ?_
  refine WO.nil ?_
  refine W.block ?_
  refine W.loop (fun (i : Nat) => i ≤ l.length ∧ OkL (l.take i))
    (fun (i : Nat) => [(8, .int .i64 (i : Int)), (7, .int .i64 (l.length : Int)), (0, v), (1, .func (.func 60) #[] #[])])
    (fun (i : Nat) => [])
    (fun (i : Nat) => l.length - i) 0
    (by exact ⟨by omega, fun x hx => by simp at hx⟩) ⟨rfl, rfl, rfl, rfl, trivial⟩ (by repeat (first | exact Sub.nil | refine Sub.cons (by repeat (first | exact Pick.head | apply Pick.tail)) ?_)) ?_
  rintro i ⟨hi0, hal⟩
  refine W.sreg ?_
  refine WO.p rfl rfl ?_
  refine WO.nil ?_
  refine W.seq ?_
  refine W.cond_bl rfl (fun c1 => ?_) (fun c1 => ?_)
  · first
    | (exfalso; omega)
    | (refine W.skip ?_
       refine W.seq ?_
       refine W.block ?_
       refine W.sreg ?_
       refine WO.p rfl rfl (WO.p rfl rfl ?_)
       refine WO.nil ?_
       refine W.sreg ?_
       refine WO.p rfl rfl (WO.p rfl rfl (WO.p rfl rfl ?_))
       refine' WO.indexAddr (n := _) (i := _) rfl rfl rfl ?hs ?h1 rfl ?_
       case hs => (first | exact hR.sl)
       case h1 => (first | omega | (simp; omega))
       refine' WO.loadA (vs := _) rfl rfl ?hc ?hl rfl ?_
       case hc => (first | exact RdF.cells2 hR (i := i) (by omega))
       case hl => rfl
       refine WO.callCR (first := []) (captured := []) rfl rfl Try.call60 (fun L w hi' => c_track1 w (l.getD i (0, 0))) rfl ?_
       refine WO.nil ?_
       refine W.cond_bl rfl (fun c2 => ?_) (fun c2 => ?_)
       · first
         | (exfalso; omega)
         | (refine W.sreg ?_
            refine WO.p rfl rfl (WO.p rfl rfl ?_)
            refine WO.nil ?_
            refine W.ret ?_
            exact fin.ret (Res.one rfl (RV.tmp rfl)) ⟨_, rfl, by first | exact ⟨fun h => by omega, fun h => absurd (all_len (by omega) hal) h⟩ | exact ⟨fun _ => not_all_getD (i := i) (by omega) (0, 0) (by assumption), fun _ => by omega⟩⟩)
       · first
         | (exfalso; omega)
         | (refine W.skip ?_
            refine W.region ?_
            refine WO.ar rfl rfl rfl (by (first | (unfold in64; omega) | (unfold in64; omega))) rfl (WO.p rfl rfl ?_)
            refine WO.nil ?_
            refine' ⟨i + 1, ?hp, ?hmu, ⟨rfl, rfl, rfl, rfl, trivial⟩, ?hS⟩
            case hS => repeat (first | exact Sub.nil | refine Sub.cons (by repeat (first | exact Pick.head | apply Pick.tail)) ?_)
            case hp => exact ⟨by omega, all_succ (by omega) (0, 0) hal (Decidable.not_not.1 (by assumption))⟩
            case hmu => omega))
  · first
    | (exfalso; omega)
    | (refine W.exit (blk_same ?_)
       refine W.sreg ?_
       refine WO.p rfl rfl ?_
       refine WO.nil ?_
       refine W.ret ?_
       exact fin.ret (Res.one rfl (RV.tmp rfl)) ⟨_, rfl, by first | exact ⟨fun h => by omega, fun h => absurd (all_len (by omega) hal) h⟩ | exact ⟨fun _ => not_all_getD (i := i) (by omega) (0, 0) (by assumption), fun _ => by omega⟩⟩)
theorem c_ContP (w : World) (v : Value) (l : List (Int × Int)) (hR : RdF encP 2 w.heap.size w v l) : Ret Try.prog 59 [v, .func (.func 60) #[] #[]].toArray w (.bool (bl (¬ OkL l))) := by
  refine Ret.of mixed tyTab Try.func59 rfl rfl ?_
  replace hR : RdF encP 2 (fnCx mixed tyTab Try.f59.ntmps w).B (fnCx mixed tyTab Try.f59.ntmps w).w0 v l := hR
  refine W.sreg ?_
  refine WO.p rfl rfl ?_
  refine WO.nil ?_
  refine W.sreg ?_
  refine WO.p rfl rfl (WO.p rfl rfl ?_)
  refine WO.callE rfl Try.call77 (fun L w hi' => c_IndexP w v l (hR.later hi')) rfl ?_
  rintro _ ⟨n, rfl, hn⟩
  refine WO.p rfl rfl (WO.p rfl rfl ?_)
  refine WO.nil ?_
  refine W.ret ?_
  refine fin.ret (Res.one rfl (RV.tmp rfl)) ?_
  refine congrArg Value.bool ?_
  rw [bl_eq, bl_eq]; exact decide_eq_decide.2 hn
theorem c_CheckTrack (w : World) (v : Value) (l : List (Int × Int)) (hR : RdF encP 2 w.heap.size w v l) : Ret Try.prog 34 [v].toArray w (.int .i64 (chkL l)) := by
  refine Ret.of mixed tyTab Try.func34 rfl rfl ?_
  replace hR : RdF encP 2 (fnCx mixed tyTab Try.f34.ntmps w).B (fnCx mixed tyTab Try.f34.ntmps w).w0 v l := hR
  refine W.sreg ?_
  refine WO.p rfl rfl ?_
  refine WO.nil ?_
  refine W.seq ?_
  refine W.block ?_
  refine W.sreg ?_
  refine WO.p rfl rfl ?_
  refine' WO.len (n := _) rfl rfl ?hs rfl ?_
  case hs => (first | exact hR.sl)
  refine WO.p rfl rfl (WO.p rfl rfl ?_)
  refine WO.guard_bl rfl rfl (fun c1 => ?_) (fun c1 => ?_)
  · first
    | (exfalso; omega)
    | (refine WO.no rfl rfl (WO.no rfl rfl (WO.no rfl rfl (WO.p rfl rfl (WO.p rfl rfl ?_))))
       refine WO.nil ?_
       refine W.cond_t rfl ?_
       refine W.sreg ?_
       refine WO.p rfl rfl ?_
       refine WO.nil ?_
       refine W.ret ?_
       refine fin.ret (Res.one rfl (RV.tmp rfl)) (congrArg (Value.int .i64) ?_)
       first | (unfold chkL; rw [if_pos (by omega)]; done) | (unfold chkL; rw [if_neg (by omega), if_neg (by assumption)]; done) | (unfold chkL; rw [if_neg (by omega), if_pos (Decidable.not_not.1 (by assumption))]; done))
  · first
    | (exfalso; omega)
    | (refine WO.pg rfl rfl rfl (WO.go' rfl ?_)
       refine' WO.len (n := _) rfl rfl ?hs rfl ?_
       case hs => (first | exact hR.sl)
       refine WO.pg rfl rfl rfl (WO.p rfl rfl (WO.p rfl rfl ?_))
       refine WO.nil ?_
       refine W.cond_bl rfl (fun c2 => ?_) (fun c2 => ?_)
       · first
         | (exfalso; omega)
         | (refine W.sreg ?_
            refine WO.p rfl rfl ?_
            refine WO.nil ?_
            refine W.ret ?_
            refine fin.ret (Res.one rfl (RV.tmp rfl)) (congrArg (Value.int .i64) ?_)
            first | (unfold chkL; rw [if_pos (by omega)]; done) | (unfold chkL; rw [if_neg (by omega), if_neg (by assumption)]; done) | (unfold chkL; rw [if_neg (by omega), if_pos (Decidable.not_not.1 (by assumption))]; done))
       · first
         | (exfalso; omega)
         | (refine W.sreg ?_
            refine WO.p rfl rfl ?_
            refine WO.callR rfl Try.call59 (fun L w hi' => c_ContP w v l (hR.later hi')) rfl ?_
            refine WO.p rfl rfl ?_
            refine WO.nil ?_
            refine W.cond_bl rfl (fun c3 => ?_) (fun c3 => ?_)
            · first
              | (exfalso; omega)
              | (refine W.sreg ?_
                 refine WO.p rfl rfl ?_
                 refine WO.nil ?_
                 refine W.ret ?_
                 refine fin.ret (Res.one rfl (RV.tmp rfl)) (congrArg (Value.int .i64) ?_)
                 first | (unfold chkL; rw [if_pos (by omega)]; done) | (unfold chkL; rw [if_neg (by omega), if_neg (by assumption)]; done) | (unfold chkL; rw [if_neg (by omega), if_pos (Decidable.not_not.1 (by assumption))]; done))
            · first
              | (exfalso; omega)
              | (refine W.skip ?_
                 refine W.sreg ?_
                 refine WO.p rfl rfl ?_
                 refine WO.nil ?_
                 refine W.ret ?_
                 refine fin.ret (Res.one rfl (RV.tmp rfl)) (congrArg (Value.int .i64) ?_)
                 first | (unfold chkL; rw [if_pos (by omega)]; done) | (unfold chkL; rw [if_neg (by omega), if_neg (by assumption)]; done) | (unfold chkL; rw [if_neg (by omega), if_pos (Decidable.not_not.1 (by assumption))]; done))))
end Go.Proofs.Ytkhplcncfogolaa
namespace Go.Proofs.Ytkhplcncfogolaa
open Go Go.TH
attribute [local irreducible] W WO pt
set_option maxRecDepth 10000
set_option maxHeartbeats 1000000
theorem c_CheckCircle (w : World) (c : Cir) : Ret Try.prog 36 [.agg #[.int .i64 c.x, .int .i64 c.y, .int .i64 c.den, .int .i64 c.n, .int .i64 c.d]].toArray w (.int .i64 (chkR c)) := by
  refine Ret.of mixed tyTab Try.func36 rfl rfl ?_
  refine W.sreg ?_
  refine WO.boxA rfl rfl (fun b1 hb1 => ?_)
  refine WO.p rfl rfl ?_
  refine WO.nil ?_
  refine W.seq ?_
  refine W.sreg ?_
  refine WO.fieldL rfl rfl rfl (WO.load rfl rfl (Cell.own Pick.head rfl) rfl ?_)
  refine' WO.buildSl (cs := _) rfl rfl rfl rfl ?hf rfl rfl ?hl rfl (fun v2 => ?_)
  case hf => (conv => lhs; simp [-List.getD_eq_getElem?_getD, fillL, vcl, wrl, TTab.pl?.lget']) <;> rfl
  case hl => rfl
  refine WO.callR (r := .bool (bl (1 ≤ c.den ∧ c.den ≤ 262144))) rfl Try.call61 (fun L w hi => by rw [← all1]; exact c_within w _ [c.den] _ _ (RdF.of_ow (e := 2) encI_ok (by repeat (first | exact Pick.head | apply Pick.tail)) hi)) rfl ?_
  refine WO.p rfl rfl (WO.p rfl rfl ?_)
  refine WO.guard_nbl rfl rfl (fun c1 => ?_) (fun c1 => ?_)
  · first
    | (exfalso; omega)
    | (refine WO.no rfl rfl (WO.no rfl rfl (WO.no rfl rfl (WO.no rfl rfl (WO.no rfl rfl (WO.no rfl rfl (WO.no rfl rfl (WO.p rfl rfl (WO.p rfl rfl (WO.no rfl rfl (WO.no rfl rfl (WO.no rfl rfl ?_)))))))))))
       refine WO.no rfl rfl (WO.no rfl rfl (WO.no rfl rfl (WO.p rfl rfl (WO.p rfl rfl (WO.no rfl rfl (WO.no rfl rfl (WO.no rfl rfl (WO.no rfl rfl (WO.no rfl rfl (WO.no rfl rfl (WO.p rfl rfl ?_)))))))))))
       refine WO.nil ?_
       refine W.cond_t rfl ?_
       refine W.sreg ?_
       refine WO.p rfl rfl ?_
       refine WO.nil ?_
       refine W.ret ?_
       refine fin.ret (Res.one rfl (RV.tmp rfl)) (congrArg (Value.int .i64) ?_)
       first | (unfold chkR; rw [if_pos ⟨by omega, by omega, by omega, by omega, by omega⟩]; done) | (unfold chkR; rw [if_neg (fun h => by have h1 := h.den; have h2 := h.x; have h3 := h.y; have h4 := h.n; have h5 := h.d; omega)]; done))
  · first
    | (exfalso; omega)
    | (refine WO.go' rfl (WO.field0 rfl rfl rfl (WO.go' rfl (WO.load rfl rfl (Cell.own (Pick.tail (Pick.head)) rfl) rfl (WO.go' rfl (WO.fieldL rfl rfl rfl (WO.go' rfl (WO.load rfl rfl (Cell.own (Pick.tail (Pick.head)) rfl) rfl (WO.go' rfl ?_))))))))
       refine' WO.buildSl (cs := _) rfl rfl rfl rfl ?hf rfl rfl ?hl rfl (fun v3 => ?_)
       case hf => (conv => lhs; simp [-List.getD_eq_getElem?_getD, fillL, vcl, wrl, TTab.pl?.lget']) <;> rfl
       case hl => rfl
       refine WO.go' rfl ?_
       refine WO.callR (r := .bool (bl (-268435456 ≤ c.x ∧ c.x ≤ 268435456 ∧ -268435456 ≤ c.y ∧ c.y ≤ 268435456))) rfl Try.call61 (fun L w hi => by rw [← all2]; exact c_within w _ [c.x, c.y] _ _ (RdF.of_ow (e := 2) encI_ok (by repeat (first | exact Pick.head | apply Pick.tail)) hi)) rfl ?_
       refine WO.pg rfl rfl rfl (WO.p rfl rfl (WO.p rfl rfl ?_))
       refine WO.guard_nbl rfl rfl (fun c2 => ?_) (fun c2 => ?_)
       · first
         | (exfalso; omega)
         | (refine WO.no rfl rfl (WO.no rfl rfl (WO.no rfl rfl (WO.no rfl rfl (WO.no rfl rfl (WO.no rfl rfl (WO.p rfl rfl (WO.p rfl rfl (WO.no rfl rfl (WO.no rfl rfl (WO.no rfl rfl (WO.no rfl rfl ?_)))))))))))
            refine WO.no rfl rfl (WO.no rfl rfl (WO.p rfl rfl ?_))
            refine WO.nil ?_
            refine W.cond_t rfl ?_
            refine W.sreg ?_
            refine WO.p rfl rfl ?_
            refine WO.nil ?_
            refine W.ret ?_
            refine fin.ret (Res.one rfl (RV.tmp rfl)) (congrArg (Value.int .i64) ?_)
            first | (unfold chkR; rw [if_pos ⟨by omega, by omega, by omega, by omega, by omega⟩]; done) | (unfold chkR; rw [if_neg (fun h => by have h1 := h.den; have h2 := h.x; have h3 := h.y; have h4 := h.n; have h5 := h.d; omega)]; done))
       · first
         | (exfalso; omega)
         | (refine WO.go' rfl (WO.fieldL rfl rfl rfl (WO.go' rfl (WO.field0 rfl rfl rfl (WO.go' rfl (WO.load rfl rfl (Cell.own (Pick.tail (Pick.tail (Pick.head))) rfl) rfl (WO.go' rfl ?_))))))
            refine' WO.buildSl (cs := _) rfl rfl rfl rfl ?hf rfl rfl ?hl rfl (fun v4 => ?_)
            case hf => (conv => lhs; simp [-List.getD_eq_getElem?_getD, fillL, vcl, wrl, TTab.pl?.lget']) <;> rfl
            case hl => rfl
            refine WO.go' rfl ?_
            refine WO.callR (r := .bool (bl (0 ≤ c.n ∧ c.n ≤ 1125899906842624))) rfl Try.call61 (fun L w hi => by rw [← all1]; exact c_within w _ [c.n] _ _ (RdF.of_ow (e := 2) encI_ok (by repeat (first | exact Pick.head | apply Pick.tail)) hi)) rfl ?_
            refine WO.pg rfl rfl rfl (WO.p rfl rfl (WO.p rfl rfl ?_))
            refine WO.guard_nbl rfl rfl (fun c3 => ?_) (fun c3 => ?_)
            · first
              | (exfalso; omega)
              | (refine WO.no rfl rfl (WO.no rfl rfl (WO.no rfl rfl (WO.no rfl rfl (WO.no rfl rfl (WO.no rfl rfl (WO.p rfl rfl ?_))))))
                 refine WO.nil ?_
                 refine W.cond_t rfl ?_
                 refine W.sreg ?_
                 refine WO.p rfl rfl ?_
                 refine WO.nil ?_
                 refine W.ret ?_
                 refine fin.ret (Res.one rfl (RV.tmp rfl)) (congrArg (Value.int .i64) ?_)
                 first | (unfold chkR; rw [if_pos ⟨by omega, by omega, by omega, by omega, by omega⟩]; done) | (unfold chkR; rw [if_neg (fun h => by have h1 := h.den; have h2 := h.x; have h3 := h.y; have h4 := h.n; have h5 := h.d; omega)]; done))
            · first
              | (exfalso; omega)
              | (refine WO.go' rfl (WO.fieldL rfl rfl rfl (WO.go' rfl (WO.fieldL rfl rfl rfl (WO.go' rfl (WO.load rfl rfl (Cell.own (Pick.tail (Pick.tail (Pick.tail (Pick.head)))) rfl) rfl (WO.go' rfl ?_))))))
                 refine' WO.buildSl (cs := _) rfl rfl rfl rfl ?hf rfl rfl ?hl rfl (fun v5 => ?_)
                 case hf => (conv => lhs; simp [-List.getD_eq_getElem?_getD, fillL, vcl, wrl, TTab.pl?.lget']) <;> rfl
                 case hl => rfl
                 refine WO.go' rfl ?_
                 refine WO.callR (r := .bool (bl (1 ≤ c.d ∧ c.d ≤ 1125899906842624))) rfl Try.call61 (fun L w hi => by rw [← all1]; exact c_within w _ [c.d] _ _ (RdF.of_ow (e := 2) encI_ok (by repeat (first | exact Pick.head | apply Pick.tail)) hi)) rfl ?_
                 refine WO.pg rfl rfl rfl (WO.p rfl rfl ?_)
                 refine WO.nil ?_
                 refine W.cond_nbl rfl (fun c4 => ?_) (fun c4 => ?_)
                 · first
                   | (exfalso; omega)
                   | (refine W.sreg ?_
                      refine WO.p rfl rfl ?_
                      refine WO.nil ?_
                      refine W.ret ?_
                      refine fin.ret (Res.one rfl (RV.tmp rfl)) (congrArg (Value.int .i64) ?_)
                      first | (unfold chkR; rw [if_pos ⟨by omega, by omega, by omega, by omega, by omega⟩]; done) | (unfold chkR; rw [if_neg (fun h => by have h1 := h.den; have h2 := h.x; have h3 := h.y; have h4 := h.n; have h5 := h.d; omega)]; done))
                 · first
                   | (exfalso; omega)
                   | (refine W.skip ?_
                      refine W.sreg ?_
                      refine WO.p rfl rfl ?_
                      refine WO.nil ?_
                      refine W.ret ?_
                      refine fin.ret (Res.one rfl (RV.tmp rfl)) (congrArg (Value.int .i64) ?_)
                      first | (unfold chkR; rw [if_pos ⟨by omega, by omega, by omega, by omega, by omega⟩]; done) | (unfold chkR; rw [if_neg (fun h => by have h1 := h.den; have h2 := h.x; have h3 := h.y; have h4 := h.n; have h5 := h.d; omega)]; done)))))
theorem c_newPoint (w : World) (p : Int × Int) : Ret Try.prog 51 [.agg #[.int .i64 p.1, .int .i64 p.2]].toArray w (.agg #[.int .i64 p.1, .int .i64 p.2]) := by
  refine Ret.of mixed tyTab Try.func51 rfl rfl ?_
  refine W.sreg ?_
  refine WO.boxA rfl rfl (fun b1 hb1 => ?_)
  refine WO.alloc rfl rfl rfl (fun b2 hb2 => ?_)
  refine WO.nil ?_
  refine W.sreg ?_
  refine WO.field0 rfl rfl rfl (WO.load rfl rfl (Cell.own (Pick.tail (Pick.head)) rfl) rfl (WO.fieldL rfl rfl rfl (WO.load rfl rfl (Cell.own (Pick.tail (Pick.head)) rfl) rfl ?_)))
  refine' WO.build (cs := _) rfl rfl rfl ?hf rfl ?_
  case hf => (conv => lhs; simp [-List.getD_eq_getElem?_getD, fillL, vcl, wrl, TTab.pl?.lget']) <;> rfl
  refine WO.storeA rfl rfl rfl rfl Pick.head rfl rfl ?_
  refine WO.nil ?_
  refine W.ret ?_
  exact fin.ret (Res.one rfl (RV.cell rfl rfl rfl (Cells.own Pick.head))) rfl
end Go.Proofs.Ytkhplcncfogolaa
namespace Go.Proofs.Ytkhplcncfogolaa
open Go Go.TH
attribute [local irreducible] W WO pt
set_option maxRecDepth 10000
set_option maxHeartbeats 1000000
theorem sqL2 (u v : Int) : sqL [u, v] = u * u + v * v := by unfold sqL; simp
theorem c_where (w : World) (c : Cir) (o : Value) (ho : o.oneCell' = true) (p : Int × Int) (hc : OkR c) (hp : OkP p) : Ret Try.prog 48 [.agg #[.int .i64 c.x, .int .i64 c.y, .int .i64 c.den, .int .i64 c.n, .int .i64 c.d, o], .agg #[.int .i64 p.1, .int .i64 p.2]].toArray w (.int .i64 (whr c p)) := by
  refine Ret.of mixed tyTab Try.func48 rfl rfl ?_
  have h1 := mul100 hp.1 hc.den
  have h2 := mul100 hp.2 hc.den
  have h3 := den_b hc.den
  have h4 := hc.x
  have h5 := hc.y
  have h6 := hc.n
  have h7 := hc.d
  have h8 := hc.den
  have q1 := sq_b (x := p.1 * c.den - c.x) (by omega)
  have q2 := sq_b (x := p.2 * c.den - c.y) (by omega)
  refine W.sreg ?_
  refine WO.boxA rfl rfl (fun b1 hb1 => ?_)
  refine WO.boxA rfl rfl (fun b2 hb2 => ?_)
  refine WO.p rfl rfl ?_
  refine WO.nil ?_
  refine W.seq ?_
  refine W.drawD 37 [.r 0 [], .b 1 [], .r 2 [], .r 3 [], .b 4 [], .r 5 [], .r 6 [], .r 7 [], .b 8 [], .r 9 [], .r 10 [], .b 11 [], .r 12 [], .r 13 [], .b 14 [], .r 15 [], .r 16 [], .r 17 [], .b 18 [], .r 19 [], .r 22 [], .r 23 [], .b 24 [], .r 25 [], .r 26 [], .b 27 [], .r 28 [], .r 29 [], .r 30 [], .r 31 [], .b 32 [], .r 33 [], .r 34 [], .r 35 [], .b 36 [], .c 20 [], .f 21 []] [] (A0 := []) (Sub.refl _) (by kernel_rfl) ?_ ?_
  · exact (ALok.r (ALok.b (ALok.r (ALok.r (ALok.b (ALok.r (ALok.r (ALok.r (ALok.b (ALok.r (ALok.r (ALok.b (ALok.r (ALok.r (ALok.b (ALok.r (ALok.r (ALok.r (ALok.b (ALok.r (ALok.r (ALok.r (ALok.b (ALok.r (ALok.r (ALok.b (ALok.r (ALok.r (ALok.r (ALok.r (ALok.b (ALok.r (ALok.r (ALok.r (ALok.b (ALok.c (ALok.f ALok.nil)))))))))))))))))))))))))))))))))))))
  refine' DT.r rfl rfl rfl ?hq ?_
  case hq =>
    refine WO.indexArrL (o' := 0) rfl rfl rfl (by decide) rfl rfl ?_
    exact WO.nil ⟨rfl, rfl⟩
  refine' DT.b rfl rfl rfl ?hq ?_
  case hq =>
    refine WO.load rfl rfl (Cell.own Pick.head rfl) rfl ?_
    exact WO.nil ⟨rfl, rfl⟩
  refine' DT.r rfl rfl rfl ?hq ?_
  case hq =>
    refine WO.field0 rfl rfl rfl ?_
    exact WO.nil ⟨rfl, rfl⟩
  refine' DT.r rfl rfl rfl ?hq ?_
  case hq =>
    refine WO.fieldL rfl rfl rfl ?_
    exact WO.nil ⟨rfl, rfl⟩
  refine' DT.b rfl rfl rfl ?hq ?_
  case hq =>
    refine WO.load rfl rfl (Cell.own (Pick.tail (Pick.head)) rfl) rfl ?_
    exact WO.nil ⟨rfl, rfl⟩
  refine' DT.r rfl rfl rfl ?hq ?_
  case hq =>
    refine WO.ar rfl rfl rfl (by (first | (unfold in64; omega) | (unfold in64; omega))) rfl ?_
    exact WO.nil ⟨rfl, rfl⟩
  refine' DT.r rfl rfl rfl ?hq ?_
  case hq =>
    refine WO.field0 rfl rfl rfl ?_
    exact WO.nil ⟨rfl, rfl⟩
  refine' DT.r rfl rfl rfl ?hq ?_
  case hq =>
    refine WO.field0 rfl rfl rfl ?_
    exact WO.nil ⟨rfl, rfl⟩
  refine' DT.b rfl rfl rfl ?hq ?_
  case hq =>
    refine WO.load rfl rfl (Cell.own (Pick.tail (Pick.head)) rfl) rfl ?_
    exact WO.nil ⟨rfl, rfl⟩
  refine' DT.r rfl rfl rfl ?hq ?_
  case hq =>
    refine WO.ar rfl rfl rfl (by (first | (unfold in64; omega) | (unfold in64; omega))) rfl ?_
    exact WO.nil ⟨rfl, rfl⟩
  refine' DT.r rfl rfl rfl ?hq ?_
  case hq =>
    refine WO.indexArrL (o' := 1) rfl rfl rfl (by decide) rfl rfl ?_
    exact WO.nil ⟨rfl, rfl⟩
  refine' DT.b rfl rfl rfl ?hq ?_
  case hq =>
    refine WO.load rfl rfl (Cell.own Pick.head rfl) rfl ?_
    exact WO.nil ⟨rfl, rfl⟩
  refine' DT.r rfl rfl rfl ?hq ?_
  case hq =>
    refine WO.field0 rfl rfl rfl ?_
    exact WO.nil ⟨rfl, rfl⟩
  refine' DT.r rfl rfl rfl ?hq ?_
  case hq =>
    refine WO.fieldL rfl rfl rfl ?_
    exact WO.nil ⟨rfl, rfl⟩
  refine' DT.b rfl rfl rfl ?hq ?_
  case hq =>
    refine WO.load rfl rfl (Cell.own (Pick.tail (Pick.head)) rfl) rfl ?_
    exact WO.nil ⟨rfl, rfl⟩
  refine' DT.r rfl rfl rfl ?hq ?_
  case hq =>
    refine WO.ar rfl rfl rfl (by (first | (unfold in64; omega) | (unfold in64; omega))) rfl ?_
    exact WO.nil ⟨rfl, rfl⟩
  refine' DT.r rfl rfl rfl ?hq ?_
  case hq =>
    refine WO.field0 rfl rfl rfl ?_
    exact WO.nil ⟨rfl, rfl⟩
  refine' DT.r rfl rfl rfl ?hq ?_
  case hq =>
    refine WO.fieldL rfl rfl rfl ?_
    exact WO.nil ⟨rfl, rfl⟩
  refine' DT.b rfl rfl rfl ?hq ?_
  case hq =>
    refine WO.load rfl rfl (Cell.own (Pick.tail (Pick.head)) rfl) rfl ?_
    exact WO.nil ⟨rfl, rfl⟩
  refine' DT.r rfl rfl rfl ?hq ?_
  case hq =>
    refine WO.ar rfl rfl rfl (by (first | (unfold in64; omega) | (unfold in64; omega))) rfl ?_
    exact WO.nil ⟨rfl, rfl⟩
  refine' DT.r rfl rfl rfl ?hq ?_
  case hq =>
    refine WO.field0 rfl rfl rfl ?_
    exact WO.nil ⟨rfl, rfl⟩
  refine' DT.r rfl rfl rfl ?hq ?_
  case hq =>
    refine WO.fieldL rfl rfl rfl ?_
    exact WO.nil ⟨rfl, rfl⟩
  refine' DT.b rfl rfl rfl ?hq ?_
  case hq =>
    refine WO.load rfl rfl (Cell.own (Pick.tail (Pick.head)) rfl) rfl ?_
    exact WO.nil ⟨rfl, rfl⟩
  refine' DT.r rfl rfl rfl ?hq ?_
  case hq =>
    refine WO.field0 rfl rfl rfl ?_
    exact WO.nil ⟨rfl, rfl⟩
  refine' DT.r rfl rfl rfl ?hq ?_
  case hq =>
    refine WO.fieldL rfl rfl rfl ?_
    exact WO.nil ⟨rfl, rfl⟩
  refine' DT.b rfl rfl rfl ?hq ?_
  case hq =>
    refine WO.load rfl rfl (Cell.own (Pick.tail (Pick.head)) rfl) rfl ?_
    exact WO.nil ⟨rfl, rfl⟩
  refine' DT.r rfl rfl rfl ?hq ?_
  case hq =>
    refine WO.ar rfl rfl rfl (by (first | (unfold in64; omega) | (unfold in64; omega))) rfl ?_
    exact WO.nil ⟨rfl, rfl⟩
  refine' DT.r rfl rfl rfl ?hq ?_
  case hq =>
    refine WO.field0 rfl rfl rfl ?_
    exact WO.nil ⟨rfl, rfl⟩
  refine' DT.r rfl rfl rfl ?hq ?_
  case hq =>
    refine WO.fieldL rfl rfl rfl ?_
    exact WO.nil ⟨rfl, rfl⟩
  refine' DT.r rfl rfl rfl ?hq ?_
  case hq =>
    refine WO.field0 rfl rfl rfl ?_
    exact WO.nil ⟨rfl, rfl⟩
  refine' DT.b rfl rfl rfl ?hq ?_
  case hq =>
    refine WO.load rfl rfl (Cell.own (Pick.tail (Pick.head)) rfl) rfl ?_
    exact WO.nil ⟨rfl, rfl⟩
  refine' DT.r rfl rfl rfl ?hq ?_
  case hq =>
    refine WO.field0 rfl rfl rfl ?_
    exact WO.nil ⟨rfl, rfl⟩
  refine' DT.r rfl rfl rfl ?hq ?_
  case hq =>
    refine WO.fieldL rfl rfl rfl ?_
    exact WO.nil ⟨rfl, rfl⟩
  refine' DT.r rfl rfl rfl ?hq ?_
  case hq =>
    refine WO.fieldL rfl rfl rfl ?_
    exact WO.nil ⟨rfl, rfl⟩
  refine' DT.b rfl rfl rfl ?hq ?_
  case hq =>
    refine WO.load rfl rfl (Cell.own (Pick.tail (Pick.head)) rfl) rfl ?_
    exact WO.nil ⟨rfl, rfl⟩
  refine DT.c [_, _] rfl rfl rfl rfl ?_
  refine' WO.buildSl (cs := _) rfl rfl rfl rfl ?hf rfl rfl ?hl rfl (fun v3 => ?_)
  case hf => (conv => lhs; simp [-List.getD_eq_getElem?_getD, fillL, vcl, wrl, TTab.pl?.lget']) <;> rfl
  case hl => rfl
  refine WO.nil ⟨_, [_], rfl, rfl, (Keep.b (Keep.r (Keep.r (Keep.r (Keep.b (Keep.r (Keep.r (Keep.r (Keep.r (Keep.b (Keep.r (Keep.r (Keep.b (Keep.r (Keep.r (Keep.r (Keep.b (Keep.r (Keep.r (Keep.r (Keep.b (Keep.r (Keep.r (Keep.b (Keep.r (Keep.r (Keep.b (Keep.r (Keep.r (Keep.r (Keep.b (Keep.r (Keep.r (Keep.b (Keep.r Keep.nil))))))))))))))))))))))))))))))))))), ?_⟩
  refine' DT.f [_, _, _] rfl rfl rfl rfl ?hq ?_
  case hq =>
    refine WO.callR (r := .int .i64 ((p.1 * c.den - c.x) * (p.1 * c.den - c.x) + (p.2 * c.den - c.y) * (p.2 * c.den - c.y))) rfl Try.call69 (fun L w hi => by rw [← sqL2]; exact c_squares w _ [p.1 * c.den - c.x, p.2 * c.den - c.y] (RdF.of_ow (e := 2) encI_ok (by repeat (first | exact Pick.head | apply Pick.tail)) hi) (by simp) (by simp; omega)) rfl ?_
    exact WO.nil ⟨rfl, rfl⟩
  refine DT.nil [_, _, _] rfl ?_
  refine WO.callR rfl Try.call68 (fun L w hi => c_compare w _ _ c.n c.d (by omega) (by omega) (by omega) (by omega) (by unfold in64; omega) (by unfold in64; omega) (by unfold in64; omega) (by unfold in64; omega)) rfl ?_
  refine WO.p rfl rfl ?_
  refine WO.nil ?_
  refine W.ret ?_
  exact fin.ret (Res.one rfl (RV.tmp rfl)) rfl
end Go.Proofs.Ytkhplcncfogolaa
namespace Go.Proofs.Ytkhplcncfogolaa
open Go Go.TH
attribute [local irreducible] W WO pt
set_option maxRecDepth 10000
set_option maxHeartbeats 1000000
theorem isSl_lit {a0 : Option Addr} {n c : Nat} (h : n ≤ 9223372036854775807) (h2 : 0 < n → ∃ b o, a0 = some ⟨b, o, none⟩) : IsSl (.slice a0 n c) n := ⟨h, a0, c, rfl, h2⟩
theorem c_points (w : World) (v : Value) (l : List (Int × Int)) (hR : RdF encP 2 w.heap.size w v l) (hl : l.length ≤ 1000) : Ct Try.prog 46 [v].toArray w fun r w' => ∃ Hq, (Hq = [OwE encP 74 2 r l]) ∧ Inv w [] Hq w' := by
  refine Ct.of mixed tyTab Try.func46 rfl rfl ?_
  replace hR : RdF encP 2 (fnCx mixed tyTab Try.f46.ntmps w).B (fnCx mixed tyTab Try.f46.ntmps w).w0 v l := hR
  refine W.sreg ?_
  refine WO.p rfl rfl ?_
  refine WO.nil ?_
  refine W.sreg ?_
  refine WO.p rfl rfl ?_
  refine WO.nil ?_
  refine W.seq ?_
  refine W.sreg ?_
  refine WO.p rfl rfl ?_
  refine' WO.len (n := _) rfl rfl ?hs rfl ?_
  case hs => (first | exact hR.sl)
  refine WO.p rfl rfl ?_
  refine WO.nil ?_
  refine W.block ?_
  refine W.chg (owNil (enc := encP) (e := 74) (sz := 2)) ?_
  refine W.loop2 (fun (i : Nat) (x : Value) => i ≤ l.length)
    (fun (i : Nat) (x : Value) => [(8, .int .i64 (i : Int)), (7, .int .i64 (l.length : Int)), (6, v), (3, x)])
    (fun (i : Nat) (x : Value) => [OwE encP 74 2 x (l.take i)])
    (fun (i : Nat) (x : Value) => l.length - i) 0 (.slice none 0 0)
    (by omega) ⟨rfl, rfl, rfl, rfl, trivial⟩ (by repeat (first | exact Sub.nil | refine Sub.cons (by repeat (first | exact Pick.head | apply Pick.tail)) ?_)) ?_
  rintro i x hi0
  refine W.sreg ?_
  refine WO.p rfl rfl ?_
  refine WO.nil ?_
  refine W.seq ?_
  refine W.cond_bl rfl (fun c1 => ?_) (fun c1 => ?_)
  · first
    | (exfalso; omega)
    | (refine W.skip ?_
       refine W.seq ?_
       refine W.block ?_
       refine W.sreg ?_
       refine' WO.indexAddr (n := _) (i := _) rfl rfl rfl ?hs ?h1 rfl ?_
       case hs => (first | exact hR.sl)
       case h1 => (first | omega | (simp; omega))
       refine' WO.loadA (vs := _) rfl rfl ?hc ?hl rfl ?_
       case hc => (first | exact RdF.cells2 hR (i := i) (by omega))
       case hl => rfl
       refine WO.alloc rfl rfl rfl (fun b1 hb1 => ?_)
       refine WO.storeA rfl rfl rfl rfl Pick.head rfl rfl ?_
       refine WO.nil ?_
       refine W.region ?_
       refine WO.p rfl rfl (WO.loadA rfl rfl (Cells.own Pick.head) rfl rfl ?_)
       refine WO.callR rfl Try.call51 (fun L w hi => c_newPoint w (l.getD i (0, 0))) rfl ?_
       refine' WO.buildSl (cs := _) rfl rfl rfl rfl ?hf rfl rfl ?hl rfl (fun v2 => ?_)
       case hf => (conv => lhs; simp [-List.getD_eq_getElem?_getD, fillL, vcl, wrl, TTab.pl?.lget']) <;> rfl
       case hl => rfl
       refine' WO.appendE (enc := encP) (m := 1) (ys := [l.getD i (0, 0)]) encP_ok rfl rfl rfl rfl rfl (by repeat (first | exact Pick.head | apply Pick.tail)) (isSl_lit (by omega) (fun _ => ⟨_, _, rfl⟩)) (by omega) rfl (OwC.cells .head) (by rw [List.length_take]; omega) (by rw [List.length_take]; omega) rfl (fun g c => ?_)
       rw [← take_succ_getD (l := l) (i := i) (by omega) (0, 0)]
       refine WO.p rfl rfl ?_
       refine WO.nil ?_
       refine W.region ?_
       refine WO.ar rfl rfl rfl (by (first | (unfold in64; omega) | (unfold in64; omega))) rfl (WO.p rfl rfl ?_)
       refine WO.nil ?_
       refine' ⟨i + 1, _, ?hp, ?hmu, ⟨rfl, rfl, rfl, rfl, trivial⟩, ?hS⟩
       case hS => repeat (first | exact Sub.nil | refine Sub.cons (by repeat (first | exact Pick.head | apply Pick.tail)) ?_)
       case hp => omega
       case hmu => omega)
  · first
    | (exfalso; omega)
    | (refine W.exit (blk_same ?_)
       obtain rfl : i = l.length := by omega
       rw [List.take_length]
       refine W.sreg ?_
       refine WO.p rfl rfl (WO.p rfl rfl ?_)
       refine WO.nil ?_
       refine W.ret ?_
       exact fin.ret (Res.one rfl (RV.tmp rfl)) rfl)
end Go.Proofs.Ytkhplcncfogolaa
namespace Go.Proofs.Ytkhplcncfogolaa
open Go Go.TH
attribute [local irreducible] W WO pt
set_option maxRecDepth 10000
set_option maxHeartbeats 1000000
def gcdA (xs : List Int) : Int := xs.foldl (fun g x => gcd2 g (ab x)) 0
theorem c_common (w : World) (v : Value) (xs : List Int) (hR : RdF encI 1 w.heap.size w v xs) (hp : ∀ x ∈ xs, in64 (-x)) :
    Ret Try.prog 82 [v].toArray w (.int .i64 (gcdA xs)) := by
  refine Ret.of mixed tyTab Try.func82 rfl rfl ?_
  replace hR : RdF encI 1 (fnCx mixed tyTab Try.f82.ntmps w).B (fnCx mixed tyTab Try.f82.ntmps w).w0 v xs := hR
  have hle := hR.sl.le
  refine W.sreg ?_
  refine WO.p rfl rfl ?_
  refine WO.nil ?_
  refine W.sreg ?_
  refine WO.p rfl rfl ?_
  refine WO.nil ?_
  refine W.seq ?_
  refine W.sreg ?_
  refine WO.p rfl rfl ?_
  refine' WO.len (n := _) rfl rfl ?hs rfl ?_
  case hs => (first | exact hR.sl)
  refine WO.p rfl rfl ?_
  refine WO.nil ?_
  refine W.block ?_
  refine W.loop2 (fun (i : Nat) (d : Int) => i ≤ xs.length ∧ 0 ≤ d ∧ d = (xs.take i).foldl (fun g x => gcd2 g (ab x)) 0)
    (fun (i : Nat) (d : Int) => [(8, .int .i64 (i : Int)), (7, .int .i64 (xs.length : Int)), (6, v), (3, .int .i64 d)])
    (fun (i : Nat) (d : Int) => [])
    (fun (i : Nat) (d : Int) => xs.length - i) 0 0
    (by exact ⟨by omega, by omega, rfl⟩) ⟨rfl, rfl, rfl, rfl, trivial⟩ (by repeat (first | exact Sub.nil | refine Sub.cons (by repeat (first | exact Pick.head | apply Pick.tail)) ?_)) ?_
  rintro i d ⟨hi, hd0, hd⟩
  refine W.sreg ?_
  refine WO.p rfl rfl ?_
  refine WO.nil ?_
  refine W.seq ?_
  refine W.cond_bl rfl (fun c1 => ?_) (fun c1 => ?_)
  · first
    | (exfalso; omega)
    | (refine W.skip ?_
       refine W.seq ?_
       refine W.block ?_
       refine W.sreg ?_
       refine' WO.indexAddr (n := _) (i := _) rfl rfl rfl ?hs ?h1 rfl ?_
       case hs => (first | exact hR.sl)
       case h1 => (first | omega | (simp; omega))
       refine' WO.load (v := _) rfl rfl ?hc rfl ?_
       case hc => (first | (refine hR.cell0 ?_ 0 ?_ <;> first | rfl | omega))
       refine WO.p rfl rfl ?_
       refine WO.nil ?_
       refine W.sreg ?_
       refine WO.p rfl rfl (WO.p rfl rfl (WO.neg rfl (by (first | (unfold in64; omega) | exact hp _ (getD_mem (by omega) 0) | (unfold in64; omega))) rfl ?_))
       refine WO.max2 rfl rfl rfl ?_
       refine WO.p rfl rfl ?_
       refine WO.nil ?_
       refine W.block ?_
       refine W.loop2 (fun (x : Int) (y : Int) => 0 ≤ x ∧ 0 ≤ y ∧ gcd2 x y = gcd2 d (ab (xs.getD i 0)))
         (fun (x : Int) (y : Int) => [(3, .int .i64 x), (5, .int .i64 y), (8, .int .i64 (i : Int)), (7, .int .i64 (xs.length : Int)), (6, v)])
         (fun (x : Int) (y : Int) => [])
         (fun (x : Int) (y : Int) => y.toNat) d (max (xs.getD i 0) (-(xs.getD i 0)))
         (by exact ⟨hd0, ab_nn _, rfl⟩) ⟨rfl, rfl, rfl, rfl, rfl, trivial⟩ (by repeat (first | exact Sub.nil | refine Sub.cons (by repeat (first | exact Pick.head | apply Pick.tail)) ?_)) ?_
       rintro x y ⟨hx, hy, hg⟩
       refine W.seq ?_
       refine W.sreg ?_
       refine WO.p rfl rfl (WO.p rfl rfl ?_)
       refine WO.nil ?_
       refine W.cond_bl rfl (fun c2 => ?_) (fun c2 => ?_)
       · first
         | (exfalso; omega)
         | (refine W.skip ?_
            refine W.block ?_
            refine W.drawD 5 [.r 0 [], .r 1 [], .r 2 [3], .r 3 [3], .r 4 [3]] [3] (A0 := []) (Sub.refl _) (by kernel_rfl) ?_ ?_
            · exact (ALok.r (ALok.r (ALok.r (ALok.r (ALok.r ALok.nil)))))
            refine' DT.r rfl rfl rfl ?hq ?_
            case hq =>
              refine WO.p rfl rfl ?_
              exact WO.nil ⟨rfl, rfl⟩
            refine' DT.r rfl rfl rfl ?hq ?_
            case hq =>
              refine WO.p rfl rfl ?_
              exact WO.nil ⟨rfl, rfl⟩
            refine' DT.r rfl rfl rfl ?hq ?_
            case hq =>
              refine WO.p rfl rfl ?_
              exact WO.nil ⟨rfl, rfl⟩
            refine' DT.r rfl rfl rfl ?hq ?_
            case hq =>
              refine WO.rem rfl rfl (by first | omega | assumption) rfl ?_
              exact WO.nil ⟨rfl, rfl⟩
            refine' DT.r rfl rfl rfl ?hq ?_
            case hq =>
              refine WO.p rfl rfl ?_
              exact WO.nil ⟨rfl, rfl⟩
            refine DT.nil [] rfl ?_
            refine WO.p rfl rfl ?_
            refine WO.nil ?_
            refine' ⟨_, _, ?hp, ?hmu, ⟨rfl, rfl, rfl, rfl, rfl, trivial⟩, ?hS⟩
            case hS => repeat (first | exact Sub.nil | refine Sub.cons (by repeat (first | exact Pick.head | apply Pick.tail)) ?_)
            case hp => exact ⟨hy, (tmod_lt hx (by omega)).1, by rw [gcd2_step hx (by omega)]; exact hg⟩
            case hmu => have := tmod_lt hx (show 0 < y by omega); omega)
       · first
         | (exfalso; omega)
         | (refine W.exit (blk_same ?_)
            refine W.region ?_
            refine WO.ar rfl rfl rfl (by (first | (unfold in64; omega) | exact hp _ (getD_mem (by omega) 0) | (unfold in64; omega))) rfl (WO.p rfl rfl ?_)
            refine WO.nil ?_
            refine' ⟨i + 1, _, ?hp, ?hmu, ⟨rfl, rfl, rfl, rfl, trivial⟩, ?hS⟩
            case hS => repeat (first | exact Sub.nil | refine Sub.cons (by repeat (first | exact Pick.head | apply Pick.tail)) ?_)
            case hp => exact ⟨by omega, hx, by rw [take_succ_getD (by omega) 0, List.foldl_append, ← hd]; show x = gcd2 d (ab (xs.getD i 0)); rw [← hg, show y = 0 by omega, gcd2_zero hx]⟩
            case hmu => omega))
  · first
    | (exfalso; omega)
    | (refine W.exit (blk_same ?_)
       refine W.sreg ?_
       refine WO.p rfl rfl (WO.p rfl rfl ?_)
       refine WO.nil ?_
       refine W.ret ?_
       refine fin.ret (Res.one rfl (RV.tmp rfl)) ?_
       obtain rfl : i = xs.length := by omega
       rw [hd, List.take_length]; rfl)
end Go.Proofs.Ytkhplcncfogolaa
