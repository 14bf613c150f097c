/-
  What is proved here: the reference's bounds. Conditions: none; each contract states its own.
  What is proved here: the reference's test of a bound. Conditions: none; each contract states its own.
-/
import Derived.Test.YtgihklgpehfbpaaM3
namespace Go.Proofs.Ytgihklgpehfbpaa
open Go Go.TH
attribute [local irreducible] W WO pt
set_option maxRecDepth 10000
set_option maxHeartbeats 4000000
/-- what an offset y adds above, and below; i of n, k of m -/
def tA (what sp st : Int) (n m i k : Nat) (y : Int) : Int :=
  if what = 2 then 3 * st * st * k * (wgt i n * wgt k m) * y + (if k + 1 = m then 2 * wgt i n * y * y * y else 0)
  else if what = 1 then st * k * (wgt i n * wgt k m) * y else sp * i * (wgt i n * wgt k m) * y
def tB (what st : Int) (n m i k : Nat) (y : Int) : Int := if what = 2 then 3 * st * (wgt i n * wgt k m) * y else wgt i n * wgt k m * y
def exT (what sp st num den : Int) (n m i k : Nat) (y : Int) : Int := den * tA what sp st n m i k y - num * tB what st n m i k y
/-- the greatest, or least, of f lo, .., f (lo + j) -/
def bestV (f : Int → Int) (high : Bool) (lo : Int) : Nat → Int
  | 0 => f lo
  | j + 1 => if (high = true ∧ bestV f high lo j < f (lo + (j + 1 : Nat))) ∨ (high = false ∧ f (lo + (j + 1 : Nat)) < bestV f high lo j) then f (lo + (j + 1 : Nat)) else bestV f high lo j
theorem bestV_in {f : Int → Int} {high : Bool} {lo A B : Int} : ∀ {j : Nat}, (∀ y, lo ≤ y → y ≤ lo + j → A ≤ f y ∧ f y ≤ B) → A ≤ bestV f high lo j ∧ bestV f high lo j ≤ B
  | 0, h => h lo (by omega) (by omega)
  | j + 1, h => by
    have h1 := bestV_in (f := f) (high := high) (lo := lo) (A := A) (B := B) (j := j) (fun y a b => h y a (by omega))
    have h2 := h (lo + (j + 1 : Nat)) (by omega) (by omega)
    simp only [bestV]
    split <;> assumption
@[reducible] def lo0 (rows : List (List (Int × Int))) (i k : Nat) : Int := ((rows.getD i []).getD k (0, 0)).1
@[reducible] def hi0 (rows : List (List (Int × Int))) (i k : Nat) : Int := ((rows.getD i []).getD k (0, 0)).2
/-- the best at one place -/
def best1 (what sp st num den : Int) (high : Bool) (rows : List (List (Int × Int))) (i k : Nat) : Int :=
  bestV (exT what sp st num den rows.length (rows.getD i []).length i k) high (lo0 rows i k) (hi0 rows i k - lo0 rows i k).toNat
def partS (what sp st num den : Int) (high : Bool) (rows : List (List (Int × Int))) (i : Nat) : Int := ps (fun i => ps (fun k => best1 what sp st num den high rows i k) (rows.getD i []).length) i
theorem ps_boundZ {f : Nat → Int} {A B : Int} : ∀ {k : Nat}, (∀ j, j < k → -A ≤ f j ∧ f j ≤ B) → -(k * A) ≤ ps f k ∧ ps f k ≤ k * B
  | 0, _ => by simp [ps]
  | k + 1, h => by
    have h1 := ps_boundZ (A := A) (B := B) (k := k) (fun j hj => h j (by omega))
    have h2 := h k (by omega)
    have e : ((k + 1 : Nat) : Int) * B = k * B + B := by rw [Int.natCast_add, Int.add_mul]; simp
    have e' : ((k + 1 : Nat) : Int) * A = k * A + A := by rw [Int.natCast_add, Int.add_mul]; simp
    simp only [ps]
    omega
/-- all that has to fit, of one offset -/
structure TF (sp st num den : Int) (n m i k : Nat) (y : Int) : Prop where
  a1 : 0 ≤ sp * i ∧ sp * i ≤ 9000
  w : 0 ≤ wgt i n * wgt k m ∧ wgt i n * wgt k m ≤ 4
  a2 : 0 ≤ sp * i * (wgt i n * wgt k m) ∧ sp * i * (wgt i n * wgt k m) ≤ 36000
  a3 : 0 ≤ sp * i * (wgt i n * wgt k m) * y ∧ sp * i * (wgt i n * wgt k m) * y ≤ 18000000
  b1 : 0 ≤ wgt i n * wgt k m * y ∧ wgt i n * wgt k m * y ≤ 2000
  c1 : 0 ≤ st * k ∧ st * k ≤ 500
  c2 : 0 ≤ st * k * (wgt i n * wgt k m) ∧ st * k * (wgt i n * wgt k m) ≤ 2000
  c3 : 0 ≤ st * k * (wgt i n * wgt k m) * y ∧ st * k * (wgt i n * wgt k m) * y ≤ 1000000
  d1 : 0 ≤ 3 * st * st ∧ 3 * st * st ≤ 30000
  d2 : 0 ≤ 3 * st * st * k ∧ 3 * st * st * k ≤ 150000
  d3 : 0 ≤ 3 * st * st * k * (wgt i n * wgt k m) ∧ 3 * st * st * k * (wgt i n * wgt k m) ≤ 600000
  d4 : 0 ≤ 3 * st * st * k * (wgt i n * wgt k m) * y ∧ 3 * st * st * k * (wgt i n * wgt k m) * y ≤ 300000000
  e1 : 0 ≤ 3 * st * (wgt i n * wgt k m) ∧ 3 * st * (wgt i n * wgt k m) ≤ 1200
  e2 : 0 ≤ 3 * st * (wgt i n * wgt k m) * y ∧ 3 * st * (wgt i n * wgt k m) * y ≤ 600000
  w2 : 0 ≤ wgt i n ∧ wgt i n ≤ 2
  g1 : 0 ≤ 2 * wgt i n * y ∧ 2 * wgt i n * y ≤ 2000
  g2 : 0 ≤ 2 * wgt i n * y * y ∧ 2 * wgt i n * y * y ≤ 1000000
  g3 : 0 ≤ 2 * wgt i n * y * y * y ∧ 2 * wgt i n * y * y * y ≤ 500000000
theorem TF.of {sp st num den : Int} {n m i k : Nat} {y : Int} (hsp : 1 ≤ sp ∧ sp ≤ 1000) (hst : 1 ≤ st ∧ st ≤ 100) (hi : i ≤ 9) (hk : k ≤ 5) (hy : 0 ≤ y ∧ y ≤ 500) : TF sp st num den n m i k y := by
  have hs : 0 ≤ sp ∧ sp ≤ 1000 := by omega
  have ht : 0 ≤ st ∧ st ≤ 100 := by omega
  have hi' : 0 ≤ (i : Int) ∧ (i : Int) ≤ 9 := by omega
  have hk' : 0 ≤ (k : Int) ∧ (k : Int) ≤ 5 := by omega
  have w := mulB (wgtB i n) (wgtB k m)
  have h3 : 0 ≤ 3 * st ∧ 3 * st ≤ 300 := by omega
  have h2 : 0 ≤ 2 * wgt i n ∧ 2 * wgt i n ≤ 4 := by have := wgtB i n; omega
  have a1 := mulB hs hi'
  have a2 := mulB a1 w
  have a3 := mulB a2 hy
  have b1 := mulB w hy
  have c1 := mulB ht hk'
  have c2 := mulB c1 w
  have c3 := mulB c2 hy
  have d1 := mulB h3 ht
  have d2 := mulB d1 hk'
  have d3 := mulB d2 w
  have d4 := mulB d3 hy
  have e1 := mulB h3 w
  have e2 := mulB e1 hy
  have g1 := mulB h2 hy
  have g2 := mulB g1 hy
  have g3 := mulB g2 hy
  exact ⟨by omega, by omega, by omega, by omega, by omega, by omega, by omega, by omega, by omega, by omega, by omega, by omega, by omega, by omega, wgtB i n, by omega, by omega, by omega⟩
theorem TF.ab {sp st num den : Int} {n m i k : Nat} {y : Int} (h : TF sp st num den n m i k y) (what : Int) : (0 ≤ tA what sp st n m i k y ∧ tA what sp st n m i k y ≤ 800000000) ∧ 0 ≤ tB what st n m i k y ∧ tB what st n m i k y ≤ 600000 := by
  have h1 := h.a3; have h2 := h.c3; have h3 := h.d4; have h4 := h.g3; have h5 := h.e2; have h6 := h.b1
  unfold tA tB
  refine ⟨?_, ?_⟩
  · split
    · split <;> omega
    · split <;> omega
  · split <;> omega
/-- what is a bound -/
def Bd (num den : Int) : Prop := 0 ≤ num ∧ num ≤ 100000000000 ∧ 1 ≤ den ∧ den ≤ 100000000
theorem TF.ex {sp st num den : Int} {n m i k : Nat} {y : Int} (h : TF sp st num den n m i k y) (hb : Bd num den) (what : Int) : (0 ≤ den * tA what sp st n m i k y ∧ den * tA what sp st n m i k y ≤ 80000000000000000) ∧ (0 ≤ num * tB what st n m i k y ∧ num * tB what st n m i k y ≤ 60000000000000000) ∧ -60000000000000000 ≤ exT what sp st num den n m i k y ∧ exT what sp st num den n m i k y ≤ 80000000000000000 := by
  obtain ⟨h1, h2⟩ := h.ab what
  obtain ⟨b1, b2, b3, b4⟩ := hb
  have m1 := mulB (a := den) (A := 100000000) ⟨by omega, b4⟩ h1
  have m2 := mulB ⟨b1, b2⟩ h2
  unfold exT
  omega
section
variable {sp st num den : Int} {rows : List (List (Int × Int))} {i k : Nat} {y : Int}
theorem HV.tf (hv : HV sp st rows) (hi : i < rows.length) (hk : k < (rows.getD i []).length) (hy : lo0 rows i k ≤ y ∧ y ≤ hi0 rows i k) : TF sp st num den rows.length (rows.getD i []).length i k y := by
  have h1 := hv.ok i k hi hk
  have h2 := hv.n; have h3 := hv.m; have h4 := hv.eq i hi
  unfold lo0 hi0 at hy
  exact TF.of hv.sp hv.st (by omega) (by omega) (by omega)
theorem HV.best1 (hv : HV sp st rows) (hb : Bd num den) (what : Int) (high : Bool) (hi : i < rows.length) (hk : k < (rows.getD i []).length) : -60000000000000000 ≤ Ytgihklgpehfbpaa.best1 what sp st num den high rows i k ∧ Ytgihklgpehfbpaa.best1 what sp st num den high rows i k ≤ 80000000000000000 := by
  have h1 := hv.ok i k hi hk
  refine bestV_in fun y h2 h3 => ((hv.tf hi hk (y := y) ?_).ex hb what).2.2
  unfold lo0 hi0 at *
  omega
theorem HV.rowS (hv : HV sp st rows) (hb : Bd num den) (what : Int) (high : Bool) (hi : i < rows.length) (hk : k ≤ (rows.getD i []).length) : -360000000000000000 ≤ ps (fun k => Ytgihklgpehfbpaa.best1 what sp st num den high rows i k) k ∧ ps (fun k => Ytgihklgpehfbpaa.best1 what sp st num den high rows i k) k ≤ 480000000000000000 := by
  have h1 := ps_boundZ (f := fun k => Ytgihklgpehfbpaa.best1 what sp st num den high rows i k) (k := k) (fun j hj => hv.best1 hb what high hi (by omega))
  have h2 := hv.m; have h3 := hv.eq i hi
  omega
theorem HV.partS (hv : HV sp st rows) (hb : Bd num den) (what : Int) (high : Bool) (hi : i ≤ rows.length) : -3600000000000000000 ≤ Ytgihklgpehfbpaa.partS what sp st num den high rows i ∧ Ytgihklgpehfbpaa.partS what sp st num den high rows i ≤ 4800000000000000000 := by
  have h1 := ps_boundZ (f := fun i => ps (fun k => Ytgihklgpehfbpaa.best1 what sp st num den high rows i k) (rows.getD i []).length) (k := i) (fun j hj => hv.rowS hb what high (by omega) (Nat.le_refl _))
  have h2 := hv.n
  unfold Ytgihklgpehfbpaa.partS
  omega
end
theorem bestV_succ_t {f : Int → Int} {high : Bool} {lo y : Int} {j : Nat} (e : lo + (j + 1 : Nat) = y) (h : (high = true ∧ bestV f high lo j < f y) ∨ (high = false ∧ f y < bestV f high lo j)) : f y = bestV f high lo (j + 1) := by
  subst e; simp only [bestV]; rw [if_pos h]
theorem bestV_succ_f {f : Int → Int} {high : Bool} {lo y : Int} {j : Nat} (e : lo + (j + 1 : Nat) = y) (h : ¬ ((high = true ∧ bestV f high lo j < f y) ∨ (high = false ∧ f y < bestV f high lo j))) : bestV f high lo j = bestV f high lo (j + 1) := by
  subst e; simp only [bestV]; rw [if_neg h]
theorem in64S {a b A B : Int} (ha : 0 ≤ a ∧ a ≤ A) (hb : 0 ≤ b ∧ b ≤ B) (hA : A ≤ 9223372036854775807) (hB : B ≤ 9223372036854775807) : in64 (a - b) := by unfold in64; omega
section
variable {what sp st num den : Int} {n m i k : Nat} {y b x lo : Int} {high : Bool} {f : Int → Int}
theorem ex0 (h1 : ¬ what = 1) (h2 : ¬ what = 2) : den * (sp * i * (wgt i n * wgt k m) * y) - num * (wgt i n * wgt k m * y) = exT what sp st num den n m i k y := by
  unfold exT tA tB; rw [if_neg h2, if_neg h1, if_neg h2]
theorem ex1 (h1 : what = 1) : den * (st * k * (wgt i n * wgt k m) * y) - num * (wgt i n * wgt k m * y) = exT what sp st num den n m i k y := by
  have h2 : ¬ what = 2 := by omega
  unfold exT tA tB; rw [if_neg h2, if_pos h1, if_neg h2]
theorem ex2 (h2 : what = 2) (hk' : ¬ (k : Int) = (m : Int) - 1) : den * (3 * st * st * k * (wgt i n * wgt k m) * y) - num * (3 * st * (wgt i n * wgt k m) * y) = exT what sp st num den n m i k y := by
  have hk : ¬ k + 1 = m := by omega
  unfold exT tA tB; rw [if_pos h2, if_neg hk, if_pos h2, Int.add_zero]
theorem ex3 (h2 : what = 2) (hk' : (k : Int) = (m : Int) - 1) : den * (3 * st * st * k * (wgt i n * wgt k m) * y + 2 * wgt i n * y * y * y) - num * (3 * st * (wgt i n * wgt k m) * y) = exT what sp st num den n m i k y := by
  have hk : k + 1 = m := by omega
  unfold exT tA tB; rw [if_pos h2, if_pos hk, if_pos h2]
theorem stepT (hx : x = f y) (eb : lo < y → b = bestV f high lo (y - 1 - lo).toNat) (hy : lo ≤ y) (h : y = lo ∨ (high = true ∧ b < x) ∨ ((!high) = true ∧ x < b)) : x = bestV f high lo (y + 1 - 1 - lo).toNat := by
  by_cases hl : y = lo
  · subst hl
    rw [hx, show (y + 1 - 1 - y).toNat = 0 by omega]; rfl
  · obtain ⟨j, hj⟩ : ∃ j : Nat, y = lo + (j + 1 : Nat) := ⟨(y - lo - 1).toNat, by omega⟩
    have e1 : (y - 1 - lo).toNat = j := by omega
    have e2 : (y + 1 - 1 - lo).toNat = j + 1 := by omega
    rw [e1] at eb
    have eb := eb (by omega)
    rw [e2, hx]
    refine bestV_succ_t hj.symm ?_
    rw [← eb, ← hx]
    rcases h with h | h | h
    · exact absurd h hl
    · exact .inl h
    · exact .inr ⟨by simpa using h.1, h.2⟩
theorem stepF (hx : x = f y) (eb : lo < y → b = bestV f high lo (y - 1 - lo).toNat) (hy : lo ≤ y) (h : ¬ y = lo) (h1 : high = true → ¬ b < x) (h2 : high = false → ¬ x < b) : b = bestV f high lo (y + 1 - 1 - lo).toNat := by
  obtain ⟨j, hj⟩ : ∃ j : Nat, y = lo + (j + 1 : Nat) := ⟨(y - lo - 1).toNat, by omega⟩
  have e1 : (y - 1 - lo).toNat = j := by omega
  have e2 : (y + 1 - 1 - lo).toNat = j + 1 := by omega
  rw [e1] at eb
  have eb := eb (by omega)
  rw [e2, eb]
  refine bestV_succ_f hj.symm ?_
  rw [← eb, ← hx]
  rintro (h | h)
  · exact h1 h.1 h.2
  · exact h2 h.1 h.2
end
theorem best1_of {what sp st num den : Int} {high : Bool} {rows : List (List (Int × Int))} {i k : Nat} {y b : Int} (h1 : ¬ y ≤ hi0 rows i k) (h2 : y ≤ hi0 rows i k + 1) (hl : lo0 rows i k ≤ hi0 rows i k)
    (eb : lo0 rows i k < y → b = bestV (exT what sp st num den rows.length (rows.getD i []).length i k) high (lo0 rows i k) (y - 1 - lo0 rows i k).toNat) : b = best1 what sp st num den high rows i k := by
  obtain rfl : y = hi0 rows i k + 1 := by omega
  rw [eb (by omega), best1, show hi0 rows i k + 1 - 1 - lo0 rows i k = hi0 rows i k - lo0 rows i k by omega]
theorem nb1 {high : Bool} (h : high = true) (h' : high = false) : False := by subst h; cases h'
theorem nb2 {high : Bool} (h : high = true) (h' : (!high) = true) : False := by subst h; cases h'
theorem nb3 {high : Bool} (h : high = false) (h' : (!high) = false) : False := by subst h; cases h'
theorem ref_part (w : World) (sp st what num den : Int) (high : Bool) (o : Value) (rv : List Value) (rows : List (List (Int × Int))) (hR : RdR encP 2 w.heap.size w o rv rows) (hv : HV sp st rows) (hb : Bd num den) (hw : 0 ≤ what ∧ what ≤ 2) :
    Ret Try.prog 49 [.agg #[.int .i64 sp, .int .i64 st, o], .int .i64 what, .agg #[.int .i64 num, .int .i64 den], .bool high].toArray w (.int .i64 (partS what sp st num den high rows rows.length)) := by
  refine Ret.of mixed tyTab Try.func49 rfl rfl ?_
  replace hR : RdR encP 2 (fnCx mixed tyTab Try.f49.ntmps w).B (fnCx mixed tyTab Try.f49.ntmps w).w0 o rv rows := hR
  have hle := hR.sl.le
  have hn := hv.n
  have hm := hv.m
  refine W.sreg ?_
  refine WO.boxA rfl rfl (fun b1 hb1 => ?_)
  refine WO.boxA rfl rfl (fun b2 hb2 => ?_)
  refine WO.p rfl rfl ?_
  refine WO.nil ?_
  refine W.sreg ?_
  refine WO.p rfl rfl ?_
  refine WO.nil ?_
  refine W.seq ?_
  refine W.sreg ?_
  refine WO.p rfl rfl ?_
  refine WO.nil ?_
  refine W.block ?_
  refine W.loop2 (fun (i : Nat) (s : Int) => i ≤ rows.length ∧ s = partS what sp st num den high rows i)
    (fun (i : Nat) (s : Int) => [(10, .int .i64 (i : Int)), (9, .int .i64 s), (1, .int .i64 what), (3, .bool high), (4, .pointer (some ⟨b1, 0, none⟩)), (6, .pointer (some ⟨b2, 0, none⟩))])
    (fun (i : Nat) (s : Int) => [pt b1 (.cells #[.int .i64 sp, .int .i64 st, o] 24 (0, 0)), pt b2 (.cells #[.int .i64 num, .int .i64 den] 29 (0, 0))])
    (fun (i : Nat) (s : Int) => rows.length - i) 0 0
    (by exact ⟨by omega, rfl⟩) ⟨rfl, rfl, rfl, rfl, rfl, rfl, trivial⟩ (by repeat (first | exact Sub.nil | refine Sub.cons (by repeat (first | exact Pick.head | apply Pick.tail)) ?_)) ?_
  rintro i s ⟨hi, es⟩
  refine W.seq ?_
  refine W.sreg ?_
  refine WO.p rfl rfl (WO.fieldL rfl rfl rfl (WO.load rfl rfl (Cell.own Pick.head rfl) rfl ?_))
  refine' WO.len (n := _) rfl rfl ?hs rfl ?_
  case hs => (first | exact hR.sl | (refine (hR.row _ ?_).sl; omega))
  refine WO.p rfl rfl ?_
  refine WO.nil ?_
  refine W.cond_bl rfl (fun c1 => ?_) (fun c1 => ?_)
  · first
    | (exfalso; omega)
    | (refine W.skip ?_
       refine W.seq ?_
       refine W.block ?_
       refine W.sreg ?_
       refine WO.fieldL rfl rfl rfl (WO.load rfl rfl (Cell.own Pick.head rfl) rfl (WO.p rfl rfl ?_))
       refine' WO.indexAddr (n := _) (i := _) rfl rfl rfl ?hs ?h1 rfl ?_
       case hs => (first | exact hR.sl | (refine (hR.row _ ?_).sl; omega))
       case h1 => (first | omega | (simp; omega))
       refine' WO.load (v := _) rfl rfl ?hc rfl ?_
       case hc => (first | (refine hR.cellV ?_; omega) | (refine (hR.row _ ?_).cell0 ?_ (0, 0) ?_ <;> first | rfl | omega) | (refine (hR.row _ ?_).cellAt ?_ (0, 0) ?_ <;> first | rfl | omega))
       refine' WO.len (n := _) rfl rfl ?hs rfl ?_
       case hs => (first | exact hR.sl | (refine (hR.row _ ?_).sl; omega))
       refine WO.p rfl rfl ?_
       refine WO.nil ?_
       refine W.sreg ?_
       refine WO.p rfl rfl ?_
       refine WO.nil ?_
       refine W.block ?_
       refine W.loop2 (fun (k : Nat) (q : Int) => k ≤ (rows.getD i []).length ∧ q = s + ps (fun k => best1 what sp st num den high rows i k) k)
         (fun (k : Nat) (q : Int) => [(10, .int .i64 (i : Int)), (11, .int .i64 ((rows.getD i []).length : Int)), (12, .int .i64 (k : Int)), (9, .int .i64 q), (1, .int .i64 what), (3, .bool high), (4, .pointer (some ⟨b1, 0, none⟩)), (6, .pointer (some ⟨b2, 0, none⟩))])
         (fun (k : Nat) (q : Int) => [pt b1 (.cells #[.int .i64 sp, .int .i64 st, o] 24 (0, 0)), pt b2 (.cells #[.int .i64 num, .int .i64 den] 29 (0, 0))])
         (fun (k : Nat) (q : Int) => (rows.getD i []).length - k) 0 s
         (by exact ⟨by omega, by simp [ps]⟩) ⟨rfl, rfl, rfl, rfl, rfl, rfl, rfl, rfl, trivial⟩ (by repeat (first | exact Sub.nil | refine Sub.cons (by repeat (first | exact Pick.head | apply Pick.tail)) ?_)) ?_
       rintro k q ⟨hk, eq⟩
       have hi' : i < rows.length := by omega
       have hlk := hv.eq i hi'
       have bs := hv.partS hb what high hi
       have bq := hv.rowS hb what high hi' hk
       have hok := hv.ok i k hi'
       refine W.seq ?_
       refine W.sreg ?_
       refine WO.p rfl rfl (WO.p rfl rfl (WO.p rfl rfl ?_))
       refine WO.nil ?_
       refine W.cond_bl rfl (fun c2 => ?_) (fun c2 => ?_)
       · first
         | (exfalso; omega)
         | (refine W.skip ?_
            refine W.seq ?_
            refine W.block ?_
            have w1 := mulB (wgtB i rows.length) (wgtB k (rows.getD i []).length)
            refine W.sreg ?_
            refine WO.p rfl rfl (WO.fieldL rfl rfl rfl (WO.load rfl rfl (Cell.own Pick.head rfl) rfl ?_))
            refine' WO.len (n := _) rfl rfl ?hs rfl ?_
            case hs => (first | exact hR.sl | (refine (hR.row _ ?_).sl; omega))
            refine WO.callR (r := .int .i64 (wgt i rows.length)) rfl Try.call57 (fun L w hi => ref_weight w i rows.length (by omega) (by omega)) rfl ?_
            refine WO.p rfl rfl (WO.p rfl rfl ?_)
            refine WO.callR (r := .int .i64 (wgt k (rows.getD i []).length)) rfl Try.call57 (fun L w hi => ref_weight w k (rows.getD i []).length (by omega) (by omega)) rfl ?_
            refine WO.ar rfl rfl rfl (by (first | (unfold in64; omega))) rfl (WO.p rfl rfl ?_)
            refine WO.nil ?_
            refine W.sreg ?_
            refine WO.p rfl rfl ?_
            refine WO.nil ?_
            refine W.seq ?_
            refine W.sreg ?_
            refine WO.fieldL rfl rfl rfl (WO.load rfl rfl (Cell.own Pick.head rfl) rfl (WO.p rfl rfl ?_))
            refine' WO.indexAddr (n := _) (i := _) rfl rfl rfl ?hs ?h1 rfl ?_
            case hs => (first | exact hR.sl | (refine (hR.row _ ?_).sl; omega))
            case h1 => (first | omega | (simp; omega))
            refine' WO.load (v := _) rfl rfl ?hc rfl ?_
            case hc => (first | (refine hR.cellV ?_; omega) | (refine (hR.row _ ?_).cell0 ?_ (0, 0) ?_ <;> first | rfl | omega) | (refine (hR.row _ ?_).cellAt ?_ (0, 0) ?_ <;> first | rfl | omega))
            refine WO.p rfl rfl ?_
            refine' WO.indexAddr (n := _) (i := _) rfl rfl rfl ?hs ?h1 rfl ?_
            case hs => (first | exact hR.sl | (refine (hR.row _ ?_).sl; omega))
            case h1 => (first | omega | (simp; omega))
            refine WO.field0 rfl rfl rfl ?_
            refine' WO.load (v := _) rfl rfl ?hc rfl ?_
            case hc => (first | (refine hR.cellV ?_; omega) | (refine (hR.row _ ?_).cell0 ?_ (0, 0) ?_ <;> first | rfl | omega) | (refine (hR.row _ ?_).cellAt ?_ (0, 0) ?_ <;> first | rfl | omega))
            refine WO.p rfl rfl ?_
            refine WO.nil ?_
            refine W.block ?_
            have hok := hok (by omega)
            have hk' : k < (rows.getD i []).length := by omega
            refine W.loop2 (fun (y : Int) (b : Int) => lo0 rows i k ≤ y ∧ y ≤ hi0 rows i k + 1 ∧ (lo0 rows i k < y → b = bestV (exT what sp st num den rows.length (rows.getD i []).length i k) high (lo0 rows i k) (y - 1 - lo0 rows i k).toNat))
              (fun (y : Int) (b : Int) => [(10, .int .i64 (i : Int)), (11, .int .i64 ((rows.getD i []).length : Int)), (12, .int .i64 (k : Int)), (13, .int .i64 (wgt i rows.length * wgt k (rows.getD i []).length)), (14, .int .i64 b), (15, .int .i64 y), (9, .int .i64 q), (1, .int .i64 what), (3, .bool high), (4, .pointer (some ⟨b1, 0, none⟩)), (6, .pointer (some ⟨b2, 0, none⟩))])
              (fun (y : Int) (b : Int) => [pt b1 (.cells #[.int .i64 sp, .int .i64 st, o] 24 (0, 0)), pt b2 (.cells #[.int .i64 num, .int .i64 den] 29 (0, 0))])
              (fun (y : Int) (b : Int) => (hi0 rows i k + 1 - y).toNat) (lo0 rows i k) 0
              (by exact ⟨by omega, by unfold lo0 hi0; omega, fun h => by omega⟩) ⟨rfl, rfl, rfl, rfl, rfl, rfl, rfl, rfl, rfl, rfl, rfl, trivial⟩ (by repeat (first | exact Sub.nil | refine Sub.cons (by repeat (first | exact Pick.head | apply Pick.tail)) ?_)) ?_
            rintro y b ⟨hy1, hy2, eb⟩
            have hy0 : 0 ≤ y := Int.le_trans hok.1 hy1
            refine W.seq ?_
            refine W.sreg ?_
            refine WO.p rfl rfl (WO.fieldL rfl rfl rfl (WO.load rfl rfl (Cell.own Pick.head rfl) rfl (WO.p rfl rfl ?_)))
            refine' WO.indexAddr (n := _) (i := _) rfl rfl rfl ?hs ?h1 rfl ?_
            case hs => (first | exact hR.sl | (refine (hR.row _ ?_).sl; omega))
            case h1 => (first | omega | (simp; omega))
            refine' WO.load (v := _) rfl rfl ?hc rfl ?_
            case hc => (first | (refine hR.cellV ?_; omega) | (refine (hR.row _ ?_).cell0 ?_ (0, 0) ?_ <;> first | rfl | omega) | (refine (hR.row _ ?_).cellAt ?_ (0, 0) ?_ <;> first | rfl | omega))
            refine WO.p rfl rfl ?_
            refine' WO.indexAddr (n := _) (i := _) rfl rfl rfl ?hs ?h1 rfl ?_
            case hs => (first | exact hR.sl | (refine (hR.row _ ?_).sl; omega))
            case h1 => (first | omega | (simp; omega))
            refine WO.field rfl rfl rfl ?_
            refine' WO.load (v := _) rfl rfl ?hc rfl ?_
            case hc => (first | (refine hR.cellV ?_; omega) | (refine (hR.row _ ?_).cell0 ?_ (0, 0) ?_ <;> first | rfl | omega) | (refine (hR.row _ ?_).cellAt ?_ (0, 0) ?_ <;> first | rfl | omega))
            refine WO.p rfl rfl ?_
            refine WO.nil ?_
            refine W.cond_bl rfl (fun c3 => ?_) (fun c3 => ?_)
            · first
              | (exfalso; omega)
              | (refine W.skip ?_
                 refine W.seq ?_
                 refine W.block ?_
                 have tf := hv.tf (num := num) (den := den) (y := y) hi' hk' ⟨hy1, by unfold hi0; omega⟩
                 refine W.sreg ?_
                 refine WO.field0 rfl rfl rfl (WO.load rfl rfl (Cell.own Pick.head rfl) rfl (WO.p rfl rfl (WO.ar rfl rfl rfl (by (first | exact in64B tf.a1 (by decide))) rfl (WO.p rfl rfl (WO.ar rfl rfl rfl (by (first | exact in64B tf.a2 (by decide))) rfl (WO.p rfl rfl (WO.ar rfl rfl rfl (by (first | exact in64B tf.a3 (by decide))) rfl (WO.p rfl rfl (WO.p rfl rfl (WO.ar rfl rfl rfl (by (first | exact in64B tf.b1 (by decide))) rfl (WO.p rfl rfl ?_)))))))))))
                 refine WO.p rfl rfl ?_
                 refine WO.nil ?_
                 refine W.seq ?_
                 refine W.sreg ?_
                 refine WO.p rfl rfl (WO.p rfl rfl ?_)
                 refine WO.nil ?_
                 refine W.cond_bl rfl (fun c4 => ?_) (fun c4 => ?_)
                 · first
                   | (exfalso; omega)
                   | (refine W.region ?_
                      refine WO.fieldL rfl rfl rfl (WO.load rfl rfl (Cell.own Pick.head rfl) rfl (WO.p rfl rfl (WO.ar rfl rfl rfl (by (first | exact in64B tf.c1 (by decide))) rfl (WO.p rfl rfl (WO.ar rfl rfl rfl (by (first | exact in64B tf.c2 (by decide))) rfl (WO.p rfl rfl (WO.ar rfl rfl rfl (by (first | exact in64B tf.c3 (by decide))) rfl (WO.p rfl rfl ?_))))))))
                      refine WO.nil ?_
                      refine W.seq ?_
                      refine W.sreg ?_
                      refine WO.p rfl rfl (WO.p rfl rfl ?_)
                      refine WO.nil ?_
                      refine W.cond_bl rfl (fun c5 => ?_) (fun c5 => ?_)
                      · first
                        | (exfalso; omega)
                        | (refine W.seq ?_
                           refine W.drawD 20 [.r 0 [], .b 1 [], .r 2 [], .r 3 [], .b 4 [], .r 5 [], .r 6 [], .r 7 [], .r 8 [], .r 9 [], .r 10 [], .r 11 [], .r 12 [16], .b 13 [16], .r 14 [16], .r 15 [16], .r 16 [16], .r 17 [16], .r 18 [16], .r 19 [16]] [16] (A0 := []) (Sub.refl _) (by kernel_rfl) ?_ ?_
                           · exact (ALok.r (ALok.b (ALok.r (ALok.r (ALok.b (ALok.r (ALok.r (ALok.r (ALok.r (ALok.r (ALok.r (ALok.r (ALok.r (ALok.b (ALok.r (ALok.r (ALok.r (ALok.r (ALok.r (ALok.r ALok.nil))))))))))))))))))))
                           refine' DT.r rfl rfl rfl ?hq ?_
                           case hq =>
                             refine WO.fieldL rfl rfl rfl ?_
                             exact WO.nil ⟨rfl, rfl⟩
                           refine' DT.b rfl rfl rfl ?hq ?_
                           case hq =>
                             refine WO.load rfl rfl (Cell.own Pick.head rfl) rfl ?_
                             exact WO.nil ⟨rfl, rfl⟩
                           refine' DT.r rfl rfl rfl ?hq ?_
                           case hq =>
                             refine WO.ar rfl rfl rfl (by (first | (have := hv.st; unfold in64; omega))) rfl ?_
                             exact WO.nil ⟨rfl, rfl⟩
                           refine' DT.r rfl rfl rfl ?hq ?_
                           case hq =>
                             refine WO.fieldL rfl rfl rfl ?_
                             exact WO.nil ⟨rfl, rfl⟩
                           refine' DT.b rfl rfl rfl ?hq ?_
                           case hq =>
                             refine WO.load rfl rfl (Cell.own Pick.head rfl) rfl ?_
                             exact WO.nil ⟨rfl, rfl⟩
                           refine' DT.r rfl rfl rfl ?hq ?_
                           case hq =>
                             refine WO.ar rfl rfl rfl (by (first | exact in64B tf.d1 (by decide))) rfl ?_
                             exact WO.nil ⟨rfl, rfl⟩
                           refine' DT.r rfl rfl rfl ?hq ?_
                           case hq =>
                             refine WO.p rfl rfl ?_
                             exact WO.nil ⟨rfl, rfl⟩
                           refine' DT.r rfl rfl rfl ?hq ?_
                           case hq =>
                             refine WO.ar rfl rfl rfl (by (first | exact in64B tf.d2 (by decide))) rfl ?_
                             exact WO.nil ⟨rfl, rfl⟩
                           refine' DT.r rfl rfl rfl ?hq ?_
                           case hq =>
                             refine WO.p rfl rfl ?_
                             exact WO.nil ⟨rfl, rfl⟩
                           refine' DT.r rfl rfl rfl ?hq ?_
                           case hq =>
                             refine WO.ar rfl rfl rfl (by (first | exact in64B tf.d3 (by decide))) rfl ?_
                             exact WO.nil ⟨rfl, rfl⟩
                           refine' DT.r rfl rfl rfl ?hq ?_
                           case hq =>
                             refine WO.p rfl rfl ?_
                             exact WO.nil ⟨rfl, rfl⟩
                           refine' DT.r rfl rfl rfl ?hq ?_
                           case hq =>
                             refine WO.ar rfl rfl rfl (by (first | exact in64B tf.d4 (by decide))) rfl ?_
                             exact WO.nil ⟨rfl, rfl⟩
                           refine' DT.r rfl rfl rfl ?hq ?_
                           case hq =>
                             refine WO.fieldL rfl rfl rfl ?_
                             exact WO.nil ⟨rfl, rfl⟩
                           refine' DT.b rfl rfl rfl ?hq ?_
                           case hq =>
                             refine WO.load rfl rfl (Cell.own Pick.head rfl) rfl ?_
                             exact WO.nil ⟨rfl, rfl⟩
                           refine' DT.r rfl rfl rfl ?hq ?_
                           case hq =>
                             refine WO.ar rfl rfl rfl (by (first | (have := hv.st; unfold in64; omega))) rfl ?_
                             exact WO.nil ⟨rfl, rfl⟩
                           refine' DT.r rfl rfl rfl ?hq ?_
                           case hq =>
                             refine WO.p rfl rfl ?_
                             exact WO.nil ⟨rfl, rfl⟩
                           refine' DT.r rfl rfl rfl ?hq ?_
                           case hq =>
                             refine WO.ar rfl rfl rfl (by (first | exact in64B tf.e1 (by decide))) rfl ?_
                             exact WO.nil ⟨rfl, rfl⟩
                           refine' DT.r rfl rfl rfl ?hq ?_
                           case hq =>
                             refine WO.p rfl rfl ?_
                             exact WO.nil ⟨rfl, rfl⟩
                           refine' DT.r rfl rfl rfl ?hq ?_
                           case hq =>
                             refine WO.ar rfl rfl rfl (by (first | exact in64B tf.e2 (by decide))) rfl ?_
                             exact WO.nil ⟨rfl, rfl⟩
                           refine' DT.r rfl rfl rfl ?hq ?_
                           case hq =>
                             refine WO.p rfl rfl ?_
                             exact WO.nil ⟨rfl, rfl⟩
                           refine DT.nil [_, _] rfl ?_
                           refine WO.p rfl rfl ?_
                           refine WO.nil ?_
                           refine W.sreg ?_
                           refine WO.p rfl rfl (WO.p rfl rfl (WO.ar rfl rfl rfl (by (first | (unfold in64; omega))) rfl (WO.p rfl rfl ?_)))
                           refine WO.nil ?_
                           refine W.cond_bl rfl (fun c6 => ?_) (fun c6 => ?_)
                           · first
                             | (exfalso; omega)
                             | (refine W.region ?_
                                refine WO.p rfl rfl (WO.p rfl rfl (WO.fieldL rfl rfl rfl (WO.load rfl rfl (Cell.own Pick.head rfl) rfl ?_)))
                                refine' WO.len (n := _) rfl rfl ?hs rfl ?_
                                case hs => (first | exact hR.sl | (refine (hR.row _ ?_).sl; omega))
                                refine WO.callR (r := .int .i64 (wgt i rows.length)) rfl Try.call57 (fun L w hi => ref_weight w i rows.length (by omega) (by omega)) rfl ?_
                                refine WO.ar rfl rfl rfl (by (first | (have := wgtB i rows.length; unfold in64; omega))) rfl (WO.p rfl rfl (WO.ar rfl rfl rfl (by (first | exact in64B tf.g1 (by decide))) rfl (WO.p rfl rfl (WO.ar rfl rfl rfl (by (first | exact in64B tf.g2 (by decide))) rfl (WO.p rfl rfl (WO.ar rfl rfl rfl (by (first | exact in64B tf.g3 (by decide))) rfl (WO.ar rfl rfl rfl (by (first | exact in64B (addB tf.d4 tf.g3) (by decide))) rfl (WO.p rfl rfl ?_))))))))
                                refine WO.nil ?_
                                have hdB : 0 ≤ den ∧ den ≤ 100000000 := by have := hb.2.2; omega
                                have hnB : 0 ≤ num ∧ num ≤ 100000000000 := ⟨hb.1, hb.2.1⟩
                                refine W.sreg ?_
                                refine WO.fieldL rfl rfl rfl (WO.load rfl rfl (Cell.own (Pick.tail (Pick.head)) rfl) rfl (WO.p rfl rfl (WO.ar rfl rfl rfl (by (first | with_reducible exact in64B (mulB hdB tf.a3) (by decide) | with_reducible exact in64B (mulB hdB tf.c3) (by decide) | with_reducible exact in64B (mulB hdB tf.d4) (by decide) | with_reducible exact in64B (mulB hdB (addB tf.d4 tf.g3)) (by decide))) rfl (WO.field0 rfl rfl rfl (WO.load rfl rfl (Cell.own (Pick.tail (Pick.head)) rfl) rfl (WO.p rfl rfl (WO.ar rfl rfl rfl (by (first | with_reducible exact in64B (mulB hnB tf.b1) (by decide) | with_reducible exact in64B (mulB hnB tf.e2) (by decide))) rfl (WO.ar rfl rfl rfl (by (first | with_reducible exact in64S (mulB hdB tf.a3) (mulB hnB tf.b1) (by decide) (by decide) | with_reducible exact in64S (mulB hdB tf.c3) (mulB hnB tf.b1) (by decide) (by decide) | with_reducible exact in64S (mulB hdB tf.d4) (mulB hnB tf.e2) (by decide) (by decide) | with_reducible exact in64S (mulB hdB (addB tf.d4 tf.g3)) (mulB hnB tf.e2) (by decide) (by decide))) rfl (WO.p rfl rfl ?_)))))))))
                                refine WO.nil ?_
                                refine W.sreg ?_
                                refine WO.p rfl rfl (WO.fieldL rfl rfl rfl (WO.load rfl rfl (Cell.own Pick.head rfl) rfl (WO.p rfl rfl ?_)))
                                refine' WO.indexAddr (n := _) (i := _) rfl rfl rfl ?hs ?h1 rfl ?_
                                case hs => (first | exact hR.sl | (refine (hR.row _ ?_).sl; omega))
                                case h1 => (first | omega | (simp; omega))
                                refine' WO.load (v := _) rfl rfl ?hc rfl ?_
                                case hc => (first | (refine hR.cellV ?_; omega) | (refine (hR.row _ ?_).cell0 ?_ (0, 0) ?_ <;> first | rfl | omega) | (refine (hR.row _ ?_).cellAt ?_ (0, 0) ?_ <;> first | rfl | omega))
                                refine WO.p rfl rfl ?_
                                refine' WO.indexAddr (n := _) (i := _) rfl rfl rfl ?hs ?h1 rfl ?_
                                case hs => (first | exact hR.sl | (refine (hR.row _ ?_).sl; omega))
                                case h1 => (first | omega | (simp; omega))
                                refine WO.field0 rfl rfl rfl ?_
                                refine' WO.load (v := _) rfl rfl ?hc rfl ?_
                                case hc => (first | (refine hR.cellV ?_; omega) | (refine (hR.row _ ?_).cell0 ?_ (0, 0) ?_ <;> first | rfl | omega) | (refine (hR.row _ ?_).cellAt ?_ (0, 0) ?_ <;> first | rfl | omega))
                                refine WO.p rfl rfl (WO.p rfl rfl ?_)
                                refine WO.guard_bl rfl rfl (fun c7 => ?_) (fun c7 => ?_)
                                · first
                                  | (exfalso; omega)
                                  | (refine WO.no rfl rfl (WO.no rfl rfl (WO.no rfl rfl (WO.no rfl rfl (WO.no rfl rfl (WO.no rfl rfl (WO.p rfl rfl (WO.p rfl rfl (WO.no rfl rfl (WO.no rfl rfl (WO.no rfl rfl (WO.no rfl rfl ?_)))))))))))
                                     refine WO.no rfl rfl (WO.no rfl rfl (WO.no rfl rfl (WO.p rfl rfl ?_)))
                                     refine WO.nil ?_
                                     refine W.cond_t rfl ?_
                                     refine W.region ?_
                                     refine WO.p rfl rfl (WO.p rfl rfl ?_)
                                     refine WO.nil ?_
                                     refine W.region ?_
                                     refine WO.p rfl rfl (WO.ar rfl rfl rfl (by (first | (unfold in64; omega))) rfl (WO.p rfl rfl ?_))
                                     refine WO.nil ?_
                                     refine' ⟨y + 1, _, ?hp, ?hmu, ⟨rfl, rfl, rfl, rfl, rfl, rfl, rfl, rfl, rfl, rfl, rfl, trivial⟩, ?hS⟩
                                     case hS => repeat (first | exact Sub.nil | refine Sub.cons (by repeat (first | exact Pick.head | apply Pick.tail)) ?_)
                                     case hp => exact ⟨by omega, by unfold hi0; omega, fun _ => by first | ((with_reducible refine' stepF (x := _) ?hx eb hy1 ?hn ?h1 ?h2); (case hx => (first | with_reducible exact ex0 (by assumption) (by assumption) | with_reducible exact ex1 (by assumption) | with_reducible exact ex2 (k := k) (m := (rows.getD i []).length) (by assumption) (by assumption) | with_reducible exact ex3 (k := k) (m := (rows.getD i []).length) (by assumption) (by assumption))); (case hn => with_reducible assumption); (case h1 => (first | with_reducible (intro _; assumption) | (intro h; exact (nb1 h (by with_reducible assumption)).elim) | (intro h; exact (nb2 h (by with_reducible assumption)).elim))); (case h2 => (first | with_reducible (intro _; assumption) | (intro h; exact (nb1 (by with_reducible assumption) h).elim) | (intro h; exact (nb3 h (by with_reducible assumption)).elim)))) | ((with_reducible refine stepT ?_ eb hy1 ?_); (first | with_reducible exact ex0 (by assumption) (by assumption) | with_reducible exact ex1 (by assumption) | with_reducible exact ex2 (k := k) (m := (rows.getD i []).length) (by assumption) (by assumption) | with_reducible exact ex3 (k := k) (m := (rows.getD i []).length) (by assumption) (by assumption)); with_reducible (first | exact .inl (by assumption) | exact .inr (.inl ⟨by assumption, by assumption⟩) | exact .inr (.inr ⟨by assumption, by assumption⟩)))⟩
                                     case hmu => unfold hi0; omega)
                                · first
                                  | (exfalso; omega)
                                  | (refine WO.pg rfl rfl rfl (WO.pg rfl rfl rfl ?_)
                                     refine WO.guard_b rfl rfl (fun c8 => ?_) (fun c8 => ?_)
                                     · first
                                       | (exfalso; omega)
                                       | (refine WO.pg rfl rfl rfl (WO.pg rfl rfl rfl (WO.pg rfl rfl rfl (WO.pg rfl rfl rfl (WO.p rfl rfl (WO.p rfl rfl ?_)))))
                                          refine WO.guard_bl rfl rfl (fun c9 => ?_) (fun c9 => ?_)
                                          · first
                                            | (exfalso; omega)
                                            | (refine WO.no rfl rfl (WO.no rfl rfl (WO.no rfl rfl (WO.no rfl rfl (WO.no rfl rfl (WO.no rfl rfl (WO.no rfl rfl (WO.p rfl rfl ?_)))))))
                                               refine WO.nil ?_
                                               refine W.cond_t rfl ?_
                                               refine W.region ?_
                                               refine WO.p rfl rfl (WO.p rfl rfl ?_)
                                               refine WO.nil ?_
                                               refine W.region ?_
                                               refine WO.p rfl rfl (WO.ar rfl rfl rfl (by (first | (unfold in64; omega))) rfl (WO.p rfl rfl ?_))
                                               refine WO.nil ?_
                                               refine' ⟨y + 1, _, ?hp, ?hmu, ⟨rfl, rfl, rfl, rfl, rfl, rfl, rfl, rfl, rfl, rfl, rfl, trivial⟩, ?hS⟩
                                               case hS => repeat (first | exact Sub.nil | refine Sub.cons (by repeat (first | exact Pick.head | apply Pick.tail)) ?_)
                                               case hp => exact ⟨by omega, by unfold hi0; omega, fun _ => by first | ((with_reducible refine' stepF (x := _) ?hx eb hy1 ?hn ?h1 ?h2); (case hx => (first | with_reducible exact ex0 (by assumption) (by assumption) | with_reducible exact ex1 (by assumption) | with_reducible exact ex2 (k := k) (m := (rows.getD i []).length) (by assumption) (by assumption) | with_reducible exact ex3 (k := k) (m := (rows.getD i []).length) (by assumption) (by assumption))); (case hn => with_reducible assumption); (case h1 => (first | with_reducible (intro _; assumption) | (intro h; exact (nb1 h (by with_reducible assumption)).elim) | (intro h; exact (nb2 h (by with_reducible assumption)).elim))); (case h2 => (first | with_reducible (intro _; assumption) | (intro h; exact (nb1 (by with_reducible assumption) h).elim) | (intro h; exact (nb3 h (by with_reducible assumption)).elim)))) | ((with_reducible refine stepT ?_ eb hy1 ?_); (first | with_reducible exact ex0 (by assumption) (by assumption) | with_reducible exact ex1 (by assumption) | with_reducible exact ex2 (k := k) (m := (rows.getD i []).length) (by assumption) (by assumption) | with_reducible exact ex3 (k := k) (m := (rows.getD i []).length) (by assumption) (by assumption)); with_reducible (first | exact .inl (by assumption) | exact .inr (.inl ⟨by assumption, by assumption⟩) | exact .inr (.inr ⟨by assumption, by assumption⟩)))⟩
                                               case hmu => unfold hi0; omega)
                                          · first
                                            | (exfalso; omega)
                                            | (refine WO.pg rfl rfl rfl (WO.pg rfl rfl rfl (WO.pg rfl rfl rfl ?_))
                                               refine WO.guard_b rfl rfl (fun c10 => ?_) (fun c10 => ?_)
                                               · first
                                                 | (exfalso; omega)
                                                 | (refine WO.pg rfl rfl rfl (WO.pg rfl rfl rfl (WO.pg rfl rfl rfl (WO.pg rfl rfl rfl (WO.p rfl rfl ?_))))
                                                    refine WO.nil ?_
                                                    refine W.cond_bl rfl (fun c11 => ?_) (fun c11 => ?_)
                                                    · first
                                                      | (exfalso; omega)
                                                      | (refine W.region ?_
                                                         refine WO.p rfl rfl (WO.p rfl rfl ?_)
                                                         refine WO.nil ?_
                                                         refine W.region ?_
                                                         refine WO.p rfl rfl (WO.ar rfl rfl rfl (by (first | (unfold in64; omega))) rfl (WO.p rfl rfl ?_))
                                                         refine WO.nil ?_
                                                         refine' ⟨y + 1, _, ?hp, ?hmu, ⟨rfl, rfl, rfl, rfl, rfl, rfl, rfl, rfl, rfl, rfl, rfl, trivial⟩, ?hS⟩
                                                         case hS => repeat (first | exact Sub.nil | refine Sub.cons (by repeat (first | exact Pick.head | apply Pick.tail)) ?_)
                                                         case hp => exact ⟨by omega, by unfold hi0; omega, fun _ => by first | ((with_reducible refine' stepF (x := _) ?hx eb hy1 ?hn ?h1 ?h2); (case hx => (first | with_reducible exact ex0 (by assumption) (by assumption) | with_reducible exact ex1 (by assumption) | with_reducible exact ex2 (k := k) (m := (rows.getD i []).length) (by assumption) (by assumption) | with_reducible exact ex3 (k := k) (m := (rows.getD i []).length) (by assumption) (by assumption))); (case hn => with_reducible assumption); (case h1 => (first | with_reducible (intro _; assumption) | (intro h; exact (nb1 h (by with_reducible assumption)).elim) | (intro h; exact (nb2 h (by with_reducible assumption)).elim))); (case h2 => (first | with_reducible (intro _; assumption) | (intro h; exact (nb1 (by with_reducible assumption) h).elim) | (intro h; exact (nb3 h (by with_reducible assumption)).elim)))) | ((with_reducible refine stepT ?_ eb hy1 ?_); (first | with_reducible exact ex0 (by assumption) (by assumption) | with_reducible exact ex1 (by assumption) | with_reducible exact ex2 (k := k) (m := (rows.getD i []).length) (by assumption) (by assumption) | with_reducible exact ex3 (k := k) (m := (rows.getD i []).length) (by assumption) (by assumption)); with_reducible (first | exact .inl (by assumption) | exact .inr (.inl ⟨by assumption, by assumption⟩) | exact .inr (.inr ⟨by assumption, by assumption⟩)))⟩
                                                         case hmu => unfold hi0; omega)
                                                    · first
                                                      | (exfalso; omega)
                                                      | (refine W.skip ?_
                                                         refine W.region ?_
                                                         refine WO.p rfl rfl (WO.ar rfl rfl rfl (by (first | (unfold in64; omega))) rfl (WO.p rfl rfl ?_))
                                                         refine WO.nil ?_
                                                         refine' ⟨y + 1, _, ?hp, ?hmu, ⟨rfl, rfl, rfl, rfl, rfl, rfl, rfl, rfl, rfl, rfl, rfl, trivial⟩, ?hS⟩
                                                         case hS => repeat (first | exact Sub.nil | refine Sub.cons (by repeat (first | exact Pick.head | apply Pick.tail)) ?_)
                                                         case hp => exact ⟨by omega, by unfold hi0; omega, fun _ => by first | ((with_reducible refine' stepF (x := _) ?hx eb hy1 ?hn ?h1 ?h2); (case hx => (first | with_reducible exact ex0 (by assumption) (by assumption) | with_reducible exact ex1 (by assumption) | with_reducible exact ex2 (k := k) (m := (rows.getD i []).length) (by assumption) (by assumption) | with_reducible exact ex3 (k := k) (m := (rows.getD i []).length) (by assumption) (by assumption))); (case hn => with_reducible assumption); (case h1 => (first | with_reducible (intro _; assumption) | (intro h; exact (nb1 h (by with_reducible assumption)).elim) | (intro h; exact (nb2 h (by with_reducible assumption)).elim))); (case h2 => (first | with_reducible (intro _; assumption) | (intro h; exact (nb1 (by with_reducible assumption) h).elim) | (intro h; exact (nb3 h (by with_reducible assumption)).elim)))) | ((with_reducible refine stepT ?_ eb hy1 ?_); (first | with_reducible exact ex0 (by assumption) (by assumption) | with_reducible exact ex1 (by assumption) | with_reducible exact ex2 (k := k) (m := (rows.getD i []).length) (by assumption) (by assumption) | with_reducible exact ex3 (k := k) (m := (rows.getD i []).length) (by assumption) (by assumption)); with_reducible (first | exact .inl (by assumption) | exact .inr (.inl ⟨by assumption, by assumption⟩) | exact .inr (.inr ⟨by assumption, by assumption⟩)))⟩
                                                         case hmu => unfold hi0; omega))
                                               · first
                                                 | (exfalso; omega)
                                                 | (refine WO.no rfl rfl (WO.no rfl rfl (WO.no rfl rfl (WO.pg rfl rfl rfl (WO.p rfl rfl ?_))))
                                                    refine WO.nil ?_
                                                    refine W.cond_f rfl ?_
                                                    refine W.skip ?_
                                                    refine W.region ?_
                                                    refine WO.p rfl rfl (WO.ar rfl rfl rfl (by (first | (unfold in64; omega))) rfl (WO.p rfl rfl ?_))
                                                    refine WO.nil ?_
                                                    refine' ⟨y + 1, _, ?hp, ?hmu, ⟨rfl, rfl, rfl, rfl, rfl, rfl, rfl, rfl, rfl, rfl, rfl, trivial⟩, ?hS⟩
                                                    case hS => repeat (first | exact Sub.nil | refine Sub.cons (by repeat (first | exact Pick.head | apply Pick.tail)) ?_)
                                                    case hp => exact ⟨by omega, by unfold hi0; omega, fun _ => by first | ((with_reducible refine' stepF (x := _) ?hx eb hy1 ?hn ?h1 ?h2); (case hx => (first | with_reducible exact ex0 (by assumption) (by assumption) | with_reducible exact ex1 (by assumption) | with_reducible exact ex2 (k := k) (m := (rows.getD i []).length) (by assumption) (by assumption) | with_reducible exact ex3 (k := k) (m := (rows.getD i []).length) (by assumption) (by assumption))); (case hn => with_reducible assumption); (case h1 => (first | with_reducible (intro _; assumption) | (intro h; exact (nb1 h (by with_reducible assumption)).elim) | (intro h; exact (nb2 h (by with_reducible assumption)).elim))); (case h2 => (first | with_reducible (intro _; assumption) | (intro h; exact (nb1 (by with_reducible assumption) h).elim) | (intro h; exact (nb3 h (by with_reducible assumption)).elim)))) | ((with_reducible refine stepT ?_ eb hy1 ?_); (first | with_reducible exact ex0 (by assumption) (by assumption) | with_reducible exact ex1 (by assumption) | with_reducible exact ex2 (k := k) (m := (rows.getD i []).length) (by assumption) (by assumption) | with_reducible exact ex3 (k := k) (m := (rows.getD i []).length) (by assumption) (by assumption)); with_reducible (first | exact .inl (by assumption) | exact .inr (.inl ⟨by assumption, by assumption⟩) | exact .inr (.inr ⟨by assumption, by assumption⟩)))⟩
                                                    case hmu => unfold hi0; omega)))
                                     · first
                                       | (exfalso; omega)
                                       | (refine WO.no rfl rfl (WO.no rfl rfl (WO.no rfl rfl (WO.pg rfl rfl rfl (WO.p rfl rfl (WO.p rfl rfl (WO.pg rfl rfl rfl (WO.pg rfl rfl rfl (WO.pg rfl rfl rfl ?_))))))))
                                          refine WO.guard_b rfl rfl (fun c12 => ?_) (fun c12 => ?_)
                                          · first
                                            | (exfalso; omega)
                                            | (refine WO.pg rfl rfl rfl (WO.pg rfl rfl rfl (WO.pg rfl rfl rfl (WO.pg rfl rfl rfl (WO.p rfl rfl ?_))))
                                               refine WO.nil ?_
                                               refine W.cond_bl rfl (fun c13 => ?_) (fun c13 => ?_)
                                               · first
                                                 | (exfalso; omega)
                                                 | (refine W.region ?_
                                                    refine WO.p rfl rfl (WO.p rfl rfl ?_)
                                                    refine WO.nil ?_
                                                    refine W.region ?_
                                                    refine WO.p rfl rfl (WO.ar rfl rfl rfl (by (first | (unfold in64; omega))) rfl (WO.p rfl rfl ?_))
                                                    refine WO.nil ?_
                                                    refine' ⟨y + 1, _, ?hp, ?hmu, ⟨rfl, rfl, rfl, rfl, rfl, rfl, rfl, rfl, rfl, rfl, rfl, trivial⟩, ?hS⟩
                                                    case hS => repeat (first | exact Sub.nil | refine Sub.cons (by repeat (first | exact Pick.head | apply Pick.tail)) ?_)
                                                    case hp => exact ⟨by omega, by unfold hi0; omega, fun _ => by first | ((with_reducible refine' stepF (x := _) ?hx eb hy1 ?hn ?h1 ?h2); (case hx => (first | with_reducible exact ex0 (by assumption) (by assumption) | with_reducible exact ex1 (by assumption) | with_reducible exact ex2 (k := k) (m := (rows.getD i []).length) (by assumption) (by assumption) | with_reducible exact ex3 (k := k) (m := (rows.getD i []).length) (by assumption) (by assumption))); (case hn => with_reducible assumption); (case h1 => (first | with_reducible (intro _; assumption) | (intro h; exact (nb1 h (by with_reducible assumption)).elim) | (intro h; exact (nb2 h (by with_reducible assumption)).elim))); (case h2 => (first | with_reducible (intro _; assumption) | (intro h; exact (nb1 (by with_reducible assumption) h).elim) | (intro h; exact (nb3 h (by with_reducible assumption)).elim)))) | ((with_reducible refine stepT ?_ eb hy1 ?_); (first | with_reducible exact ex0 (by assumption) (by assumption) | with_reducible exact ex1 (by assumption) | with_reducible exact ex2 (k := k) (m := (rows.getD i []).length) (by assumption) (by assumption) | with_reducible exact ex3 (k := k) (m := (rows.getD i []).length) (by assumption) (by assumption)); with_reducible (first | exact .inl (by assumption) | exact .inr (.inl ⟨by assumption, by assumption⟩) | exact .inr (.inr ⟨by assumption, by assumption⟩)))⟩
                                                    case hmu => unfold hi0; omega)
                                               · first
                                                 | (exfalso; omega)
                                                 | (refine W.skip ?_
                                                    refine W.region ?_
                                                    refine WO.p rfl rfl (WO.ar rfl rfl rfl (by (first | (unfold in64; omega))) rfl (WO.p rfl rfl ?_))
                                                    refine WO.nil ?_
                                                    refine' ⟨y + 1, _, ?hp, ?hmu, ⟨rfl, rfl, rfl, rfl, rfl, rfl, rfl, rfl, rfl, rfl, rfl, trivial⟩, ?hS⟩
                                                    case hS => repeat (first | exact Sub.nil | refine Sub.cons (by repeat (first | exact Pick.head | apply Pick.tail)) ?_)
                                                    case hp => exact ⟨by omega, by unfold hi0; omega, fun _ => by first | ((with_reducible refine' stepF (x := _) ?hx eb hy1 ?hn ?h1 ?h2); (case hx => (first | with_reducible exact ex0 (by assumption) (by assumption) | with_reducible exact ex1 (by assumption) | with_reducible exact ex2 (k := k) (m := (rows.getD i []).length) (by assumption) (by assumption) | with_reducible exact ex3 (k := k) (m := (rows.getD i []).length) (by assumption) (by assumption))); (case hn => with_reducible assumption); (case h1 => (first | with_reducible (intro _; assumption) | (intro h; exact (nb1 h (by with_reducible assumption)).elim) | (intro h; exact (nb2 h (by with_reducible assumption)).elim))); (case h2 => (first | with_reducible (intro _; assumption) | (intro h; exact (nb1 (by with_reducible assumption) h).elim) | (intro h; exact (nb3 h (by with_reducible assumption)).elim)))) | ((with_reducible refine stepT ?_ eb hy1 ?_); (first | with_reducible exact ex0 (by assumption) (by assumption) | with_reducible exact ex1 (by assumption) | with_reducible exact ex2 (k := k) (m := (rows.getD i []).length) (by assumption) (by assumption) | with_reducible exact ex3 (k := k) (m := (rows.getD i []).length) (by assumption) (by assumption)); with_reducible (first | exact .inl (by assumption) | exact .inr (.inl ⟨by assumption, by assumption⟩) | exact .inr (.inr ⟨by assumption, by assumption⟩)))⟩
                                                    case hmu => unfold hi0; omega))
                                          · first
                                            | (exfalso; omega)
                                            | (refine WO.no rfl rfl (WO.no rfl rfl (WO.no rfl rfl (WO.pg rfl rfl rfl (WO.p rfl rfl ?_))))
                                               refine WO.nil ?_
                                               refine W.cond_f rfl ?_
                                               refine W.skip ?_
                                               refine W.region ?_
                                               refine WO.p rfl rfl (WO.ar rfl rfl rfl (by (first | (unfold in64; omega))) rfl (WO.p rfl rfl ?_))
                                               refine WO.nil ?_
                                               refine' ⟨y + 1, _, ?hp, ?hmu, ⟨rfl, rfl, rfl, rfl, rfl, rfl, rfl, rfl, rfl, rfl, rfl, trivial⟩, ?hS⟩
                                               case hS => repeat (first | exact Sub.nil | refine Sub.cons (by repeat (first | exact Pick.head | apply Pick.tail)) ?_)
                                               case hp => exact ⟨by omega, by unfold hi0; omega, fun _ => by first | ((with_reducible refine' stepF (x := _) ?hx eb hy1 ?hn ?h1 ?h2); (case hx => (first | with_reducible exact ex0 (by assumption) (by assumption) | with_reducible exact ex1 (by assumption) | with_reducible exact ex2 (k := k) (m := (rows.getD i []).length) (by assumption) (by assumption) | with_reducible exact ex3 (k := k) (m := (rows.getD i []).length) (by assumption) (by assumption))); (case hn => with_reducible assumption); (case h1 => (first | with_reducible (intro _; assumption) | (intro h; exact (nb1 h (by with_reducible assumption)).elim) | (intro h; exact (nb2 h (by with_reducible assumption)).elim))); (case h2 => (first | with_reducible (intro _; assumption) | (intro h; exact (nb1 (by with_reducible assumption) h).elim) | (intro h; exact (nb3 h (by with_reducible assumption)).elim)))) | ((with_reducible refine stepT ?_ eb hy1 ?_); (first | with_reducible exact ex0 (by assumption) (by assumption) | with_reducible exact ex1 (by assumption) | with_reducible exact ex2 (k := k) (m := (rows.getD i []).length) (by assumption) (by assumption) | with_reducible exact ex3 (k := k) (m := (rows.getD i []).length) (by assumption) (by assumption)); with_reducible (first | exact .inl (by assumption) | exact .inr (.inl ⟨by assumption, by assumption⟩) | exact .inr (.inr ⟨by assumption, by assumption⟩)))⟩
                                               case hmu => unfold hi0; omega))))
                           · first
                             | (exfalso; omega)
                             | (refine W.skip ?_
                                have hdB : 0 ≤ den ∧ den ≤ 100000000 := by have := hb.2.2; omega
                                have hnB : 0 ≤ num ∧ num ≤ 100000000000 := ⟨hb.1, hb.2.1⟩
                                refine W.sreg ?_
                                refine WO.fieldL rfl rfl rfl (WO.load rfl rfl (Cell.own (Pick.tail (Pick.head)) rfl) rfl (WO.p rfl rfl (WO.ar rfl rfl rfl (by (first | with_reducible exact in64B (mulB hdB tf.a3) (by decide) | with_reducible exact in64B (mulB hdB tf.c3) (by decide) | with_reducible exact in64B (mulB hdB tf.d4) (by decide) | with_reducible exact in64B (mulB hdB (addB tf.d4 tf.g3)) (by decide))) rfl (WO.field0 rfl rfl rfl (WO.load rfl rfl (Cell.own (Pick.tail (Pick.head)) rfl) rfl (WO.p rfl rfl (WO.ar rfl rfl rfl (by (first | with_reducible exact in64B (mulB hnB tf.b1) (by decide) | with_reducible exact in64B (mulB hnB tf.e2) (by decide))) rfl (WO.ar rfl rfl rfl (by (first | with_reducible exact in64S (mulB hdB tf.a3) (mulB hnB tf.b1) (by decide) (by decide) | with_reducible exact in64S (mulB hdB tf.c3) (mulB hnB tf.b1) (by decide) (by decide) | with_reducible exact in64S (mulB hdB tf.d4) (mulB hnB tf.e2) (by decide) (by decide) | with_reducible exact in64S (mulB hdB (addB tf.d4 tf.g3)) (mulB hnB tf.e2) (by decide) (by decide))) rfl (WO.p rfl rfl ?_)))))))))
                                refine WO.nil ?_
                                refine W.sreg ?_
                                refine WO.p rfl rfl (WO.fieldL rfl rfl rfl (WO.load rfl rfl (Cell.own Pick.head rfl) rfl (WO.p rfl rfl ?_)))
                                refine' WO.indexAddr (n := _) (i := _) rfl rfl rfl ?hs ?h1 rfl ?_
                                case hs => (first | exact hR.sl | (refine (hR.row _ ?_).sl; omega))
                                case h1 => (first | omega | (simp; omega))
                                refine' WO.load (v := _) rfl rfl ?hc rfl ?_
                                case hc => (first | (refine hR.cellV ?_; omega) | (refine (hR.row _ ?_).cell0 ?_ (0, 0) ?_ <;> first | rfl | omega) | (refine (hR.row _ ?_).cellAt ?_ (0, 0) ?_ <;> first | rfl | omega))
                                refine WO.p rfl rfl ?_
                                refine' WO.indexAddr (n := _) (i := _) rfl rfl rfl ?hs ?h1 rfl ?_
                                case hs => (first | exact hR.sl | (refine (hR.row _ ?_).sl; omega))
                                case h1 => (first | omega | (simp; omega))
                                refine WO.field0 rfl rfl rfl ?_
                                refine' WO.load (v := _) rfl rfl ?hc rfl ?_
                                case hc => (first | (refine hR.cellV ?_; omega) | (refine (hR.row _ ?_).cell0 ?_ (0, 0) ?_ <;> first | rfl | omega) | (refine (hR.row _ ?_).cellAt ?_ (0, 0) ?_ <;> first | rfl | omega))
                                refine WO.p rfl rfl (WO.p rfl rfl ?_)
                                refine WO.guard_bl rfl rfl (fun c14 => ?_) (fun c14 => ?_)
                                · first
                                  | (exfalso; omega)
                                  | (refine WO.no rfl rfl (WO.no rfl rfl (WO.no rfl rfl (WO.no rfl rfl (WO.no rfl rfl (WO.no rfl rfl (WO.p rfl rfl (WO.p rfl rfl (WO.no rfl rfl (WO.no rfl rfl (WO.no rfl rfl (WO.no rfl rfl ?_)))))))))))
                                     refine WO.no rfl rfl (WO.no rfl rfl (WO.no rfl rfl (WO.p rfl rfl ?_)))
                                     refine WO.nil ?_
                                     refine W.cond_t rfl ?_
                                     refine W.region ?_
                                     refine WO.p rfl rfl (WO.p rfl rfl ?_)
                                     refine WO.nil ?_
                                     refine W.region ?_
                                     refine WO.p rfl rfl (WO.ar rfl rfl rfl (by (first | (unfold in64; omega))) rfl (WO.p rfl rfl ?_))
                                     refine WO.nil ?_
                                     refine' ⟨y + 1, _, ?hp, ?hmu, ⟨rfl, rfl, rfl, rfl, rfl, rfl, rfl, rfl, rfl, rfl, rfl, trivial⟩, ?hS⟩
                                     case hS => repeat (first | exact Sub.nil | refine Sub.cons (by repeat (first | exact Pick.head | apply Pick.tail)) ?_)
                                     case hp => exact ⟨by omega, by unfold hi0; omega, fun _ => by first | ((with_reducible refine' stepF (x := _) ?hx eb hy1 ?hn ?h1 ?h2); (case hx => (first | with_reducible exact ex0 (by assumption) (by assumption) | with_reducible exact ex1 (by assumption) | with_reducible exact ex2 (k := k) (m := (rows.getD i []).length) (by assumption) (by assumption) | with_reducible exact ex3 (k := k) (m := (rows.getD i []).length) (by assumption) (by assumption))); (case hn => with_reducible assumption); (case h1 => (first | with_reducible (intro _; assumption) | (intro h; exact (nb1 h (by with_reducible assumption)).elim) | (intro h; exact (nb2 h (by with_reducible assumption)).elim))); (case h2 => (first | with_reducible (intro _; assumption) | (intro h; exact (nb1 (by with_reducible assumption) h).elim) | (intro h; exact (nb3 h (by with_reducible assumption)).elim)))) | ((with_reducible refine stepT ?_ eb hy1 ?_); (first | with_reducible exact ex0 (by assumption) (by assumption) | with_reducible exact ex1 (by assumption) | with_reducible exact ex2 (k := k) (m := (rows.getD i []).length) (by assumption) (by assumption) | with_reducible exact ex3 (k := k) (m := (rows.getD i []).length) (by assumption) (by assumption)); with_reducible (first | exact .inl (by assumption) | exact .inr (.inl ⟨by assumption, by assumption⟩) | exact .inr (.inr ⟨by assumption, by assumption⟩)))⟩
                                     case hmu => unfold hi0; omega)
                                · first
                                  | (exfalso; omega)
                                  | (refine WO.pg rfl rfl rfl (WO.pg rfl rfl rfl ?_)
                                     refine WO.guard_b rfl rfl (fun c15 => ?_) (fun c15 => ?_)
                                     · first
                                       | (exfalso; omega)
                                       | (refine WO.pg rfl rfl rfl (WO.pg rfl rfl rfl (WO.pg rfl rfl rfl (WO.pg rfl rfl rfl (WO.p rfl rfl (WO.p rfl rfl ?_)))))
                                          refine WO.guard_bl rfl rfl (fun c16 => ?_) (fun c16 => ?_)
                                          · first
                                            | (exfalso; omega)
                                            | (refine WO.no rfl rfl (WO.no rfl rfl (WO.no rfl rfl (WO.no rfl rfl (WO.no rfl rfl (WO.no rfl rfl (WO.no rfl rfl (WO.p rfl rfl ?_)))))))
                                               refine WO.nil ?_
                                               refine W.cond_t rfl ?_
                                               refine W.region ?_
                                               refine WO.p rfl rfl (WO.p rfl rfl ?_)
                                               refine WO.nil ?_
                                               refine W.region ?_
                                               refine WO.p rfl rfl (WO.ar rfl rfl rfl (by (first | (unfold in64; omega))) rfl (WO.p rfl rfl ?_))
                                               refine WO.nil ?_
                                               refine' ⟨y + 1, _, ?hp, ?hmu, ⟨rfl, rfl, rfl, rfl, rfl, rfl, rfl, rfl, rfl, rfl, rfl, trivial⟩, ?hS⟩
                                               case hS => repeat (first | exact Sub.nil | refine Sub.cons (by repeat (first | exact Pick.head | apply Pick.tail)) ?_)
                                               case hp => exact ⟨by omega, by unfold hi0; omega, fun _ => by first | ((with_reducible refine' stepF (x := _) ?hx eb hy1 ?hn ?h1 ?h2); (case hx => (first | with_reducible exact ex0 (by assumption) (by assumption) | with_reducible exact ex1 (by assumption) | with_reducible exact ex2 (k := k) (m := (rows.getD i []).length) (by assumption) (by assumption) | with_reducible exact ex3 (k := k) (m := (rows.getD i []).length) (by assumption) (by assumption))); (case hn => with_reducible assumption); (case h1 => (first | with_reducible (intro _; assumption) | (intro h; exact (nb1 h (by with_reducible assumption)).elim) | (intro h; exact (nb2 h (by with_reducible assumption)).elim))); (case h2 => (first | with_reducible (intro _; assumption) | (intro h; exact (nb1 (by with_reducible assumption) h).elim) | (intro h; exact (nb3 h (by with_reducible assumption)).elim)))) | ((with_reducible refine stepT ?_ eb hy1 ?_); (first | with_reducible exact ex0 (by assumption) (by assumption) | with_reducible exact ex1 (by assumption) | with_reducible exact ex2 (k := k) (m := (rows.getD i []).length) (by assumption) (by assumption) | with_reducible exact ex3 (k := k) (m := (rows.getD i []).length) (by assumption) (by assumption)); with_reducible (first | exact .inl (by assumption) | exact .inr (.inl ⟨by assumption, by assumption⟩) | exact .inr (.inr ⟨by assumption, by assumption⟩)))⟩
                                               case hmu => unfold hi0; omega)
                                          · first
                                            | (exfalso; omega)
                                            | (refine WO.pg rfl rfl rfl (WO.pg rfl rfl rfl (WO.pg rfl rfl rfl ?_))
                                               refine WO.guard_b rfl rfl (fun c17 => ?_) (fun c17 => ?_)
                                               · first
                                                 | (exfalso; omega)
                                                 | (refine WO.pg rfl rfl rfl (WO.pg rfl rfl rfl (WO.pg rfl rfl rfl (WO.pg rfl rfl rfl (WO.p rfl rfl ?_))))
                                                    refine WO.nil ?_
                                                    refine W.cond_bl rfl (fun c18 => ?_) (fun c18 => ?_)
                                                    · first
                                                      | (exfalso; omega)
                                                      | (refine W.region ?_
                                                         refine WO.p rfl rfl (WO.p rfl rfl ?_)
                                                         refine WO.nil ?_
                                                         refine W.region ?_
                                                         refine WO.p rfl rfl (WO.ar rfl rfl rfl (by (first | (unfold in64; omega))) rfl (WO.p rfl rfl ?_))
                                                         refine WO.nil ?_
                                                         refine' ⟨y + 1, _, ?hp, ?hmu, ⟨rfl, rfl, rfl, rfl, rfl, rfl, rfl, rfl, rfl, rfl, rfl, trivial⟩, ?hS⟩
                                                         case hS => repeat (first | exact Sub.nil | refine Sub.cons (by repeat (first | exact Pick.head | apply Pick.tail)) ?_)
                                                         case hp => exact ⟨by omega, by unfold hi0; omega, fun _ => by first | ((with_reducible refine' stepF (x := _) ?hx eb hy1 ?hn ?h1 ?h2); (case hx => (first | with_reducible exact ex0 (by assumption) (by assumption) | with_reducible exact ex1 (by assumption) | with_reducible exact ex2 (k := k) (m := (rows.getD i []).length) (by assumption) (by assumption) | with_reducible exact ex3 (k := k) (m := (rows.getD i []).length) (by assumption) (by assumption))); (case hn => with_reducible assumption); (case h1 => (first | with_reducible (intro _; assumption) | (intro h; exact (nb1 h (by with_reducible assumption)).elim) | (intro h; exact (nb2 h (by with_reducible assumption)).elim))); (case h2 => (first | with_reducible (intro _; assumption) | (intro h; exact (nb1 (by with_reducible assumption) h).elim) | (intro h; exact (nb3 h (by with_reducible assumption)).elim)))) | ((with_reducible refine stepT ?_ eb hy1 ?_); (first | with_reducible exact ex0 (by assumption) (by assumption) | with_reducible exact ex1 (by assumption) | with_reducible exact ex2 (k := k) (m := (rows.getD i []).length) (by assumption) (by assumption) | with_reducible exact ex3 (k := k) (m := (rows.getD i []).length) (by assumption) (by assumption)); with_reducible (first | exact .inl (by assumption) | exact .inr (.inl ⟨by assumption, by assumption⟩) | exact .inr (.inr ⟨by assumption, by assumption⟩)))⟩
                                                         case hmu => unfold hi0; omega)
                                                    · first
                                                      | (exfalso; omega)
                                                      | (refine W.skip ?_
                                                         refine W.region ?_
                                                         refine WO.p rfl rfl (WO.ar rfl rfl rfl (by (first | (unfold in64; omega))) rfl (WO.p rfl rfl ?_))
                                                         refine WO.nil ?_
                                                         refine' ⟨y + 1, _, ?hp, ?hmu, ⟨rfl, rfl, rfl, rfl, rfl, rfl, rfl, rfl, rfl, rfl, rfl, trivial⟩, ?hS⟩
                                                         case hS => repeat (first | exact Sub.nil | refine Sub.cons (by repeat (first | exact Pick.head | apply Pick.tail)) ?_)
                                                         case hp => exact ⟨by omega, by unfold hi0; omega, fun _ => by first | ((with_reducible refine' stepF (x := _) ?hx eb hy1 ?hn ?h1 ?h2); (case hx => (first | with_reducible exact ex0 (by assumption) (by assumption) | with_reducible exact ex1 (by assumption) | with_reducible exact ex2 (k := k) (m := (rows.getD i []).length) (by assumption) (by assumption) | with_reducible exact ex3 (k := k) (m := (rows.getD i []).length) (by assumption) (by assumption))); (case hn => with_reducible assumption); (case h1 => (first | with_reducible (intro _; assumption) | (intro h; exact (nb1 h (by with_reducible assumption)).elim) | (intro h; exact (nb2 h (by with_reducible assumption)).elim))); (case h2 => (first | with_reducible (intro _; assumption) | (intro h; exact (nb1 (by with_reducible assumption) h).elim) | (intro h; exact (nb3 h (by with_reducible assumption)).elim)))) | ((with_reducible refine stepT ?_ eb hy1 ?_); (first | with_reducible exact ex0 (by assumption) (by assumption) | with_reducible exact ex1 (by assumption) | with_reducible exact ex2 (k := k) (m := (rows.getD i []).length) (by assumption) (by assumption) | with_reducible exact ex3 (k := k) (m := (rows.getD i []).length) (by assumption) (by assumption)); with_reducible (first | exact .inl (by assumption) | exact .inr (.inl ⟨by assumption, by assumption⟩) | exact .inr (.inr ⟨by assumption, by assumption⟩)))⟩
                                                         case hmu => unfold hi0; omega))
                                               · first
                                                 | (exfalso; omega)
                                                 | (refine WO.no rfl rfl (WO.no rfl rfl (WO.no rfl rfl (WO.pg rfl rfl rfl (WO.p rfl rfl ?_))))
                                                    refine WO.nil ?_
                                                    refine W.cond_f rfl ?_
                                                    refine W.skip ?_
                                                    refine W.region ?_
                                                    refine WO.p rfl rfl (WO.ar rfl rfl rfl (by (first | (unfold in64; omega))) rfl (WO.p rfl rfl ?_))
                                                    refine WO.nil ?_
                                                    refine' ⟨y + 1, _, ?hp, ?hmu, ⟨rfl, rfl, rfl, rfl, rfl, rfl, rfl, rfl, rfl, rfl, rfl, trivial⟩, ?hS⟩
                                                    case hS => repeat (first | exact Sub.nil | refine Sub.cons (by repeat (first | exact Pick.head | apply Pick.tail)) ?_)
                                                    case hp => exact ⟨by omega, by unfold hi0; omega, fun _ => by first | ((with_reducible refine' stepF (x := _) ?hx eb hy1 ?hn ?h1 ?h2); (case hx => (first | with_reducible exact ex0 (by assumption) (by assumption) | with_reducible exact ex1 (by assumption) | with_reducible exact ex2 (k := k) (m := (rows.getD i []).length) (by assumption) (by assumption) | with_reducible exact ex3 (k := k) (m := (rows.getD i []).length) (by assumption) (by assumption))); (case hn => with_reducible assumption); (case h1 => (first | with_reducible (intro _; assumption) | (intro h; exact (nb1 h (by with_reducible assumption)).elim) | (intro h; exact (nb2 h (by with_reducible assumption)).elim))); (case h2 => (first | with_reducible (intro _; assumption) | (intro h; exact (nb1 (by with_reducible assumption) h).elim) | (intro h; exact (nb3 h (by with_reducible assumption)).elim)))) | ((with_reducible refine stepT ?_ eb hy1 ?_); (first | with_reducible exact ex0 (by assumption) (by assumption) | with_reducible exact ex1 (by assumption) | with_reducible exact ex2 (k := k) (m := (rows.getD i []).length) (by assumption) (by assumption) | with_reducible exact ex3 (k := k) (m := (rows.getD i []).length) (by assumption) (by assumption)); with_reducible (first | exact .inl (by assumption) | exact .inr (.inl ⟨by assumption, by assumption⟩) | exact .inr (.inr ⟨by assumption, by assumption⟩)))⟩
                                                    case hmu => unfold hi0; omega)))
                                     · first
                                       | (exfalso; omega)
                                       | (refine WO.no rfl rfl (WO.no rfl rfl (WO.no rfl rfl (WO.pg rfl rfl rfl (WO.p rfl rfl (WO.p rfl rfl (WO.pg rfl rfl rfl (WO.pg rfl rfl rfl (WO.pg rfl rfl rfl ?_))))))))
                                          refine WO.guard_b rfl rfl (fun c19 => ?_) (fun c19 => ?_)
                                          · first
                                            | (exfalso; omega)
                                            | (refine WO.pg rfl rfl rfl (WO.pg rfl rfl rfl (WO.pg rfl rfl rfl (WO.pg rfl rfl rfl (WO.p rfl rfl ?_))))
                                               refine WO.nil ?_
                                               refine W.cond_bl rfl (fun c20 => ?_) (fun c20 => ?_)
                                               · first
                                                 | (exfalso; omega)
                                                 | (refine W.region ?_
                                                    refine WO.p rfl rfl (WO.p rfl rfl ?_)
                                                    refine WO.nil ?_
                                                    refine W.region ?_
                                                    refine WO.p rfl rfl (WO.ar rfl rfl rfl (by (first | (unfold in64; omega))) rfl (WO.p rfl rfl ?_))
                                                    refine WO.nil ?_
                                                    refine' ⟨y + 1, _, ?hp, ?hmu, ⟨rfl, rfl, rfl, rfl, rfl, rfl, rfl, rfl, rfl, rfl, rfl, trivial⟩, ?hS⟩
                                                    case hS => repeat (first | exact Sub.nil | refine Sub.cons (by repeat (first | exact Pick.head | apply Pick.tail)) ?_)
                                                    case hp => exact ⟨by omega, by unfold hi0; omega, fun _ => by first | ((with_reducible refine' stepF (x := _) ?hx eb hy1 ?hn ?h1 ?h2); (case hx => (first | with_reducible exact ex0 (by assumption) (by assumption) | with_reducible exact ex1 (by assumption) | with_reducible exact ex2 (k := k) (m := (rows.getD i []).length) (by assumption) (by assumption) | with_reducible exact ex3 (k := k) (m := (rows.getD i []).length) (by assumption) (by assumption))); (case hn => with_reducible assumption); (case h1 => (first | with_reducible (intro _; assumption) | (intro h; exact (nb1 h (by with_reducible assumption)).elim) | (intro h; exact (nb2 h (by with_reducible assumption)).elim))); (case h2 => (first | with_reducible (intro _; assumption) | (intro h; exact (nb1 (by with_reducible assumption) h).elim) | (intro h; exact (nb3 h (by with_reducible assumption)).elim)))) | ((with_reducible refine stepT ?_ eb hy1 ?_); (first | with_reducible exact ex0 (by assumption) (by assumption) | with_reducible exact ex1 (by assumption) | with_reducible exact ex2 (k := k) (m := (rows.getD i []).length) (by assumption) (by assumption) | with_reducible exact ex3 (k := k) (m := (rows.getD i []).length) (by assumption) (by assumption)); with_reducible (first | exact .inl (by assumption) | exact .inr (.inl ⟨by assumption, by assumption⟩) | exact .inr (.inr ⟨by assumption, by assumption⟩)))⟩
                                                    case hmu => unfold hi0; omega)
                                               · first
                                                 | (exfalso; omega)
                                                 | (refine W.skip ?_
                                                    refine W.region ?_
                                                    refine WO.p rfl rfl (WO.ar rfl rfl rfl (by (first | (unfold in64; omega))) rfl (WO.p rfl rfl ?_))
                                                    refine WO.nil ?_
                                                    refine' ⟨y + 1, _, ?hp, ?hmu, ⟨rfl, rfl, rfl, rfl, rfl, rfl, rfl, rfl, rfl, rfl, rfl, trivial⟩, ?hS⟩
                                                    case hS => repeat (first | exact Sub.nil | refine Sub.cons (by repeat (first | exact Pick.head | apply Pick.tail)) ?_)
                                                    case hp => exact ⟨by omega, by unfold hi0; omega, fun _ => by first | ((with_reducible refine' stepF (x := _) ?hx eb hy1 ?hn ?h1 ?h2); (case hx => (first | with_reducible exact ex0 (by assumption) (by assumption) | with_reducible exact ex1 (by assumption) | with_reducible exact ex2 (k := k) (m := (rows.getD i []).length) (by assumption) (by assumption) | with_reducible exact ex3 (k := k) (m := (rows.getD i []).length) (by assumption) (by assumption))); (case hn => with_reducible assumption); (case h1 => (first | with_reducible (intro _; assumption) | (intro h; exact (nb1 h (by with_reducible assumption)).elim) | (intro h; exact (nb2 h (by with_reducible assumption)).elim))); (case h2 => (first | with_reducible (intro _; assumption) | (intro h; exact (nb1 (by with_reducible assumption) h).elim) | (intro h; exact (nb3 h (by with_reducible assumption)).elim)))) | ((with_reducible refine stepT ?_ eb hy1 ?_); (first | with_reducible exact ex0 (by assumption) (by assumption) | with_reducible exact ex1 (by assumption) | with_reducible exact ex2 (k := k) (m := (rows.getD i []).length) (by assumption) (by assumption) | with_reducible exact ex3 (k := k) (m := (rows.getD i []).length) (by assumption) (by assumption)); with_reducible (first | exact .inl (by assumption) | exact .inr (.inl ⟨by assumption, by assumption⟩) | exact .inr (.inr ⟨by assumption, by assumption⟩)))⟩
                                                    case hmu => unfold hi0; omega))
                                          · first
                                            | (exfalso; omega)
                                            | (refine WO.no rfl rfl (WO.no rfl rfl (WO.no rfl rfl (WO.pg rfl rfl rfl (WO.p rfl rfl ?_))))
                                               refine WO.nil ?_
                                               refine W.cond_f rfl ?_
                                               refine W.skip ?_
                                               refine W.region ?_
                                               refine WO.p rfl rfl (WO.ar rfl rfl rfl (by (first | (unfold in64; omega))) rfl (WO.p rfl rfl ?_))
                                               refine WO.nil ?_
                                               refine' ⟨y + 1, _, ?hp, ?hmu, ⟨rfl, rfl, rfl, rfl, rfl, rfl, rfl, rfl, rfl, rfl, rfl, trivial⟩, ?hS⟩
                                               case hS => repeat (first | exact Sub.nil | refine Sub.cons (by repeat (first | exact Pick.head | apply Pick.tail)) ?_)
                                               case hp => exact ⟨by omega, by unfold hi0; omega, fun _ => by first | ((with_reducible refine' stepF (x := _) ?hx eb hy1 ?hn ?h1 ?h2); (case hx => (first | with_reducible exact ex0 (by assumption) (by assumption) | with_reducible exact ex1 (by assumption) | with_reducible exact ex2 (k := k) (m := (rows.getD i []).length) (by assumption) (by assumption) | with_reducible exact ex3 (k := k) (m := (rows.getD i []).length) (by assumption) (by assumption))); (case hn => with_reducible assumption); (case h1 => (first | with_reducible (intro _; assumption) | (intro h; exact (nb1 h (by with_reducible assumption)).elim) | (intro h; exact (nb2 h (by with_reducible assumption)).elim))); (case h2 => (first | with_reducible (intro _; assumption) | (intro h; exact (nb1 (by with_reducible assumption) h).elim) | (intro h; exact (nb3 h (by with_reducible assumption)).elim)))) | ((with_reducible refine stepT ?_ eb hy1 ?_); (first | with_reducible exact ex0 (by assumption) (by assumption) | with_reducible exact ex1 (by assumption) | with_reducible exact ex2 (k := k) (m := (rows.getD i []).length) (by assumption) (by assumption) | with_reducible exact ex3 (k := k) (m := (rows.getD i []).length) (by assumption) (by assumption)); with_reducible (first | exact .inl (by assumption) | exact .inr (.inl ⟨by assumption, by assumption⟩) | exact .inr (.inr ⟨by assumption, by assumption⟩)))⟩
                                               case hmu => unfold hi0; omega)))))
                      · first
                        | (exfalso; omega)
                        | (refine W.skip ?_
                           have hdB : 0 ≤ den ∧ den ≤ 100000000 := by have := hb.2.2; omega
                           have hnB : 0 ≤ num ∧ num ≤ 100000000000 := ⟨hb.1, hb.2.1⟩
                           refine W.sreg ?_
                           refine WO.fieldL rfl rfl rfl (WO.load rfl rfl (Cell.own (Pick.tail (Pick.head)) rfl) rfl (WO.p rfl rfl (WO.ar rfl rfl rfl (by (first | with_reducible exact in64B (mulB hdB tf.a3) (by decide) | with_reducible exact in64B (mulB hdB tf.c3) (by decide) | with_reducible exact in64B (mulB hdB tf.d4) (by decide) | with_reducible exact in64B (mulB hdB (addB tf.d4 tf.g3)) (by decide))) rfl (WO.field0 rfl rfl rfl (WO.load rfl rfl (Cell.own (Pick.tail (Pick.head)) rfl) rfl (WO.p rfl rfl (WO.ar rfl rfl rfl (by (first | with_reducible exact in64B (mulB hnB tf.b1) (by decide) | with_reducible exact in64B (mulB hnB tf.e2) (by decide))) rfl (WO.ar rfl rfl rfl (by (first | with_reducible exact in64S (mulB hdB tf.a3) (mulB hnB tf.b1) (by decide) (by decide) | with_reducible exact in64S (mulB hdB tf.c3) (mulB hnB tf.b1) (by decide) (by decide) | with_reducible exact in64S (mulB hdB tf.d4) (mulB hnB tf.e2) (by decide) (by decide) | with_reducible exact in64S (mulB hdB (addB tf.d4 tf.g3)) (mulB hnB tf.e2) (by decide) (by decide))) rfl (WO.p rfl rfl ?_)))))))))
                           refine WO.nil ?_
                           refine W.sreg ?_
                           refine WO.p rfl rfl (WO.fieldL rfl rfl rfl (WO.load rfl rfl (Cell.own Pick.head rfl) rfl (WO.p rfl rfl ?_)))
                           refine' WO.indexAddr (n := _) (i := _) rfl rfl rfl ?hs ?h1 rfl ?_
                           case hs => (first | exact hR.sl | (refine (hR.row _ ?_).sl; omega))
                           case h1 => (first | omega | (simp; omega))
                           refine' WO.load (v := _) rfl rfl ?hc rfl ?_
                           case hc => (first | (refine hR.cellV ?_; omega) | (refine (hR.row _ ?_).cell0 ?_ (0, 0) ?_ <;> first | rfl | omega) | (refine (hR.row _ ?_).cellAt ?_ (0, 0) ?_ <;> first | rfl | omega))
                           refine WO.p rfl rfl ?_
                           refine' WO.indexAddr (n := _) (i := _) rfl rfl rfl ?hs ?h1 rfl ?_
                           case hs => (first | exact hR.sl | (refine (hR.row _ ?_).sl; omega))
                           case h1 => (first | omega | (simp; omega))
                           refine WO.field0 rfl rfl rfl ?_
                           refine' WO.load (v := _) rfl rfl ?hc rfl ?_
                           case hc => (first | (refine hR.cellV ?_; omega) | (refine (hR.row _ ?_).cell0 ?_ (0, 0) ?_ <;> first | rfl | omega) | (refine (hR.row _ ?_).cellAt ?_ (0, 0) ?_ <;> first | rfl | omega))
                           refine WO.p rfl rfl (WO.p rfl rfl ?_)
                           refine WO.guard_bl rfl rfl (fun c21 => ?_) (fun c21 => ?_)
                           · first
                             | (exfalso; omega)
                             | (refine WO.no rfl rfl (WO.no rfl rfl (WO.no rfl rfl (WO.no rfl rfl (WO.no rfl rfl (WO.no rfl rfl (WO.p rfl rfl (WO.p rfl rfl (WO.no rfl rfl (WO.no rfl rfl (WO.no rfl rfl (WO.no rfl rfl ?_)))))))))))
                                refine WO.no rfl rfl (WO.no rfl rfl (WO.no rfl rfl (WO.p rfl rfl ?_)))
                                refine WO.nil ?_
                                refine W.cond_t rfl ?_
                                refine W.region ?_
                                refine WO.p rfl rfl (WO.p rfl rfl ?_)
                                refine WO.nil ?_
                                refine W.region ?_
                                refine WO.p rfl rfl (WO.ar rfl rfl rfl (by (first | (unfold in64; omega))) rfl (WO.p rfl rfl ?_))
                                refine WO.nil ?_
                                refine' ⟨y + 1, _, ?hp, ?hmu, ⟨rfl, rfl, rfl, rfl, rfl, rfl, rfl, rfl, rfl, rfl, rfl, trivial⟩, ?hS⟩
                                case hS => repeat (first | exact Sub.nil | refine Sub.cons (by repeat (first | exact Pick.head | apply Pick.tail)) ?_)
                                case hp => exact ⟨by omega, by unfold hi0; omega, fun _ => by first | ((with_reducible refine' stepF (x := _) ?hx eb hy1 ?hn ?h1 ?h2); (case hx => (first | with_reducible exact ex0 (by assumption) (by assumption) | with_reducible exact ex1 (by assumption) | with_reducible exact ex2 (k := k) (m := (rows.getD i []).length) (by assumption) (by assumption) | with_reducible exact ex3 (k := k) (m := (rows.getD i []).length) (by assumption) (by assumption))); (case hn => with_reducible assumption); (case h1 => (first | with_reducible (intro _; assumption) | (intro h; exact (nb1 h (by with_reducible assumption)).elim) | (intro h; exact (nb2 h (by with_reducible assumption)).elim))); (case h2 => (first | with_reducible (intro _; assumption) | (intro h; exact (nb1 (by with_reducible assumption) h).elim) | (intro h; exact (nb3 h (by with_reducible assumption)).elim)))) | ((with_reducible refine stepT ?_ eb hy1 ?_); (first | with_reducible exact ex0 (by assumption) (by assumption) | with_reducible exact ex1 (by assumption) | with_reducible exact ex2 (k := k) (m := (rows.getD i []).length) (by assumption) (by assumption) | with_reducible exact ex3 (k := k) (m := (rows.getD i []).length) (by assumption) (by assumption)); with_reducible (first | exact .inl (by assumption) | exact .inr (.inl ⟨by assumption, by assumption⟩) | exact .inr (.inr ⟨by assumption, by assumption⟩)))⟩
                                case hmu => unfold hi0; omega)
                           · first
                             | (exfalso; omega)
                             | (refine WO.pg rfl rfl rfl (WO.pg rfl rfl rfl ?_)
                                refine WO.guard_b rfl rfl (fun c22 => ?_) (fun c22 => ?_)
                                · first
                                  | (exfalso; omega)
                                  | (refine WO.pg rfl rfl rfl (WO.pg rfl rfl rfl (WO.pg rfl rfl rfl (WO.pg rfl rfl rfl (WO.p rfl rfl (WO.p rfl rfl ?_)))))
                                     refine WO.guard_bl rfl rfl (fun c23 => ?_) (fun c23 => ?_)
                                     · first
                                       | (exfalso; omega)
                                       | (refine WO.no rfl rfl (WO.no rfl rfl (WO.no rfl rfl (WO.no rfl rfl (WO.no rfl rfl (WO.no rfl rfl (WO.no rfl rfl (WO.p rfl rfl ?_)))))))
                                          refine WO.nil ?_
                                          refine W.cond_t rfl ?_
                                          refine W.region ?_
                                          refine WO.p rfl rfl (WO.p rfl rfl ?_)
                                          refine WO.nil ?_
                                          refine W.region ?_
                                          refine WO.p rfl rfl (WO.ar rfl rfl rfl (by (first | (unfold in64; omega))) rfl (WO.p rfl rfl ?_))
                                          refine WO.nil ?_
                                          refine' ⟨y + 1, _, ?hp, ?hmu, ⟨rfl, rfl, rfl, rfl, rfl, rfl, rfl, rfl, rfl, rfl, rfl, trivial⟩, ?hS⟩
                                          case hS => repeat (first | exact Sub.nil | refine Sub.cons (by repeat (first | exact Pick.head | apply Pick.tail)) ?_)
                                          case hp => exact ⟨by omega, by unfold hi0; omega, fun _ => by first | ((with_reducible refine' stepF (x := _) ?hx eb hy1 ?hn ?h1 ?h2); (case hx => (first | with_reducible exact ex0 (by assumption) (by assumption) | with_reducible exact ex1 (by assumption) | with_reducible exact ex2 (k := k) (m := (rows.getD i []).length) (by assumption) (by assumption) | with_reducible exact ex3 (k := k) (m := (rows.getD i []).length) (by assumption) (by assumption))); (case hn => with_reducible assumption); (case h1 => (first | with_reducible (intro _; assumption) | (intro h; exact (nb1 h (by with_reducible assumption)).elim) | (intro h; exact (nb2 h (by with_reducible assumption)).elim))); (case h2 => (first | with_reducible (intro _; assumption) | (intro h; exact (nb1 (by with_reducible assumption) h).elim) | (intro h; exact (nb3 h (by with_reducible assumption)).elim)))) | ((with_reducible refine stepT ?_ eb hy1 ?_); (first | with_reducible exact ex0 (by assumption) (by assumption) | with_reducible exact ex1 (by assumption) | with_reducible exact ex2 (k := k) (m := (rows.getD i []).length) (by assumption) (by assumption) | with_reducible exact ex3 (k := k) (m := (rows.getD i []).length) (by assumption) (by assumption)); with_reducible (first | exact .inl (by assumption) | exact .inr (.inl ⟨by assumption, by assumption⟩) | exact .inr (.inr ⟨by assumption, by assumption⟩)))⟩
                                          case hmu => unfold hi0; omega)
                                     · first
                                       | (exfalso; omega)
                                       | (refine WO.pg rfl rfl rfl (WO.pg rfl rfl rfl (WO.pg rfl rfl rfl ?_))
                                          refine WO.guard_b rfl rfl (fun c24 => ?_) (fun c24 => ?_)
                                          · first
                                            | (exfalso; omega)
                                            | (refine WO.pg rfl rfl rfl (WO.pg rfl rfl rfl (WO.pg rfl rfl rfl (WO.pg rfl rfl rfl (WO.p rfl rfl ?_))))
                                               refine WO.nil ?_
                                               refine W.cond_bl rfl (fun c25 => ?_) (fun c25 => ?_)
                                               · first
                                                 | (exfalso; omega)
                                                 | (refine W.region ?_
                                                    refine WO.p rfl rfl (WO.p rfl rfl ?_)
                                                    refine WO.nil ?_
                                                    refine W.region ?_
                                                    refine WO.p rfl rfl (WO.ar rfl rfl rfl (by (first | (unfold in64; omega))) rfl (WO.p rfl rfl ?_))
                                                    refine WO.nil ?_
                                                    refine' ⟨y + 1, _, ?hp, ?hmu, ⟨rfl, rfl, rfl, rfl, rfl, rfl, rfl, rfl, rfl, rfl, rfl, trivial⟩, ?hS⟩
                                                    case hS => repeat (first | exact Sub.nil | refine Sub.cons (by repeat (first | exact Pick.head | apply Pick.tail)) ?_)
                                                    case hp => exact ⟨by omega, by unfold hi0; omega, fun _ => by first | ((with_reducible refine' stepF (x := _) ?hx eb hy1 ?hn ?h1 ?h2); (case hx => (first | with_reducible exact ex0 (by assumption) (by assumption) | with_reducible exact ex1 (by assumption) | with_reducible exact ex2 (k := k) (m := (rows.getD i []).length) (by assumption) (by assumption) | with_reducible exact ex3 (k := k) (m := (rows.getD i []).length) (by assumption) (by assumption))); (case hn => with_reducible assumption); (case h1 => (first | with_reducible (intro _; assumption) | (intro h; exact (nb1 h (by with_reducible assumption)).elim) | (intro h; exact (nb2 h (by with_reducible assumption)).elim))); (case h2 => (first | with_reducible (intro _; assumption) | (intro h; exact (nb1 (by with_reducible assumption) h).elim) | (intro h; exact (nb3 h (by with_reducible assumption)).elim)))) | ((with_reducible refine stepT ?_ eb hy1 ?_); (first | with_reducible exact ex0 (by assumption) (by assumption) | with_reducible exact ex1 (by assumption) | with_reducible exact ex2 (k := k) (m := (rows.getD i []).length) (by assumption) (by assumption) | with_reducible exact ex3 (k := k) (m := (rows.getD i []).length) (by assumption) (by assumption)); with_reducible (first | exact .inl (by assumption) | exact .inr (.inl ⟨by assumption, by assumption⟩) | exact .inr (.inr ⟨by assumption, by assumption⟩)))⟩
                                                    case hmu => unfold hi0; omega)
                                               · first
                                                 | (exfalso; omega)
                                                 | (refine W.skip ?_
                                                    refine W.region ?_
                                                    refine WO.p rfl rfl (WO.ar rfl rfl rfl (by (first | (unfold in64; omega))) rfl (WO.p rfl rfl ?_))
                                                    refine WO.nil ?_
                                                    refine' ⟨y + 1, _, ?hp, ?hmu, ⟨rfl, rfl, rfl, rfl, rfl, rfl, rfl, rfl, rfl, rfl, rfl, trivial⟩, ?hS⟩
                                                    case hS => repeat (first | exact Sub.nil | refine Sub.cons (by repeat (first | exact Pick.head | apply Pick.tail)) ?_)
                                                    case hp => exact ⟨by omega, by unfold hi0; omega, fun _ => by first | ((with_reducible refine' stepF (x := _) ?hx eb hy1 ?hn ?h1 ?h2); (case hx => (first | with_reducible exact ex0 (by assumption) (by assumption) | with_reducible exact ex1 (by assumption) | with_reducible exact ex2 (k := k) (m := (rows.getD i []).length) (by assumption) (by assumption) | with_reducible exact ex3 (k := k) (m := (rows.getD i []).length) (by assumption) (by assumption))); (case hn => with_reducible assumption); (case h1 => (first | with_reducible (intro _; assumption) | (intro h; exact (nb1 h (by with_reducible assumption)).elim) | (intro h; exact (nb2 h (by with_reducible assumption)).elim))); (case h2 => (first | with_reducible (intro _; assumption) | (intro h; exact (nb1 (by with_reducible assumption) h).elim) | (intro h; exact (nb3 h (by with_reducible assumption)).elim)))) | ((with_reducible refine stepT ?_ eb hy1 ?_); (first | with_reducible exact ex0 (by assumption) (by assumption) | with_reducible exact ex1 (by assumption) | with_reducible exact ex2 (k := k) (m := (rows.getD i []).length) (by assumption) (by assumption) | with_reducible exact ex3 (k := k) (m := (rows.getD i []).length) (by assumption) (by assumption)); with_reducible (first | exact .inl (by assumption) | exact .inr (.inl ⟨by assumption, by assumption⟩) | exact .inr (.inr ⟨by assumption, by assumption⟩)))⟩
                                                    case hmu => unfold hi0; omega))
                                          · first
                                            | (exfalso; omega)
                                            | (refine WO.no rfl rfl (WO.no rfl rfl (WO.no rfl rfl (WO.pg rfl rfl rfl (WO.p rfl rfl ?_))))
                                               refine WO.nil ?_
                                               refine W.cond_f rfl ?_
                                               refine W.skip ?_
                                               refine W.region ?_
                                               refine WO.p rfl rfl (WO.ar rfl rfl rfl (by (first | (unfold in64; omega))) rfl (WO.p rfl rfl ?_))
                                               refine WO.nil ?_
                                               refine' ⟨y + 1, _, ?hp, ?hmu, ⟨rfl, rfl, rfl, rfl, rfl, rfl, rfl, rfl, rfl, rfl, rfl, trivial⟩, ?hS⟩
                                               case hS => repeat (first | exact Sub.nil | refine Sub.cons (by repeat (first | exact Pick.head | apply Pick.tail)) ?_)
                                               case hp => exact ⟨by omega, by unfold hi0; omega, fun _ => by first | ((with_reducible refine' stepF (x := _) ?hx eb hy1 ?hn ?h1 ?h2); (case hx => (first | with_reducible exact ex0 (by assumption) (by assumption) | with_reducible exact ex1 (by assumption) | with_reducible exact ex2 (k := k) (m := (rows.getD i []).length) (by assumption) (by assumption) | with_reducible exact ex3 (k := k) (m := (rows.getD i []).length) (by assumption) (by assumption))); (case hn => with_reducible assumption); (case h1 => (first | with_reducible (intro _; assumption) | (intro h; exact (nb1 h (by with_reducible assumption)).elim) | (intro h; exact (nb2 h (by with_reducible assumption)).elim))); (case h2 => (first | with_reducible (intro _; assumption) | (intro h; exact (nb1 (by with_reducible assumption) h).elim) | (intro h; exact (nb3 h (by with_reducible assumption)).elim)))) | ((with_reducible refine stepT ?_ eb hy1 ?_); (first | with_reducible exact ex0 (by assumption) (by assumption) | with_reducible exact ex1 (by assumption) | with_reducible exact ex2 (k := k) (m := (rows.getD i []).length) (by assumption) (by assumption) | with_reducible exact ex3 (k := k) (m := (rows.getD i []).length) (by assumption) (by assumption)); with_reducible (first | exact .inl (by assumption) | exact .inr (.inl ⟨by assumption, by assumption⟩) | exact .inr (.inr ⟨by assumption, by assumption⟩)))⟩
                                               case hmu => unfold hi0; omega)))
                                · first
                                  | (exfalso; omega)
                                  | (refine WO.no rfl rfl (WO.no rfl rfl (WO.no rfl rfl (WO.pg rfl rfl rfl (WO.p rfl rfl (WO.p rfl rfl (WO.pg rfl rfl rfl (WO.pg rfl rfl rfl (WO.pg rfl rfl rfl ?_))))))))
                                     refine WO.guard_b rfl rfl (fun c26 => ?_) (fun c26 => ?_)
                                     · first
                                       | (exfalso; omega)
                                       | (refine WO.pg rfl rfl rfl (WO.pg rfl rfl rfl (WO.pg rfl rfl rfl (WO.pg rfl rfl rfl (WO.p rfl rfl ?_))))
                                          refine WO.nil ?_
                                          refine W.cond_bl rfl (fun c27 => ?_) (fun c27 => ?_)
                                          · first
                                            | (exfalso; omega)
                                            | (refine W.region ?_
                                               refine WO.p rfl rfl (WO.p rfl rfl ?_)
                                               refine WO.nil ?_
                                               refine W.region ?_
                                               refine WO.p rfl rfl (WO.ar rfl rfl rfl (by (first | (unfold in64; omega))) rfl (WO.p rfl rfl ?_))
                                               refine WO.nil ?_
                                               refine' ⟨y + 1, _, ?hp, ?hmu, ⟨rfl, rfl, rfl, rfl, rfl, rfl, rfl, rfl, rfl, rfl, rfl, trivial⟩, ?hS⟩
                                               case hS => repeat (first | exact Sub.nil | refine Sub.cons (by repeat (first | exact Pick.head | apply Pick.tail)) ?_)
                                               case hp => exact ⟨by omega, by unfold hi0; omega, fun _ => by first | ((with_reducible refine' stepF (x := _) ?hx eb hy1 ?hn ?h1 ?h2); (case hx => (first | with_reducible exact ex0 (by assumption) (by assumption) | with_reducible exact ex1 (by assumption) | with_reducible exact ex2 (k := k) (m := (rows.getD i []).length) (by assumption) (by assumption) | with_reducible exact ex3 (k := k) (m := (rows.getD i []).length) (by assumption) (by assumption))); (case hn => with_reducible assumption); (case h1 => (first | with_reducible (intro _; assumption) | (intro h; exact (nb1 h (by with_reducible assumption)).elim) | (intro h; exact (nb2 h (by with_reducible assumption)).elim))); (case h2 => (first | with_reducible (intro _; assumption) | (intro h; exact (nb1 (by with_reducible assumption) h).elim) | (intro h; exact (nb3 h (by with_reducible assumption)).elim)))) | ((with_reducible refine stepT ?_ eb hy1 ?_); (first | with_reducible exact ex0 (by assumption) (by assumption) | with_reducible exact ex1 (by assumption) | with_reducible exact ex2 (k := k) (m := (rows.getD i []).length) (by assumption) (by assumption) | with_reducible exact ex3 (k := k) (m := (rows.getD i []).length) (by assumption) (by assumption)); with_reducible (first | exact .inl (by assumption) | exact .inr (.inl ⟨by assumption, by assumption⟩) | exact .inr (.inr ⟨by assumption, by assumption⟩)))⟩
                                               case hmu => unfold hi0; omega)
                                          · first
                                            | (exfalso; omega)
                                            | (refine W.skip ?_
                                               refine W.region ?_
                                               refine WO.p rfl rfl (WO.ar rfl rfl rfl (by (first | (unfold in64; omega))) rfl (WO.p rfl rfl ?_))
                                               refine WO.nil ?_
                                               refine' ⟨y + 1, _, ?hp, ?hmu, ⟨rfl, rfl, rfl, rfl, rfl, rfl, rfl, rfl, rfl, rfl, rfl, trivial⟩, ?hS⟩
                                               case hS => repeat (first | exact Sub.nil | refine Sub.cons (by repeat (first | exact Pick.head | apply Pick.tail)) ?_)
                                               case hp => exact ⟨by omega, by unfold hi0; omega, fun _ => by first | ((with_reducible refine' stepF (x := _) ?hx eb hy1 ?hn ?h1 ?h2); (case hx => (first | with_reducible exact ex0 (by assumption) (by assumption) | with_reducible exact ex1 (by assumption) | with_reducible exact ex2 (k := k) (m := (rows.getD i []).length) (by assumption) (by assumption) | with_reducible exact ex3 (k := k) (m := (rows.getD i []).length) (by assumption) (by assumption))); (case hn => with_reducible assumption); (case h1 => (first | with_reducible (intro _; assumption) | (intro h; exact (nb1 h (by with_reducible assumption)).elim) | (intro h; exact (nb2 h (by with_reducible assumption)).elim))); (case h2 => (first | with_reducible (intro _; assumption) | (intro h; exact (nb1 (by with_reducible assumption) h).elim) | (intro h; exact (nb3 h (by with_reducible assumption)).elim)))) | ((with_reducible refine stepT ?_ eb hy1 ?_); (first | with_reducible exact ex0 (by assumption) (by assumption) | with_reducible exact ex1 (by assumption) | with_reducible exact ex2 (k := k) (m := (rows.getD i []).length) (by assumption) (by assumption) | with_reducible exact ex3 (k := k) (m := (rows.getD i []).length) (by assumption) (by assumption)); with_reducible (first | exact .inl (by assumption) | exact .inr (.inl ⟨by assumption, by assumption⟩) | exact .inr (.inr ⟨by assumption, by assumption⟩)))⟩
                                               case hmu => unfold hi0; omega))
                                     · first
                                       | (exfalso; omega)
                                       | (refine WO.no rfl rfl (WO.no rfl rfl (WO.no rfl rfl (WO.pg rfl rfl rfl (WO.p rfl rfl ?_))))
                                          refine WO.nil ?_
                                          refine W.cond_f rfl ?_
                                          refine W.skip ?_
                                          refine W.region ?_
                                          refine WO.p rfl rfl (WO.ar rfl rfl rfl (by (first | (unfold in64; omega))) rfl (WO.p rfl rfl ?_))
                                          refine WO.nil ?_
                                          refine' ⟨y + 1, _, ?hp, ?hmu, ⟨rfl, rfl, rfl, rfl, rfl, rfl, rfl, rfl, rfl, rfl, rfl, trivial⟩, ?hS⟩
                                          case hS => repeat (first | exact Sub.nil | refine Sub.cons (by repeat (first | exact Pick.head | apply Pick.tail)) ?_)
                                          case hp => exact ⟨by omega, by unfold hi0; omega, fun _ => by first | ((with_reducible refine' stepF (x := _) ?hx eb hy1 ?hn ?h1 ?h2); (case hx => (first | with_reducible exact ex0 (by assumption) (by assumption) | with_reducible exact ex1 (by assumption) | with_reducible exact ex2 (k := k) (m := (rows.getD i []).length) (by assumption) (by assumption) | with_reducible exact ex3 (k := k) (m := (rows.getD i []).length) (by assumption) (by assumption))); (case hn => with_reducible assumption); (case h1 => (first | with_reducible (intro _; assumption) | (intro h; exact (nb1 h (by with_reducible assumption)).elim) | (intro h; exact (nb2 h (by with_reducible assumption)).elim))); (case h2 => (first | with_reducible (intro _; assumption) | (intro h; exact (nb1 (by with_reducible assumption) h).elim) | (intro h; exact (nb3 h (by with_reducible assumption)).elim)))) | ((with_reducible refine stepT ?_ eb hy1 ?_); (first | with_reducible exact ex0 (by assumption) (by assumption) | with_reducible exact ex1 (by assumption) | with_reducible exact ex2 (k := k) (m := (rows.getD i []).length) (by assumption) (by assumption) | with_reducible exact ex3 (k := k) (m := (rows.getD i []).length) (by assumption) (by assumption)); with_reducible (first | exact .inl (by assumption) | exact .inr (.inl ⟨by assumption, by assumption⟩) | exact .inr (.inr ⟨by assumption, by assumption⟩)))⟩
                                          case hmu => unfold hi0; omega)))))
                 · first
                   | (exfalso; omega)
                   | (refine W.skip ?_
                      refine W.seq ?_
                      refine W.sreg ?_
                      refine WO.p rfl rfl (WO.p rfl rfl ?_)
                      refine WO.nil ?_
                      refine W.cond_bl rfl (fun c28 => ?_) (fun c28 => ?_)
                      · first
                        | (exfalso; omega)
                        | (refine W.seq ?_
                           refine W.drawD 20 [.r 0 [], .b 1 [], .r 2 [], .r 3 [], .b 4 [], .r 5 [], .r 6 [], .r 7 [], .r 8 [], .r 9 [], .r 10 [], .r 11 [], .r 12 [16], .b 13 [16], .r 14 [16], .r 15 [16], .r 16 [16], .r 17 [16], .r 18 [16], .r 19 [16]] [16] (A0 := []) (Sub.refl _) (by kernel_rfl) ?_ ?_
                           · exact (ALok.r (ALok.b (ALok.r (ALok.r (ALok.b (ALok.r (ALok.r (ALok.r (ALok.r (ALok.r (ALok.r (ALok.r (ALok.r (ALok.b (ALok.r (ALok.r (ALok.r (ALok.r (ALok.r (ALok.r ALok.nil))))))))))))))))))))
                           refine' DT.r rfl rfl rfl ?hq ?_
                           case hq =>
                             refine WO.fieldL rfl rfl rfl ?_
                             exact WO.nil ⟨rfl, rfl⟩
                           refine' DT.b rfl rfl rfl ?hq ?_
                           case hq =>
                             refine WO.load rfl rfl (Cell.own Pick.head rfl) rfl ?_
                             exact WO.nil ⟨rfl, rfl⟩
                           refine' DT.r rfl rfl rfl ?hq ?_
                           case hq =>
                             refine WO.ar rfl rfl rfl (by (first | (have := hv.st; unfold in64; omega))) rfl ?_
                             exact WO.nil ⟨rfl, rfl⟩
                           refine' DT.r rfl rfl rfl ?hq ?_
                           case hq =>
                             refine WO.fieldL rfl rfl rfl ?_
                             exact WO.nil ⟨rfl, rfl⟩
                           refine' DT.b rfl rfl rfl ?hq ?_
                           case hq =>
                             refine WO.load rfl rfl (Cell.own Pick.head rfl) rfl ?_
                             exact WO.nil ⟨rfl, rfl⟩
                           refine' DT.r rfl rfl rfl ?hq ?_
                           case hq =>
                             refine WO.ar rfl rfl rfl (by (first | exact in64B tf.d1 (by decide))) rfl ?_
                             exact WO.nil ⟨rfl, rfl⟩
                           refine' DT.r rfl rfl rfl ?hq ?_
                           case hq =>
                             refine WO.p rfl rfl ?_
                             exact WO.nil ⟨rfl, rfl⟩
                           refine' DT.r rfl rfl rfl ?hq ?_
                           case hq =>
                             refine WO.ar rfl rfl rfl (by (first | exact in64B tf.d2 (by decide))) rfl ?_
                             exact WO.nil ⟨rfl, rfl⟩
                           refine' DT.r rfl rfl rfl ?hq ?_
                           case hq =>
                             refine WO.p rfl rfl ?_
                             exact WO.nil ⟨rfl, rfl⟩
                           refine' DT.r rfl rfl rfl ?hq ?_
                           case hq =>
                             refine WO.ar rfl rfl rfl (by (first | exact in64B tf.d3 (by decide))) rfl ?_
                             exact WO.nil ⟨rfl, rfl⟩
                           refine' DT.r rfl rfl rfl ?hq ?_
                           case hq =>
                             refine WO.p rfl rfl ?_
                             exact WO.nil ⟨rfl, rfl⟩
                           refine' DT.r rfl rfl rfl ?hq ?_
                           case hq =>
                             refine WO.ar rfl rfl rfl (by (first | exact in64B tf.d4 (by decide))) rfl ?_
                             exact WO.nil ⟨rfl, rfl⟩
                           refine' DT.r rfl rfl rfl ?hq ?_
                           case hq =>
                             refine WO.fieldL rfl rfl rfl ?_
                             exact WO.nil ⟨rfl, rfl⟩
                           refine' DT.b rfl rfl rfl ?hq ?_
                           case hq =>
                             refine WO.load rfl rfl (Cell.own Pick.head rfl) rfl ?_
                             exact WO.nil ⟨rfl, rfl⟩
                           refine' DT.r rfl rfl rfl ?hq ?_
                           case hq =>
                             refine WO.ar rfl rfl rfl (by (first | (have := hv.st; unfold in64; omega))) rfl ?_
                             exact WO.nil ⟨rfl, rfl⟩
                           refine' DT.r rfl rfl rfl ?hq ?_
                           case hq =>
                             refine WO.p rfl rfl ?_
                             exact WO.nil ⟨rfl, rfl⟩
                           refine' DT.r rfl rfl rfl ?hq ?_
                           case hq =>
                             refine WO.ar rfl rfl rfl (by (first | exact in64B tf.e1 (by decide))) rfl ?_
                             exact WO.nil ⟨rfl, rfl⟩
                           refine' DT.r rfl rfl rfl ?hq ?_
                           case hq =>
                             refine WO.p rfl rfl ?_
                             exact WO.nil ⟨rfl, rfl⟩
                           refine' DT.r rfl rfl rfl ?hq ?_
                           case hq =>
                             refine WO.ar rfl rfl rfl (by (first | exact in64B tf.e2 (by decide))) rfl ?_
                             exact WO.nil ⟨rfl, rfl⟩
                           refine' DT.r rfl rfl rfl ?hq ?_
                           case hq =>
                             refine WO.p rfl rfl ?_
                             exact WO.nil ⟨rfl, rfl⟩
                           refine DT.nil [_, _] rfl ?_
                           refine WO.p rfl rfl ?_
                           refine WO.nil ?_
                           refine W.sreg ?_
                           refine WO.p rfl rfl (WO.p rfl rfl (WO.ar rfl rfl rfl (by (first | (unfold in64; omega))) rfl (WO.p rfl rfl ?_)))
                           refine WO.nil ?_
                           refine W.cond_bl rfl (fun c29 => ?_) (fun c29 => ?_)
                           · first
                             | (exfalso; omega)
                             | (refine W.region ?_
                                refine WO.p rfl rfl (WO.p rfl rfl (WO.fieldL rfl rfl rfl (WO.load rfl rfl (Cell.own Pick.head rfl) rfl ?_)))
                                refine' WO.len (n := _) rfl rfl ?hs rfl ?_
                                case hs => (first | exact hR.sl | (refine (hR.row _ ?_).sl; omega))
                                refine WO.callR (r := .int .i64 (wgt i rows.length)) rfl Try.call57 (fun L w hi => ref_weight w i rows.length (by omega) (by omega)) rfl ?_
                                refine WO.ar rfl rfl rfl (by (first | (have := wgtB i rows.length; unfold in64; omega))) rfl (WO.p rfl rfl (WO.ar rfl rfl rfl (by (first | exact in64B tf.g1 (by decide))) rfl (WO.p rfl rfl (WO.ar rfl rfl rfl (by (first | exact in64B tf.g2 (by decide))) rfl (WO.p rfl rfl (WO.ar rfl rfl rfl (by (first | exact in64B tf.g3 (by decide))) rfl (WO.ar rfl rfl rfl (by (first | exact in64B (addB tf.d4 tf.g3) (by decide))) rfl (WO.p rfl rfl ?_))))))))
                                refine WO.nil ?_
                                have hdB : 0 ≤ den ∧ den ≤ 100000000 := by have := hb.2.2; omega
                                have hnB : 0 ≤ num ∧ num ≤ 100000000000 := ⟨hb.1, hb.2.1⟩
                                refine W.sreg ?_
                                refine WO.fieldL rfl rfl rfl (WO.load rfl rfl (Cell.own (Pick.tail (Pick.head)) rfl) rfl (WO.p rfl rfl (WO.ar rfl rfl rfl (by (first | with_reducible exact in64B (mulB hdB tf.a3) (by decide) | with_reducible exact in64B (mulB hdB tf.c3) (by decide) | with_reducible exact in64B (mulB hdB tf.d4) (by decide) | with_reducible exact in64B (mulB hdB (addB tf.d4 tf.g3)) (by decide))) rfl (WO.field0 rfl rfl rfl (WO.load rfl rfl (Cell.own (Pick.tail (Pick.head)) rfl) rfl (WO.p rfl rfl (WO.ar rfl rfl rfl (by (first | with_reducible exact in64B (mulB hnB tf.b1) (by decide) | with_reducible exact in64B (mulB hnB tf.e2) (by decide))) rfl (WO.ar rfl rfl rfl (by (first | with_reducible exact in64S (mulB hdB tf.a3) (mulB hnB tf.b1) (by decide) (by decide) | with_reducible exact in64S (mulB hdB tf.c3) (mulB hnB tf.b1) (by decide) (by decide) | with_reducible exact in64S (mulB hdB tf.d4) (mulB hnB tf.e2) (by decide) (by decide) | with_reducible exact in64S (mulB hdB (addB tf.d4 tf.g3)) (mulB hnB tf.e2) (by decide) (by decide))) rfl (WO.p rfl rfl ?_)))))))))
                                refine WO.nil ?_
                                refine W.sreg ?_
                                refine WO.p rfl rfl (WO.fieldL rfl rfl rfl (WO.load rfl rfl (Cell.own Pick.head rfl) rfl (WO.p rfl rfl ?_)))
                                refine' WO.indexAddr (n := _) (i := _) rfl rfl rfl ?hs ?h1 rfl ?_
                                case hs => (first | exact hR.sl | (refine (hR.row _ ?_).sl; omega))
                                case h1 => (first | omega | (simp; omega))
                                refine' WO.load (v := _) rfl rfl ?hc rfl ?_
                                case hc => (first | (refine hR.cellV ?_; omega) | (refine (hR.row _ ?_).cell0 ?_ (0, 0) ?_ <;> first | rfl | omega) | (refine (hR.row _ ?_).cellAt ?_ (0, 0) ?_ <;> first | rfl | omega))
                                refine WO.p rfl rfl ?_
                                refine' WO.indexAddr (n := _) (i := _) rfl rfl rfl ?hs ?h1 rfl ?_
                                case hs => (first | exact hR.sl | (refine (hR.row _ ?_).sl; omega))
                                case h1 => (first | omega | (simp; omega))
                                refine WO.field0 rfl rfl rfl ?_
                                refine' WO.load (v := _) rfl rfl ?hc rfl ?_
                                case hc => (first | (refine hR.cellV ?_; omega) | (refine (hR.row _ ?_).cell0 ?_ (0, 0) ?_ <;> first | rfl | omega) | (refine (hR.row _ ?_).cellAt ?_ (0, 0) ?_ <;> first | rfl | omega))
                                refine WO.p rfl rfl (WO.p rfl rfl ?_)
                                refine WO.guard_bl rfl rfl (fun c30 => ?_) (fun c30 => ?_)
                                · first
                                  | (exfalso; omega)
                                  | (refine WO.no rfl rfl (WO.no rfl rfl (WO.no rfl rfl (WO.no rfl rfl (WO.no rfl rfl (WO.no rfl rfl (WO.p rfl rfl (WO.p rfl rfl (WO.no rfl rfl (WO.no rfl rfl (WO.no rfl rfl (WO.no rfl rfl ?_)))))))))))
                                     refine WO.no rfl rfl (WO.no rfl rfl (WO.no rfl rfl (WO.p rfl rfl ?_)))
                                     refine WO.nil ?_
                                     refine W.cond_t rfl ?_
                                     refine W.region ?_
                                     refine WO.p rfl rfl (WO.p rfl rfl ?_)
                                     refine WO.nil ?_
                                     refine W.region ?_
                                     refine WO.p rfl rfl (WO.ar rfl rfl rfl (by (first | (unfold in64; omega))) rfl (WO.p rfl rfl ?_))
                                     refine WO.nil ?_
                                     refine' ⟨y + 1, _, ?hp, ?hmu, ⟨rfl, rfl, rfl, rfl, rfl, rfl, rfl, rfl, rfl, rfl, rfl, trivial⟩, ?hS⟩
                                     case hS => repeat (first | exact Sub.nil | refine Sub.cons (by repeat (first | exact Pick.head | apply Pick.tail)) ?_)
                                     case hp => exact ⟨by omega, by unfold hi0; omega, fun _ => by first | ((with_reducible refine' stepF (x := _) ?hx eb hy1 ?hn ?h1 ?h2); (case hx => (first | with_reducible exact ex0 (by assumption) (by assumption) | with_reducible exact ex1 (by assumption) | with_reducible exact ex2 (k := k) (m := (rows.getD i []).length) (by assumption) (by assumption) | with_reducible exact ex3 (k := k) (m := (rows.getD i []).length) (by assumption) (by assumption))); (case hn => with_reducible assumption); (case h1 => (first | with_reducible (intro _; assumption) | (intro h; exact (nb1 h (by with_reducible assumption)).elim) | (intro h; exact (nb2 h (by with_reducible assumption)).elim))); (case h2 => (first | with_reducible (intro _; assumption) | (intro h; exact (nb1 (by with_reducible assumption) h).elim) | (intro h; exact (nb3 h (by with_reducible assumption)).elim)))) | ((with_reducible refine stepT ?_ eb hy1 ?_); (first | with_reducible exact ex0 (by assumption) (by assumption) | with_reducible exact ex1 (by assumption) | with_reducible exact ex2 (k := k) (m := (rows.getD i []).length) (by assumption) (by assumption) | with_reducible exact ex3 (k := k) (m := (rows.getD i []).length) (by assumption) (by assumption)); with_reducible (first | exact .inl (by assumption) | exact .inr (.inl ⟨by assumption, by assumption⟩) | exact .inr (.inr ⟨by assumption, by assumption⟩)))⟩
                                     case hmu => unfold hi0; omega)
                                · first
                                  | (exfalso; omega)
                                  | (refine WO.pg rfl rfl rfl (WO.pg rfl rfl rfl ?_)
                                     refine WO.guard_b rfl rfl (fun c31 => ?_) (fun c31 => ?_)
                                     · first
                                       | (exfalso; omega)
                                       | (refine WO.pg rfl rfl rfl (WO.pg rfl rfl rfl (WO.pg rfl rfl rfl (WO.pg rfl rfl rfl (WO.p rfl rfl (WO.p rfl rfl ?_)))))
                                          refine WO.guard_bl rfl rfl (fun c32 => ?_) (fun c32 => ?_)
                                          · first
                                            | (exfalso; omega)
                                            | (refine WO.no rfl rfl (WO.no rfl rfl (WO.no rfl rfl (WO.no rfl rfl (WO.no rfl rfl (WO.no rfl rfl (WO.no rfl rfl (WO.p rfl rfl ?_)))))))
                                               refine WO.nil ?_
                                               refine W.cond_t rfl ?_
                                               refine W.region ?_
                                               refine WO.p rfl rfl (WO.p rfl rfl ?_)
                                               refine WO.nil ?_
                                               refine W.region ?_
                                               refine WO.p rfl rfl (WO.ar rfl rfl rfl (by (first | (unfold in64; omega))) rfl (WO.p rfl rfl ?_))
                                               refine WO.nil ?_
                                               refine' ⟨y + 1, _, ?hp, ?hmu, ⟨rfl, rfl, rfl, rfl, rfl, rfl, rfl, rfl, rfl, rfl, rfl, trivial⟩, ?hS⟩
                                               case hS => repeat (first | exact Sub.nil | refine Sub.cons (by repeat (first | exact Pick.head | apply Pick.tail)) ?_)
                                               case hp => exact ⟨by omega, by unfold hi0; omega, fun _ => by first | ((with_reducible refine' stepF (x := _) ?hx eb hy1 ?hn ?h1 ?h2); (case hx => (first | with_reducible exact ex0 (by assumption) (by assumption) | with_reducible exact ex1 (by assumption) | with_reducible exact ex2 (k := k) (m := (rows.getD i []).length) (by assumption) (by assumption) | with_reducible exact ex3 (k := k) (m := (rows.getD i []).length) (by assumption) (by assumption))); (case hn => with_reducible assumption); (case h1 => (first | with_reducible (intro _; assumption) | (intro h; exact (nb1 h (by with_reducible assumption)).elim) | (intro h; exact (nb2 h (by with_reducible assumption)).elim))); (case h2 => (first | with_reducible (intro _; assumption) | (intro h; exact (nb1 (by with_reducible assumption) h).elim) | (intro h; exact (nb3 h (by with_reducible assumption)).elim)))) | ((with_reducible refine stepT ?_ eb hy1 ?_); (first | with_reducible exact ex0 (by assumption) (by assumption) | with_reducible exact ex1 (by assumption) | with_reducible exact ex2 (k := k) (m := (rows.getD i []).length) (by assumption) (by assumption) | with_reducible exact ex3 (k := k) (m := (rows.getD i []).length) (by assumption) (by assumption)); with_reducible (first | exact .inl (by assumption) | exact .inr (.inl ⟨by assumption, by assumption⟩) | exact .inr (.inr ⟨by assumption, by assumption⟩)))⟩
                                               case hmu => unfold hi0; omega)
                                          · first
                                            | (exfalso; omega)
                                            | (refine WO.pg rfl rfl rfl (WO.pg rfl rfl rfl (WO.pg rfl rfl rfl ?_))
                                               refine WO.guard_b rfl rfl (fun c33 => ?_) (fun c33 => ?_)
                                               · first
                                                 | (exfalso; omega)
                                                 | (refine WO.pg rfl rfl rfl (WO.pg rfl rfl rfl (WO.pg rfl rfl rfl (WO.pg rfl rfl rfl (WO.p rfl rfl ?_))))
                                                    refine WO.nil ?_
                                                    refine W.cond_bl rfl (fun c34 => ?_) (fun c34 => ?_)
                                                    · first
                                                      | (exfalso; omega)
                                                      | (refine W.region ?_
                                                         refine WO.p rfl rfl (WO.p rfl rfl ?_)
                                                         refine WO.nil ?_
                                                         refine W.region ?_
                                                         refine WO.p rfl rfl (WO.ar rfl rfl rfl (by (first | (unfold in64; omega))) rfl (WO.p rfl rfl ?_))
                                                         refine WO.nil ?_
                                                         refine' ⟨y + 1, _, ?hp, ?hmu, ⟨rfl, rfl, rfl, rfl, rfl, rfl, rfl, rfl, rfl, rfl, rfl, trivial⟩, ?hS⟩
                                                         case hS => repeat (first | exact Sub.nil | refine Sub.cons (by repeat (first | exact Pick.head | apply Pick.tail)) ?_)
                                                         case hp => exact ⟨by omega, by unfold hi0; omega, fun _ => by first | ((with_reducible refine' stepF (x := _) ?hx eb hy1 ?hn ?h1 ?h2); (case hx => (first | with_reducible exact ex0 (by assumption) (by assumption) | with_reducible exact ex1 (by assumption) | with_reducible exact ex2 (k := k) (m := (rows.getD i []).length) (by assumption) (by assumption) | with_reducible exact ex3 (k := k) (m := (rows.getD i []).length) (by assumption) (by assumption))); (case hn => with_reducible assumption); (case h1 => (first | with_reducible (intro _; assumption) | (intro h; exact (nb1 h (by with_reducible assumption)).elim) | (intro h; exact (nb2 h (by with_reducible assumption)).elim))); (case h2 => (first | with_reducible (intro _; assumption) | (intro h; exact (nb1 (by with_reducible assumption) h).elim) | (intro h; exact (nb3 h (by with_reducible assumption)).elim)))) | ((with_reducible refine stepT ?_ eb hy1 ?_); (first | with_reducible exact ex0 (by assumption) (by assumption) | with_reducible exact ex1 (by assumption) | with_reducible exact ex2 (k := k) (m := (rows.getD i []).length) (by assumption) (by assumption) | with_reducible exact ex3 (k := k) (m := (rows.getD i []).length) (by assumption) (by assumption)); with_reducible (first | exact .inl (by assumption) | exact .inr (.inl ⟨by assumption, by assumption⟩) | exact .inr (.inr ⟨by assumption, by assumption⟩)))⟩
                                                         case hmu => unfold hi0; omega)
                                                    · first
                                                      | (exfalso; omega)
                                                      | (refine W.skip ?_
                                                         refine W.region ?_
                                                         refine WO.p rfl rfl (WO.ar rfl rfl rfl (by (first | (unfold in64; omega))) rfl (WO.p rfl rfl ?_))
                                                         refine WO.nil ?_
                                                         refine' ⟨y + 1, _, ?hp, ?hmu, ⟨rfl, rfl, rfl, rfl, rfl, rfl, rfl, rfl, rfl, rfl, rfl, trivial⟩, ?hS⟩
                                                         case hS => repeat (first | exact Sub.nil | refine Sub.cons (by repeat (first | exact Pick.head | apply Pick.tail)) ?_)
                                                         case hp => exact ⟨by omega, by unfold hi0; omega, fun _ => by first | ((with_reducible refine' stepF (x := _) ?hx eb hy1 ?hn ?h1 ?h2); (case hx => (first | with_reducible exact ex0 (by assumption) (by assumption) | with_reducible exact ex1 (by assumption) | with_reducible exact ex2 (k := k) (m := (rows.getD i []).length) (by assumption) (by assumption) | with_reducible exact ex3 (k := k) (m := (rows.getD i []).length) (by assumption) (by assumption))); (case hn => with_reducible assumption); (case h1 => (first | with_reducible (intro _; assumption) | (intro h; exact (nb1 h (by with_reducible assumption)).elim) | (intro h; exact (nb2 h (by with_reducible assumption)).elim))); (case h2 => (first | with_reducible (intro _; assumption) | (intro h; exact (nb1 (by with_reducible assumption) h).elim) | (intro h; exact (nb3 h (by with_reducible assumption)).elim)))) | ((with_reducible refine stepT ?_ eb hy1 ?_); (first | with_reducible exact ex0 (by assumption) (by assumption) | with_reducible exact ex1 (by assumption) | with_reducible exact ex2 (k := k) (m := (rows.getD i []).length) (by assumption) (by assumption) | with_reducible exact ex3 (k := k) (m := (rows.getD i []).length) (by assumption) (by assumption)); with_reducible (first | exact .inl (by assumption) | exact .inr (.inl ⟨by assumption, by assumption⟩) | exact .inr (.inr ⟨by assumption, by assumption⟩)))⟩
                                                         case hmu => unfold hi0; omega))
                                               · first
                                                 | (exfalso; omega)
                                                 | (refine WO.no rfl rfl (WO.no rfl rfl (WO.no rfl rfl (WO.pg rfl rfl rfl (WO.p rfl rfl ?_))))
                                                    refine WO.nil ?_
                                                    refine W.cond_f rfl ?_
                                                    refine W.skip ?_
                                                    refine W.region ?_
                                                    refine WO.p rfl rfl (WO.ar rfl rfl rfl (by (first | (unfold in64; omega))) rfl (WO.p rfl rfl ?_))
                                                    refine WO.nil ?_
                                                    refine' ⟨y + 1, _, ?hp, ?hmu, ⟨rfl, rfl, rfl, rfl, rfl, rfl, rfl, rfl, rfl, rfl, rfl, trivial⟩, ?hS⟩
                                                    case hS => repeat (first | exact Sub.nil | refine Sub.cons (by repeat (first | exact Pick.head | apply Pick.tail)) ?_)
                                                    case hp => exact ⟨by omega, by unfold hi0; omega, fun _ => by first | ((with_reducible refine' stepF (x := _) ?hx eb hy1 ?hn ?h1 ?h2); (case hx => (first | with_reducible exact ex0 (by assumption) (by assumption) | with_reducible exact ex1 (by assumption) | with_reducible exact ex2 (k := k) (m := (rows.getD i []).length) (by assumption) (by assumption) | with_reducible exact ex3 (k := k) (m := (rows.getD i []).length) (by assumption) (by assumption))); (case hn => with_reducible assumption); (case h1 => (first | with_reducible (intro _; assumption) | (intro h; exact (nb1 h (by with_reducible assumption)).elim) | (intro h; exact (nb2 h (by with_reducible assumption)).elim))); (case h2 => (first | with_reducible (intro _; assumption) | (intro h; exact (nb1 (by with_reducible assumption) h).elim) | (intro h; exact (nb3 h (by with_reducible assumption)).elim)))) | ((with_reducible refine stepT ?_ eb hy1 ?_); (first | with_reducible exact ex0 (by assumption) (by assumption) | with_reducible exact ex1 (by assumption) | with_reducible exact ex2 (k := k) (m := (rows.getD i []).length) (by assumption) (by assumption) | with_reducible exact ex3 (k := k) (m := (rows.getD i []).length) (by assumption) (by assumption)); with_reducible (first | exact .inl (by assumption) | exact .inr (.inl ⟨by assumption, by assumption⟩) | exact .inr (.inr ⟨by assumption, by assumption⟩)))⟩
                                                    case hmu => unfold hi0; omega)))
                                     · first
                                       | (exfalso; omega)
                                       | (refine WO.no rfl rfl (WO.no rfl rfl (WO.no rfl rfl (WO.pg rfl rfl rfl (WO.p rfl rfl (WO.p rfl rfl (WO.pg rfl rfl rfl (WO.pg rfl rfl rfl (WO.pg rfl rfl rfl ?_))))))))
                                          refine WO.guard_b rfl rfl (fun c35 => ?_) (fun c35 => ?_)
                                          · first
                                            | (exfalso; omega)
                                            | (refine WO.pg rfl rfl rfl (WO.pg rfl rfl rfl (WO.pg rfl rfl rfl (WO.pg rfl rfl rfl (WO.p rfl rfl ?_))))
                                               refine WO.nil ?_
                                               refine W.cond_bl rfl (fun c36 => ?_) (fun c36 => ?_)
                                               · first
                                                 | (exfalso; omega)
                                                 | (refine W.region ?_
                                                    refine WO.p rfl rfl (WO.p rfl rfl ?_)
                                                    refine WO.nil ?_
                                                    refine W.region ?_
                                                    refine WO.p rfl rfl (WO.ar rfl rfl rfl (by (first | (unfold in64; omega))) rfl (WO.p rfl rfl ?_))
                                                    refine WO.nil ?_
                                                    refine' ⟨y + 1, _, ?hp, ?hmu, ⟨rfl, rfl, rfl, rfl, rfl, rfl, rfl, rfl, rfl, rfl, rfl, trivial⟩, ?hS⟩
                                                    case hS => repeat (first | exact Sub.nil | refine Sub.cons (by repeat (first | exact Pick.head | apply Pick.tail)) ?_)
                                                    case hp => exact ⟨by omega, by unfold hi0; omega, fun _ => by first | ((with_reducible refine' stepF (x := _) ?hx eb hy1 ?hn ?h1 ?h2); (case hx => (first | with_reducible exact ex0 (by assumption) (by assumption) | with_reducible exact ex1 (by assumption) | with_reducible exact ex2 (k := k) (m := (rows.getD i []).length) (by assumption) (by assumption) | with_reducible exact ex3 (k := k) (m := (rows.getD i []).length) (by assumption) (by assumption))); (case hn => with_reducible assumption); (case h1 => (first | with_reducible (intro _; assumption) | (intro h; exact (nb1 h (by with_reducible assumption)).elim) | (intro h; exact (nb2 h (by with_reducible assumption)).elim))); (case h2 => (first | with_reducible (intro _; assumption) | (intro h; exact (nb1 (by with_reducible assumption) h).elim) | (intro h; exact (nb3 h (by with_reducible assumption)).elim)))) | ((with_reducible refine stepT ?_ eb hy1 ?_); (first | with_reducible exact ex0 (by assumption) (by assumption) | with_reducible exact ex1 (by assumption) | with_reducible exact ex2 (k := k) (m := (rows.getD i []).length) (by assumption) (by assumption) | with_reducible exact ex3 (k := k) (m := (rows.getD i []).length) (by assumption) (by assumption)); with_reducible (first | exact .inl (by assumption) | exact .inr (.inl ⟨by assumption, by assumption⟩) | exact .inr (.inr ⟨by assumption, by assumption⟩)))⟩
                                                    case hmu => unfold hi0; omega)
                                               · first
                                                 | (exfalso; omega)
                                                 | (refine W.skip ?_
                                                    refine W.region ?_
                                                    refine WO.p rfl rfl (WO.ar rfl rfl rfl (by (first | (unfold in64; omega))) rfl (WO.p rfl rfl ?_))
                                                    refine WO.nil ?_
                                                    refine' ⟨y + 1, _, ?hp, ?hmu, ⟨rfl, rfl, rfl, rfl, rfl, rfl, rfl, rfl, rfl, rfl, rfl, trivial⟩, ?hS⟩
                                                    case hS => repeat (first | exact Sub.nil | refine Sub.cons (by repeat (first | exact Pick.head | apply Pick.tail)) ?_)
                                                    case hp => exact ⟨by omega, by unfold hi0; omega, fun _ => by first | ((with_reducible refine' stepF (x := _) ?hx eb hy1 ?hn ?h1 ?h2); (case hx => (first | with_reducible exact ex0 (by assumption) (by assumption) | with_reducible exact ex1 (by assumption) | with_reducible exact ex2 (k := k) (m := (rows.getD i []).length) (by assumption) (by assumption) | with_reducible exact ex3 (k := k) (m := (rows.getD i []).length) (by assumption) (by assumption))); (case hn => with_reducible assumption); (case h1 => (first | with_reducible (intro _; assumption) | (intro h; exact (nb1 h (by with_reducible assumption)).elim) | (intro h; exact (nb2 h (by with_reducible assumption)).elim))); (case h2 => (first | with_reducible (intro _; assumption) | (intro h; exact (nb1 (by with_reducible assumption) h).elim) | (intro h; exact (nb3 h (by with_reducible assumption)).elim)))) | ((with_reducible refine stepT ?_ eb hy1 ?_); (first | with_reducible exact ex0 (by assumption) (by assumption) | with_reducible exact ex1 (by assumption) | with_reducible exact ex2 (k := k) (m := (rows.getD i []).length) (by assumption) (by assumption) | with_reducible exact ex3 (k := k) (m := (rows.getD i []).length) (by assumption) (by assumption)); with_reducible (first | exact .inl (by assumption) | exact .inr (.inl ⟨by assumption, by assumption⟩) | exact .inr (.inr ⟨by assumption, by assumption⟩)))⟩
                                                    case hmu => unfold hi0; omega))
                                          · first
                                            | (exfalso; omega)
                                            | (refine WO.no rfl rfl (WO.no rfl rfl (WO.no rfl rfl (WO.pg rfl rfl rfl (WO.p rfl rfl ?_))))
                                               refine WO.nil ?_
                                               refine W.cond_f rfl ?_
                                               refine W.skip ?_
                                               refine W.region ?_
                                               refine WO.p rfl rfl (WO.ar rfl rfl rfl (by (first | (unfold in64; omega))) rfl (WO.p rfl rfl ?_))
                                               refine WO.nil ?_
                                               refine' ⟨y + 1, _, ?hp, ?hmu, ⟨rfl, rfl, rfl, rfl, rfl, rfl, rfl, rfl, rfl, rfl, rfl, trivial⟩, ?hS⟩
                                               case hS => repeat (first | exact Sub.nil | refine Sub.cons (by repeat (first | exact Pick.head | apply Pick.tail)) ?_)
                                               case hp => exact ⟨by omega, by unfold hi0; omega, fun _ => by first | ((with_reducible refine' stepF (x := _) ?hx eb hy1 ?hn ?h1 ?h2); (case hx => (first | with_reducible exact ex0 (by assumption) (by assumption) | with_reducible exact ex1 (by assumption) | with_reducible exact ex2 (k := k) (m := (rows.getD i []).length) (by assumption) (by assumption) | with_reducible exact ex3 (k := k) (m := (rows.getD i []).length) (by assumption) (by assumption))); (case hn => with_reducible assumption); (case h1 => (first | with_reducible (intro _; assumption) | (intro h; exact (nb1 h (by with_reducible assumption)).elim) | (intro h; exact (nb2 h (by with_reducible assumption)).elim))); (case h2 => (first | with_reducible (intro _; assumption) | (intro h; exact (nb1 (by with_reducible assumption) h).elim) | (intro h; exact (nb3 h (by with_reducible assumption)).elim)))) | ((with_reducible refine stepT ?_ eb hy1 ?_); (first | with_reducible exact ex0 (by assumption) (by assumption) | with_reducible exact ex1 (by assumption) | with_reducible exact ex2 (k := k) (m := (rows.getD i []).length) (by assumption) (by assumption) | with_reducible exact ex3 (k := k) (m := (rows.getD i []).length) (by assumption) (by assumption)); with_reducible (first | exact .inl (by assumption) | exact .inr (.inl ⟨by assumption, by assumption⟩) | exact .inr (.inr ⟨by assumption, by assumption⟩)))⟩
                                               case hmu => unfold hi0; omega))))
                           · first
                             | (exfalso; omega)
                             | (refine W.skip ?_
                                have hdB : 0 ≤ den ∧ den ≤ 100000000 := by have := hb.2.2; omega
                                have hnB : 0 ≤ num ∧ num ≤ 100000000000 := ⟨hb.1, hb.2.1⟩
                                refine W.sreg ?_
                                refine WO.fieldL rfl rfl rfl (WO.load rfl rfl (Cell.own (Pick.tail (Pick.head)) rfl) rfl (WO.p rfl rfl (WO.ar rfl rfl rfl (by (first | with_reducible exact in64B (mulB hdB tf.a3) (by decide) | with_reducible exact in64B (mulB hdB tf.c3) (by decide) | with_reducible exact in64B (mulB hdB tf.d4) (by decide) | with_reducible exact in64B (mulB hdB (addB tf.d4 tf.g3)) (by decide))) rfl (WO.field0 rfl rfl rfl (WO.load rfl rfl (Cell.own (Pick.tail (Pick.head)) rfl) rfl (WO.p rfl rfl (WO.ar rfl rfl rfl (by (first | with_reducible exact in64B (mulB hnB tf.b1) (by decide) | with_reducible exact in64B (mulB hnB tf.e2) (by decide))) rfl (WO.ar rfl rfl rfl (by (first | with_reducible exact in64S (mulB hdB tf.a3) (mulB hnB tf.b1) (by decide) (by decide) | with_reducible exact in64S (mulB hdB tf.c3) (mulB hnB tf.b1) (by decide) (by decide) | with_reducible exact in64S (mulB hdB tf.d4) (mulB hnB tf.e2) (by decide) (by decide) | with_reducible exact in64S (mulB hdB (addB tf.d4 tf.g3)) (mulB hnB tf.e2) (by decide) (by decide))) rfl (WO.p rfl rfl ?_)))))))))
                                refine WO.nil ?_
                                refine W.sreg ?_
                                refine WO.p rfl rfl (WO.fieldL rfl rfl rfl (WO.load rfl rfl (Cell.own Pick.head rfl) rfl (WO.p rfl rfl ?_)))
                                refine' WO.indexAddr (n := _) (i := _) rfl rfl rfl ?hs ?h1 rfl ?_
                                case hs => (first | exact hR.sl | (refine (hR.row _ ?_).sl; omega))
                                case h1 => (first | omega | (simp; omega))
                                refine' WO.load (v := _) rfl rfl ?hc rfl ?_
                                case hc => (first | (refine hR.cellV ?_; omega) | (refine (hR.row _ ?_).cell0 ?_ (0, 0) ?_ <;> first | rfl | omega) | (refine (hR.row _ ?_).cellAt ?_ (0, 0) ?_ <;> first | rfl | omega))
                                refine WO.p rfl rfl ?_
                                refine' WO.indexAddr (n := _) (i := _) rfl rfl rfl ?hs ?h1 rfl ?_
                                case hs => (first | exact hR.sl | (refine (hR.row _ ?_).sl; omega))
                                case h1 => (first | omega | (simp; omega))
                                refine WO.field0 rfl rfl rfl ?_
                                refine' WO.load (v := _) rfl rfl ?hc rfl ?_
                                case hc => (first | (refine hR.cellV ?_; omega) | (refine (hR.row _ ?_).cell0 ?_ (0, 0) ?_ <;> first | rfl | omega) | (refine (hR.row _ ?_).cellAt ?_ (0, 0) ?_ <;> first | rfl | omega))
                                refine WO.p rfl rfl (WO.p rfl rfl ?_)
                                refine WO.guard_bl rfl rfl (fun c37 => ?_) (fun c37 => ?_)
                                · first
                                  | (exfalso; omega)
                                  | (refine WO.no rfl rfl (WO.no rfl rfl (WO.no rfl rfl (WO.no rfl rfl (WO.no rfl rfl (WO.no rfl rfl (WO.p rfl rfl (WO.p rfl rfl (WO.no rfl rfl (WO.no rfl rfl (WO.no rfl rfl (WO.no rfl rfl ?_)))))))))))
                                     refine WO.no rfl rfl (WO.no rfl rfl (WO.no rfl rfl (WO.p rfl rfl ?_)))
                                     refine WO.nil ?_
                                     refine W.cond_t rfl ?_
                                     refine W.region ?_
                                     refine WO.p rfl rfl (WO.p rfl rfl ?_)
                                     refine WO.nil ?_
                                     refine W.region ?_
                                     refine WO.p rfl rfl (WO.ar rfl rfl rfl (by (first | (unfold in64; omega))) rfl (WO.p rfl rfl ?_))
                                     refine WO.nil ?_
                                     refine' ⟨y + 1, _, ?hp, ?hmu, ⟨rfl, rfl, rfl, rfl, rfl, rfl, rfl, rfl, rfl, rfl, rfl, trivial⟩, ?hS⟩
                                     case hS => repeat (first | exact Sub.nil | refine Sub.cons (by repeat (first | exact Pick.head | apply Pick.tail)) ?_)
                                     case hp => exact ⟨by omega, by unfold hi0; omega, fun _ => by first | ((with_reducible refine' stepF (x := _) ?hx eb hy1 ?hn ?h1 ?h2); (case hx => (first | with_reducible exact ex0 (by assumption) (by assumption) | with_reducible exact ex1 (by assumption) | with_reducible exact ex2 (k := k) (m := (rows.getD i []).length) (by assumption) (by assumption) | with_reducible exact ex3 (k := k) (m := (rows.getD i []).length) (by assumption) (by assumption))); (case hn => with_reducible assumption); (case h1 => (first | with_reducible (intro _; assumption) | (intro h; exact (nb1 h (by with_reducible assumption)).elim) | (intro h; exact (nb2 h (by with_reducible assumption)).elim))); (case h2 => (first | with_reducible (intro _; assumption) | (intro h; exact (nb1 (by with_reducible assumption) h).elim) | (intro h; exact (nb3 h (by with_reducible assumption)).elim)))) | ((with_reducible refine stepT ?_ eb hy1 ?_); (first | with_reducible exact ex0 (by assumption) (by assumption) | with_reducible exact ex1 (by assumption) | with_reducible exact ex2 (k := k) (m := (rows.getD i []).length) (by assumption) (by assumption) | with_reducible exact ex3 (k := k) (m := (rows.getD i []).length) (by assumption) (by assumption)); with_reducible (first | exact .inl (by assumption) | exact .inr (.inl ⟨by assumption, by assumption⟩) | exact .inr (.inr ⟨by assumption, by assumption⟩)))⟩
                                     case hmu => unfold hi0; omega)
                                · first
                                  | (exfalso; omega)
                                  | (refine WO.pg rfl rfl rfl (WO.pg rfl rfl rfl ?_)
                                     refine WO.guard_b rfl rfl (fun c38 => ?_) (fun c38 => ?_)
                                     · first
                                       | (exfalso; omega)
                                       | (refine WO.pg rfl rfl rfl (WO.pg rfl rfl rfl (WO.pg rfl rfl rfl (WO.pg rfl rfl rfl (WO.p rfl rfl (WO.p rfl rfl ?_)))))
                                          refine WO.guard_bl rfl rfl (fun c39 => ?_) (fun c39 => ?_)
                                          · first
                                            | (exfalso; omega)
                                            | (refine WO.no rfl rfl (WO.no rfl rfl (WO.no rfl rfl (WO.no rfl rfl (WO.no rfl rfl (WO.no rfl rfl (WO.no rfl rfl (WO.p rfl rfl ?_)))))))
                                               refine WO.nil ?_
                                               refine W.cond_t rfl ?_
                                               refine W.region ?_
                                               refine WO.p rfl rfl (WO.p rfl rfl ?_)
                                               refine WO.nil ?_
                                               refine W.region ?_
                                               refine WO.p rfl rfl (WO.ar rfl rfl rfl (by (first | (unfold in64; omega))) rfl (WO.p rfl rfl ?_))
                                               refine WO.nil ?_
                                               refine' ⟨y + 1, _, ?hp, ?hmu, ⟨rfl, rfl, rfl, rfl, rfl, rfl, rfl, rfl, rfl, rfl, rfl, trivial⟩, ?hS⟩
                                               case hS => repeat (first | exact Sub.nil | refine Sub.cons (by repeat (first | exact Pick.head | apply Pick.tail)) ?_)
                                               case hp => exact ⟨by omega, by unfold hi0; omega, fun _ => by first | ((with_reducible refine' stepF (x := _) ?hx eb hy1 ?hn ?h1 ?h2); (case hx => (first | with_reducible exact ex0 (by assumption) (by assumption) | with_reducible exact ex1 (by assumption) | with_reducible exact ex2 (k := k) (m := (rows.getD i []).length) (by assumption) (by assumption) | with_reducible exact ex3 (k := k) (m := (rows.getD i []).length) (by assumption) (by assumption))); (case hn => with_reducible assumption); (case h1 => (first | with_reducible (intro _; assumption) | (intro h; exact (nb1 h (by with_reducible assumption)).elim) | (intro h; exact (nb2 h (by with_reducible assumption)).elim))); (case h2 => (first | with_reducible (intro _; assumption) | (intro h; exact (nb1 (by with_reducible assumption) h).elim) | (intro h; exact (nb3 h (by with_reducible assumption)).elim)))) | ((with_reducible refine stepT ?_ eb hy1 ?_); (first | with_reducible exact ex0 (by assumption) (by assumption) | with_reducible exact ex1 (by assumption) | with_reducible exact ex2 (k := k) (m := (rows.getD i []).length) (by assumption) (by assumption) | with_reducible exact ex3 (k := k) (m := (rows.getD i []).length) (by assumption) (by assumption)); with_reducible (first | exact .inl (by assumption) | exact .inr (.inl ⟨by assumption, by assumption⟩) | exact .inr (.inr ⟨by assumption, by assumption⟩)))⟩
                                               case hmu => unfold hi0; omega)
                                          · first
                                            | (exfalso; omega)
                                            | (refine WO.pg rfl rfl rfl (WO.pg rfl rfl rfl (WO.pg rfl rfl rfl ?_))
                                               refine WO.guard_b rfl rfl (fun c40 => ?_) (fun c40 => ?_)
                                               · first
                                                 | (exfalso; omega)
                                                 | (refine WO.pg rfl rfl rfl (WO.pg rfl rfl rfl (WO.pg rfl rfl rfl (WO.pg rfl rfl rfl (WO.p rfl rfl ?_))))
                                                    refine WO.nil ?_
                                                    refine W.cond_bl rfl (fun c41 => ?_) (fun c41 => ?_)
                                                    · first
                                                      | (exfalso; omega)
                                                      | (refine W.region ?_
                                                         refine WO.p rfl rfl (WO.p rfl rfl ?_)
                                                         refine WO.nil ?_
                                                         refine W.region ?_
                                                         refine WO.p rfl rfl (WO.ar rfl rfl rfl (by (first | (unfold in64; omega))) rfl (WO.p rfl rfl ?_))
                                                         refine WO.nil ?_
                                                         refine' ⟨y + 1, _, ?hp, ?hmu, ⟨rfl, rfl, rfl, rfl, rfl, rfl, rfl, rfl, rfl, rfl, rfl, trivial⟩, ?hS⟩
                                                         case hS => repeat (first | exact Sub.nil | refine Sub.cons (by repeat (first | exact Pick.head | apply Pick.tail)) ?_)
                                                         case hp => exact ⟨by omega, by unfold hi0; omega, fun _ => by first | ((with_reducible refine' stepF (x := _) ?hx eb hy1 ?hn ?h1 ?h2); (case hx => (first | with_reducible exact ex0 (by assumption) (by assumption) | with_reducible exact ex1 (by assumption) | with_reducible exact ex2 (k := k) (m := (rows.getD i []).length) (by assumption) (by assumption) | with_reducible exact ex3 (k := k) (m := (rows.getD i []).length) (by assumption) (by assumption))); (case hn => with_reducible assumption); (case h1 => (first | with_reducible (intro _; assumption) | (intro h; exact (nb1 h (by with_reducible assumption)).elim) | (intro h; exact (nb2 h (by with_reducible assumption)).elim))); (case h2 => (first | with_reducible (intro _; assumption) | (intro h; exact (nb1 (by with_reducible assumption) h).elim) | (intro h; exact (nb3 h (by with_reducible assumption)).elim)))) | ((with_reducible refine stepT ?_ eb hy1 ?_); (first | with_reducible exact ex0 (by assumption) (by assumption) | with_reducible exact ex1 (by assumption) | with_reducible exact ex2 (k := k) (m := (rows.getD i []).length) (by assumption) (by assumption) | with_reducible exact ex3 (k := k) (m := (rows.getD i []).length) (by assumption) (by assumption)); with_reducible (first | exact .inl (by assumption) | exact .inr (.inl ⟨by assumption, by assumption⟩) | exact .inr (.inr ⟨by assumption, by assumption⟩)))⟩
                                                         case hmu => unfold hi0; omega)
                                                    · first
                                                      | (exfalso; omega)
                                                      | (refine W.skip ?_
                                                         refine W.region ?_
                                                         refine WO.p rfl rfl (WO.ar rfl rfl rfl (by (first | (unfold in64; omega))) rfl (WO.p rfl rfl ?_))
                                                         refine WO.nil ?_
                                                         refine' ⟨y + 1, _, ?hp, ?hmu, ⟨rfl, rfl, rfl, rfl, rfl, rfl, rfl, rfl, rfl, rfl, rfl, trivial⟩, ?hS⟩
                                                         case hS => repeat (first | exact Sub.nil | refine Sub.cons (by repeat (first | exact Pick.head | apply Pick.tail)) ?_)
                                                         case hp => exact ⟨by omega, by unfold hi0; omega, fun _ => by first | ((with_reducible refine' stepF (x := _) ?hx eb hy1 ?hn ?h1 ?h2); (case hx => (first | with_reducible exact ex0 (by assumption) (by assumption) | with_reducible exact ex1 (by assumption) | with_reducible exact ex2 (k := k) (m := (rows.getD i []).length) (by assumption) (by assumption) | with_reducible exact ex3 (k := k) (m := (rows.getD i []).length) (by assumption) (by assumption))); (case hn => with_reducible assumption); (case h1 => (first | with_reducible (intro _; assumption) | (intro h; exact (nb1 h (by with_reducible assumption)).elim) | (intro h; exact (nb2 h (by with_reducible assumption)).elim))); (case h2 => (first | with_reducible (intro _; assumption) | (intro h; exact (nb1 (by with_reducible assumption) h).elim) | (intro h; exact (nb3 h (by with_reducible assumption)).elim)))) | ((with_reducible refine stepT ?_ eb hy1 ?_); (first | with_reducible exact ex0 (by assumption) (by assumption) | with_reducible exact ex1 (by assumption) | with_reducible exact ex2 (k := k) (m := (rows.getD i []).length) (by assumption) (by assumption) | with_reducible exact ex3 (k := k) (m := (rows.getD i []).length) (by assumption) (by assumption)); with_reducible (first | exact .inl (by assumption) | exact .inr (.inl ⟨by assumption, by assumption⟩) | exact .inr (.inr ⟨by assumption, by assumption⟩)))⟩
                                                         case hmu => unfold hi0; omega))
                                               · first
                                                 | (exfalso; omega)
                                                 | (refine WO.no rfl rfl (WO.no rfl rfl (WO.no rfl rfl (WO.pg rfl rfl rfl (WO.p rfl rfl ?_))))
                                                    refine WO.nil ?_
                                                    refine W.cond_f rfl ?_
                                                    refine W.skip ?_
                                                    refine W.region ?_
                                                    refine WO.p rfl rfl (WO.ar rfl rfl rfl (by (first | (unfold in64; omega))) rfl (WO.p rfl rfl ?_))
                                                    refine WO.nil ?_
                                                    refine' ⟨y + 1, _, ?hp, ?hmu, ⟨rfl, rfl, rfl, rfl, rfl, rfl, rfl, rfl, rfl, rfl, rfl, trivial⟩, ?hS⟩
                                                    case hS => repeat (first | exact Sub.nil | refine Sub.cons (by repeat (first | exact Pick.head | apply Pick.tail)) ?_)
                                                    case hp => exact ⟨by omega, by unfold hi0; omega, fun _ => by first | ((with_reducible refine' stepF (x := _) ?hx eb hy1 ?hn ?h1 ?h2); (case hx => (first | with_reducible exact ex0 (by assumption) (by assumption) | with_reducible exact ex1 (by assumption) | with_reducible exact ex2 (k := k) (m := (rows.getD i []).length) (by assumption) (by assumption) | with_reducible exact ex3 (k := k) (m := (rows.getD i []).length) (by assumption) (by assumption))); (case hn => with_reducible assumption); (case h1 => (first | with_reducible (intro _; assumption) | (intro h; exact (nb1 h (by with_reducible assumption)).elim) | (intro h; exact (nb2 h (by with_reducible assumption)).elim))); (case h2 => (first | with_reducible (intro _; assumption) | (intro h; exact (nb1 (by with_reducible assumption) h).elim) | (intro h; exact (nb3 h (by with_reducible assumption)).elim)))) | ((with_reducible refine stepT ?_ eb hy1 ?_); (first | with_reducible exact ex0 (by assumption) (by assumption) | with_reducible exact ex1 (by assumption) | with_reducible exact ex2 (k := k) (m := (rows.getD i []).length) (by assumption) (by assumption) | with_reducible exact ex3 (k := k) (m := (rows.getD i []).length) (by assumption) (by assumption)); with_reducible (first | exact .inl (by assumption) | exact .inr (.inl ⟨by assumption, by assumption⟩) | exact .inr (.inr ⟨by assumption, by assumption⟩)))⟩
                                                    case hmu => unfold hi0; omega)))
                                     · first
                                       | (exfalso; omega)
                                       | (refine WO.no rfl rfl (WO.no rfl rfl (WO.no rfl rfl (WO.pg rfl rfl rfl (WO.p rfl rfl (WO.p rfl rfl (WO.pg rfl rfl rfl (WO.pg rfl rfl rfl (WO.pg rfl rfl rfl ?_))))))))
                                          refine WO.guard_b rfl rfl (fun c42 => ?_) (fun c42 => ?_)
                                          · first
                                            | (exfalso; omega)
                                            | (refine WO.pg rfl rfl rfl (WO.pg rfl rfl rfl (WO.pg rfl rfl rfl (WO.pg rfl rfl rfl (WO.p rfl rfl ?_))))
                                               refine WO.nil ?_
                                               refine W.cond_bl rfl (fun c43 => ?_) (fun c43 => ?_)
                                               · first
                                                 | (exfalso; omega)
                                                 | (refine W.region ?_
                                                    refine WO.p rfl rfl (WO.p rfl rfl ?_)
                                                    refine WO.nil ?_
                                                    refine W.region ?_
                                                    refine WO.p rfl rfl (WO.ar rfl rfl rfl (by (first | (unfold in64; omega))) rfl (WO.p rfl rfl ?_))
                                                    refine WO.nil ?_
                                                    refine' ⟨y + 1, _, ?hp, ?hmu, ⟨rfl, rfl, rfl, rfl, rfl, rfl, rfl, rfl, rfl, rfl, rfl, trivial⟩, ?hS⟩
                                                    case hS => repeat (first | exact Sub.nil | refine Sub.cons (by repeat (first | exact Pick.head | apply Pick.tail)) ?_)
                                                    case hp => exact ⟨by omega, by unfold hi0; omega, fun _ => by first | ((with_reducible refine' stepF (x := _) ?hx eb hy1 ?hn ?h1 ?h2); (case hx => (first | with_reducible exact ex0 (by assumption) (by assumption) | with_reducible exact ex1 (by assumption) | with_reducible exact ex2 (k := k) (m := (rows.getD i []).length) (by assumption) (by assumption) | with_reducible exact ex3 (k := k) (m := (rows.getD i []).length) (by assumption) (by assumption))); (case hn => with_reducible assumption); (case h1 => (first | with_reducible (intro _; assumption) | (intro h; exact (nb1 h (by with_reducible assumption)).elim) | (intro h; exact (nb2 h (by with_reducible assumption)).elim))); (case h2 => (first | with_reducible (intro _; assumption) | (intro h; exact (nb1 (by with_reducible assumption) h).elim) | (intro h; exact (nb3 h (by with_reducible assumption)).elim)))) | ((with_reducible refine stepT ?_ eb hy1 ?_); (first | with_reducible exact ex0 (by assumption) (by assumption) | with_reducible exact ex1 (by assumption) | with_reducible exact ex2 (k := k) (m := (rows.getD i []).length) (by assumption) (by assumption) | with_reducible exact ex3 (k := k) (m := (rows.getD i []).length) (by assumption) (by assumption)); with_reducible (first | exact .inl (by assumption) | exact .inr (.inl ⟨by assumption, by assumption⟩) | exact .inr (.inr ⟨by assumption, by assumption⟩)))⟩
                                                    case hmu => unfold hi0; omega)
                                               · first
                                                 | (exfalso; omega)
                                                 | (refine W.skip ?_
                                                    refine W.region ?_
                                                    refine WO.p rfl rfl (WO.ar rfl rfl rfl (by (first | (unfold in64; omega))) rfl (WO.p rfl rfl ?_))
                                                    refine WO.nil ?_
                                                    refine' ⟨y + 1, _, ?hp, ?hmu, ⟨rfl, rfl, rfl, rfl, rfl, rfl, rfl, rfl, rfl, rfl, rfl, trivial⟩, ?hS⟩
                                                    case hS => repeat (first | exact Sub.nil | refine Sub.cons (by repeat (first | exact Pick.head | apply Pick.tail)) ?_)
                                                    case hp => exact ⟨by omega, by unfold hi0; omega, fun _ => by first | ((with_reducible refine' stepF (x := _) ?hx eb hy1 ?hn ?h1 ?h2); (case hx => (first | with_reducible exact ex0 (by assumption) (by assumption) | with_reducible exact ex1 (by assumption) | with_reducible exact ex2 (k := k) (m := (rows.getD i []).length) (by assumption) (by assumption) | with_reducible exact ex3 (k := k) (m := (rows.getD i []).length) (by assumption) (by assumption))); (case hn => with_reducible assumption); (case h1 => (first | with_reducible (intro _; assumption) | (intro h; exact (nb1 h (by with_reducible assumption)).elim) | (intro h; exact (nb2 h (by with_reducible assumption)).elim))); (case h2 => (first | with_reducible (intro _; assumption) | (intro h; exact (nb1 (by with_reducible assumption) h).elim) | (intro h; exact (nb3 h (by with_reducible assumption)).elim)))) | ((with_reducible refine stepT ?_ eb hy1 ?_); (first | with_reducible exact ex0 (by assumption) (by assumption) | with_reducible exact ex1 (by assumption) | with_reducible exact ex2 (k := k) (m := (rows.getD i []).length) (by assumption) (by assumption) | with_reducible exact ex3 (k := k) (m := (rows.getD i []).length) (by assumption) (by assumption)); with_reducible (first | exact .inl (by assumption) | exact .inr (.inl ⟨by assumption, by assumption⟩) | exact .inr (.inr ⟨by assumption, by assumption⟩)))⟩
                                                    case hmu => unfold hi0; omega))
                                          · first
                                            | (exfalso; omega)
                                            | (refine WO.no rfl rfl (WO.no rfl rfl (WO.no rfl rfl (WO.pg rfl rfl rfl (WO.p rfl rfl ?_))))
                                               refine WO.nil ?_
                                               refine W.cond_f rfl ?_
                                               refine W.skip ?_
                                               refine W.region ?_
                                               refine WO.p rfl rfl (WO.ar rfl rfl rfl (by (first | (unfold in64; omega))) rfl (WO.p rfl rfl ?_))
                                               refine WO.nil ?_
                                               refine' ⟨y + 1, _, ?hp, ?hmu, ⟨rfl, rfl, rfl, rfl, rfl, rfl, rfl, rfl, rfl, rfl, rfl, trivial⟩, ?hS⟩
                                               case hS => repeat (first | exact Sub.nil | refine Sub.cons (by repeat (first | exact Pick.head | apply Pick.tail)) ?_)
                                               case hp => exact ⟨by omega, by unfold hi0; omega, fun _ => by first | ((with_reducible refine' stepF (x := _) ?hx eb hy1 ?hn ?h1 ?h2); (case hx => (first | with_reducible exact ex0 (by assumption) (by assumption) | with_reducible exact ex1 (by assumption) | with_reducible exact ex2 (k := k) (m := (rows.getD i []).length) (by assumption) (by assumption) | with_reducible exact ex3 (k := k) (m := (rows.getD i []).length) (by assumption) (by assumption))); (case hn => with_reducible assumption); (case h1 => (first | with_reducible (intro _; assumption) | (intro h; exact (nb1 h (by with_reducible assumption)).elim) | (intro h; exact (nb2 h (by with_reducible assumption)).elim))); (case h2 => (first | with_reducible (intro _; assumption) | (intro h; exact (nb1 (by with_reducible assumption) h).elim) | (intro h; exact (nb3 h (by with_reducible assumption)).elim)))) | ((with_reducible refine stepT ?_ eb hy1 ?_); (first | with_reducible exact ex0 (by assumption) (by assumption) | with_reducible exact ex1 (by assumption) | with_reducible exact ex2 (k := k) (m := (rows.getD i []).length) (by assumption) (by assumption) | with_reducible exact ex3 (k := k) (m := (rows.getD i []).length) (by assumption) (by assumption)); with_reducible (first | exact .inl (by assumption) | exact .inr (.inl ⟨by assumption, by assumption⟩) | exact .inr (.inr ⟨by assumption, by assumption⟩)))⟩
                                               case hmu => unfold hi0; omega)))))
                      · first
                        | (exfalso; omega)
                        | (refine W.skip ?_
                           have hdB : 0 ≤ den ∧ den ≤ 100000000 := by have := hb.2.2; omega
                           have hnB : 0 ≤ num ∧ num ≤ 100000000000 := ⟨hb.1, hb.2.1⟩
                           refine W.sreg ?_
                           refine WO.fieldL rfl rfl rfl (WO.load rfl rfl (Cell.own (Pick.tail (Pick.head)) rfl) rfl (WO.p rfl rfl (WO.ar rfl rfl rfl (by (first | with_reducible exact in64B (mulB hdB tf.a3) (by decide) | with_reducible exact in64B (mulB hdB tf.c3) (by decide) | with_reducible exact in64B (mulB hdB tf.d4) (by decide) | with_reducible exact in64B (mulB hdB (addB tf.d4 tf.g3)) (by decide))) rfl (WO.field0 rfl rfl rfl (WO.load rfl rfl (Cell.own (Pick.tail (Pick.head)) rfl) rfl (WO.p rfl rfl (WO.ar rfl rfl rfl (by (first | with_reducible exact in64B (mulB hnB tf.b1) (by decide) | with_reducible exact in64B (mulB hnB tf.e2) (by decide))) rfl (WO.ar rfl rfl rfl (by (first | with_reducible exact in64S (mulB hdB tf.a3) (mulB hnB tf.b1) (by decide) (by decide) | with_reducible exact in64S (mulB hdB tf.c3) (mulB hnB tf.b1) (by decide) (by decide) | with_reducible exact in64S (mulB hdB tf.d4) (mulB hnB tf.e2) (by decide) (by decide) | with_reducible exact in64S (mulB hdB (addB tf.d4 tf.g3)) (mulB hnB tf.e2) (by decide) (by decide))) rfl (WO.p rfl rfl ?_)))))))))
                           refine WO.nil ?_
                           refine W.sreg ?_
                           refine WO.p rfl rfl (WO.fieldL rfl rfl rfl (WO.load rfl rfl (Cell.own Pick.head rfl) rfl (WO.p rfl rfl ?_)))
                           refine' WO.indexAddr (n := _) (i := _) rfl rfl rfl ?hs ?h1 rfl ?_
                           case hs => (first | exact hR.sl | (refine (hR.row _ ?_).sl; omega))
                           case h1 => (first | omega | (simp; omega))
                           refine' WO.load (v := _) rfl rfl ?hc rfl ?_
                           case hc => (first | (refine hR.cellV ?_; omega) | (refine (hR.row _ ?_).cell0 ?_ (0, 0) ?_ <;> first | rfl | omega) | (refine (hR.row _ ?_).cellAt ?_ (0, 0) ?_ <;> first | rfl | omega))
                           refine WO.p rfl rfl ?_
                           refine' WO.indexAddr (n := _) (i := _) rfl rfl rfl ?hs ?h1 rfl ?_
                           case hs => (first | exact hR.sl | (refine (hR.row _ ?_).sl; omega))
                           case h1 => (first | omega | (simp; omega))
                           refine WO.field0 rfl rfl rfl ?_
                           refine' WO.load (v := _) rfl rfl ?hc rfl ?_
                           case hc => (first | (refine hR.cellV ?_; omega) | (refine (hR.row _ ?_).cell0 ?_ (0, 0) ?_ <;> first | rfl | omega) | (refine (hR.row _ ?_).cellAt ?_ (0, 0) ?_ <;> first | rfl | omega))
                           refine WO.p rfl rfl (WO.p rfl rfl ?_)
                           refine WO.guard_bl rfl rfl (fun c44 => ?_) (fun c44 => ?_)
                           · first
                             | (exfalso; omega)
                             | (refine WO.no rfl rfl (WO.no rfl rfl (WO.no rfl rfl (WO.no rfl rfl (WO.no rfl rfl (WO.no rfl rfl (WO.p rfl rfl (WO.p rfl rfl (WO.no rfl rfl (WO.no rfl rfl (WO.no rfl rfl (WO.no rfl rfl ?_)))))))))))
                                refine WO.no rfl rfl (WO.no rfl rfl (WO.no rfl rfl (WO.p rfl rfl ?_)))
                                refine WO.nil ?_
                                refine W.cond_t rfl ?_
                                refine W.region ?_
                                refine WO.p rfl rfl (WO.p rfl rfl ?_)
                                refine WO.nil ?_
                                refine W.region ?_
                                refine WO.p rfl rfl (WO.ar rfl rfl rfl (by (first | (unfold in64; omega))) rfl (WO.p rfl rfl ?_))
                                refine WO.nil ?_
                                refine' ⟨y + 1, _, ?hp, ?hmu, ⟨rfl, rfl, rfl, rfl, rfl, rfl, rfl, rfl, rfl, rfl, rfl, trivial⟩, ?hS⟩
                                case hS => repeat (first | exact Sub.nil | refine Sub.cons (by repeat (first | exact Pick.head | apply Pick.tail)) ?_)
                                case hp => exact ⟨by omega, by unfold hi0; omega, fun _ => by first | ((with_reducible refine' stepF (x := _) ?hx eb hy1 ?hn ?h1 ?h2); (case hx => (first | with_reducible exact ex0 (by assumption) (by assumption) | with_reducible exact ex1 (by assumption) | with_reducible exact ex2 (k := k) (m := (rows.getD i []).length) (by assumption) (by assumption) | with_reducible exact ex3 (k := k) (m := (rows.getD i []).length) (by assumption) (by assumption))); (case hn => with_reducible assumption); (case h1 => (first | with_reducible (intro _; assumption) | (intro h; exact (nb1 h (by with_reducible assumption)).elim) | (intro h; exact (nb2 h (by with_reducible assumption)).elim))); (case h2 => (first | with_reducible (intro _; assumption) | (intro h; exact (nb1 (by with_reducible assumption) h).elim) | (intro h; exact (nb3 h (by with_reducible assumption)).elim)))) | ((with_reducible refine stepT ?_ eb hy1 ?_); (first | with_reducible exact ex0 (by assumption) (by assumption) | with_reducible exact ex1 (by assumption) | with_reducible exact ex2 (k := k) (m := (rows.getD i []).length) (by assumption) (by assumption) | with_reducible exact ex3 (k := k) (m := (rows.getD i []).length) (by assumption) (by assumption)); with_reducible (first | exact .inl (by assumption) | exact .inr (.inl ⟨by assumption, by assumption⟩) | exact .inr (.inr ⟨by assumption, by assumption⟩)))⟩
                                case hmu => unfold hi0; omega)
                           · first
                             | (exfalso; omega)
                             | (refine WO.pg rfl rfl rfl (WO.pg rfl rfl rfl ?_)
                                refine WO.guard_b rfl rfl (fun c45 => ?_) (fun c45 => ?_)
                                · first
                                  | (exfalso; omega)
                                  | (refine WO.pg rfl rfl rfl (WO.pg rfl rfl rfl (WO.pg rfl rfl rfl (WO.pg rfl rfl rfl (WO.p rfl rfl (WO.p rfl rfl ?_)))))
                                     refine WO.guard_bl rfl rfl (fun c46 => ?_) (fun c46 => ?_)
                                     · first
                                       | (exfalso; omega)
                                       | (refine WO.no rfl rfl (WO.no rfl rfl (WO.no rfl rfl (WO.no rfl rfl (WO.no rfl rfl (WO.no rfl rfl (WO.no rfl rfl (WO.p rfl rfl ?_)))))))
                                          refine WO.nil ?_
                                          refine W.cond_t rfl ?_
                                          refine W.region ?_
                                          refine WO.p rfl rfl (WO.p rfl rfl ?_)
                                          refine WO.nil ?_
                                          refine W.region ?_
                                          refine WO.p rfl rfl (WO.ar rfl rfl rfl (by (first | (unfold in64; omega))) rfl (WO.p rfl rfl ?_))
                                          refine WO.nil ?_
                                          refine' ⟨y + 1, _, ?hp, ?hmu, ⟨rfl, rfl, rfl, rfl, rfl, rfl, rfl, rfl, rfl, rfl, rfl, trivial⟩, ?hS⟩
                                          case hS => repeat (first | exact Sub.nil | refine Sub.cons (by repeat (first | exact Pick.head | apply Pick.tail)) ?_)
                                          case hp => exact ⟨by omega, by unfold hi0; omega, fun _ => by first | ((with_reducible refine' stepF (x := _) ?hx eb hy1 ?hn ?h1 ?h2); (case hx => (first | with_reducible exact ex0 (by assumption) (by assumption) | with_reducible exact ex1 (by assumption) | with_reducible exact ex2 (k := k) (m := (rows.getD i []).length) (by assumption) (by assumption) | with_reducible exact ex3 (k := k) (m := (rows.getD i []).length) (by assumption) (by assumption))); (case hn => with_reducible assumption); (case h1 => (first | with_reducible (intro _; assumption) | (intro h; exact (nb1 h (by with_reducible assumption)).elim) | (intro h; exact (nb2 h (by with_reducible assumption)).elim))); (case h2 => (first | with_reducible (intro _; assumption) | (intro h; exact (nb1 (by with_reducible assumption) h).elim) | (intro h; exact (nb3 h (by with_reducible assumption)).elim)))) | ((with_reducible refine stepT ?_ eb hy1 ?_); (first | with_reducible exact ex0 (by assumption) (by assumption) | with_reducible exact ex1 (by assumption) | with_reducible exact ex2 (k := k) (m := (rows.getD i []).length) (by assumption) (by assumption) | with_reducible exact ex3 (k := k) (m := (rows.getD i []).length) (by assumption) (by assumption)); with_reducible (first | exact .inl (by assumption) | exact .inr (.inl ⟨by assumption, by assumption⟩) | exact .inr (.inr ⟨by assumption, by assumption⟩)))⟩
                                          case hmu => unfold hi0; omega)
                                     · first
                                       | (exfalso; omega)
                                       | (refine WO.pg rfl rfl rfl (WO.pg rfl rfl rfl (WO.pg rfl rfl rfl ?_))
                                          refine WO.guard_b rfl rfl (fun c47 => ?_) (fun c47 => ?_)
                                          · first
                                            | (exfalso; omega)
                                            | (refine WO.pg rfl rfl rfl (WO.pg rfl rfl rfl (WO.pg rfl rfl rfl (WO.pg rfl rfl rfl (WO.p rfl rfl ?_))))
                                               refine WO.nil ?_
                                               refine W.cond_bl rfl (fun c48 => ?_) (fun c48 => ?_)
                                               · first
                                                 | (exfalso; omega)
                                                 | (refine W.region ?_
                                                    refine WO.p rfl rfl (WO.p rfl rfl ?_)
                                                    refine WO.nil ?_
                                                    refine W.region ?_
                                                    refine WO.p rfl rfl (WO.ar rfl rfl rfl (by (first | (unfold in64; omega))) rfl (WO.p rfl rfl ?_))
                                                    refine WO.nil ?_
                                                    refine' ⟨y + 1, _, ?hp, ?hmu, ⟨rfl, rfl, rfl, rfl, rfl, rfl, rfl, rfl, rfl, rfl, rfl, trivial⟩, ?hS⟩
                                                    case hS => repeat (first | exact Sub.nil | refine Sub.cons (by repeat (first | exact Pick.head | apply Pick.tail)) ?_)
                                                    case hp => exact ⟨by omega, by unfold hi0; omega, fun _ => by first | ((with_reducible refine' stepF (x := _) ?hx eb hy1 ?hn ?h1 ?h2); (case hx => (first | with_reducible exact ex0 (by assumption) (by assumption) | with_reducible exact ex1 (by assumption) | with_reducible exact ex2 (k := k) (m := (rows.getD i []).length) (by assumption) (by assumption) | with_reducible exact ex3 (k := k) (m := (rows.getD i []).length) (by assumption) (by assumption))); (case hn => with_reducible assumption); (case h1 => (first | with_reducible (intro _; assumption) | (intro h; exact (nb1 h (by with_reducible assumption)).elim) | (intro h; exact (nb2 h (by with_reducible assumption)).elim))); (case h2 => (first | with_reducible (intro _; assumption) | (intro h; exact (nb1 (by with_reducible assumption) h).elim) | (intro h; exact (nb3 h (by with_reducible assumption)).elim)))) | ((with_reducible refine stepT ?_ eb hy1 ?_); (first | with_reducible exact ex0 (by assumption) (by assumption) | with_reducible exact ex1 (by assumption) | with_reducible exact ex2 (k := k) (m := (rows.getD i []).length) (by assumption) (by assumption) | with_reducible exact ex3 (k := k) (m := (rows.getD i []).length) (by assumption) (by assumption)); with_reducible (first | exact .inl (by assumption) | exact .inr (.inl ⟨by assumption, by assumption⟩) | exact .inr (.inr ⟨by assumption, by assumption⟩)))⟩
                                                    case hmu => unfold hi0; omega)
                                               · first
                                                 | (exfalso; omega)
                                                 | (refine W.skip ?_
                                                    refine W.region ?_
                                                    refine WO.p rfl rfl (WO.ar rfl rfl rfl (by (first | (unfold in64; omega))) rfl (WO.p rfl rfl ?_))
                                                    refine WO.nil ?_
                                                    refine' ⟨y + 1, _, ?hp, ?hmu, ⟨rfl, rfl, rfl, rfl, rfl, rfl, rfl, rfl, rfl, rfl, rfl, trivial⟩, ?hS⟩
                                                    case hS => repeat (first | exact Sub.nil | refine Sub.cons (by repeat (first | exact Pick.head | apply Pick.tail)) ?_)
                                                    case hp => exact ⟨by omega, by unfold hi0; omega, fun _ => by first | ((with_reducible refine' stepF (x := _) ?hx eb hy1 ?hn ?h1 ?h2); (case hx => (first | with_reducible exact ex0 (by assumption) (by assumption) | with_reducible exact ex1 (by assumption) | with_reducible exact ex2 (k := k) (m := (rows.getD i []).length) (by assumption) (by assumption) | with_reducible exact ex3 (k := k) (m := (rows.getD i []).length) (by assumption) (by assumption))); (case hn => with_reducible assumption); (case h1 => (first | with_reducible (intro _; assumption) | (intro h; exact (nb1 h (by with_reducible assumption)).elim) | (intro h; exact (nb2 h (by with_reducible assumption)).elim))); (case h2 => (first | with_reducible (intro _; assumption) | (intro h; exact (nb1 (by with_reducible assumption) h).elim) | (intro h; exact (nb3 h (by with_reducible assumption)).elim)))) | ((with_reducible refine stepT ?_ eb hy1 ?_); (first | with_reducible exact ex0 (by assumption) (by assumption) | with_reducible exact ex1 (by assumption) | with_reducible exact ex2 (k := k) (m := (rows.getD i []).length) (by assumption) (by assumption) | with_reducible exact ex3 (k := k) (m := (rows.getD i []).length) (by assumption) (by assumption)); with_reducible (first | exact .inl (by assumption) | exact .inr (.inl ⟨by assumption, by assumption⟩) | exact .inr (.inr ⟨by assumption, by assumption⟩)))⟩
                                                    case hmu => unfold hi0; omega))
                                          · first
                                            | (exfalso; omega)
                                            | (refine WO.no rfl rfl (WO.no rfl rfl (WO.no rfl rfl (WO.pg rfl rfl rfl (WO.p rfl rfl ?_))))
                                               refine WO.nil ?_
                                               refine W.cond_f rfl ?_
                                               refine W.skip ?_
                                               refine W.region ?_
                                               refine WO.p rfl rfl (WO.ar rfl rfl rfl (by (first | (unfold in64; omega))) rfl (WO.p rfl rfl ?_))
                                               refine WO.nil ?_
                                               refine' ⟨y + 1, _, ?hp, ?hmu, ⟨rfl, rfl, rfl, rfl, rfl, rfl, rfl, rfl, rfl, rfl, rfl, trivial⟩, ?hS⟩
                                               case hS => repeat (first | exact Sub.nil | refine Sub.cons (by repeat (first | exact Pick.head | apply Pick.tail)) ?_)
                                               case hp => exact ⟨by omega, by unfold hi0; omega, fun _ => by first | ((with_reducible refine' stepF (x := _) ?hx eb hy1 ?hn ?h1 ?h2); (case hx => (first | with_reducible exact ex0 (by assumption) (by assumption) | with_reducible exact ex1 (by assumption) | with_reducible exact ex2 (k := k) (m := (rows.getD i []).length) (by assumption) (by assumption) | with_reducible exact ex3 (k := k) (m := (rows.getD i []).length) (by assumption) (by assumption))); (case hn => with_reducible assumption); (case h1 => (first | with_reducible (intro _; assumption) | (intro h; exact (nb1 h (by with_reducible assumption)).elim) | (intro h; exact (nb2 h (by with_reducible assumption)).elim))); (case h2 => (first | with_reducible (intro _; assumption) | (intro h; exact (nb1 (by with_reducible assumption) h).elim) | (intro h; exact (nb3 h (by with_reducible assumption)).elim)))) | ((with_reducible refine stepT ?_ eb hy1 ?_); (first | with_reducible exact ex0 (by assumption) (by assumption) | with_reducible exact ex1 (by assumption) | with_reducible exact ex2 (k := k) (m := (rows.getD i []).length) (by assumption) (by assumption) | with_reducible exact ex3 (k := k) (m := (rows.getD i []).length) (by assumption) (by assumption)); with_reducible (first | exact .inl (by assumption) | exact .inr (.inl ⟨by assumption, by assumption⟩) | exact .inr (.inr ⟨by assumption, by assumption⟩)))⟩
                                               case hmu => unfold hi0; omega)))
                                · first
                                  | (exfalso; omega)
                                  | (refine WO.no rfl rfl (WO.no rfl rfl (WO.no rfl rfl (WO.pg rfl rfl rfl (WO.p rfl rfl (WO.p rfl rfl (WO.pg rfl rfl rfl (WO.pg rfl rfl rfl (WO.pg rfl rfl rfl ?_))))))))
                                     refine WO.guard_b rfl rfl (fun c49 => ?_) (fun c49 => ?_)
                                     · first
                                       | (exfalso; omega)
                                       | (refine WO.pg rfl rfl rfl (WO.pg rfl rfl rfl (WO.pg rfl rfl rfl (WO.pg rfl rfl rfl (WO.p rfl rfl ?_))))
                                          refine WO.nil ?_
                                          refine W.cond_bl rfl (fun c50 => ?_) (fun c50 => ?_)
                                          · first
                                            | (exfalso; omega)
                                            | (refine W.region ?_
                                               refine WO.p rfl rfl (WO.p rfl rfl ?_)
                                               refine WO.nil ?_
                                               refine W.region ?_
                                               refine WO.p rfl rfl (WO.ar rfl rfl rfl (by (first | (unfold in64; omega))) rfl (WO.p rfl rfl ?_))
                                               refine WO.nil ?_
                                               refine' ⟨y + 1, _, ?hp, ?hmu, ⟨rfl, rfl, rfl, rfl, rfl, rfl, rfl, rfl, rfl, rfl, rfl, trivial⟩, ?hS⟩
                                               case hS => repeat (first | exact Sub.nil | refine Sub.cons (by repeat (first | exact Pick.head | apply Pick.tail)) ?_)
                                               case hp => exact ⟨by omega, by unfold hi0; omega, fun _ => by first | ((with_reducible refine' stepF (x := _) ?hx eb hy1 ?hn ?h1 ?h2); (case hx => (first | with_reducible exact ex0 (by assumption) (by assumption) | with_reducible exact ex1 (by assumption) | with_reducible exact ex2 (k := k) (m := (rows.getD i []).length) (by assumption) (by assumption) | with_reducible exact ex3 (k := k) (m := (rows.getD i []).length) (by assumption) (by assumption))); (case hn => with_reducible assumption); (case h1 => (first | with_reducible (intro _; assumption) | (intro h; exact (nb1 h (by with_reducible assumption)).elim) | (intro h; exact (nb2 h (by with_reducible assumption)).elim))); (case h2 => (first | with_reducible (intro _; assumption) | (intro h; exact (nb1 (by with_reducible assumption) h).elim) | (intro h; exact (nb3 h (by with_reducible assumption)).elim)))) | ((with_reducible refine stepT ?_ eb hy1 ?_); (first | with_reducible exact ex0 (by assumption) (by assumption) | with_reducible exact ex1 (by assumption) | with_reducible exact ex2 (k := k) (m := (rows.getD i []).length) (by assumption) (by assumption) | with_reducible exact ex3 (k := k) (m := (rows.getD i []).length) (by assumption) (by assumption)); with_reducible (first | exact .inl (by assumption) | exact .inr (.inl ⟨by assumption, by assumption⟩) | exact .inr (.inr ⟨by assumption, by assumption⟩)))⟩
                                               case hmu => unfold hi0; omega)
                                          · first
                                            | (exfalso; omega)
                                            | (refine W.skip ?_
                                               refine W.region ?_
                                               refine WO.p rfl rfl (WO.ar rfl rfl rfl (by (first | (unfold in64; omega))) rfl (WO.p rfl rfl ?_))
                                               refine WO.nil ?_
                                               refine' ⟨y + 1, _, ?hp, ?hmu, ⟨rfl, rfl, rfl, rfl, rfl, rfl, rfl, rfl, rfl, rfl, rfl, trivial⟩, ?hS⟩
                                               case hS => repeat (first | exact Sub.nil | refine Sub.cons (by repeat (first | exact Pick.head | apply Pick.tail)) ?_)
                                               case hp => exact ⟨by omega, by unfold hi0; omega, fun _ => by first | ((with_reducible refine' stepF (x := _) ?hx eb hy1 ?hn ?h1 ?h2); (case hx => (first | with_reducible exact ex0 (by assumption) (by assumption) | with_reducible exact ex1 (by assumption) | with_reducible exact ex2 (k := k) (m := (rows.getD i []).length) (by assumption) (by assumption) | with_reducible exact ex3 (k := k) (m := (rows.getD i []).length) (by assumption) (by assumption))); (case hn => with_reducible assumption); (case h1 => (first | with_reducible (intro _; assumption) | (intro h; exact (nb1 h (by with_reducible assumption)).elim) | (intro h; exact (nb2 h (by with_reducible assumption)).elim))); (case h2 => (first | with_reducible (intro _; assumption) | (intro h; exact (nb1 (by with_reducible assumption) h).elim) | (intro h; exact (nb3 h (by with_reducible assumption)).elim)))) | ((with_reducible refine stepT ?_ eb hy1 ?_); (first | with_reducible exact ex0 (by assumption) (by assumption) | with_reducible exact ex1 (by assumption) | with_reducible exact ex2 (k := k) (m := (rows.getD i []).length) (by assumption) (by assumption) | with_reducible exact ex3 (k := k) (m := (rows.getD i []).length) (by assumption) (by assumption)); with_reducible (first | exact .inl (by assumption) | exact .inr (.inl ⟨by assumption, by assumption⟩) | exact .inr (.inr ⟨by assumption, by assumption⟩)))⟩
                                               case hmu => unfold hi0; omega))
                                     · first
                                       | (exfalso; omega)
                                       | (refine WO.no rfl rfl (WO.no rfl rfl (WO.no rfl rfl (WO.pg rfl rfl rfl (WO.p rfl rfl ?_))))
                                          refine WO.nil ?_
                                          refine W.cond_f rfl ?_
                                          refine W.skip ?_
                                          refine W.region ?_
                                          refine WO.p rfl rfl (WO.ar rfl rfl rfl (by (first | (unfold in64; omega))) rfl (WO.p rfl rfl ?_))
                                          refine WO.nil ?_
                                          refine' ⟨y + 1, _, ?hp, ?hmu, ⟨rfl, rfl, rfl, rfl, rfl, rfl, rfl, rfl, rfl, rfl, rfl, trivial⟩, ?hS⟩
                                          case hS => repeat (first | exact Sub.nil | refine Sub.cons (by repeat (first | exact Pick.head | apply Pick.tail)) ?_)
                                          case hp => exact ⟨by omega, by unfold hi0; omega, fun _ => by first | ((with_reducible refine' stepF (x := _) ?hx eb hy1 ?hn ?h1 ?h2); (case hx => (first | with_reducible exact ex0 (by assumption) (by assumption) | with_reducible exact ex1 (by assumption) | with_reducible exact ex2 (k := k) (m := (rows.getD i []).length) (by assumption) (by assumption) | with_reducible exact ex3 (k := k) (m := (rows.getD i []).length) (by assumption) (by assumption))); (case hn => with_reducible assumption); (case h1 => (first | with_reducible (intro _; assumption) | (intro h; exact (nb1 h (by with_reducible assumption)).elim) | (intro h; exact (nb2 h (by with_reducible assumption)).elim))); (case h2 => (first | with_reducible (intro _; assumption) | (intro h; exact (nb1 (by with_reducible assumption) h).elim) | (intro h; exact (nb3 h (by with_reducible assumption)).elim)))) | ((with_reducible refine stepT ?_ eb hy1 ?_); (first | with_reducible exact ex0 (by assumption) (by assumption) | with_reducible exact ex1 (by assumption) | with_reducible exact ex2 (k := k) (m := (rows.getD i []).length) (by assumption) (by assumption) | with_reducible exact ex3 (k := k) (m := (rows.getD i []).length) (by assumption) (by assumption)); with_reducible (first | exact .inl (by assumption) | exact .inr (.inl ⟨by assumption, by assumption⟩) | exact .inr (.inr ⟨by assumption, by assumption⟩)))⟩
                                          case hmu => unfold hi0; omega))))))
            · first
              | (exfalso; omega)
              | (refine W.exit (blk_same ?_)
                 have e1 := best1_of (by assumption) hy2 hok.2.1 eb
                 have be := hv.best1 hb what high hi' hk'
                 rw [← e1] at be
                 refine W.region ?_
                 refine WO.p rfl rfl (WO.p rfl rfl (WO.ar rfl rfl rfl (by (first | (unfold in64; omega))) rfl (WO.p rfl rfl ?_)))
                 refine WO.nil ?_
                 refine W.region ?_
                 refine WO.p rfl rfl (WO.ar rfl rfl rfl (by (first | (unfold in64; omega))) rfl (WO.p rfl rfl ?_))
                 refine WO.nil ?_
                 refine' ⟨k + 1, _, ?hp, ?hmu, ⟨rfl, rfl, rfl, rfl, rfl, rfl, rfl, rfl, trivial⟩, ?hS⟩
                 case hS => repeat (first | exact Sub.nil | refine Sub.cons (by repeat (first | exact Pick.head | apply Pick.tail)) ?_)
                 case hp => exact ⟨by omega, by rw [eq, Int.add_assoc]; exact congrArg (s + ·) (congrArg (ps (fun k => best1 what sp st num den high rows i k) k + ·) e1)⟩
                 case hmu => omega))
       · first
         | (exfalso; omega)
         | (refine W.exit (blk_same ?_)
            refine W.region ?_
            refine WO.p rfl rfl (WO.ar rfl rfl rfl (by (first | (unfold in64; omega))) rfl (WO.p rfl rfl ?_))
            refine WO.nil ?_
            refine' ⟨i + 1, _, ?hp, ?hmu, ⟨rfl, rfl, rfl, rfl, rfl, rfl, trivial⟩, ?hS⟩
            case hS => repeat (first | exact Sub.nil | refine Sub.cons (by repeat (first | exact Pick.head | apply Pick.tail)) ?_)
            case hp => (obtain rfl : k = (rows.getD i []).length := by omega); exact ⟨by omega, by rw [eq, es]; rfl⟩
            case hmu => omega))
  · first
    | (exfalso; omega)
    | (refine W.exit (blk_same ?_)
       refine W.sreg ?_
       refine WO.p rfl rfl (WO.p rfl rfl ?_)
       refine WO.nil ?_
       refine W.ret ?_
       obtain rfl : i = rows.length := by omega
       refine fin.ret (Res.one rfl (RV.tmp rfl)) ?_
       rw [es])
end Go.Proofs.Ytgihklgpehfbpaa
namespace Go.Proofs.Ytgihklgpehfbpaa
open Go Go.TH
attribute [local irreducible] W WO pt
set_option maxRecDepth 10000
/-- what CheckBound answers -/
def chkBound (sp st what num den : Int) (high : Bool) (rows : List (List (Int × Int))) : Int :=
  if chkHull sp st rows ≠ 0 then chkHull sp st rows else if what < 0 ∨ 2 < what then 3 else if isB (num, den) = false then 2
  else if (high = true ∧ 0 < partS what sp st num den high rows rows.length) ∨ (high = false ∧ partS what sp st num den high rows rows.length < 0) then 14 else 0
section
variable {sp st what num den : Int} {high : Bool} {rows : List (List (Int × Int))}
theorem cb1 (h : chkHull sp st rows ≠ 0) : chkHull sp st rows = chkBound sp st what num den high rows := by rw [chkBound, if_pos h]
theorem cb2 (h : ¬ chkHull sp st rows ≠ 0) (h1 : what < 0 ∨ 2 < what) : 3 = chkBound sp st what num den high rows := by rw [chkBound, if_neg h, if_pos h1]
theorem cb3 (h : ¬ chkHull sp st rows ≠ 0) (h1 : ¬ (what < 0 ∨ 2 < what)) (h2 : isB (num, den) = false) : 2 = chkBound sp st what num den high rows := by rw [chkBound, if_neg h, if_neg h1, if_pos h2]
theorem cb4 (h : ¬ chkHull sp st rows ≠ 0) (h1 : ¬ (what < 0 ∨ 2 < what)) (h2 : isB (num, den) = true) (h3 : (high = true ∧ 0 < partS what sp st num den high rows rows.length) ∨ (high = false ∧ partS what sp st num den high rows rows.length < 0)) : 14 = chkBound sp st what num den high rows := by
  rw [chkBound, if_neg h, if_neg h1, if_neg (by simp [h2]), if_pos h3]
theorem cb5 (h : ¬ chkHull sp st rows ≠ 0) (h1 : ¬ (what < 0 ∨ 2 < what)) (h2 : isB (num, den) = true) (h3 : ¬ ((high = true ∧ 0 < partS what sp st num den high rows rows.length) ∨ (high = false ∧ partS what sp st num den high rows rows.length < 0))) : 0 = chkBound sp st what num den high rows := by
  rw [chkBound, if_neg h, if_neg h1, if_neg (by simp [h2]), if_neg h3]
end
theorem ref_CheckBound (w : World) (sp st what num den : Int) (high : Bool) (o : Value) (rv : List Value) (rows : List (List (Int × Int))) (hR : RdR encP 2 w.heap.size w o rv rows) :
    Ret Try.prog 23 [.agg #[.int .i64 sp, .int .i64 st, o], .int .i64 what, .agg #[.int .i64 num, .int .i64 den], .bool high].toArray w (.int .i64 (chkBound sp st what num den high rows)) := by
  refine Ret.of mixed tyTab Try.func23 rfl rfl ?_
  replace hR : RdR encP 2 (fnCx mixed tyTab Try.f23.ntmps w).B (fnCx mixed tyTab Try.f23.ntmps w).w0 o rv rows := hR
  refine W.sreg ?_
  refine WO.boxA rfl rfl (fun b1 hb1 => ?_)
  refine WO.boxA rfl rfl (fun b2 hb2 => ?_)
  refine WO.p rfl rfl ?_
  refine WO.nil ?_
  refine W.seq ?_
  refine W.sreg ?_
  refine WO.loadA rfl rfl (Cells.own (Pick.tail (Pick.head))) rfl rfl ?_
  refine WO.callR (r := .int .i64 (chkHull sp st rows)) rfl Try.call19 (fun L w hi => ref_checkHull w sp st o rv rows (hR.later hi)) rfl ?_
  refine WO.p rfl rfl ?_
  refine WO.nil ?_
  refine W.cond_bl rfl (fun c1 => ?_) (fun c1 => ?_)
  · first
    | (exfalso; omega)
    | (refine W.sreg ?_
       refine WO.loadA rfl rfl (Cells.own (Pick.tail (Pick.head))) rfl rfl ?_
       refine WO.callR (r := .int .i64 (chkHull sp st rows)) rfl Try.call19 (fun L w hi => ref_checkHull w sp st o rv rows (hR.later hi)) rfl ?_
       refine WO.p rfl rfl ?_
       refine WO.nil ?_
       refine W.ret ?_
       refine fin.ret (Res.one rfl (RV.tmp rfl)) ?_
       refine congrArg (Value.int .i64) ?_
       first | exact cb1 (by assumption) | exact cb2 (by assumption) (by omega) | exact cb3 (by assumption) (by omega) (by simp_all) | exact cb4 (by assumption) (by omega) (by simp_all) (by simp_all) | exact cb5 (by assumption) (by omega) (by simp_all) (by rintro (h | h) <;> first | omega | (simp_all; done)))
  · first
    | (exfalso; omega)
    | (refine W.skip ?_
       refine W.seq ?_
       refine W.sreg ?_
       refine WO.p rfl rfl (WO.p rfl rfl (WO.p rfl rfl ?_))
       refine WO.guard_bl rfl rfl (fun c2 => ?_) (fun c2 => ?_)
       · first
         | (exfalso; omega)
         | (refine WO.no rfl rfl (WO.no rfl rfl (WO.p rfl rfl ?_))
            refine WO.nil ?_
            refine W.cond_t rfl ?_
            refine W.sreg ?_
            refine WO.p rfl rfl ?_
            refine WO.nil ?_
            refine W.ret ?_
            refine fin.ret (Res.one rfl (RV.tmp rfl)) ?_
            refine congrArg (Value.int .i64) ?_
            first | exact cb1 (by assumption) | exact cb2 (by assumption) (by omega) | exact cb3 (by assumption) (by omega) (by simp_all) | exact cb4 (by assumption) (by omega) (by simp_all) (by simp_all) | exact cb5 (by assumption) (by omega) (by simp_all) (by rintro (h | h) <;> first | omega | (simp_all; done)))
       · first
         | (exfalso; omega)
         | (refine WO.pg rfl rfl rfl (WO.pg rfl rfl rfl (WO.p rfl rfl ?_))
            refine WO.nil ?_
            refine W.cond_bl rfl (fun c3 => ?_) (fun c3 => ?_)
            · first
              | (exfalso; omega)
              | (refine W.sreg ?_
                 refine WO.p rfl rfl ?_
                 refine WO.nil ?_
                 refine W.ret ?_
                 refine fin.ret (Res.one rfl (RV.tmp rfl)) ?_
                 refine congrArg (Value.int .i64) ?_
                 first | exact cb1 (by assumption) | exact cb2 (by assumption) (by omega) | exact cb3 (by assumption) (by omega) (by simp_all) | exact cb4 (by assumption) (by omega) (by simp_all) (by simp_all) | exact cb5 (by assumption) (by omega) (by simp_all) (by rintro (h | h) <;> first | omega | (simp_all; done)))
            · first
              | (exfalso; omega)
              | (refine W.skip ?_
                 refine W.seq ?_
                 refine W.sreg ?_
                 refine WO.loadA rfl rfl (Cells.own Pick.head) rfl rfl ?_
                 refine WO.callR (r := .bool (isB (num, den))) rfl Try.call26 (fun L w hi => ref_IsBound w num den) rfl ?_
                 refine WO.p rfl rfl ?_
                 refine WO.nil ?_
                 refine W.cond rfl (fun c4 => ?_) (fun c4 => ?_)
                 · first
                   | (exfalso; omega)
                   | (refine W.sreg ?_
                      refine WO.p rfl rfl ?_
                      refine WO.nil ?_
                      refine W.ret ?_
                      refine fin.ret (Res.one rfl (RV.tmp rfl)) ?_
                      refine congrArg (Value.int .i64) ?_
                      first | exact cb1 (by assumption) | exact cb2 (by assumption) (by omega) | exact cb3 (by assumption) (by omega) (by simp_all) | exact cb4 (by assumption) (by omega) (by simp_all) (by simp_all) | exact cb5 (by assumption) (by omega) (by simp_all) (by rintro (h | h) <;> first | omega | (simp_all; done)))
                 · first
                   | (exfalso; omega)
                   | (refine W.skip ?_
                      refine W.sreg ?_
                      refine WO.loadA rfl rfl (Cells.own (Pick.tail (Pick.head))) rfl rfl (WO.p rfl rfl (WO.loadA rfl rfl (Cells.own Pick.head) rfl rfl (WO.p rfl rfl ?_)))
                      have ib := isB_p (n := num) (d := den) (by simp_all)
                      refine WO.callR rfl Try.call49 (fun L w hi => ref_part w sp st what num den high o rv rows (hR.later hi) (HV.of (by omega)) ⟨by omega, by omega, by omega, by omega⟩ (by omega)) rfl ?_
                      refine WO.p rfl rfl ?_
                      refine WO.nil ?_
                      refine W.seq ?_
                      refine W.sreg ?_
                      refine WO.p rfl rfl (WO.p rfl rfl ?_)
                      refine WO.guard_b rfl rfl (fun c5 => ?_) (fun c5 => ?_)
                      · first
                        | (exfalso; omega)
                        | (refine WO.pg rfl rfl rfl (WO.pg rfl rfl rfl (WO.p rfl rfl (WO.p rfl rfl ?_)))
                           refine WO.guard_bl rfl rfl (fun c6 => ?_) (fun c6 => ?_)
                           · first
                             | (exfalso; omega)
                             | (refine WO.no rfl rfl (WO.no rfl rfl (WO.no rfl rfl (WO.no rfl rfl (WO.no rfl rfl (WO.no rfl rfl (WO.p rfl rfl ?_))))))
                                refine WO.nil ?_
                                refine W.cond_t rfl ?_
                                refine W.sreg ?_
                                refine WO.p rfl rfl ?_
                                refine WO.nil ?_
                                refine W.ret ?_
                                refine fin.ret (Res.one rfl (RV.tmp rfl)) ?_
                                refine congrArg (Value.int .i64) ?_
                                first | exact cb1 (by assumption) | exact cb2 (by assumption) (by omega) | exact cb3 (by assumption) (by omega) (by simp_all) | exact cb4 (by assumption) (by omega) (by simp_all) (by simp_all) | exact cb5 (by assumption) (by omega) (by simp_all) (by rintro (h | h) <;> first | omega | (simp_all; done)))
                           · first
                             | (exfalso; omega)
                             | (refine WO.pg rfl rfl rfl (WO.pg rfl rfl rfl (WO.pg rfl rfl rfl ?_))
                                refine WO.guard_b rfl rfl (fun c7 => ?_) (fun c7 => ?_)
                                · first
                                  | (exfalso; omega)
                                  | (refine WO.pg rfl rfl rfl (WO.pg rfl rfl rfl (WO.pg rfl rfl rfl (WO.p rfl rfl ?_)))
                                     refine WO.nil ?_
                                     refine W.cond_bl rfl (fun c8 => ?_) (fun c8 => ?_)
                                     · first
                                       | (exfalso; omega)
                                       | (refine W.sreg ?_
                                          refine WO.p rfl rfl ?_
                                          refine WO.nil ?_
                                          refine W.ret ?_
                                          refine fin.ret (Res.one rfl (RV.tmp rfl)) ?_
                                          refine congrArg (Value.int .i64) ?_
                                          first | exact cb1 (by assumption) | exact cb2 (by assumption) (by omega) | exact cb3 (by assumption) (by omega) (by simp_all) | exact cb4 (by assumption) (by omega) (by simp_all) (by simp_all) | exact cb5 (by assumption) (by omega) (by simp_all) (by rintro (h | h) <;> first | omega | (simp_all; done)))
                                     · first
                                       | (exfalso; omega)
                                       | (refine W.skip ?_
                                          refine W.sreg ?_
                                          refine WO.p rfl rfl ?_
                                          refine WO.nil ?_
                                          refine W.ret ?_
                                          refine fin.ret (Res.one rfl (RV.tmp rfl)) ?_
                                          refine congrArg (Value.int .i64) ?_
                                          first | exact cb1 (by assumption) | exact cb2 (by assumption) (by omega) | exact cb3 (by assumption) (by omega) (by simp_all) | exact cb4 (by assumption) (by omega) (by simp_all) (by simp_all) | exact cb5 (by assumption) (by omega) (by simp_all) (by rintro (h | h) <;> first | omega | (simp_all; done))))
                                · first
                                  | (exfalso; omega)
                                  | (refine WO.no rfl rfl (WO.no rfl rfl (WO.pg rfl rfl rfl (WO.p rfl rfl ?_)))
                                     refine WO.nil ?_
                                     refine W.cond_f rfl ?_
                                     refine W.skip ?_
                                     refine W.sreg ?_
                                     refine WO.p rfl rfl ?_
                                     refine WO.nil ?_
                                     refine W.ret ?_
                                     refine fin.ret (Res.one rfl (RV.tmp rfl)) ?_
                                     refine congrArg (Value.int .i64) ?_
                                     first | exact cb1 (by assumption) | exact cb2 (by assumption) (by omega) | exact cb3 (by assumption) (by omega) (by simp_all) | exact cb4 (by assumption) (by omega) (by simp_all) (by simp_all) | exact cb5 (by assumption) (by omega) (by simp_all) (by rintro (h | h) <;> first | omega | (simp_all; done)))))
                      · first
                        | (exfalso; omega)
                        | (refine WO.no rfl rfl (WO.no rfl rfl (WO.p rfl rfl (WO.p rfl rfl (WO.pg rfl rfl rfl (WO.pg rfl rfl rfl (WO.pg rfl rfl rfl ?_))))))
                           refine WO.guard_b rfl rfl (fun c9 => ?_) (fun c9 => ?_)
                           · first
                             | (exfalso; omega)
                             | (refine WO.pg rfl rfl rfl (WO.pg rfl rfl rfl (WO.pg rfl rfl rfl (WO.p rfl rfl ?_)))
                                refine WO.nil ?_
                                refine W.cond_bl rfl (fun c10 => ?_) (fun c10 => ?_)
                                · first
                                  | (exfalso; omega)
                                  | (refine W.sreg ?_
                                     refine WO.p rfl rfl ?_
                                     refine WO.nil ?_
                                     refine W.ret ?_
                                     refine fin.ret (Res.one rfl (RV.tmp rfl)) ?_
                                     refine congrArg (Value.int .i64) ?_
                                     first | exact cb1 (by assumption) | exact cb2 (by assumption) (by omega) | exact cb3 (by assumption) (by omega) (by simp_all) | exact cb4 (by assumption) (by omega) (by simp_all) (by simp_all) | exact cb5 (by assumption) (by omega) (by simp_all) (by rintro (h | h) <;> first | omega | (simp_all; done)))
                                · first
                                  | (exfalso; omega)
                                  | (refine W.skip ?_
                                     refine W.sreg ?_
                                     refine WO.p rfl rfl ?_
                                     refine WO.nil ?_
                                     refine W.ret ?_
                                     refine fin.ret (Res.one rfl (RV.tmp rfl)) ?_
                                     refine congrArg (Value.int .i64) ?_
                                     first | exact cb1 (by assumption) | exact cb2 (by assumption) (by omega) | exact cb3 (by assumption) (by omega) (by simp_all) | exact cb4 (by assumption) (by omega) (by simp_all) (by simp_all) | exact cb5 (by assumption) (by omega) (by simp_all) (by rintro (h | h) <;> first | omega | (simp_all; done))))
                           · first
                             | (exfalso; omega)
                             | (refine WO.no rfl rfl (WO.no rfl rfl (WO.pg rfl rfl rfl (WO.p rfl rfl ?_)))
                                refine WO.nil ?_
                                refine W.cond_f rfl ?_
                                refine W.skip ?_
                                refine W.sreg ?_
                                refine WO.p rfl rfl ?_
                                refine WO.nil ?_
                                refine W.ret ?_
                                refine fin.ret (Res.one rfl (RV.tmp rfl)) ?_
                                refine congrArg (Value.int .i64) ?_
                                first | exact cb1 (by assumption) | exact cb2 (by assumption) (by omega) | exact cb3 (by assumption) (by omega) (by simp_all) | exact cb4 (by assumption) (by omega) (by simp_all) (by simp_all) | exact cb5 (by assumption) (by omega) (by simp_all) (by rintro (h | h) <;> first | omega | (simp_all; done))))))))
end Go.Proofs.Ytgihklgpehfbpaa
