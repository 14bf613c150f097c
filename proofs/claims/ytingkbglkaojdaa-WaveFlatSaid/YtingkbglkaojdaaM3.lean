/-
  What is proved here: a table of the program's types (cells, fields, elements, zero values) agrees with the program. Conditions: none.
  What is proved here: sums of whole numbers, modulo 2 (no program in sight). Conditions: none; each theorem states its own.
  What is proved here: equations modulo 2, one taken after another (no program in sight). Conditions: none; each theorem states its own.
  What is proved here: how a register that is wrong is mended by one that was wrong before (no program in sight). Conditions: none; each theorem states its own.
  What is proved here: bits in words (no program in sight). Conditions: none; each theorem states its own.
  What is proved here: which bits are valid. Conditions: none; each contract states its own.
  What is proved here: which bits a register makes. Conditions: none; each contract states its own.
  What is proved here: which registers and proofs are right. Conditions: none; each contract states its own.
  What is proved here: the reference: whether there are taps of a length. Conditions: none; each contract states its own.
  What is proved here: the reference: the complexity of bits, and of their beginnings. Conditions: none; each contract states its own.
  What is proved here: polynomials in words. Conditions: none; each contract states its own.
  What is proved here: the sum of polynomials. Conditions: none; each contract states its own.
  What is proved here: the finder's taps, and whether they meet a bit. Conditions: none; each contract states its own.
-/
import Derived.Test.YtingkbglkaojdaaM2
import Derived.Test.YtingkbglkaojdaaChecked
import Derived.KernelRfl
import Derived.ProofKit
import Derived.Test.YtingkbglkaojdaaM20
set_option linter.unusedVariables false
set_option linter.unusedSimpArgs false
namespace Go.Proofs.Ytingkbglkaojdaa
open Go Go.TH
def tyList : List TI := [⟨.none, 0, none⟩,
  ⟨.one, 1, some (.nilFunc)⟩,
  ⟨.int .i64, 1, some (.int .i64 0)⟩,
  ⟨.int .i64, 1, some (.int .i64 0)⟩,
  ⟨.one, 1, some (.bool false)⟩,
  ⟨.int .u8, 1, some (.int .u8 0)⟩,
  ⟨.int .u8, 1, some (.int .u8 0)⟩,
  ⟨.st [(0, 2), (1, 3), (2, 4), (3, 6)], 4, some (.agg #[.int .i64 0, .int .i64 0, .bool false, .int .u8 0])⟩,
  ⟨.st [(0, 2), (1, 3), (2, 4), (3, 6)], 4, some (.agg #[.int .i64 0, .int .i64 0, .bool false, .int .u8 0])⟩,
  ⟨.none, 0, none⟩,
  ⟨.none, 0, none⟩,
  ⟨.none, 0, none⟩,
  ⟨.int .u64, 1, some (.int .u64 0)⟩,
  ⟨.st [(0, 9), (1, 12)], 2, none⟩,
  ⟨.st [(0, 9), (1, 12)], 2, none⟩,
  ⟨.one, 1, some (.pointer none)⟩,
  ⟨.one, 1, some (.pointer none)⟩,
  ⟨.one, 1, some (.pointer none)⟩,
  ⟨.st [(0, 17)], 1, some (.agg #[.pointer none])⟩,
  ⟨.st [(0, 17)], 1, some (.agg #[.pointer none])⟩,
  ⟨.one, 1, some (.nilIface)⟩,
  ⟨.int .i32, 1, some (.int .i32 0)⟩,
  ⟨.sl 3 1 8, 1, some (.slice none 0 0)⟩,
  ⟨.one, 1, some (.nilFunc)⟩,
  ⟨.int .i64, 1, some (.int .i64 0)⟩,
  ⟨.none, 0, none⟩,
  ⟨.one, 1, some (.nilFunc)⟩,
  ⟨.one, 1, some (.nilFunc)⟩,
  ⟨.one, 1, some (.nilFunc)⟩,
  ⟨.one, 1, some (.nilFunc)⟩,
  ⟨.none, 0, none⟩,
  ⟨.one, 1, some (.nilFunc)⟩,
  ⟨.sl 22 1 24, 1, some (.slice none 0 0)⟩,
  ⟨.none, 0, none⟩,
  ⟨.one, 1, some (.nilFunc)⟩,
  ⟨.one, 1, some (.nilFunc)⟩,
  ⟨.one, 1, some (.nilFunc)⟩,
  ⟨.one, 1, some (.nilFunc)⟩,
  ⟨.one, 1, some (.nilFunc)⟩,
  ⟨.one, 1, some (.nilFunc)⟩,
  ⟨.one, 1, some (.nilFunc)⟩,
  ⟨.one, 1, some (.nilFunc)⟩,
  ⟨.one, 1, some (.nilFunc)⟩,
  ⟨.one, 1, some (.nilFunc)⟩,
  ⟨.st [(0, 22), (1, 3)], 2, some (.agg #[.slice none 0 0, .int .i64 0])⟩,
  ⟨.st [(0, 22), (1, 3)], 2, some (.agg #[.slice none 0 0, .int .i64 0])⟩,
  ⟨.one, 1, some (.nilFunc)⟩,
  ⟨.none, 0, none⟩,
  ⟨.one, 1, some (.nilFunc)⟩,
  ⟨.one, 1, some (.nilFunc)⟩,
  ⟨.one, 1, some (.nilFunc)⟩,
  ⟨.one, 1, some (.nilFunc)⟩,
  ⟨.one, 1, some (.nilFunc)⟩,
  ⟨.int .u64, 1, some (.int .u64 0)⟩,
  ⟨.ar 3 53 1, 3, some (.agg #[.int .u64 0, .int .u64 0, .int .u64 0])⟩,
  ⟨.ar 3 53 1, 3, some (.agg #[.int .u64 0, .int .u64 0, .int .u64 0])⟩,
  ⟨.sl 80 3 40, 1, some (.slice none 0 0)⟩,
  ⟨.st [(0, 55), (3, 3), (4, 22), (5, 56)], 6, some (.agg #[.int .u64 0, .int .u64 0, .int .u64 0, .int .i64 0, .slice none 0 0, .slice none 0 0])⟩,
  ⟨.st [(0, 55), (3, 3), (4, 22), (5, 56)], 6, some (.agg #[.int .u64 0, .int .u64 0, .int .u64 0, .int .i64 0, .slice none 0 0, .slice none 0 0])⟩,
  ⟨.one, 1, some (.pointer none)⟩,
  ⟨.one, 1, some (.nilFunc)⟩,
  ⟨.one, 1, some (.nilFunc)⟩,
  ⟨.int .u32, 1, some (.int .u32 0)⟩,
  ⟨.st [(0, 62), (1, 3)], 2, some (.agg #[.int .u32 0, .int .i64 0])⟩,
  ⟨.st [(0, 62), (1, 3)], 2, some (.agg #[.int .u32 0, .int .i64 0])⟩,
  ⟨.one, 1, some (.nilFunc)⟩,
  ⟨.st [(0, 62)], 1, some (.agg #[.int .u32 0])⟩,
  ⟨.st [(0, 62)], 1, some (.agg #[.int .u32 0])⟩,
  ⟨.one, 1, some (.nilFunc)⟩,
  ⟨.one, 1, some (.nilFunc)⟩,
  ⟨.one, 1, some (.nilFunc)⟩,
  ⟨.one, 1, some (.map none)⟩,
  ⟨.one, 1, some (.nilFunc)⟩,
  ⟨.one, 1, some (.nilFunc)⟩,
  ⟨.one, 1, some (.pointer none)⟩,
  ⟨.one, 1, some (.nilFunc)⟩,
  ⟨.one, 1, some (.nilFunc)⟩,
  ⟨.one, 1, some (.nilFunc)⟩,
  ⟨.one, 1, some (.nilFunc)⟩,
  ⟨.st [(0, 45), (2, 3)], 3, some (.agg #[.slice none 0 0, .int .i64 0, .int .i64 0])⟩,
  ⟨.st [(0, 45), (2, 3)], 3, some (.agg #[.slice none 0 0, .int .i64 0, .int .i64 0])⟩,
  ⟨.one, 1, some (.nilFunc)⟩,
  ⟨.one, 1, some (.nilFunc)⟩,
  ⟨.one, 1, some (.nilFunc)⟩,
  ⟨.one, 1, some (.nilFunc)⟩,
  ⟨.one, 1, some (.nilFunc)⟩,
  ⟨.one, 1, some (.nilFunc)⟩,
  ⟨.one, 1, some (.nilFunc)⟩,
  ⟨.int .u64, 1, some (.int .u64 0)⟩,
  ⟨.st [(0, 22), (1, 22)], 2, some (.agg #[.slice none 0 0, .slice none 0 0])⟩,
  ⟨.st [(0, 22), (1, 22)], 2, some (.agg #[.slice none 0 0, .slice none 0 0])⟩,
  ⟨.one, 1, some (.nilFunc)⟩,
  ⟨.sl 55 3 24, 1, some (.slice none 0 0)⟩,
  ⟨.one, 1, some (.nilFunc)⟩,
  ⟨.st [(0, 17), (1, 17), (2, 17), (3, 9)], 4, none⟩,
  ⟨.st [(0, 17), (1, 17), (2, 17), (3, 9)], 4, none⟩,
  ⟨.none, 0, none⟩,
  ⟨.none, 0, none⟩,
  ⟨.none, 0, none⟩,
  ⟨.one, 1, some (.nilFunc)⟩,
  ⟨.int .u8, 1, some (.int .u8 0)⟩,
  ⟨.int .u8, 1, some (.int .u8 0)⟩,
  ⟨.one, 1, some (.nilFunc)⟩,
  ⟨.one, 1, some (.pointer none)⟩,
  ⟨.int .i32, 1, some (.int .i32 0)⟩,
  ⟨.int .i32, 1, some (.int .i32 0)⟩,
  ⟨.st [(0, 12), (1, 12), (2, 62), (3, 100), (4, 5), (5, 5), (6, 101), (7, 102), (8, 103), (9, 104), (10, 105)], 11, some (.agg #[.int .u64 0, .int .u64 0, .int .u32 0, .int .u8 0, .int .u8 0, .int .u8 0, .int .u8 0, .nilFunc, .pointer none, .int .i32 0, .int .i32 0])⟩,
  ⟨.st [(0, 12), (1, 12), (2, 62), (3, 100), (4, 5), (5, 5), (6, 101), (7, 102), (8, 103), (9, 104), (10, 105)], 11, some (.agg #[.int .u64 0, .int .u64 0, .int .u32 0, .int .u8 0, .int .u8 0, .int .u8 0, .int .u8 0, .nilFunc, .pointer none, .int .i32 0, .int .i32 0])⟩,
  ⟨.none, 0, none⟩]
theorem ty_ok : (tyList.zipIdx.all fun (ti, T) => tiChk Try.prog T ti) = true := by kernel_rfl
def tyTab : TTab Try.prog := ⟨tyList, ty_ok⟩
theorem mixed : Try.prog.follows .mixedOrders = true := by kernel_rfl
end Go.Proofs.Ytingkbglkaojdaa
namespace Go.TH.Wv
/-- a sum of n numbers -/
def sm : Nat → (Nat → Int) → Int
  | 0, _ => 0
  | n + 1, f => sm n f + f n
theorem sm_congr {n : Nat} {f g : Nat → Int} (h : ∀ i, i < n → f i = g i) : sm n f = sm n g := by
  induction n with
  | zero => rfl
  | succ n ih => unfold sm; rw [ih (fun i hi => h i (by omega)), h n (by omega)]
theorem sm_zero {n : Nat} {f : Nat → Int} (h : ∀ i, i < n → f i = 0) : sm n f = 0 := by
  induction n with
  | zero => rfl
  | succ n ih => unfold sm; rw [ih (fun i hi => h i (by omega)), h n (by omega)]; rfl
theorem sm_add (n : Nat) (f g : Nat → Int) : sm n (fun i => f i + g i) = sm n f + sm n g := by
  induction n with
  | zero => rfl
  | succ n ih =>
    show sm n (fun i => f i + g i) + (f n + g n) = (sm n f + f n) + (sm n g + g n)
    rw [ih]; omega
theorem sm_mul (n : Nat) (c : Int) (f : Nat → Int) : sm n (fun i => c * f i) = c * sm n f := by
  induction n with
  | zero => unfold sm; omega
  | succ n ih => unfold sm; rw [ih, Int.mul_add]
theorem sm_mul' (n : Nat) (c : Int) (f : Nat → Int) : sm n (fun i => f i * c) = sm n f * c := by
  rw [Int.mul_comm, ← sm_mul]; exact sm_congr fun i _ => Int.mul_comm _ _
theorem sm_swap (n m : Nat) (f : Nat → Nat → Int) : sm n (fun i => sm m (fun j => f i j)) = sm m (fun j => sm n (fun i => f i j)) := by
  induction n with
  | zero => exact (sm_zero fun i _ => rfl).symm
  | succ n ih =>
    show sm n (fun i => sm m (fun j => f i j)) + sm m (fun j => f n j) = _
    rw [ih, ← sm_add]; rfl
theorem sm_split (a b : Nat) (f : Nat → Int) : sm (a + b) f = sm a f + sm b (fun j => f (a + j)) := by
  induction b with
  | zero => simp [sm]
  | succ b ih =>
    show sm (a + b) f + f (a + b) = sm a f + (sm b (fun j => f (a + j)) + f (a + b))
    rw [ih]; omega
/-- equal modulo 2 -/
def Eq2 (a b : Int) : Prop := a % 2 = b % 2
theorem Eq2.rfl' {a : Int} : Eq2 a a := rfl
theorem Eq2.symm {a b : Int} (h : Eq2 a b) : Eq2 b a := Eq.symm h
theorem Eq2.trans {a b c : Int} (h : Eq2 a b) (h' : Eq2 b c) : Eq2 a c := Eq.trans h h'
theorem Eq2.add {a b c d : Int} (h : Eq2 a b) (h' : Eq2 c d) : Eq2 (a + c) (b + d) := by unfold Eq2 at *; omega
theorem Eq2.mul {a b : Int} (c : Int) (h : Eq2 a b) : Eq2 (c * a) (c * b) := by
  unfold Eq2 at *; rw [Int.mul_emod, h, ← Int.mul_emod]
theorem Eq2.of_eq {a b : Int} (h : a = b) : Eq2 a b := by subst h; rfl
theorem Eq2.mod (a : Int) : Eq2 (a % 2) a := by unfold Eq2; omega
theorem Eq2.bits {a b : Int} (ha : a = 0 ∨ a = 1) (hb : b = 0 ∨ b = 1) (h : Eq2 a b) : a = b := by unfold Eq2 at h; omega
theorem sm_eq2 {n : Nat} {f g : Nat → Int} (h : ∀ i, i < n → Eq2 (f i) (g i)) : Eq2 (sm n f) (sm n g) := by
  induction n with
  | zero => rfl
  | succ n ih => exact (ih fun i hi => h i (by omega)).add (h n (by omega))
/-! ### registers: c holds L taps, s is what it makes -/
/-- what a register makes at i -/
def pre (c : Nat → Int) (L : Nat) (s : Nat → Int) (i : Nat) : Int := sm L fun j => c j * s (i - 1 - j)
/-- a register makes the first n bits -/
def Mk (c : Nat → Int) (L : Nat) (s : Nat → Int) (n : Nat) : Prop := ∀ i, L ≤ i → i < n → Eq2 (pre c L s i) (s i)
theorem Mk.le {c : Nat → Int} {L n m : Nat} {s : Nat → Int} (h : Mk c L s n) (hm : m ≤ n) : Mk c L s m := fun i h1 h2 => h i h1 (by omega)
theorem Mk.short {c : Nat → Int} {L n : Nat} {s : Nat → Int} (h : n ≤ L) : Mk c L s n := fun i h1 h2 => by omega
theorem Mk.congr {c c' : Nat → Int} {L n : Nat} {s s' : Nat → Int} (h : Mk c L s n) (hc : ∀ j, j < L → c j = c' j) (hs : ∀ i, i < n → s i = s' i) : Mk c' L s' n := fun i h1 h2 => by
  have := h i h1 h2
  have e : pre c L s i = pre c' L s' i := sm_congr fun j hj => by rw [hc j hj, hs (i - 1 - j) (by omega)]
  rw [e, hs i h2] at this; exact this
/-- two registers that make some bits make the same next one -/
theorem next_same {c c' : Nat → Int} {L L' n : Nat} {s : Nat → Int} (h : Mk c L s n) (h' : Mk c' L' s n) (hn : L + L' ≤ n) : Eq2 (pre c L s n) (pre c' L' s n) := by
  have e1 : Eq2 (pre c L s n) (sm L fun i => c i * sm L' fun j => c' j * s (n - 1 - i - 1 - j)) := sm_eq2 fun i hi => (h' (n - 1 - i) (by omega) (by omega)).symm.mul _
  have e2 : Eq2 (pre c' L' s n) (sm L' fun j => c' j * sm L fun i => c i * s (n - 1 - j - 1 - i)) := sm_eq2 fun j hj => (h (n - 1 - j) (by omega) (by omega)).symm.mul _
  refine e1.trans (Eq2.trans (Eq2.of_eq ?_) e2.symm)
  have a1 : (sm L fun i => c i * sm L' fun j => c' j * s (n - 1 - i - 1 - j)) = sm L fun i => sm L' fun j => c i * (c' j * s (n - 1 - i - 1 - j)) := sm_congr fun i _ => (sm_mul _ _ _).symm
  have a2 : (sm L' fun j => c' j * sm L fun i => c i * s (n - 1 - j - 1 - i)) = sm L' fun j => sm L fun i => c' j * (c i * s (n - 1 - j - 1 - i)) := sm_congr fun j _ => (sm_mul _ _ _).symm
  rw [a1, a2, sm_swap]
  refine sm_congr fun j hj => sm_congr fun i hi => ?_
  rw [show n - 1 - i - 1 - j = n - 1 - j - 1 - i by omega]
  rw [← Int.mul_assoc, ← Int.mul_assoc, Int.mul_comm (c i)]
/-- where a register is wrong, no other one that is right is short -/
theorem massey {c c' : Nat → Int} {L L' n : Nat} {s : Nat → Int} (h : Mk c L s n) (hL : L ≤ n) (hw : ¬ Eq2 (pre c L s n) (s n)) (h' : Mk c' L' s (n + 1)) : n + 1 ≤ L + L' := by
  rcases Nat.lt_or_ge n (L + L') with g | g
  · omega
  · exact absurd ((next_same h (h'.le (by omega)) g).trans (h' n (by omega) (by omega))) hw
end Go.TH.Wv
namespace Go.TH.Wv
/-- c solves an equation: n unknown numbers, and what their sum is -/
def Sat (n : Nat) (c r : Nat → Int) : Prop := Eq2 (sm n fun j => c j * r j) (r n)
theorem Sat.congr {n : Nat} {c r r' : Nat → Int} (h : ∀ j, j ≤ n → Eq2 (r j) (r' j)) : Sat n c r ↔ Sat n c r' := by
  have e : Eq2 (sm n fun j => c j * r j) (sm n fun j => c j * r' j) := sm_eq2 fun j hj => (h j (by omega)).mul _
  have e2 := h n (by omega)
  exact ⟨fun g => e.symm.trans (g.trans e2), fun g => e.trans (g.trans e2.symm)⟩
theorem sat_add {n : Nat} {c r q : Nat → Int} (hq : Sat n c q) : Sat n c (fun j => r j + q j) ↔ Sat n c r := by
  have e : (sm n fun j => c j * (r j + q j)) = sm n (fun j => c j * r j) + sm n fun j => c j * q j := by
    rw [← sm_add]; exact sm_congr fun j _ => Int.mul_add _ _ _
  unfold Sat at *
  simp only [e]
  unfold Eq2 at *
  omega
theorem sm_upd {n p : Nat} {c r : Nat → Int} : sm n (fun i => (if i = p then c i + 1 else c i) * r i) = sm n (fun i => c i * r i) + if p < n then r p else 0 := by
  induction n with
  | zero => rfl
  | succ n ih =>
    show sm n _ + _ = (sm n _ + _) + _
    rw [ih]
    dsimp only
    by_cases h : n = p
    · subst h
      rw [if_pos rfl, if_neg (by omega), if_pos (by omega), Int.add_mul]; omega
    · rw [if_neg h]
      by_cases h2 : p < n
      · rw [if_pos h2, if_pos (by omega)]; omega
      · rw [if_neg h2, if_neg (by omega)]; omega
/-- a row that is done: it says nothing, or it has an unknown number that no later row has -/
def Done (n N : Nat) (R : Nat → Nat → Int) (j : Nat) : Prop := (∀ i, i ≤ n → Eq2 (R j i) 0) ∨ ∃ p, p < n ∧ Eq2 (R j p) 1 ∧ ∀ m, j < m → m < N → Eq2 (R m p) 0
theorem exists_sol {N n : Nat} {R : Nat → Nat → Int} (h : ∀ j, j < N → Done n N R j) : ∃ c, ∀ j, j < N → Sat n c (R j) := by
  have key : ∀ d, d ≤ N → ∃ c, ∀ m, N - d ≤ m → m < N → Sat n c (R m) := fun d => by
    induction d with
    | zero => exact fun _ => ⟨fun _ => 0, fun m h1 h2 => by omega⟩
    | succ d ih =>
      intro hd
      obtain ⟨c, hc⟩ := ih (by omega)
      have ext : ∀ c', Sat n c' (R (N - (d + 1))) → (∀ m, N - d ≤ m → m < N → Sat n c' (R m)) → ∃ c, ∀ m, N - (d + 1) ≤ m → m < N → Sat n c (R m) := fun c' g1 g2 => ⟨c', fun m h1 h2 => by
        rcases Nat.lt_or_ge m (N - d) with g | g
        · rw [show m = N - (d + 1) by omega]; exact g1
        · exact g2 m g h2⟩
      rcases h (N - (d + 1)) (by omega) with h0 | ⟨p, hp, h1, h2⟩
      · refine ext c ?_ hc
        have e : Eq2 (sm n fun j => c j * R (N - (d + 1)) j) (sm n fun _ => 0) := sm_eq2 fun j hj => by
          have := (h0 j (by omega)).mul (c j)
          rwa [Int.mul_zero] at this
        rw [sm_zero (f := fun _ => 0) fun _ _ => rfl] at e
        exact e.trans (h0 n (by omega)).symm
      · by_cases hs : Sat n c (R (N - (d + 1)))
        · exact ext c hs hc
        · refine ext (fun i => if i = p then c i + 1 else c i) ?_ fun m g1 g2 => ?_
          · unfold Sat at hs ⊢
            rw [sm_upd, if_pos hp]
            unfold Eq2 at *
            omega
          · have := hc m g1 g2
            have h3 := h2 m (by omega) g2
            unfold Sat at this ⊢
            rw [sm_upd, if_pos hp]
            unfold Eq2 at *
            omega
  obtain ⟨c, hc⟩ := key N (by omega)
  exact ⟨c, fun j hj => hc j (by omega) hj⟩
/-- a row that cannot be met -/
theorem no_sol {n : Nat} {c r : Nat → Int} (h : ∀ j, j < n → Eq2 (r j) 0) (hn : Eq2 (r n) 1) : ¬ Sat n c r := fun hs => by
  have e : Eq2 (sm n fun j => c j * r j) (sm n fun _ => 0) := sm_eq2 fun j hj => by
    have := (h j hj).mul (c j)
    rwa [Int.mul_zero] at this
  rw [sm_zero (f := fun _ => 0) fun _ _ => rfl] at e
  have := e.symm.trans (hs.trans hn)
  unfold Eq2 at this; omega
/-- there are taps of a length that make some bits -/
def Sol (L : Nat) (s : Nat → Int) (n : Nat) : Prop := ∃ c, Mk c L s n
/-- the equation of a bit -/
def row (L : Nat) (s : Nat → Int) (i j : Nat) : Int := if j < L then s (i - 1 - j) else s i
theorem sat_row {L : Nat} {c s : Nat → Int} {i : Nat} : Sat L c (row L s i) ↔ Eq2 (pre c L s i) (s i) := by
  unfold Sat pre
  have e : (sm L fun j => c j * row L s i j) = sm L fun j => c j * s (i - 1 - j) := sm_congr fun j hj => by unfold row; rw [if_pos hj]
  rw [e]
  have e2 : row L s i L = s i := by unfold row; rw [if_neg (by omega)]
  rw [e2]
theorem sol_iff {L n : Nat} {s : Nat → Int} : Sol L s n ↔ ∃ c, ∀ k, k < n - L → Sat L c (row L s (L + k)) := by
  unfold Sol Mk
  constructor
  · rintro ⟨c, h⟩
    exact ⟨c, fun k hk => sat_row.2 (h (L + k) (by omega) (by omega))⟩
  · rintro ⟨c, h⟩
    refine ⟨c, fun i h1 h2 => ?_⟩
    have := sat_row.1 (h (i - L) (by omega))
    rwa [show L + (i - L) = i by omega] at this
theorem Sol.mono {L n : Nat} {s : Nat → Int} (h : Sol L s n) : Sol (L + 1) s n := by
  obtain ⟨c, hc⟩ := h
  refine ⟨fun j => if j < L then c j else 0, fun i h1 h2 => ?_⟩
  have := hc i (by omega) h2
  have e : pre (fun j => if j < L then c j else 0) (L + 1) s i = pre c L s i := by
    show sm L _ + _ = _
    dsimp only
    rw [if_neg (Nat.lt_irrefl L)]
    have : sm L (fun j => (if j < L then c j else 0) * s (i - 1 - j)) = pre c L s i := sm_congr fun j hj => by rw [if_pos hj]
    rw [this]; omega
  rw [e]; exact this
theorem Sol.up {L L' n : Nat} {s : Nat → Int} (h : Sol L s n) (hl : L ≤ L') : Sol L' s n := by
  induction L' with
  | zero => rw [show L = 0 by omega] at h; exact h
  | succ m ih =>
    rcases Nat.lt_or_ge m L with g | g
    · rw [show m + 1 = L by omega]; exact h
    · exact (ih g).mono
theorem Sol.all {L n : Nat} {s : Nat → Int} (h : n ≤ L) : Sol L s n := ⟨fun _ => 0, Mk.short h⟩
end Go.TH.Wv
namespace Go.TH.Wv
theorem sm_front (n : Nat) (f : Nat → Int) : sm (n + 1) f = f 0 + sm n (fun j => f (j + 1)) := by
  have h := sm_split 1 n f
  rw [Nat.add_comm] at h
  rw [h]
  have e : sm 1 f = f 0 := by show (0 : Int) + f 0 = f 0; omega
  rw [e]
  congr 1
  exact sm_congr fun j _ => by rw [Nat.add_comm]
/-- the sum of a polynomial's terms at i -/
def fu (c : Nat → Int) (L : Nat) (s : Nat → Int) (i : Nat) : Int := sm (L + 1) fun j => c j * s (i - j)
theorem fu_pre {c : Nat → Int} {L i : Nat} {s : Nat → Int} (h0 : c 0 = 1) : fu c L s i = s i + pre (fun j => c (j + 1)) L s i := by
  unfold fu pre
  rw [sm_front, h0]
  congr 1
  · rw [Int.one_mul]; rfl
  · exact sm_congr fun j _ => by rw [show i - (j + 1) = i - 1 - j by omega]
theorem fu_right {c : Nat → Int} {L i : Nat} {s : Nat → Int} (h0 : c 0 = 1) : Eq2 (fu c L s i) 0 ↔ Eq2 (pre (fun j => c (j + 1)) L s i) (s i) := by
  rw [fu_pre h0]
  unfold Eq2
  constructor <;> intro h <;> omega
/-- terms that are 0 do not matter -/
theorem fu_up {c : Nat → Int} {L L' i : Nat} {s : Nat → Int} (h : L ≤ L') (hz : ∀ j, L < j → c j = 0) : fu c L' s i = fu c L s i := by
  unfold fu
  have e : L' + 1 = (L + 1) + (L' - L) := by omega
  rw [e, sm_split, sm_zero (n := L' - L), Int.add_zero]
  intro j _
  rw [hz _ (by omega), Int.zero_mul]
/-- a polynomial that is moved -/
def mv (c : Nat → Int) (a j : Nat) : Int := if a ≤ j then c (j - a) else 0
theorem fu_mv {c : Nat → Int} {L a i : Nat} {s : Nat → Int} : fu (mv c a) (a + L) s i = fu c L s (i - a) := by
  unfold fu
  rw [show a + L + 1 = a + (L + 1) by omega, sm_split, sm_zero (n := a), Int.zero_add]
  · exact sm_congr fun j _ => by
      unfold mv
      rw [if_pos (by omega), show a + j - a = j by omega, show i - (a + j) = i - a - j by omega]
  · intro j hj; unfold mv; rw [if_neg (by omega), Int.zero_mul]
theorem fu_add {c d : Nat → Int} {L i : Nat} {s : Nat → Int} : fu (fun j => c j + d j) L s i = fu c L s i + fu d L s i := by
  unfold fu; rw [← sm_add]; exact sm_congr fun j _ => Int.add_mul _ _ _
theorem fu_eq2 {c d : Nat → Int} {L i : Nat} {s : Nat → Int} (h : ∀ j, Eq2 (c j) (d j)) : Eq2 (fu c L s i) (fu d L s i) := sm_eq2 fun j _ => by
  have := (h j).mul (s (i - j))
  rw [Int.mul_comm, Int.mul_comm (s (i - j))] at this
  exact this
/-- a polynomial of a register: its 0th term is 1, it has none above L -/
structure Pol (c : Nat → Int) (L : Nat) : Prop where
  one : c 0 = 1
  zero : ∀ j, L < j → c j = 0
  bit : ∀ j, c j = 0 ∨ c j = 1
/-- the sum, modulo 2 -/
def xo (c d : Nat → Int) (j : Nat) : Int := (c j + d j) % 2
/-- mended -/
theorem mend {C B : Nat → Int} {L lb L' a n : Nat} {s : Nat → Int} (hC : Pol C L) (hB : Pol B lb) (ha : 0 < a) (h1 : L ≤ L') (h2 : a + lb ≤ L') : Pol (xo C (mv B a)) L' ∧ ∀ i, Eq2 (fu (xo C (mv B a)) L' s i) (fu C L s i + fu B lb s (i - a)) := by
  refine ⟨⟨?_, fun j hj => ?_, fun j => ?_⟩, fun i => ?_⟩
  · unfold xo mv; rw [if_neg (by omega), hC.one]; rfl
  · unfold xo mv
    rw [hC.zero j (by omega)]
    split
    · rw [hB.zero _ (by omega)]; rfl
    · rfl
  · unfold xo; omega
  · have e1 : Eq2 (fu (xo C (mv B a)) L' s i) (fu (fun j => C j + mv B a j) L' s i) := fu_eq2 fun j => Eq2.mod _
    have hz : ∀ j, a + lb < j → mv B a j = 0 := fun j hj => by
      unfold mv
      split
      · exact hB.zero _ (by omega)
      · rfl
    have e2 : fu (mv B a) L' s i = fu B lb s (i - a) := by rw [fu_up h2 hz, fu_mv]
    rw [fu_add, fu_up h1 hC.zero, e2] at e1
    exact e1
/-- a register of a polynomial makes bits -/
def MkP (c : Nat → Int) (L : Nat) (s : Nat → Int) (n : Nat) : Prop := ∀ i, L ≤ i → i < n → Eq2 (fu c L s i) 0
theorem mkP_iff {c : Nat → Int} {L n : Nat} {s : Nat → Int} (h0 : c 0 = 1) : MkP c L s n ↔ Mk (fun j => c (j + 1)) L s n :=
  ⟨fun h i h1 h2 => (fu_right h0).1 (h i h1 h2), fun h i h1 h2 => (fu_right h0).2 (h i h1 h2)⟩
/-- what is known while the bits are looked at, one after another -/
structure Bm (C B : Nat → Int) (L a n : Nat) (s : Nat → Int) : Prop where
  pol : Pol C L
  le : L ≤ n
  mkp : MkP C L s n
  apos : 0 < a
  old : (L = 0 ∧ a = n + 1 ∧ B = fun j => if j = 0 then 1 else 0) ∨ ∃ lb, Pol B lb ∧ a ≤ n ∧ lb ≤ n - a ∧ L + lb = n - a + 1 ∧ MkP B lb s (n - a) ∧ ¬ Eq2 (fu B lb s (n - a)) 0
theorem pol_one : Pol (fun j => if j = 0 then (1 : Int) else 0) 0 := ⟨rfl, fun j hj => if_neg (by omega), fun j => by by_cases h : j = 0 <;> simp [h]⟩
theorem Bm.start (s : Nat → Int) : Bm (fun j => if j = 0 then 1 else 0) (fun j => if j = 0 then 1 else 0) 0 1 0 s :=
  ⟨pol_one, by omega, fun i h1 h2 => by omega, by omega, .inl ⟨rfl, rfl, rfl⟩⟩
/-- the register is right -/
theorem Bm.ok {C B : Nat → Int} {L a n : Nat} {s : Nat → Int} (h : Bm C B L a n s) (hr : Eq2 (fu C L s n) 0) : Bm C B L (a + 1) (n + 1) s := by
  refine ⟨h.pol, by have := h.le; omega, fun i h1 h2 => ?_, by omega, ?_⟩
  · rcases Nat.lt_or_ge i n with g | g
    · exact h.mkp i h1 g
    · rw [show i = n by omega]; exact hr
  · rcases h.old with ⟨h1, h2, h3⟩ | ⟨lb, h1, h2, h3, h4, h5, h6⟩
    · exact .inl ⟨h1, by omega, h3⟩
    · rw [show n - a = n + 1 - (a + 1) by omega] at h3 h4 h5 h6
      exact .inr ⟨lb, h1, by omega, h3, h4, h5, h6⟩
/-- the register is wrong: it is mended -/
theorem Bm.fix {C B : Nat → Int} {L a n L' : Nat} {s : Nat → Int} (h : Bm C B L a n s) (hw : ¬ Eq2 (fu C L s n) 0) (h1 : L ≤ L') (h2 : n + 1 - L ≤ L') : Pol (xo C (mv B a)) L' ∧ MkP (xo C (mv B a)) L' s (n + 1) := by
  have hle := h.le
  rcases h.old with ⟨g1, g2, g3⟩ | ⟨lb, g1, g2, g3, g4, g5, g6⟩
  · subst g3
    obtain ⟨hp, _⟩ := mend (n := n) (s := s) (L' := L') h.pol pol_one h.apos h1 (by omega)
    exact ⟨hp, fun i h1 h2 => by omega⟩
  · obtain ⟨hp, hf⟩ := mend (n := n) (s := s) (L' := L') h.pol g1 h.apos h1 (by omega)
    refine ⟨hp, fun i q1 q2 => (hf i).trans ?_⟩
    rcases Nat.lt_or_ge i n with g | g
    · have e1 := h.mkp i (by omega) g
      have e2 := g5 (i - a) (by omega) (by omega)
      exact e1.add e2
    · rw [show i = n by omega]
      unfold Eq2 at *
      omega
end Go.TH.Wv
namespace Go.TH.Wv
/-- a word of bits -/
def wd (p k : Nat) : Nat := (p >>> (64 * k)) % 2 ^ 64
theorem wd_bit (p k r : Nat) : (wd p k).testBit r = (decide (r < 64) && p.testBit (64 * k + r)) := by
  unfold wd; rw [Nat.testBit_mod_two_pow, Nat.testBit_shiftRight]
theorem wd_lt (p k : Nat) : wd p k < 2 ^ 64 := Nat.mod_lt _ (by decide)
theorem one_bit (i j : Nat) : (1 <<< i).testBit j = decide (i = j) := by
  rw [Nat.shiftLeft_eq, Nat.one_mul, Nat.testBit_two_pow]
theorem wd_get {p i : Nat} : (wd p (i / 64) >>> (i % 64)) &&& 1 = if p.testBit i then 1 else 0 := by
  have h1 : i % 64 < 64 := Nat.mod_lt _ (by decide)
  have h2 := Nat.div_add_mod i 64
  have e : (wd p (i / 64)).testBit (i % 64) = p.testBit i := by
    rw [wd_bit]; simp [h1, h2]
  rw [Nat.and_one_is_mod, Nat.shiftRight_eq_div_pow, ← e, Nat.testBit_eq_decide_div_mod_eq]
  have := Nat.mod_two_eq_zero_or_one (wd p (i / 64) / 2 ^ (i % 64))
  rcases this with g | g <;> simp [g]
theorem wd_or (p q k : Nat) : wd (p ||| q) k = wd p k ||| wd q k := by
  refine Nat.eq_of_testBit_eq fun r => ?_
  rw [wd_bit, Nat.testBit_or, Nat.testBit_or, wd_bit, wd_bit]
  cases decide (r < 64) <;> simp
theorem wd_and (p q k : Nat) : wd (p &&& q) k = wd p k &&& wd q k := by
  refine Nat.eq_of_testBit_eq fun r => ?_
  rw [wd_bit, Nat.testBit_and, Nat.testBit_and, wd_bit, wd_bit]
  cases decide (r < 64) <;> simp
theorem wd_xor (p q k : Nat) : wd (p ^^^ q) k = wd p k ^^^ wd q k := by
  refine Nat.eq_of_testBit_eq fun r => ?_
  rw [wd_bit, Nat.testBit_xor, Nat.testBit_xor, wd_bit, wd_bit]
  cases decide (r < 64) <;> simp
theorem wd_one (i k : Nat) : wd (1 <<< i) k = if k = i / 64 then 1 <<< (i % 64) else 0 := by
  refine Nat.eq_of_testBit_eq fun r => ?_
  have h2 := Nat.div_add_mod i 64
  have h1 : i % 64 < 64 := Nat.mod_lt _ (by decide)
  rw [wd_bit, one_bit]
  by_cases g : k = i / 64
  · rw [if_pos g, one_bit]
    by_cases g2 : i % 64 = r
    · have : i = 64 * k + r := by omega
      simp [g2, ← this]; omega
    · have : ¬ i = 64 * k + r := by omega
      simp [g2, this]
  · rw [if_neg g]
    by_cases g2 : r < 64
    · have : ¬ i = 64 * k + r := by omega
      simp [this]
    · simp [g2]
theorem wd_with (p i k : Nat) : wd (p ||| 1 <<< i) k = if k = i / 64 then wd p k ||| 1 <<< (i % 64) else wd p k := by
  rw [wd_or, wd_one]; split
  · rfl
  · simp
theorem wd_zero (k : Nat) : wd 0 k = 0 := by unfold wd; simp
/-- three words are all -/
theorem wd_ext {p q : Nat} (hp : p < 2 ^ 192) (hq : q < 2 ^ 192) (h : ∀ k, k < 3 → wd p k = wd q k) : p = q := by
  refine Nat.eq_of_testBit_eq fun i => ?_
  rcases Nat.lt_or_ge i 192 with g | g
  · have h1 : i % 64 < 64 := Nat.mod_lt _ (by decide)
    have h2 := Nat.div_add_mod i 64
    have e := congrArg (fun n => n.testBit (i % 64)) (h (i / 64) (by omega))
    simp only [wd_bit, h1, decide_true, Bool.true_and, h2] at e
    exact e
  · rw [Nat.testBit_lt_two_pow (Nat.lt_of_lt_of_le hp (Nat.pow_le_pow_right (by decide) g)), Nat.testBit_lt_two_pow (Nat.lt_of_lt_of_le hq (Nat.pow_le_pow_right (by decide) g))]
/-- moved -/
def sh (p a : Nat) : Nat := (p <<< a) % 2 ^ 192
theorem sh_lt (p a : Nat) : sh p a < 2 ^ 192 := Nat.mod_lt _ (by decide)
theorem sh_bit (p a i : Nat) : (sh p a).testBit i = (decide (i < 192) && (decide (a ≤ i) && p.testBit (i - a))) := by
  unfold sh; rw [Nat.testBit_mod_two_pow, Nat.testBit_shiftLeft]
/-- the coefficients -/
def cf (p j : Nat) : Int := if p.testBit j then 1 else 0
theorem cf_bit (p j : Nat) : cf p j = 0 ∨ cf p j = 1 := by unfold cf; split <;> simp
theorem cf_xor (p q j : Nat) : cf (p ^^^ q) j = (cf p j + cf q j) % 2 := by
  unfold cf; rw [Nat.testBit_xor]; cases p.testBit j <;> cases q.testBit j <;> simp
theorem cf_and (p q j : Nat) : cf (p &&& q) j = cf p j * cf q j := by
  unfold cf; rw [Nat.testBit_and]; cases p.testBit j <;> cases q.testBit j <;> simp
theorem cf_sh {p a j : Nat} (h : j < 192) : cf (sh p a) j = mv (cf p) a j := by
  unfold mv
  unfold cf; rw [sh_bit]
  by_cases g : a ≤ j <;> simp [h, g]
theorem cf_one (j : Nat) : cf 1 j = if j = 0 then 1 else 0 := by
  unfold cf
  have : Nat.testBit 1 j = decide (j = 0) := by
    have := one_bit 0 j
    rw [Nat.shiftLeft_zero] at this
    rw [this, decide_eq_decide]; exact eq_comm
  rw [this]; by_cases g : j = 0 <;> simp [g]
end Go.TH.Wv
namespace Go.Proofs.Ytingkbglkaojdaa
open Go Go.TH
attribute [local irreducible] W WO pt
set_option maxRecDepth 10000
set_option maxHeartbeats 1000000
theorem isSl_lit {a0 : Option Addr} {n c : Nat} (h : n ≤ 9223372036854775807) (h2 : 0 < n → ∃ b o, a0 = some ⟨b, o, none⟩) : IsSl (.slice a0 n c) n := ⟨h, a0, c, rfl, h2⟩
def OkB (x : Int) : Prop := x = 0 ∨ x = 1
instance (x : Int) : Decidable (OkB x) := by unfold OkB; infer_instance
def OkBs (l : List Int) : Prop := ∀ x ∈ l, OkB x
instance (l : List Int) : Decidable (OkBs l) := by unfold OkBs; infer_instance
/-- what CheckBits answers -/
def chkB (l : List Int) : Int := if 128 < l.length then 6 else if OkBs l then 0 else 3
def chk2 (a b : List Int) : Int := if chkB a ≠ 0 then chkB a else chkB b
def chkS (taps start : List Int) : Int := if chk2 taps start ≠ 0 then chk2 taps start else if start.length ≠ taps.length then 15 else 0
theorem chkB0 {l : List Int} : chkB l = 0 ↔ l.length ≤ 128 ∧ OkBs l := by
  unfold chkB
  by_cases h1 : 128 < l.length <;> by_cases h2 : OkBs l <;> simp [h1, h2] <;> omega
theorem chk20 {a b : List Int} : chk2 a b = 0 ↔ chkB a = 0 ∧ chkB b = 0 := by unfold chk2; split <;> omega
theorem chkS0 {a b : List Int} : chkS a b = 0 ↔ (chkB a = 0 ∧ chkB b = 0) ∧ b.length = a.length := by
  unfold chkS
  rw [← chk20]
  split
  · omega
  · split <;> omega
theorem ref_CheckBits (w : World) (v : Value) (l : List Int) (hR : RdF encI 1 w.heap.size w v l) : Ret Try.prog 34 [v].toArray w (.int .i64 (chkB l)) := by
  refine Ret.of mixed tyTab Try.func34 rfl rfl ?_
  replace hR : RdF encI 1 (fnCx mixed tyTab Try.f34.ntmps w).B (fnCx mixed tyTab Try.f34.ntmps w).w0 v l := hR
  have hle := hR.sl.le
  refine W.sreg ?_
  refine WO.p rfl rfl ?_
  refine WO.nil ?_
  refine W.seq ?_
  refine W.sreg ?_
  refine WO.p rfl rfl ?_
  refine' WO.len (n := _) rfl rfl ?hs rfl ?_
  case hs => (first | exact hR.sl)
  refine WO.p rfl rfl ?_
  refine WO.nil ?_
  refine W.cond_bl rfl (fun c1 => ?_) (fun c1 => ?_)
  · first
    | (exfalso; omega)
    | (refine W.sreg ?_
       refine WO.p rfl rfl ?_
       refine WO.nil ?_
       refine W.ret ?_
       refine fin.ret (Res.one rfl (RV.tmp rfl)) (congrArg (Value.int .i64) ?_)
       first | (unfold chkB; rw [if_pos (by omega)]; done) | (unfold chkB; rw [if_neg (by omega), if_neg (fun h => by have := h _ (getD_mem (show i < l.length by omega) 0); unfold OkB at this; omega)]; done) | (unfold chkB; rw [if_neg (by omega), if_pos (by rw [show i = l.length by omega, List.take_length] at hin; exact hin)]; done))
  · first
    | (exfalso; omega)
    | (refine W.skip ?_
       refine W.seq ?_
       refine W.sreg ?_
       refine WO.p rfl rfl ?_
       refine WO.nil ?_
       refine W.block ?_
       refine W.loop (fun (i : Nat) => i ≤ l.length ∧ OkBs (l.take i))
         (fun (i : Nat) => [(3, .int .i64 (i : Int)), (0, v)])
         (fun (i : Nat) => [])
         (fun (i : Nat) => l.length - i) 0
         (by exact ⟨by omega, fun x hx => by simp at hx⟩) ⟨rfl, rfl, trivial⟩ (by repeat (first | exact Sub.nil | refine Sub.cons (by repeat (first | exact Pick.head | apply Pick.tail)) ?_)) ?_
       rintro i ⟨hi, hin⟩
       refine W.seq ?_
       refine W.sreg ?_
       refine WO.p rfl rfl (WO.p rfl rfl ?_)
       refine' WO.len (n := _) rfl rfl ?hs rfl ?_
       case hs => (first | exact hR.sl)
       refine WO.p rfl rfl ?_
       refine WO.nil ?_
       refine W.cond_bl rfl (fun c2 => ?_) (fun c2 => ?_)
       · first
         | (exfalso; omega)
         | (refine W.skip ?_
            refine W.seq ?_
            refine W.block ?_
            refine W.sreg ?_
            refine WO.p rfl rfl (WO.p rfl rfl ?_)
            refine' WO.indexAddr (n := _) (i := _) rfl rfl rfl ?hs ?h1 rfl ?_
            case hs => (first | exact hR.sl)
            case h1 => (first | omega | (simp; omega))
            refine' WO.load (v := _) rfl rfl ?hc rfl ?_
            case hc => (first | (refine hR.cell0 (i := i) ?_ 0 ?_ <;> first | rfl | omega))
            refine WO.p rfl rfl (WO.p rfl rfl ?_)
            refine WO.guard_bl rfl rfl (fun c3 => ?_) (fun c3 => ?_)
            · first
              | (exfalso; omega)
              | (refine WO.pg rfl rfl rfl (WO.pg rfl rfl rfl (WO.go' rfl ?_))
                 refine' WO.indexAddr (n := _) (i := _) rfl rfl rfl ?hs ?h1 rfl ?_
                 case hs => (first | exact hR.sl)
                 case h1 => (first | omega | (simp; omega))
                 refine WO.go' rfl ?_
                 refine' WO.load (v := _) rfl rfl ?hc rfl ?_
                 case hc => (first | (refine hR.cell0 (i := i) ?_ 0 ?_ <;> first | rfl | omega))
                 refine WO.pg rfl rfl rfl (WO.p rfl rfl ?_)
                 refine WO.nil ?_
                 refine W.cond_bl rfl (fun c4 => ?_) (fun c4 => ?_)
                 · first
                   | (exfalso; omega)
                   | (refine W.sreg ?_
                      refine WO.p rfl rfl ?_
                      refine WO.nil ?_
                      refine W.ret ?_
                      refine fin.ret (Res.one rfl (RV.tmp rfl)) (congrArg (Value.int .i64) ?_)
                      first | (unfold chkB; rw [if_pos (by omega)]; done) | (unfold chkB; rw [if_neg (by omega), if_neg (fun h => by have := h _ (getD_mem (show i < l.length by omega) 0); unfold OkB at this; omega)]; done) | (unfold chkB; rw [if_neg (by omega), if_pos (by rw [show i = l.length by omega, List.take_length] at hin; exact hin)]; done))
                 · first
                   | (exfalso; omega)
                   | (refine W.skip ?_
                      refine W.region ?_
                      refine WO.p rfl rfl (WO.ar rfl rfl rfl (by (first | (unfold in64; omega) | (unfold in64; omega))) rfl (WO.p rfl rfl ?_))
                      refine WO.nil ?_
                      refine' ⟨i + 1, ?hp, ?hmu, ⟨rfl, rfl, trivial⟩, ?hS⟩
                      case hS => repeat (first | exact Sub.nil | refine Sub.cons (by repeat (first | exact Pick.head | apply Pick.tail)) ?_)
                      case hp => exact ⟨by omega, all_succ (by omega) 0 hin (by unfold OkB; omega)⟩
                      case hmu => omega))
            · first
              | (exfalso; omega)
              | (refine WO.no rfl rfl (WO.no rfl rfl (WO.no rfl rfl (WO.no rfl rfl (WO.no rfl rfl (WO.p rfl rfl ?_)))))
                 refine WO.nil ?_
                 refine W.cond_f rfl ?_
                 refine W.skip ?_
                 refine W.region ?_
                 refine WO.p rfl rfl (WO.ar rfl rfl rfl (by (first | (unfold in64; omega) | (unfold in64; omega))) rfl (WO.p rfl rfl ?_))
                 refine WO.nil ?_
                 refine' ⟨i + 1, ?hp, ?hmu, ⟨rfl, rfl, trivial⟩, ?hS⟩
                 case hS => repeat (first | exact Sub.nil | refine Sub.cons (by repeat (first | exact Pick.head | apply Pick.tail)) ?_)
                 case hp => exact ⟨by omega, all_succ (by omega) 0 hin (by unfold OkB; omega)⟩
                 case hmu => omega))
       · first
         | (exfalso; omega)
         | (refine W.exit (blk_same ?_)
            refine W.sreg ?_
            refine WO.p rfl rfl ?_
            refine WO.nil ?_
            refine W.ret ?_
            refine fin.ret (Res.one rfl (RV.tmp rfl)) (congrArg (Value.int .i64) ?_)
            first | (unfold chkB; rw [if_pos (by omega)]; done) | (unfold chkB; rw [if_neg (by omega), if_neg (fun h => by have := h _ (getD_mem (show i < l.length by omega) 0); unfold OkB at this; omega)]; done) | (unfold chkB; rw [if_neg (by omega), if_pos (by rw [show i = l.length by omega, List.take_length] at hin; exact hin)]; done)))
theorem c_bit (w : World) (x : Int) : Ret Try.prog 55 [.int .i64 x].toArray w (.bool (bl (¬ OkB x))) := by
  refine Ret.of mixed tyTab Try.func55 rfl rfl ?_
  refine W.sreg ?_
  refine WO.p rfl rfl ?_
  refine WO.nil ?_
  refine W.sreg ?_
  refine WO.p rfl rfl (WO.p rfl rfl (WO.p rfl rfl ?_))
  refine WO.guard_bl rfl rfl (fun c1 => ?_) (fun c1 => ?_)
  · first
    | (exfalso; omega)
    | (refine WO.no rfl rfl (WO.no rfl rfl (WO.p rfl rfl (WO.p rfl rfl ?_)))
       refine WO.nil ?_
       refine W.ret ?_
       refine fin.ret (Res.one rfl (RV.tmp rfl)) (congrArg Value.bool ?_)
       first | exact (bl_t.2 (by unfold OkB; omega)).symm | (rw [bl_eq, bl_eq, decide_eq_decide]; unfold OkB; omega))
  · first
    | (exfalso; omega)
    | (refine WO.pg rfl rfl rfl (WO.pg rfl rfl rfl (WO.p rfl rfl (WO.p rfl rfl ?_)))
       refine WO.nil ?_
       refine W.ret ?_
       refine fin.ret (Res.one rfl (RV.tmp rfl)) (congrArg Value.bool ?_)
       first | exact (bl_t.2 (by unfold OkB; omega)).symm | (rw [bl_eq, bl_eq, decide_eq_decide]; unfold OkB; omega))
theorem c_IndexI (w : World) (v : Value) (xs : List Int) (hR : RdF encI 1 w.heap.size w v xs) : RetE Try.prog 67 [v, .func (.func 55) #[] #[]].toArray w (fun r => ∃ n : Int, r = .int .i64 n ∧ (0 ≤ n ↔ ¬ OkBs xs)) := by
  refine RetE.of mixed tyTab Try.func67 rfl rfl ?_
  replace hR : RdF encI 1 (fnCx mixed tyTab Try.f67.ntmps w).B (fnCx mixed tyTab Try.f67.ntmps w).w0 v xs := hR
  have hle := hR.sl.le
  refine W.sreg ?_
  refine WO.p rfl rfl ?_
  refine WO.nil ?_
  refine W.seq ?_
  refine W.sreg ?_
  refine WO.p rfl rfl ?_
  refine' WO.len (n := _) rfl rfl ?hs rfl ?_
  case hs => (first | exact hR.sl)
  refine WO.p rfl rfl ?_
  refine WO.nil ?_
  refine W.block ?_
  refine W.loop (fun (i : Nat) => i ≤ xs.length ∧ ∀ x ∈ xs.take i, OkB x)
    (fun (i : Nat) => [(8, .int .i64 (i : Int)), (7, .int .i64 (xs.length : Int)), (0, v), (1, .func (.func 55) #[] #[])])
    (fun (i : Nat) => [])
    (fun (i : Nat) => xs.length - i) 0
    (by exact ⟨by omega, by simp⟩) ⟨rfl, rfl, rfl, rfl, trivial⟩ (by repeat (first | exact Sub.nil | refine Sub.cons (by repeat (first | exact Pick.head | apply Pick.tail)) ?_)) ?_
  rintro i ⟨hi0, hal⟩
  refine W.sreg ?_
  refine WO.p rfl rfl ?_
  refine WO.nil ?_
  refine W.seq ?_
  refine W.cond_bl rfl (fun c1 => ?_) (fun c1 => ?_)
  · first
    | (exfalso; omega)
    | (refine W.skip ?_
       refine W.seq ?_
       refine W.block ?_
       refine W.sreg ?_
       refine WO.p rfl rfl (WO.p rfl rfl ?_)
       refine WO.nil ?_
       refine W.sreg ?_
       refine WO.p rfl rfl (WO.p rfl rfl (WO.p rfl rfl ?_))
       refine' WO.indexAddr (n := _) (i := _) rfl rfl rfl ?hs ?h1 rfl ?_
       case hs => (first | exact hR.sl)
       case h1 => (first | omega | (simp; omega))
       refine' WO.load (v := _) rfl rfl ?hc rfl ?_
       case hc => (first | (refine hR.cell0 ?_ 0 ?_ <;> first | rfl | omega))
       refine WO.callCR (first := []) (captured := []) rfl rfl Try.call55 (fun L w hi' => c_bit w (xs.getD i 0)) rfl ?_
       refine WO.nil ?_
       refine W.cond_bl rfl (fun c2 => ?_) (fun c2 => ?_)
       · first
         | (exfalso; omega)
         | (refine W.sreg ?_
            refine WO.p rfl rfl (WO.p rfl rfl ?_)
            refine WO.nil ?_
            refine W.ret ?_
            exact fin.ret (Res.one rfl (RV.tmp rfl)) ⟨_, rfl, by first | exact ⟨fun h => by omega, fun h => absurd (all_len (by omega) hal) h⟩ | exact ⟨fun _ => not_all_getD (i := i) (by omega) 0 (by assumption), fun _ => by omega⟩⟩)
       · first
         | (exfalso; omega)
         | (refine W.skip ?_
            refine W.region ?_
            refine WO.ar rfl rfl rfl (by (first | (unfold in64; omega) | (unfold in64; omega))) rfl (WO.p rfl rfl ?_)
            refine WO.nil ?_
            refine' ⟨i + 1, ?hp, ?hmu, ⟨rfl, rfl, rfl, rfl, trivial⟩, ?hS⟩
            case hS => repeat (first | exact Sub.nil | refine Sub.cons (by repeat (first | exact Pick.head | apply Pick.tail)) ?_)
            case hp => exact ⟨by omega, all_succ (by omega) 0 hal (Decidable.not_not.1 (by assumption))⟩
            case hmu => omega))
  · first
    | (exfalso; omega)
    | (refine W.exit (blk_same ?_)
       refine W.sreg ?_
       refine WO.p rfl rfl ?_
       refine WO.nil ?_
       refine W.ret ?_
       exact fin.ret (Res.one rfl (RV.tmp rfl)) ⟨_, rfl, by first | exact ⟨fun h => by omega, fun h => absurd (all_len (by omega) hal) h⟩ | exact ⟨fun _ => not_all_getD (i := i) (by omega) 0 (by assumption), fun _ => by omega⟩⟩)
theorem c_ContI (w : World) (v : Value) (xs : List Int) (hR : RdF encI 1 w.heap.size w v xs) : Ret Try.prog 54 [v, .func (.func 55) #[] #[]].toArray w (.bool (bl (¬ OkBs xs))) := by
  refine Ret.of mixed tyTab Try.func54 rfl rfl ?_
  replace hR : RdF encI 1 (fnCx mixed tyTab Try.f54.ntmps w).B (fnCx mixed tyTab Try.f54.ntmps w).w0 v xs := hR
  refine W.sreg ?_
  refine WO.p rfl rfl ?_
  refine WO.nil ?_
  refine W.sreg ?_
  refine WO.p rfl rfl (WO.p rfl rfl ?_)
  refine WO.callE rfl Try.call67 (fun L w hi' => c_IndexI w v xs (hR.later hi')) rfl ?_
  rintro _ ⟨n, rfl, hn⟩
  refine WO.p rfl rfl (WO.p rfl rfl ?_)
  refine WO.nil ?_
  refine W.ret ?_
  refine fin.ret (Res.one rfl (RV.tmp rfl)) ?_
  refine congrArg Value.bool ?_
  rw [bl_eq, bl_eq]; exact decide_eq_decide.2 hn
theorem c_CheckBits (w : World) (v : Value) (l : List Int) (hR : RdF encI 1 w.heap.size w v l) : Ret Try.prog 33 [v].toArray w (.int .i64 (chkB l)) := by
  refine Ret.of mixed tyTab Try.func33 rfl rfl ?_
  replace hR : RdF encI 1 (fnCx mixed tyTab Try.f33.ntmps w).B (fnCx mixed tyTab Try.f33.ntmps w).w0 v l := hR
  refine W.sreg ?_
  refine WO.p rfl rfl ?_
  refine WO.nil ?_
  refine W.seq ?_
  refine W.block ?_
  refine W.sreg ?_
  refine WO.p rfl rfl ?_
  refine' WO.len (n := _) rfl rfl ?hs rfl ?_
  case hs => (first | exact hR.sl)
  refine WO.p rfl rfl (WO.p rfl rfl ?_)
  refine WO.nil ?_
  refine W.cond_bl rfl (fun c1 => ?_) (fun c1 => ?_)
  · first
    | (exfalso; omega)
    | (refine W.sreg ?_
       refine WO.p rfl rfl ?_
       refine WO.nil ?_
       refine W.ret ?_
       refine fin.ret (Res.one rfl (RV.tmp rfl)) (congrArg (Value.int .i64) ?_)
       first | (unfold chkB; rw [if_pos (by omega)]; done) | (unfold chkB; rw [if_neg (by omega), if_neg (by assumption)]; done) | (unfold chkB; rw [if_neg (by omega), if_pos (Decidable.not_not.1 (by assumption))]; done))
  · first
    | (exfalso; omega)
    | (refine W.sreg ?_
       refine WO.p rfl rfl ?_
       refine WO.callR rfl Try.call54 (fun L w hi' => c_ContI w v l (hR.later hi')) rfl ?_
       refine WO.p rfl rfl ?_
       refine WO.nil ?_
       refine W.cond_bl rfl (fun c2 => ?_) (fun c2 => ?_)
       · first
         | (exfalso; omega)
         | (refine W.sreg ?_
            refine WO.p rfl rfl ?_
            refine WO.nil ?_
            refine W.ret ?_
            refine fin.ret (Res.one rfl (RV.tmp rfl)) (congrArg (Value.int .i64) ?_)
            first | (unfold chkB; rw [if_pos (by omega)]; done) | (unfold chkB; rw [if_neg (by omega), if_neg (by assumption)]; done) | (unfold chkB; rw [if_neg (by omega), if_pos (Decidable.not_not.1 (by assumption))]; done))
       · first
         | (exfalso; omega)
         | (refine W.skip ?_
            refine W.sreg ?_
            refine WO.p rfl rfl ?_
            refine WO.nil ?_
            refine W.ret ?_
            refine fin.ret (Res.one rfl (RV.tmp rfl)) (congrArg (Value.int .i64) ?_)
            first | (unfold chkB; rw [if_pos (by omega)]; done) | (unfold chkB; rw [if_neg (by omega), if_neg (by assumption)]; done) | (unfold chkB; rw [if_neg (by omega), if_pos (Decidable.not_not.1 (by assumption))]; done)))
theorem ref_two (w : World) (v u : Value) (a b : List Int) (hR : RdF encI 1 w.heap.size w v a) (hU : RdF encI 1 w.heap.size w u b) : Ret Try.prog 43 [v, u].toArray w (.int .i64 (chk2 a b)) := by
  refine Ret.of mixed tyTab Try.func43 rfl rfl ?_
  replace hR : RdF encI 1 (fnCx mixed tyTab Try.f43.ntmps w).B (fnCx mixed tyTab Try.f43.ntmps w).w0 v a := hR
  replace hU : RdF encI 1 (fnCx mixed tyTab Try.f43.ntmps w).B (fnCx mixed tyTab Try.f43.ntmps w).w0 u b := hU
  refine W.sreg ?_
  refine WO.p rfl rfl ?_
  refine WO.nil ?_
  refine W.seq ?_
  refine W.sreg ?_
  refine WO.p rfl rfl ?_
  refine WO.callR rfl Try.call34 (fun L w hi => ref_CheckBits w v a (hR.later hi)) rfl ?_
  refine WO.p rfl rfl ?_
  refine WO.nil ?_
  refine W.cond_bl rfl (fun c1 => ?_) (fun c1 => ?_)
  · first
    | (exfalso; omega)
    | (refine W.sreg ?_
       refine WO.p rfl rfl ?_
       refine WO.callR rfl Try.call34 (fun L w hi => ref_CheckBits w v a (hR.later hi)) rfl ?_
       refine WO.p rfl rfl ?_
       refine WO.nil ?_
       refine W.ret ?_
       refine fin.ret (Res.one rfl (RV.tmp rfl)) (congrArg (Value.int .i64) ?_)
       first | (unfold chk2; rw [if_pos (by assumption)]; done) | (unfold chk2; rw [if_neg (by assumption)]; done))
  · first
    | (exfalso; omega)
    | (refine W.skip ?_
       refine W.sreg ?_
       refine WO.p rfl rfl ?_
       refine WO.callR rfl Try.call34 (fun L w hi => ref_CheckBits w u b (hU.later hi)) rfl ?_
       refine WO.p rfl rfl ?_
       refine WO.nil ?_
       refine W.ret ?_
       refine fin.ret (Res.one rfl (RV.tmp rfl)) (congrArg (Value.int .i64) ?_)
       first | (unfold chk2; rw [if_pos (by assumption)]; done) | (unfold chk2; rw [if_neg (by assumption)]; done))
theorem ref_started (w : World) (v u : Value) (a b : List Int) (hR : RdF encI 1 w.heap.size w v a) (hU : RdF encI 1 w.heap.size w u b) : Ret Try.prog 48 [v, u].toArray w (.int .i64 (chkS a b)) := by
  refine Ret.of mixed tyTab Try.func48 rfl rfl ?_
  replace hR : RdF encI 1 (fnCx mixed tyTab Try.f48.ntmps w).B (fnCx mixed tyTab Try.f48.ntmps w).w0 v a := hR
  replace hU : RdF encI 1 (fnCx mixed tyTab Try.f48.ntmps w).B (fnCx mixed tyTab Try.f48.ntmps w).w0 u b := hU
  refine W.sreg ?_
  refine WO.p rfl rfl ?_
  refine WO.nil ?_
  refine W.seq ?_
  refine W.sreg ?_
  refine WO.p rfl rfl (WO.p rfl rfl ?_)
  refine WO.callR rfl Try.call43 (fun L w hi => ref_two w v u a b (hR.later hi) (hU.later hi)) rfl ?_
  refine WO.p rfl rfl ?_
  refine WO.nil ?_
  refine W.cond_bl rfl (fun c1 => ?_) (fun c1 => ?_)
  · first
    | (exfalso; omega)
    | (refine W.sreg ?_
       refine WO.p rfl rfl (WO.p rfl rfl ?_)
       refine WO.callR rfl Try.call43 (fun L w hi => ref_two w v u a b (hR.later hi) (hU.later hi)) rfl ?_
       refine WO.p rfl rfl ?_
       refine WO.nil ?_
       refine W.ret ?_
       refine fin.ret (Res.one rfl (RV.tmp rfl)) (congrArg (Value.int .i64) ?_)
       first | (unfold chkS; rw [if_pos (by assumption)]; done) | (unfold chkS; rw [if_neg (by assumption), if_pos (by omega)]; done) | (unfold chkS; rw [if_neg (by assumption), if_neg (by omega)]; done))
  · first
    | (exfalso; omega)
    | (refine W.skip ?_
       refine W.seq ?_
       refine W.sreg ?_
       refine WO.p rfl rfl ?_
       refine' WO.len (n := _) rfl rfl ?hs rfl ?_
       case hs => (first | exact hU.sl)
       refine WO.p rfl rfl ?_
       refine' WO.len (n := _) rfl rfl ?hs rfl ?_
       case hs => (first | exact hR.sl)
       refine WO.p rfl rfl ?_
       refine WO.nil ?_
       refine W.cond_bl rfl (fun c2 => ?_) (fun c2 => ?_)
       · first
         | (exfalso; omega)
         | (refine W.sreg ?_
            refine WO.p rfl rfl ?_
            refine WO.nil ?_
            refine W.ret ?_
            refine fin.ret (Res.one rfl (RV.tmp rfl)) (congrArg (Value.int .i64) ?_)
            first | (unfold chkS; rw [if_pos (by assumption)]; done) | (unfold chkS; rw [if_neg (by assumption), if_pos (by omega)]; done) | (unfold chkS; rw [if_neg (by assumption), if_neg (by omega)]; done))
       · first
         | (exfalso; omega)
         | (refine W.skip ?_
            refine W.sreg ?_
            refine WO.p rfl rfl ?_
            refine WO.nil ?_
            refine W.ret ?_
            refine fin.ret (Res.one rfl (RV.tmp rfl)) (congrArg (Value.int .i64) ?_)
            first | (unfold chkS; rw [if_pos (by assumption)]; done) | (unfold chkS; rw [if_neg (by assumption), if_pos (by omega)]; done) | (unfold chkS; rw [if_neg (by assumption), if_neg (by omega)]; done)))
/-- the first error of several lists -/
def chkAll : List (List Int) → Int
  | [] => 0
  | l :: ls => if chkB l ≠ 0 then chkB l else chkAll ls
theorem chkAll_two (a b : List Int) : chkAll [a, b] = chk2 a b := by
  unfold chkAll chk2 chkAll chkAll
  split
  · rfl
  · split <;> omega
theorem chkAll_pre {xss : List (List Int)} {i : Nat} (h : ∀ j, j < i → chkB (xss.getD j []) = 0) (hi : i < xss.length) (he : chkB (xss.getD i []) ≠ 0) : chkAll xss = chkB (xss.getD i []) := by
  induction xss generalizing i with
  | nil => simp at hi
  | cons l ls ih =>
    cases i with
    | zero => unfold chkAll; exact if_pos he
    | succ i =>
      unfold chkAll
      rw [if_neg (by have := h 0 (by omega); simpa using this)]
      exact ih (fun j hj => h (j + 1) (by omega)) (by simpa using hi) he
theorem chkAll_0 {xss : List (List Int)} (h : ∀ j, j < xss.length → chkB (xss.getD j []) = 0) : chkAll xss = 0 := by
  induction xss with
  | nil => rfl
  | cons l ls ih =>
    unfold chkAll
    rw [if_neg (by have := h 0 (by simp); simpa using this)]
    exact ih (fun j hj => h (j + 1) (by simpa using hj))
theorem c_checkAll (w : World) (v : Value) (rv : List Value) (xss : List (List Int)) (hR : RdR encI 1 w.heap.size w v rv xss) : Ret Try.prog 44 [v].toArray w (.int .i64 (chkAll xss)) := by
  refine Ret.of mixed tyTab Try.func44 rfl rfl ?_
  replace hR : RdR encI 1 (fnCx mixed tyTab Try.f44.ntmps w).B (fnCx mixed tyTab Try.f44.ntmps w).w0 v rv xss := hR
  have hle := hR.sl.le
  have hlen := hR.len
  refine W.sreg ?_
  refine WO.p rfl rfl ?_
  refine WO.nil ?_
  refine W.seq ?_
  refine W.sreg ?_
  refine WO.p rfl rfl ?_
  refine' WO.len (n := _) rfl rfl ?hs rfl ?_
  case hs => (first | exact hR.sl)
  refine WO.p rfl rfl ?_
  refine WO.nil ?_
  refine W.block ?_
  refine W.loop (fun (i : Nat) => i ≤ xss.length ∧ ∀ j, j < i → chkB (xss.getD j []) = 0)
    (fun (i : Nat) => [(8, .int .i64 (i : Int)), (7, .int .i64 (xss.length : Int)), (6, v)])
    (fun (i : Nat) => [])
    (fun (i : Nat) => xss.length - i) 0
    (by exact ⟨by omega, fun j hj => by omega⟩) ⟨rfl, rfl, rfl, trivial⟩ (by repeat (first | exact Sub.nil | refine Sub.cons (by repeat (first | exact Pick.head | apply Pick.tail)) ?_)) ?_
  rintro i ⟨hi0, hin⟩
  refine W.sreg ?_
  refine WO.p rfl rfl ?_
  refine WO.nil ?_
  refine W.seq ?_
  refine W.cond_bl rfl (fun c1 => ?_) (fun c1 => ?_)
  · first
    | (exfalso; omega)
    | (refine W.skip ?_
       refine W.seq ?_
       refine W.block ?_
       refine W.sreg ?_
       refine' WO.indexAddr (n := _) (i := _) rfl rfl rfl ?hs ?h1 rfl ?_
       case hs => (first | exact hR.sl)
       case h1 => (first | omega | (simp; omega))
       refine' WO.load (v := _) rfl rfl ?hc rfl ?_
       case hc => (first | exact hR.cellV (i := i) (by omega))
       refine WO.p rfl rfl ?_
       refine WO.nil ?_
       refine W.sreg ?_
       refine WO.p rfl rfl ?_
       refine WO.callR rfl Try.call33 (fun L w hi => c_CheckBits w (rv.getD i undef) (xss.getD i []) ((hR.row i (by omega)).later hi)) rfl ?_
       refine WO.p rfl rfl ?_
       refine WO.nil ?_
       refine W.sreg ?_
       refine WO.p rfl rfl (WO.p rfl rfl ?_)
       refine WO.nil ?_
       refine W.cond_bl rfl (fun c2 => ?_) (fun c2 => ?_)
       · first
         | (exfalso; omega)
         | (refine W.sreg ?_
            refine WO.p rfl rfl (WO.p rfl rfl ?_)
            refine WO.nil ?_
            refine W.ret ?_
            refine fin.ret (Res.one rfl (RV.tmp rfl)) (congrArg (Value.int .i64) ?_)
            first | exact (chkAll_pre hin (by omega) (by assumption)).symm | exact (chkAll_0 (fun j hj => hin j (by omega))).symm)
       · first
         | (exfalso; omega)
         | (refine W.skip ?_
            refine W.region ?_
            refine WO.ar rfl rfl rfl (by (first | (unfold in64; omega) | (unfold in64; omega))) rfl (WO.p rfl rfl ?_)
            refine WO.nil ?_
            refine' ⟨i + 1, ?hp, ?hmu, ⟨rfl, rfl, rfl, trivial⟩, ?hS⟩
            case hS => repeat (first | exact Sub.nil | refine Sub.cons (by repeat (first | exact Pick.head | apply Pick.tail)) ?_)
            case hp => exact ⟨by omega, fun j hj => by rcases Nat.lt_or_ge j i with g | g; exact hin j g; rw [show j = i by omega]; omega⟩
            case hmu => omega))
  · first
    | (exfalso; omega)
    | (refine W.exit (blk_same ?_)
       refine W.sreg ?_
       refine WO.p rfl rfl ?_
       refine WO.nil ?_
       refine W.ret ?_
       refine fin.ret (Res.one rfl (RV.tmp rfl)) (congrArg (Value.int .i64) ?_)
       first | exact (chkAll_pre hin (by omega) (by assumption)).symm | exact (chkAll_0 (fun j hj => hin j (by omega))).symm)
end Go.Proofs.Ytingkbglkaojdaa
namespace Go.Proofs.Ytingkbglkaojdaa
open Go Go.TH Go.TH.Wv
attribute [local irreducible] W WO pt
set_option maxRecDepth 10000
set_option maxHeartbeats 1000000
/-- a slice whose length is not above its capacity -/
def HasCap (v : Value) (n : Nat) : Prop := ∃ a c, v = .slice a n c ∧ n ≤ c
theorem HasCap.of_ow {α : Type} {enc : α → List Value} {e sz : Nat} {C : Cx Try.prog} {H H' L : List HP} {w : World} {v : Value} {xs : List α} (p : Pick (OwE enc e sz v xs) H H') (hi : TH.Inv C.w0 C.M (L ++ H) w) : HasCap v xs.length := by
  have hi' := hi.pickL p
  obtain ⟨_, hcase⟩ := OwC.open hi'
  rcases hcase with ⟨e1, e2, _⟩ | ⟨g, cap, cur, e1, q1, _⟩
  · exact ⟨none, 0, by rw [e1, e2], by omega⟩
  · exact ⟨_, cap, e1, q1⟩
def bt (l : List Int) (i : Nat) : Int := l.getD i 0
theorem bt_ok {l : List Int} (h : OkBs l) (i : Nat) : bt l i = 0 ∨ bt l i = 1 := by
  unfold bt
  rcases Nat.lt_or_ge i l.length with g | g
  · exact h _ (getD_mem g 0)
  · left; simp [g]
theorem mul01 {a b : Int} (ha : a = 0 ∨ a = 1) (hb : b = 0 ∨ b = 1) : a * b = 0 ∨ a * b = 1 := by
  rcases ha with rfl | rfl <;> rcases hb with rfl | rfl <;> simp
theorem bt_take {l : List Int} {n i : Nat} (h : i < n) : bt (l.take n) i = bt l i := by
  unfold bt; simp [List.getD_eq_getElem?_getD, List.getElem?_take, h]
instance (a b : Int) : Decidable (Eq2 a b) := by unfold Eq2; infer_instance
/-- a register is right at a bit -/
def okAt (taps l : List Int) (i : Nat) : Prop := Eq2 (pre (bt taps) taps.length (bt l) i) (bt l i)
instance (taps l : List Int) (i : Nat) : Decidable (okAt taps l i) := by unfold okAt; infer_instance
/-- a register makes bits -/
def mk (taps l : List Int) : Prop := ∀ i ∈ List.range l.length, taps.length ≤ i → okAt taps l i
instance (taps l : List Int) : Decidable (mk taps l) := by unfold mk; infer_instance
theorem mk_iff {taps l : List Int} : mk taps l ↔ Mk (bt taps) taps.length (bt l) l.length := by
  unfold mk Mk okAt
  exact ⟨fun h i h1 h2 => h i (List.mem_range.2 h2) h1, fun h i h1 h2 => h i h2 (List.mem_range.1 h1)⟩
theorem okAt_of {taps l : List Int} {i : Nat} (hl : OkBs l) : okAt taps l i ↔ pre (bt taps) taps.length (bt l) i % 2 = l.getD i 0 := by
  have := bt_ok hl i
  unfold okAt Eq2
  unfold bt at this ⊢
  omega
theorem okAt_x {taps l : List Int} {i : Nat} (hl : OkBs l) : okAt taps l i ↔ (bt l i + sm taps.length (fun j => bt taps j * bt l (i - 1 - j))) % 2 = 0 := by
  have := bt_ok hl i
  unfold okAt Eq2 pre
  omega
/-- what a register makes next -/
def nx (l taps : List Int) : Int := pre (bt taps) taps.length (bt l) l.length % 2
theorem nx_take {l taps : List Int} {i : Nat} (h : i ≤ l.length) (ht : taps.length ≤ i) : nx (l.take i) taps = pre (bt taps) taps.length (bt l) i % 2 := by
  unfold nx
  have e : (l.take i).length = i := by rw [List.length_take]; omega
  rw [e]
  exact congrArg (· % 2) (sm_congr fun j hj => by rw [bt_take (by omega)])
theorem ref_next (w : World) (v u : Value) (l taps : List Int) (hR : RdF encI 1 w.heap.size w v l) (hU : RdF encI 1 w.heap.size w u taps) (hn : taps.length ≤ l.length) (hl : OkBs l) (ht : OkBs taps) : Ret Try.prog 51 [v, u].toArray w (.int .i64 (nx l taps)) := by
  refine Ret.of mixed tyTab Try.func51 rfl rfl ?_
  replace hR : RdF encI 1 (fnCx mixed tyTab Try.f51.ntmps w).B (fnCx mixed tyTab Try.f51.ntmps w).w0 v l := hR
  replace hU : RdF encI 1 (fnCx mixed tyTab Try.f51.ntmps w).B (fnCx mixed tyTab Try.f51.ntmps w).w0 u taps := hU
  have hle := hR.sl.le
  refine W.sreg ?_
  refine WO.p rfl rfl ?_
  refine WO.nil ?_
  refine W.sreg ?_
  refine WO.p rfl rfl ?_
  refine WO.nil ?_
  refine W.seq ?_
  refine W.sreg ?_
  refine WO.p rfl rfl ?_
  refine WO.nil ?_
  refine W.block ?_
  refine W.loop2 (fun (j : Nat) (n : Int) => j ≤ taps.length ∧ n = sm j (fun j => bt taps j * bt l (l.length - 1 - j)) ∧ 0 ≤ n ∧ n ≤ j)
    (fun (j : Nat) (n : Int) => [(6, .int .i64 (j : Int)), (5, .int .i64 n), (0, v), (1, u)])
    (fun (j : Nat) (n : Int) => [])
    (fun (j : Nat) (n : Int) => taps.length - j) 0 0
    (by exact ⟨by omega, rfl, by omega, by omega⟩) ⟨rfl, rfl, rfl, rfl, trivial⟩ (by repeat (first | exact Sub.nil | refine Sub.cons (by repeat (first | exact Pick.head | apply Pick.tail)) ?_)) ?_
  rintro j n ⟨hj0, hnn, hn0, hn1⟩
  refine W.seq ?_
  refine W.sreg ?_
  refine WO.p rfl rfl (WO.p rfl rfl ?_)
  refine' WO.len (n := _) rfl rfl ?hs rfl ?_
  case hs => (first | exact hU.sl)
  refine WO.p rfl rfl ?_
  refine WO.nil ?_
  refine W.cond_bl rfl (fun c1 => ?_) (fun c1 => ?_)
  · first
    | (exfalso; omega)
    | (refine W.skip ?_
       refine W.seq ?_
       refine W.block ?_
       have hm := mul01 (bt_ok ht j) (bt_ok hl ((l.length : Int) - 1 - (j : Int)).toNat)
       have e1 : ((l.length : Int) - 1 - (j : Int)).toNat = l.length - 1 - j := by omega
       have hsm : sm (j + 1) (fun j => bt taps j * bt l (l.length - 1 - j)) = n + bt taps j * bt l ((l.length : Int) - 1 - (j : Int)).toNat := by rw [e1, hnn]; rfl
       simp only [bt] at hm
       refine W.drawD 14 [.r 0 [], .r 1 [], .r 2 [], .r 3 [], .b 4 [], .r 5 [], .r 6 [], .r 7 [], .r 8 [], .r 9 [], .r 10 [], .r 11 [], .b 12 [], .r 13 []] [] (A0 := []) (Sub.refl _) (by kernel_rfl) ?_ ?_
       · exact (ALok.r (ALok.r (ALok.r (ALok.r (ALok.b (ALok.r (ALok.r (ALok.r (ALok.r (ALok.r (ALok.r (ALok.r (ALok.b (ALok.r ALok.nil))))))))))))))
       refine' DT.r rfl rfl rfl ?hq ?_
       case hq =>
         refine WO.p rfl rfl ?_
         exact WO.nil ⟨rfl, rfl⟩
       refine' DT.r rfl rfl rfl ?hq ?_
       case hq =>
         refine WO.p rfl rfl ?_
         exact WO.nil ⟨rfl, rfl⟩
       refine' DT.r rfl rfl rfl ?hq ?_
       case hq =>
         refine WO.p rfl rfl ?_
         exact WO.nil ⟨rfl, rfl⟩
       refine' DT.r rfl rfl rfl ?hq ?_
       case hq =>
         refine' WO.indexAddr (n := _) (i := _) rfl rfl rfl ?hs ?h1 rfl ?_
         case hs => (first | exact hU.sl)
         case h1 => (first | omega | (simp; omega))
         exact WO.nil ⟨rfl, rfl⟩
       refine' DT.b rfl rfl rfl ?hq ?_
       case hq =>
         refine' WO.load (v := _) rfl rfl ?hc rfl ?_
         case hc => (first | (refine hU.cell0 (i := j) ?_ 0 ?_ <;> first | rfl | omega))
         exact WO.nil ⟨rfl, rfl⟩
       refine' DT.r rfl rfl rfl ?hq ?_
       case hq =>
         refine WO.p rfl rfl ?_
         exact WO.nil ⟨rfl, rfl⟩
       refine' DT.r rfl rfl rfl ?hq ?_
       case hq =>
         refine WO.p rfl rfl ?_
         exact WO.nil ⟨rfl, rfl⟩
       refine' DT.r rfl rfl rfl ?hq ?_
       case hq =>
         refine' WO.len (n := _) rfl rfl ?hs rfl ?_
         case hs => (first | exact hR.sl)
         exact WO.nil ⟨rfl, rfl⟩
       refine' DT.r rfl rfl rfl ?hq ?_
       case hq =>
         refine WO.ar rfl rfl rfl (by (first | (unfold in64; omega) | (unfold in64; omega))) rfl ?_
         exact WO.nil ⟨rfl, rfl⟩
       refine' DT.r rfl rfl rfl ?hq ?_
       case hq =>
         refine WO.p rfl rfl ?_
         exact WO.nil ⟨rfl, rfl⟩
       refine' DT.r rfl rfl rfl ?hq ?_
       case hq =>
         refine WO.ar rfl rfl rfl (by (first | (unfold in64; omega) | (unfold in64; omega))) rfl ?_
         exact WO.nil ⟨rfl, rfl⟩
       refine' DT.r rfl rfl rfl ?hq ?_
       case hq =>
         refine' WO.indexAddrZ (n := _) rfl rfl rfl ?hs ?h00 ?h1 rfl ?_
         case hs => (first | exact hR.sl)
         case h00 => omega
         case h1 => (first | omega | (simp; omega))
         exact WO.nil ⟨rfl, rfl⟩
       refine' DT.b rfl rfl rfl ?hq ?_
       case hq =>
         refine' WO.load (v := _) rfl rfl ?hc rfl ?_
         case hc => (first | (refine hR.cell0 (i := ((l.length : Int) - 1 - (j : Int)).toNat) ?_ 0 ?_ <;> first | rfl | omega))
         exact WO.nil ⟨rfl, rfl⟩
       refine' DT.r rfl rfl rfl ?hq ?_
       case hq =>
         refine WO.ar rfl rfl rfl (by (first | (unfold in64; omega) | (unfold in64; omega))) rfl ?_
         exact WO.nil ⟨rfl, rfl⟩
       refine DT.nil [] rfl ?_
       refine WO.ar rfl rfl rfl (by (first | (unfold in64; omega) | (unfold in64; omega))) rfl (WO.p rfl rfl ?_)
       refine WO.nil ?_
       refine W.region ?_
       refine WO.p rfl rfl (WO.ar rfl rfl rfl (by (first | (unfold in64; omega) | (unfold in64; omega))) rfl (WO.p rfl rfl ?_))
       refine WO.nil ?_
       refine' ⟨j + 1, _, ?hp, ?hmu, ⟨rfl, rfl, rfl, rfl, trivial⟩, ?hS⟩
       case hS => repeat (first | exact Sub.nil | refine Sub.cons (by repeat (first | exact Pick.head | apply Pick.tail)) ?_)
       case hp => exact ⟨by omega, hsm.symm, by omega, by omega⟩
       case hmu => omega)
  · first
    | (exfalso; omega)
    | (refine W.exit (blk_same ?_)
       refine W.sreg ?_
       refine WO.p rfl rfl (WO.rem rfl rfl (by first | omega | assumption) rfl (WO.p rfl rfl ?_))
       refine WO.nil ?_
       refine W.ret ?_
       refine fin.ret (Res.one rfl (RV.tmp rfl)) (congrArg (Value.int .i64) ?_)
       rw [Int.tmod_eq_emod_of_nonneg hn0, hnn, show j = taps.length by omega]; rfl)
theorem ref_Makes (w : World) (v u : Value) (l taps : List Int) (hR : RdF encI 1 w.heap.size w v l) (hU : RdF encI 1 w.heap.size w u taps) (hv : HasCap v l.length) (hl : OkBs l) (ht : OkBs taps) : Ret Try.prog 29 [v, u].toArray w (.bool (bl (mk taps l))) := by
  refine Ret.of mixed tyTab Try.func29 rfl rfl ?_
  obtain ⟨va, vc, rfl, hcap⟩ := hv
  replace hR : RdF encI 1 (fnCx mixed tyTab Try.f29.ntmps w).B (fnCx mixed tyTab Try.f29.ntmps w).w0 (.slice va l.length vc) l := hR
  replace hU : RdF encI 1 (fnCx mixed tyTab Try.f29.ntmps w).B (fnCx mixed tyTab Try.f29.ntmps w).w0 u taps := hU
  have hle := hR.sl.le
  have hlu := hU.sl.le
  refine W.sreg ?_
  refine WO.p rfl rfl ?_
  refine WO.nil ?_
  refine W.seq ?_
  refine W.sreg ?_
  refine WO.p rfl rfl ?_
  refine' WO.len (n := _) rfl rfl ?hs rfl ?_
  case hs => (first | exact hU.sl)
  refine WO.p rfl rfl ?_
  refine WO.nil ?_
  refine W.block ?_
  refine W.loop (fun (i : Nat) => taps.length ≤ i ∧ ∀ k, taps.length ≤ k → k < i → okAt taps l k)
    (fun (i : Nat) => [(5, .int .i64 (i : Int)), (0, .slice va l.length vc), (1, u)])
    (fun (i : Nat) => [])
    (fun (i : Nat) => l.length - i) taps.length
    (by exact ⟨by omega, fun k h1 h2 => by omega⟩) ⟨rfl, rfl, rfl, trivial⟩ (by repeat (first | exact Sub.nil | refine Sub.cons (by repeat (first | exact Pick.head | apply Pick.tail)) ?_)) ?_
  rintro i ⟨hi0, hin⟩
  refine W.seq ?_
  refine W.sreg ?_
  refine WO.p rfl rfl (WO.p rfl rfl ?_)
  refine' WO.len (n := _) rfl rfl ?hs rfl ?_
  case hs => (first | exact hR.sl)
  refine WO.p rfl rfl ?_
  refine WO.nil ?_
  refine W.cond_bl rfl (fun c1 => ?_) (fun c1 => ?_)
  · first
    | (exfalso; omega)
    | (refine W.skip ?_
       refine W.seq ?_
       refine W.block ?_
       refine W.seq ?_
       refine W.drawD 9 [.r 0 [], .r 1 [], .r 2 [], .r 3 [], .b 4 [], .r 5 [], .r 6 [], .r 7 [], .b 8 []] [] (A0 := []) (Sub.refl _) (by kernel_rfl) ?_ ?_
       · exact (ALok.r (ALok.r (ALok.r (ALok.r (ALok.b (ALok.r (ALok.r (ALok.r (ALok.b ALok.nil)))))))))
       refine' DT.r rfl rfl rfl ?hq ?_
       case hq =>
         refine WO.p rfl rfl ?_
         exact WO.nil ⟨rfl, rfl⟩
       refine' DT.r rfl rfl rfl ?hq ?_
       case hq =>
         refine WO.p rfl rfl ?_
         exact WO.nil ⟨rfl, rfl⟩
       refine' DT.r rfl rfl rfl ?hq ?_
       case hq =>
         refine WO.slSl (lo := 0) (hi := i) (mx := vc) rfl rfl bnd.no (bnd.at rfl) bnd.no (by simp) (by omega) (by omega) (by omega) rfl ?_
         exact WO.nil ⟨rfl, rfl⟩
       refine' DT.r rfl rfl rfl ?hq ?_
       case hq =>
         refine WO.p rfl rfl ?_
         exact WO.nil ⟨rfl, rfl⟩
       refine' DT.b rfl rfl rfl ?hq ?_
       case hq =>
         refine WO.callR (r := .int .i64 (pre (bt taps) taps.length (bt l) i % 2)) rfl Try.call51 (fun L w hi => by rw [← nx_take (by omega) (by omega)]; exact ref_next w _ u (l.take i) taps ((hR.sub (lo := 0) (hi := i) (mx := vc) (by omega) (by omega) (by omega)).later hi) (hU.later hi) (by rw [List.length_take]; omega) (fun x hx => hl x (List.mem_of_mem_take hx)) ht) rfl ?_
         exact WO.nil ⟨rfl, rfl⟩
       refine' DT.r rfl rfl rfl ?hq ?_
       case hq =>
         refine WO.p rfl rfl ?_
         exact WO.nil ⟨rfl, rfl⟩
       refine' DT.r rfl rfl rfl ?hq ?_
       case hq =>
         refine WO.p rfl rfl ?_
         exact WO.nil ⟨rfl, rfl⟩
       refine' DT.r rfl rfl rfl ?hq ?_
       case hq =>
         refine' WO.indexAddr (n := _) (i := _) rfl rfl rfl ?hs ?h1 rfl ?_
         case hs => (first | exact hR.sl)
         case h1 => (first | omega | (simp; omega))
         exact WO.nil ⟨rfl, rfl⟩
       refine' DT.b rfl rfl rfl ?hq ?_
       case hq =>
         refine' WO.load (v := _) rfl rfl ?hc rfl ?_
         case hc => (first | (refine hR.cell0 (i := i) ?_ 0 ?_ <;> first | rfl | omega))
         exact WO.nil ⟨rfl, rfl⟩
       refine DT.nil [] rfl ?_
       refine WO.p rfl rfl ?_
       refine WO.nil ?_
       refine W.cond_bl rfl (fun c2 => ?_) (fun c2 => ?_)
       · first
         | (exfalso; omega)
         | (refine W.sreg ?_
            refine WO.p rfl rfl ?_
            refine WO.nil ?_
            refine W.ret ?_
            refine fin.ret (Res.one rfl (RV.tmp rfl)) (congrArg Value.bool ?_)
            first | exact (bl_f.2 (fun h => absurd ((okAt_of hl).1 (h i (List.mem_range.2 (by omega)) (by omega))) (by omega))).symm | exact (bl_t.2 (fun k hk h1 => hin k h1 (by have := List.mem_range.1 hk; omega))).symm)
       · first
         | (exfalso; omega)
         | (refine W.skip ?_
            refine W.region ?_
            refine WO.p rfl rfl (WO.ar rfl rfl rfl (by (first | (unfold in64; omega) | (unfold in64; omega))) rfl (WO.p rfl rfl ?_))
            refine WO.nil ?_
            refine' ⟨i + 1, ?hp, ?hmu, ⟨rfl, rfl, rfl, trivial⟩, ?hS⟩
            case hS => repeat (first | exact Sub.nil | refine Sub.cons (by repeat (first | exact Pick.head | apply Pick.tail)) ?_)
            case hp => exact ⟨by omega, fun k h1 h2 => by rcases Nat.lt_or_ge k i with g | g; exact hin k h1 g; rw [show k = i by omega]; exact (okAt_of hl).2 (by omega)⟩
            case hmu => omega))
  · first
    | (exfalso; omega)
    | (refine W.exit (blk_same ?_)
       refine W.sreg ?_
       refine WO.p rfl rfl ?_
       refine WO.nil ?_
       refine W.ret ?_
       refine fin.ret (Res.one rfl (RV.tmp rfl)) (congrArg Value.bool ?_)
       first | exact (bl_f.2 (fun h => absurd ((okAt_of hl).1 (h i (List.mem_range.2 (by omega)) (by omega))) (by omega))).symm | exact (bl_t.2 (fun k hk h1 => hin k h1 (by have := List.mem_range.1 hk; omega))).symm)
/-- the first bit at which a register is wrong -/
def IsWrong (taps l : List Int) (n : Int) : Prop := (n = -1 ∧ mk taps l) ∨ ∃ i : Nat, n = (i : Int) ∧ taps.length ≤ i ∧ i < l.length ∧ (∀ k, taps.length ≤ k → k < i → okAt taps l k) ∧ ¬ okAt taps l i
theorem x2_step {a b c : Int} {n : Nat} {f : Nat → Int} (h : a = (b + sm n f) % 2) : (a + c) % 2 = (b + (sm n f + c)) % 2 := by omega
theorem c_wrong (w : World) (v u : Value) (l taps : List Int) (hR : RdF encI 1 w.heap.size w v l) (hU : RdF encI 1 w.heap.size w u taps) (hl : OkBs l) (ht : OkBs taps) : RetE Try.prog 56 [v, u].toArray w (fun r => ∃ n : Int, r = .int .i64 n ∧ IsWrong taps l n) := by
  refine RetE.of mixed tyTab Try.func56 rfl rfl ?_
  replace hR : RdF encI 1 (fnCx mixed tyTab Try.f56.ntmps w).B (fnCx mixed tyTab Try.f56.ntmps w).w0 v l := hR
  replace hU : RdF encI 1 (fnCx mixed tyTab Try.f56.ntmps w).B (fnCx mixed tyTab Try.f56.ntmps w).w0 u taps := hU
  have hle := hR.sl.le
  have hlu := hU.sl.le
  refine W.sreg ?_
  refine WO.p rfl rfl ?_
  refine WO.nil ?_
  refine W.scope ?_
  refine W.sreg ?_
  refine WO.p rfl rfl ?_
  refine WO.nil ?_
  refine W.seq ?_
  refine W.label ?_
  refine W.seq ?_
  refine W.sreg ?_
  refine WO.p rfl rfl ?_
  refine' WO.len (n := _) rfl rfl ?hs rfl ?_
  case hs => (first | exact hU.sl)
  refine WO.p rfl rfl ?_
  refine WO.nil ?_
  refine W.block ?_
  refine W.loop (fun (i : Nat) => taps.length ≤ i ∧ ∀ k, taps.length ≤ k → k < i → okAt taps l k)
    (fun (i : Nat) => [(6, .int .i64 (i : Int)), (5, .int .i64 (-1)), (0, v), (1, u)])
    (fun (i : Nat) => [])
    (fun (i : Nat) => l.length - i) taps.length
    (by exact ⟨by omega, fun k h1 h2 => by omega⟩) ⟨rfl, rfl, rfl, rfl, trivial⟩ (by repeat (first | exact Sub.nil | refine Sub.cons (by repeat (first | exact Pick.head | apply Pick.tail)) ?_)) ?_
  rintro i ⟨hi0, hin⟩
  refine W.seq ?_
  refine W.sreg ?_
  refine WO.p rfl rfl (WO.p rfl rfl ?_)
  refine' WO.len (n := _) rfl rfl ?hs rfl ?_
  case hs => (first | exact hR.sl)
  refine WO.p rfl rfl ?_
  refine WO.nil ?_
  refine W.cond_bl rfl (fun c1 => ?_) (fun c1 => ?_)
  · first
    | (exfalso; omega)
    | (refine W.skip ?_
       refine W.seq ?_
       refine W.block ?_
       refine W.sreg ?_
       refine WO.p rfl rfl (WO.p rfl rfl ?_)
       refine' WO.indexAddr (n := _) (i := _) rfl rfl rfl ?hs ?h1 rfl ?_
       case hs => (first | exact hR.sl)
       case h1 => (first | omega | (simp; omega))
       refine' WO.load (v := _) rfl rfl ?hc rfl ?_
       case hc => (first | (refine hR.cell0 (i := i) ?_ 0 ?_ <;> first | rfl | omega))
       refine WO.p rfl rfl ?_
       refine WO.nil ?_
       refine W.seq ?_
       refine W.sreg ?_
       refine WO.p rfl rfl ?_
       refine' WO.len (n := _) rfl rfl ?hs rfl ?_
       case hs => (first | exact hU.sl)
       refine WO.p rfl rfl ?_
       refine WO.nil ?_
       refine W.block ?_
       refine W.loop2 (fun (j : Nat) (n : Int) => j ≤ taps.length ∧ n = (bt l i + sm j (fun j => bt taps j * bt l (i - 1 - j))) % 2)
         (fun (j : Nat) (n : Int) => [(24, .int .i64 (j : Int)), (23, .int .i64 (taps.length : Int)), (22, u), (7, .int .i64 n), (6, .int .i64 (i : Int)), (5, .int .i64 (-1)), (0, v), (1, u)])
         (fun (j : Nat) (n : Int) => [])
         (fun (j : Nat) (n : Int) => taps.length - j) 0 (bt l i)
         (by exact ⟨by omega, by have := bt_ok hl i; show _ = (_ + 0) % 2; omega⟩) ⟨rfl, rfl, rfl, rfl, rfl, rfl, rfl, rfl, trivial⟩ (by repeat (first | exact Sub.nil | refine Sub.cons (by repeat (first | exact Pick.head | apply Pick.tail)) ?_)) ?_
       rintro j n ⟨hj0, hnn⟩
       refine W.sreg ?_
       refine WO.p rfl rfl ?_
       refine WO.nil ?_
       refine W.seq ?_
       refine W.cond_bl rfl (fun c2 => ?_) (fun c2 => ?_)
       · first
         | (exfalso; omega)
         | (refine W.skip ?_
            refine W.seq ?_
            refine W.block ?_
            refine W.sreg ?_
            refine WO.p rfl rfl ?_
            refine' WO.indexAddr (n := _) (i := _) rfl rfl rfl ?hs ?h1 rfl ?_
            case hs => (first | exact hU.sl)
            case h1 => (first | omega | (simp; omega))
            refine' WO.load (v := _) rfl rfl ?hc rfl ?_
            case hc => (first | (refine hU.cell0 (i := j) ?_ 0 ?_ <;> first | rfl | omega))
            refine WO.p rfl rfl (WO.p rfl rfl ?_)
            refine WO.nil ?_
            have e1 : ((i : Int) - 1 - (j : Int)).toNat = i - 1 - j := by omega
            have hstep : (n + bt taps j * bt l ((i : Int) - 1 - (j : Int)).toNat) % 2 = (bt l i + sm (j + 1) (fun j => bt taps j * bt l (i - 1 - j))) % 2 := by rw [e1]; exact x2_step hnn
            refine W.region ?_
            refine WO.p rfl rfl (WO.p rfl rfl (WO.p rfl rfl (WO.p rfl rfl (WO.ar rfl rfl rfl (by (first | (unfold in64; omega) | (unfold in64; omega))) rfl (WO.p rfl rfl (WO.ar rfl rfl rfl (by (first | (unfold in64; omega) | (unfold in64; omega))) rfl ?_))))))
            refine' WO.indexAddrZ (n := _) rfl rfl rfl ?hs ?h00 ?h1 rfl ?_
            case hs => (first | exact hR.sl)
            case h00 => omega
            case h1 => (first | omega | (simp; omega))
            refine' WO.load (v := _) rfl rfl ?hc rfl ?_
            case hc => (first | (refine hR.cell0 (i := ((i : Int) - 1 - (j : Int)).toNat) ?_ 0 ?_ <;> first | rfl | omega))
            refine WO.and01 rfl rfl (bt_ok ht j) (bt_ok hl ((i : Int) - 1 - (j : Int)).toNat) rfl ?_
            refine WO.xor01 rfl rfl (by omega) (mul01 (bt_ok ht j) (bt_ok hl ((i : Int) - 1 - (j : Int)).toNat)) rfl ?_
            refine WO.p rfl rfl ?_
            refine WO.nil ?_
            refine W.region ?_
            refine WO.ar rfl rfl rfl (by (first | (unfold in64; omega) | (unfold in64; omega))) rfl (WO.p rfl rfl ?_)
            refine WO.nil ?_
            refine' ⟨j + 1, _, ?hp, ?hmu, ⟨rfl, rfl, rfl, rfl, rfl, rfl, rfl, rfl, trivial⟩, ?hS⟩
            case hS => repeat (first | exact Sub.nil | refine Sub.cons (by repeat (first | exact Pick.head | apply Pick.tail)) ?_)
            case hp => exact ⟨by omega, hstep⟩
            case hmu => omega)
       · first
         | (exfalso; omega)
         | (refine W.exit (blk_same ?_)
            refine W.sreg ?_
            refine WO.p rfl rfl (WO.p rfl rfl ?_)
            refine WO.nil ?_
            refine W.cond_bl rfl (fun c3 => ?_) (fun c3 => ?_)
            · first
              | (exfalso; omega)
              | (refine W.sreg ?_
                 refine WO.p rfl rfl (WO.p rfl rfl ?_)
                 refine WO.nil ?_
                 refine W.exit (blk_other rfl (blk_same ?_))
                 refine W.sreg ?_
                 refine WO.p rfl rfl (WO.p rfl rfl ?_)
                 refine WO.nil ?_
                 refine W.ret ?_
                 exact fin.ret (Res.one rfl (RV.tmp rfl)) ⟨_, rfl, by first | exact .inr ⟨i, rfl, by omega, by omega, hin, fun h => absurd ((okAt_x hl).1 h) (by rw [show j = taps.length by omega] at hnn; omega)⟩ | exact .inl ⟨rfl, fun k hk h1 => hin k h1 (by have := List.mem_range.1 hk; omega)⟩⟩)
            · first
              | (exfalso; omega)
              | (refine W.skip ?_
                 refine W.region ?_
                 refine WO.p rfl rfl (WO.ar rfl rfl rfl (by (first | (unfold in64; omega) | (unfold in64; omega))) rfl (WO.p rfl rfl ?_))
                 refine WO.nil ?_
                 refine' ⟨i + 1, ?hp, ?hmu, ⟨rfl, rfl, rfl, rfl, trivial⟩, ?hS⟩
                 case hS => repeat (first | exact Sub.nil | refine Sub.cons (by repeat (first | exact Pick.head | apply Pick.tail)) ?_)
                 case hp => exact ⟨by omega, fun k h1 h2 => by rcases Nat.lt_or_ge k i with g | g; exact hin k h1 g; rw [show k = i by omega]; exact (okAt_x hl).2 (by rw [show j = taps.length by omega] at hnn; omega)⟩
                 case hmu => omega)))
  · first
    | (exfalso; omega)
    | (refine W.exit (blk_same ?_)
       refine W.sreg ?_
       refine WO.p rfl rfl (WO.p rfl rfl ?_)
       refine WO.nil ?_
       refine W.ret ?_
       exact fin.ret (Res.one rfl (RV.tmp rfl)) ⟨_, rfl, by first | exact .inr ⟨i, rfl, by omega, by omega, hin, fun h => absurd ((okAt_x hl).1 h) (by rw [show j = taps.length by omega] at hnn; omega)⟩ | exact .inl ⟨rfl, fun k hk h1 => hin k h1 (by have := List.mem_range.1 hk; omega)⟩⟩)
end Go.Proofs.Ytingkbglkaojdaa
namespace Go.Proofs.Ytingkbglkaojdaa
open Go Go.TH Go.TH.Wv
attribute [local irreducible] W WO pt
set_option maxRecDepth 10000
set_option maxHeartbeats 1000000
/-- what CheckRegister answers -/
def regE (l taps : List Int) : Int := if chk2 l taps ≠ 0 then chk2 l taps else if mk taps l then 0 else 14
theorem regE0 {l taps : List Int} : regE l taps = 0 ↔ chkB l = 0 ∧ chkB taps = 0 ∧ mk taps l := by
  unfold regE
  have := chk20 (a := l) (b := taps)
  split
  · constructor
    · intro h; omega
    · intro h; exact absurd (this.2 ⟨h.1, h.2.1⟩) (by assumption)
  · rename_i h
    have h0 := this.1 (by omega)
    split
    · rename_i hm; exact ⟨fun _ => ⟨h0.1, h0.2, hm⟩, fun _ => rfl⟩
    · rename_i hm; exact ⟨fun h => by omega, fun h => absurd h.2.2 hm⟩
theorem ref_CheckRegister (w : World) (v u : Value) (l taps : List Int) (hR : RdF encI 1 w.heap.size w v l) (hU : RdF encI 1 w.heap.size w u taps) (hv : HasCap v l.length) : Ret Try.prog 20 [v, u].toArray w (.int .i64 (regE l taps)) := by
  refine Ret.of mixed tyTab Try.func20 rfl rfl ?_
  replace hR : RdF encI 1 (fnCx mixed tyTab Try.f20.ntmps w).B (fnCx mixed tyTab Try.f20.ntmps w).w0 v l := hR
  replace hU : RdF encI 1 (fnCx mixed tyTab Try.f20.ntmps w).B (fnCx mixed tyTab Try.f20.ntmps w).w0 u taps := hU
  refine W.sreg ?_
  refine WO.p rfl rfl ?_
  refine WO.nil ?_
  refine W.seq ?_
  refine W.sreg ?_
  refine WO.p rfl rfl (WO.p rfl rfl ?_)
  refine WO.callR rfl Try.call43 (fun L w hi => ref_two w v u l taps (hR.later hi) (hU.later hi)) rfl ?_
  refine WO.p rfl rfl ?_
  refine WO.nil ?_
  refine W.cond_bl rfl (fun c1 => ?_) (fun c1 => ?_)
  · first
    | (exfalso; omega)
    | (refine W.sreg ?_
       refine WO.p rfl rfl (WO.p rfl rfl ?_)
       refine WO.callR rfl Try.call43 (fun L w hi => ref_two w v u l taps (hR.later hi) (hU.later hi)) rfl ?_
       refine WO.p rfl rfl ?_
       refine WO.nil ?_
       refine W.ret ?_
       refine fin.ret (Res.one rfl (RV.tmp rfl)) (congrArg (Value.int .i64) ?_)
       first | (unfold regE; rw [if_pos (by assumption)]; done) | (unfold regE; rw [if_neg (by omega), if_neg (by assumption)]; done) | (unfold regE; rw [if_neg (by omega), if_pos (by assumption)]; done))
  · first
    | (exfalso; omega)
    | (refine W.skip ?_
       refine W.seq ?_
       refine W.sreg ?_
       refine WO.p rfl rfl (WO.p rfl rfl ?_)
       have h2 := chk20.1 (show chk2 l taps = 0 by omega)
       have o1 := (chkB0.1 h2.1).2
       have o2 := (chkB0.1 h2.2).2
       refine WO.callR rfl Try.call29 (fun L w hi => ref_Makes w v u l taps (hR.later hi) (hU.later hi) hv o1 o2) rfl ?_
       refine WO.p rfl rfl ?_
       refine WO.nil ?_
       refine W.cond_nbl rfl (fun c2 => ?_) (fun c2 => ?_)
       · first
         | (exfalso; omega)
         | (refine W.sreg ?_
            refine WO.p rfl rfl ?_
            refine WO.nil ?_
            refine W.ret ?_
            refine fin.ret (Res.one rfl (RV.tmp rfl)) (congrArg (Value.int .i64) ?_)
            first | (unfold regE; rw [if_pos (by assumption)]; done) | (unfold regE; rw [if_neg (by omega), if_neg (by assumption)]; done) | (unfold regE; rw [if_neg (by omega), if_pos (by assumption)]; done))
       · first
         | (exfalso; omega)
         | (refine W.skip ?_
            refine W.sreg ?_
            refine WO.p rfl rfl ?_
            refine WO.nil ?_
            refine W.ret ?_
            refine fin.ret (Res.one rfl (RV.tmp rfl)) (congrArg (Value.int .i64) ?_)
            first | (unfold regE; rw [if_pos (by assumption)]; done) | (unfold regE; rw [if_neg (by omega), if_neg (by assumption)]; done) | (unfold regE; rw [if_neg (by omega), if_pos (by assumption)]; done)))
theorem wrong_ge {taps l : List Int} {n : Int} (h : IsWrong taps l n) : 0 ≤ n ↔ ¬ mk taps l := by
  rcases h with ⟨rfl, hm⟩ | ⟨i, rfl, h1, h2, h3, h4⟩
  · exact ⟨fun h => by omega, fun h => absurd hm h⟩
  · exact ⟨fun _ hm => h4 (hm i (List.mem_range.2 h2) h1), fun _ => by omega⟩
theorem c_CheckRegister (w : World) (v u : Value) (l taps : List Int) (hR : RdF encI 1 w.heap.size w v l) (hU : RdF encI 1 w.heap.size w u taps) : Ret Try.prog 35 [v, u].toArray w (.int .i64 (regE l taps)) := by
  refine Ret.of mixed tyTab Try.func35 rfl rfl ?_
  replace hR : RdF encI 1 (fnCx mixed tyTab Try.f35.ntmps w).B (fnCx mixed tyTab Try.f35.ntmps w).w0 v l := hR
  replace hU : RdF encI 1 (fnCx mixed tyTab Try.f35.ntmps w).B (fnCx mixed tyTab Try.f35.ntmps w).w0 u taps := hU
  obtain ⟨hle, va, vc, hve, _⟩ := id hR.sl
  subst hve
  obtain ⟨hlu, ua, uc, hue, _⟩ := id hU.sl
  subst hue
  refine W.sreg ?_
  refine WO.p rfl rfl ?_
  refine WO.nil ?_
  refine W.seq ?_
  refine W.sreg ?_
  refine WO.p rfl rfl (WO.p rfl rfl ?_)
  refine' WO.buildSl (cs := _) rfl rfl rfl rfl ?hf rfl rfl ?hl rfl (fun v1 => ?_)
  case hf => (conv => lhs; simp [-List.getD_eq_getElem?_getD, fillL, vcl, wrl, TTab.pl?.lget']) <;> rfl
  case hl => rfl
  refine WO.callR (r := .int .i64 (chk2 l taps)) rfl Try.call44 (fun L w hi => by rw [← chkAll_two]; exact c_checkAll w _ [.slice va l.length vc, .slice ua taps.length uc] [l, taps] (RdR.of_two (e' := 22) (a := .slice va l.length vc) (b := .slice ua taps.length uc) (xs := l) (ys := taps) (by repeat (first | exact Pick.head | apply Pick.tail)) hi (hR.later hi) (hU.later hi))) rfl ?_
  refine WO.p rfl rfl ?_
  refine WO.nil ?_
  refine W.sreg ?_
  refine WO.p rfl rfl (WO.p rfl rfl ?_)
  refine WO.nil ?_
  refine W.cond_bl rfl (fun c1 => ?_) (fun c1 => ?_)
  · first
    | (exfalso; omega)
    | (refine W.sreg ?_
       refine WO.p rfl rfl (WO.p rfl rfl ?_)
       refine WO.nil ?_
       refine W.ret ?_
       refine fin.ret (Res.one rfl (RV.tmp rfl)) (congrArg (Value.int .i64) ?_)
       first | (unfold regE; rw [if_pos (by assumption)]; done) | (unfold regE; rw [if_neg (by omega), if_neg (hge.1 (by assumption))]; done) | (unfold regE; rw [if_neg (by omega), if_pos (Decidable.not_not.1 (fun h => absurd (hge.2 h) (by assumption)))]; done))
  · first
    | (exfalso; omega)
    | (refine W.skip ?_
       refine W.seq ?_
       refine W.sreg ?_
       refine WO.p rfl rfl (WO.p rfl rfl ?_)
       have h2 := chk20.1 (show chk2 l taps = 0 by omega)
       have o1 := (chkB0.1 h2.1).2
       have o2 := (chkB0.1 h2.2).2
       refine WO.callE rfl Try.call56 (fun L w hi => c_wrong w _ _ l taps (hR.later hi) (hU.later hi) o1 o2) rfl ?_
       rintro _ ⟨n, rfl, hn⟩
       have hge := wrong_ge hn
       refine WO.p rfl rfl ?_
       refine WO.nil ?_
       refine W.cond_bl rfl (fun c2 => ?_) (fun c2 => ?_)
       · first
         | (exfalso; omega)
         | (refine W.sreg ?_
            refine WO.p rfl rfl ?_
            refine WO.nil ?_
            refine W.ret ?_
            refine fin.ret (Res.one rfl (RV.tmp rfl)) (congrArg (Value.int .i64) ?_)
            first | (unfold regE; rw [if_pos (by assumption)]; done) | (unfold regE; rw [if_neg (by omega), if_neg (hge.1 (by assumption))]; done) | (unfold regE; rw [if_neg (by omega), if_pos (Decidable.not_not.1 (fun h => absurd (hge.2 h) (by assumption)))]; done))
       · first
         | (exfalso; omega)
         | (refine W.skip ?_
            refine W.sreg ?_
            refine WO.p rfl rfl ?_
            refine WO.nil ?_
            refine W.ret ?_
            refine fin.ret (Res.one rfl (RV.tmp rfl)) (congrArg (Value.int .i64) ?_)
            first | (unfold regE; rw [if_pos (by assumption)]; done) | (unfold regE; rw [if_neg (by omega), if_neg (hge.1 (by assumption))]; done) | (unfold regE; rw [if_neg (by omega), if_pos (Decidable.not_not.1 (fun h => absurd (hge.2 h) (by assumption)))]; done)))
/-- the struct of a proof -/
def proofV (u : Value) (n : Int) : Value := .agg #[u, .int .i64 n]
def IsProof (taps l : List Int) (n : Nat) : Prop := taps.length ≤ n ∧ mk taps (l.take n) ∧ ¬ mk taps (l.take (n + 1))
instance (taps l : List Int) (n : Nat) : Decidable (IsProof taps l n) := by unfold IsProof; infer_instance
/-- what CheckProof answers: an error, or 0 -/
def prfE (l taps : List Int) (n : Int) : Int := if chk2 l taps ≠ 0 then chk2 l taps else if n < 0 ∨ (l.length : Int) ≤ n then 3 else if IsProof taps l n.toNat then 0 else 14
def prfN (l taps : List Int) (n : Int) : Int := if prfE l taps n = 0 then n + 1 - taps.length else 0
theorem prf0 {l taps : List Int} {n : Int} (h : prfE l taps n = 0) : prfN l taps n = n + 1 - taps.length := if_pos h
theorem prf1 {l taps : List Int} {n : Int} (h : prfE l taps n ≠ 0) : prfN l taps n = 0 := if_neg h
theorem prfE_a {l taps : List Int} {n : Int} (h : chk2 l taps ≠ 0) : prfE l taps n = chk2 l taps := if_pos h
theorem prfE_b {l taps : List Int} {n : Int} (h : chk2 l taps = 0) (h2 : n < 0 ∨ (l.length : Int) ≤ n) : prfE l taps n = 3 := by unfold prfE; rw [if_neg (by omega), if_pos h2]
theorem prfE_c {l taps : List Int} {n : Int} (h : chk2 l taps = 0) (h2 : ¬ (n < 0 ∨ (l.length : Int) ≤ n)) (h3 : ¬ IsProof taps l n.toNat) : prfE l taps n = 14 := by unfold prfE; rw [if_neg (by omega), if_neg h2, if_neg h3]
theorem prfE_d {l taps : List Int} {n : Int} (h : chk2 l taps = 0) (h2 : ¬ (n < 0 ∨ (l.length : Int) ≤ n)) (h3 : IsProof taps l n.toNat) : prfE l taps n = 0 := by unfold prfE; rw [if_neg (by omega), if_neg h2, if_pos h3]
def prfV (l taps : List Int) (n : Int) : Value := .tuple #[.int .i64 (prfN l taps n), .int .i64 (prfE l taps n)]
theorem prfV_a {l taps : List Int} {n : Int} (h : chk2 l taps ≠ 0) : prfV l taps n = .tuple #[.int .i64 0, .int .i64 (chk2 l taps)] := by unfold prfV; rw [prf1 (by rw [prfE_a h]; exact h), prfE_a h]
theorem prfV_b {l taps : List Int} {n : Int} (h : chk2 l taps = 0) (h2 : n < 0 ∨ (l.length : Int) ≤ n) : prfV l taps n = .tuple #[.int .i64 0, .int .i64 3] := by unfold prfV; rw [prf1 (by rw [prfE_b h h2]; omega), prfE_b h h2]
theorem prfV_c {l taps : List Int} {n : Int} (h : chk2 l taps = 0) (h2 : ¬ (n < 0 ∨ (l.length : Int) ≤ n)) (h3 : ¬ IsProof taps l n.toNat) : prfV l taps n = .tuple #[.int .i64 0, .int .i64 14] := by unfold prfV; rw [prf1 (by rw [prfE_c h h2 h3]; omega), prfE_c h h2 h3]
theorem prfV_d {l taps : List Int} {n : Int} (h : chk2 l taps = 0) (h2 : ¬ (n < 0 ∨ (l.length : Int) ≤ n)) (h3 : IsProof taps l n.toNat) : prfV l taps n = .tuple #[.int .i64 (n + 1 - taps.length), .int .i64 0] := by unfold prfV; rw [prf0 (prfE_d h h2 h3), prfE_d h h2 h3]
theorem take_len {l : List Int} {n : Nat} (h : n ≤ l.length) : (l.take n).length = n := by rw [List.length_take]; omega
theorem okAt_take {taps l : List Int} {n i : Nat} (h : i < n) : okAt taps (l.take n) i ↔ okAt taps l i := by
  unfold okAt
  have e : pre (bt taps) taps.length (bt (l.take n)) i = pre (bt taps) taps.length (bt l) i := sm_congr fun j hj => by rw [bt_take (by omega)]
  rw [e, bt_take h]
theorem mk_take {taps l : List Int} {n : Nat} (h : n ≤ l.length) : mk taps (l.take n) ↔ ∀ k, taps.length ≤ k → k < n → okAt taps l k := by
  unfold mk
  rw [take_len h]
  exact ⟨fun g k h1 h2 => (okAt_take h2).1 (g k (List.mem_range.2 h2) h1), fun g k h2 h1 => (okAt_take (List.mem_range.1 h2)).2 (g k h1 (List.mem_range.1 h2))⟩
theorem wrong_at {taps l : List Int} {n : Int} {m : Nat} (h : IsWrong taps l n) (hm : m < l.length) : n = (m : Int) ↔ IsProof taps l m := by
  unfold IsProof
  rw [mk_take (by omega), mk_take (by omega)]
  rcases h with ⟨rfl, h0⟩ | ⟨i, rfl, h1, h2, h3, h4⟩
  · refine ⟨fun h => by omega, fun ⟨_, _, g⟩ => absurd (fun k h1 h2 => h0 k (List.mem_range.2 (by omega)) h1) g⟩
  · refine ⟨fun h => ?_, fun ⟨g1, g2, g3⟩ => ?_⟩
    · obtain rfl : i = m := by omega
      exact ⟨h1, h3, fun g => h4 (g i h1 (by omega))⟩
    · rcases Nat.lt_trichotomy i m with g | g | g
      · exact absurd (g2 i h1 g) h4
      · omega
      · exact absurd (fun k a b => h3 k a (by omega)) g3
theorem c_CheckProof (w : World) (v u : Value) (l taps : List Int) (n : Int) (hR : RdF encI 1 w.heap.size w v l) (hU : RdF encI 1 w.heap.size w u taps) : Ret Try.prog 36 [v, proofV u n].toArray w (prfV l taps n) := by
  refine Ret.of mixed tyTab Try.func36 rfl rfl ?_
  replace hR : RdF encI 1 (fnCx mixed tyTab Try.f36.ntmps w).B (fnCx mixed tyTab Try.f36.ntmps w).w0 v l := hR
  replace hU : RdF encI 1 (fnCx mixed tyTab Try.f36.ntmps w).B (fnCx mixed tyTab Try.f36.ntmps w).w0 u taps := hU
  obtain ⟨_, va, vc, hve, _⟩ := id hR.sl
  subst hve
  obtain ⟨_, ua, uc, hue, _⟩ := id hU.sl
  subst hue
  have hle := hR.sl.le
  have hlu := hU.sl.le
  refine W.sreg ?_
  refine WO.boxA rfl rfl (fun b1 hb1 => ?_)
  refine WO.p rfl rfl (WO.p rfl rfl ?_)
  refine WO.nil ?_
  refine W.sreg ?_
  refine WO.p rfl rfl (WO.field0 rfl rfl rfl (WO.load rfl rfl (Cell.own Pick.head rfl) rfl ?_))
  refine' WO.buildSl (cs := _) rfl rfl rfl rfl ?hf rfl rfl ?hl rfl (fun v2 => ?_)
  case hf => (conv => lhs; simp [-List.getD_eq_getElem?_getD, fillL, vcl, wrl, TTab.pl?.lget']) <;> rfl
  case hl => rfl
  refine WO.callR (r := .int .i64 (chk2 l taps)) rfl Try.call44 (fun L w hi => by rw [← chkAll_two]; exact c_checkAll w _ [.slice va l.length vc, .slice ua taps.length uc] [l, taps] (RdR.of_two (e' := 22) (a := .slice va l.length vc) (b := .slice ua taps.length uc) (xs := l) (ys := taps) (by repeat (first | exact Pick.head | apply Pick.tail)) hi (hR.later hi) (hU.later hi))) rfl ?_
  refine WO.p rfl rfl ?_
  refine WO.nil ?_
  refine W.seq ?_
  refine W.block ?_
  refine W.sreg ?_
  refine WO.p rfl rfl (WO.p rfl rfl (WO.p rfl rfl ?_))
  refine WO.nil ?_
  refine W.cond_bl rfl (fun c1 => ?_) (fun c1 => ?_)
  · first
    | (exfalso; omega)
    | (refine W.sreg ?_
       refine WO.p rfl rfl (WO.p rfl rfl (WO.p rfl rfl ?_))
       refine WO.nil ?_
       refine W.ret ?_
       refine fin.ret (Res.two rfl (RV.tmp rfl) (RV.tmp rfl)) ?_
       first | exact (prfV_a (by assumption)).symm | exact (prfV_b (by omega) (by omega)).symm | exact (prfV_c h20 (by omega) (fun h => absurd (hge.2 h) (by omega))).symm | exact (prfV_d h20 (by omega) (hge.1 (by omega))).symm)
  · first
    | (exfalso; omega)
    | (refine W.sreg ?_
       refine WO.fieldL rfl rfl rfl (WO.load rfl rfl (Cell.own (Pick.tail (Pick.head)) rfl) rfl (WO.p rfl rfl (WO.p rfl rfl ?_)))
       refine WO.guard_bl rfl rfl (fun c2 => ?_) (fun c2 => ?_)
       · first
         | (exfalso; omega)
         | (refine WO.no rfl rfl (WO.no rfl rfl (WO.no rfl rfl (WO.no rfl rfl (WO.no rfl rfl (WO.p rfl rfl (WO.p rfl rfl ?_))))))
            refine WO.nil ?_
            refine W.cond_t rfl ?_
            refine W.sreg ?_
            refine WO.p rfl rfl (WO.p rfl rfl ?_)
            refine WO.nil ?_
            refine W.ret ?_
            refine fin.ret (Res.two rfl (RV.tmp rfl) (RV.tmp rfl)) ?_
            first | exact (prfV_a (by assumption)).symm | exact (prfV_b (by omega) (by omega)).symm | exact (prfV_c h20 (by omega) (fun h => absurd (hge.2 h) (by omega))).symm | exact (prfV_d h20 (by omega) (hge.1 (by omega))).symm)
       · first
         | (exfalso; omega)
         | (refine WO.go' rfl (WO.fieldL rfl rfl rfl (WO.go' rfl (WO.load rfl rfl (Cell.own (Pick.tail (Pick.head)) rfl) rfl (WO.pg rfl rfl rfl (WO.go' rfl ?_)))))
            refine' WO.len (n := _) rfl rfl ?hs rfl ?_
            case hs => (first | exact hR.sl)
            refine WO.pg rfl rfl rfl (WO.p rfl rfl (WO.p rfl rfl ?_))
            refine WO.nil ?_
            refine W.cond_bl rfl (fun c3 => ?_) (fun c3 => ?_)
            · first
              | (exfalso; omega)
              | (refine W.sreg ?_
                 refine WO.p rfl rfl (WO.p rfl rfl ?_)
                 refine WO.nil ?_
                 refine W.ret ?_
                 refine fin.ret (Res.two rfl (RV.tmp rfl) (RV.tmp rfl)) ?_
                 first | exact (prfV_a (by assumption)).symm | exact (prfV_b (by omega) (by omega)).symm | exact (prfV_c h20 (by omega) (fun h => absurd (hge.2 h) (by omega))).symm | exact (prfV_d h20 (by omega) (hge.1 (by omega))).symm)
            · first
              | (exfalso; omega)
              | (refine W.seq ?_
                 have h20 : chk2 l taps = 0 := by omega
                 have h2 := chk20.1 h20
                 have o1 := (chkB0.1 h2.1).2
                 have o2 := (chkB0.1 h2.2).2
                 refine W.drawD 6 [.r 0 [], .r 1 [], .b 2 [], .r 4 [], .b 5 [], .c 3 []] [] (A0 := []) (Sub.refl _) (by kernel_rfl) ?_ ?_
                 · exact (ALok.r (ALok.r (ALok.b (ALok.r (ALok.b (ALok.c ALok.nil))))))
                 refine' DT.r rfl rfl rfl ?hq ?_
                 case hq =>
                   refine WO.p rfl rfl ?_
                   exact WO.nil ⟨rfl, rfl⟩
                 refine' DT.r rfl rfl rfl ?hq ?_
                 case hq =>
                   refine WO.field0 rfl rfl rfl ?_
                   exact WO.nil ⟨rfl, rfl⟩
                 refine' DT.b rfl rfl rfl ?hq ?_
                 case hq =>
                   refine WO.load rfl rfl (Cell.own (Pick.tail (Pick.head)) rfl) rfl ?_
                   exact WO.nil ⟨rfl, rfl⟩
                 refine' DT.r rfl rfl rfl ?hq ?_
                 case hq =>
                   refine WO.fieldL rfl rfl rfl ?_
                   exact WO.nil ⟨rfl, rfl⟩
                 refine' DT.b rfl rfl rfl ?hq ?_
                 case hq =>
                   refine WO.load rfl rfl (Cell.own (Pick.tail (Pick.head)) rfl) rfl ?_
                   exact WO.nil ⟨rfl, rfl⟩
                 refine DT.c [_, _] rfl rfl rfl rfl ?_
                 refine WO.callE rfl Try.call56 (fun L w hi => c_wrong w _ _ l taps (hR.later hi) (hU.later hi) o1 o2) rfl ?_
                 rintro _ ⟨q, rfl, hn⟩
                 have hge := wrong_at (m := n.toNat) hn (by omega)
                 refine WO.nil ⟨_, [], rfl, rfl, (Keep.b (Keep.r (Keep.b (Keep.r (Keep.r Keep.nil))))), ?_⟩
                 refine DT.nil [_, _] rfl ?_
                 refine WO.p rfl rfl (WO.p rfl rfl ?_)
                 refine WO.nil ?_
                 refine W.cond_bl rfl (fun c4 => ?_) (fun c4 => ?_)
                 · first
                   | (exfalso; omega)
                   | (refine W.sreg ?_
                      refine WO.p rfl rfl (WO.p rfl rfl ?_)
                      refine WO.nil ?_
                      refine W.ret ?_
                      refine fin.ret (Res.two rfl (RV.tmp rfl) (RV.tmp rfl)) ?_
                      first | exact (prfV_a (by assumption)).symm | exact (prfV_b (by omega) (by omega)).symm | exact (prfV_c h20 (by omega) (fun h => absurd (hge.2 h) (by omega))).symm | exact (prfV_d h20 (by omega) (hge.1 (by omega))).symm)
                 · first
                   | (exfalso; omega)
                   | (refine W.skip ?_
                      refine W.sreg ?_
                      refine WO.fieldL rfl rfl rfl (WO.load rfl rfl (Cell.own (Pick.tail (Pick.head)) rfl) rfl (WO.ar rfl rfl rfl (by (first | (unfold in64; omega) | (unfold in64; omega))) rfl (WO.field0 rfl rfl rfl (WO.load rfl rfl (Cell.own (Pick.tail (Pick.head)) rfl) rfl ?_))))
                      refine' WO.len (n := _) rfl rfl ?hs rfl ?_
                      case hs => (first | exact hU.sl)
                      refine WO.ar rfl rfl rfl (by (first | (unfold in64; omega) | (unfold in64; omega))) rfl (WO.p rfl rfl (WO.p rfl rfl ?_))
                      refine WO.nil ?_
                      refine W.ret ?_
                      refine fin.ret (Res.two rfl (RV.tmp rfl) (RV.tmp rfl)) ?_
                      first | exact (prfV_a (by assumption)).symm | exact (prfV_b (by omega) (by omega)).symm | exact (prfV_c h20 (by omega) (fun h => absurd (hge.2 h) (by omega))).symm | exact (prfV_d h20 (by omega) (hge.1 (by omega))).symm))))
theorem ref_CheckProof (w : World) (v u : Value) (l taps : List Int) (n : Int) (hR : RdF encI 1 w.heap.size w v l) (hU : RdF encI 1 w.heap.size w u taps) (hv : HasCap v l.length) : Ret Try.prog 37 [v, proofV u n].toArray w (prfV l taps n) := by
  refine Ret.of mixed tyTab Try.func37 rfl rfl ?_
  obtain ⟨va, vc, rfl, hcap⟩ := hv
  replace hR : RdF encI 1 (fnCx mixed tyTab Try.f37.ntmps w).B (fnCx mixed tyTab Try.f37.ntmps w).w0 (.slice va l.length vc) l := hR
  replace hU : RdF encI 1 (fnCx mixed tyTab Try.f37.ntmps w).B (fnCx mixed tyTab Try.f37.ntmps w).w0 u taps := hU
  obtain ⟨_, ua, uc, hue, _⟩ := id hU.sl
  subst hue
  have hle := hR.sl.le
  have hlu := hU.sl.le
  refine W.sreg ?_
  refine WO.boxA rfl rfl (fun b1 hb1 => ?_)
  refine WO.p rfl rfl (WO.p rfl rfl ?_)
  refine WO.nil ?_
  refine W.seq ?_
  refine W.sreg ?_
  refine WO.p rfl rfl (WO.field0 rfl rfl rfl (WO.load rfl rfl (Cell.own Pick.head rfl) rfl ?_))
  refine WO.callR rfl Try.call43 (fun L w hi => ref_two w _ _ l taps (hR.later hi) (hU.later hi)) rfl ?_
  refine WO.p rfl rfl ?_
  refine WO.nil ?_
  refine W.cond_bl rfl (fun c1 => ?_) (fun c1 => ?_)
  · first
    | (exfalso; omega)
    | (refine W.sreg ?_
       refine WO.p rfl rfl (WO.field0 rfl rfl rfl (WO.load rfl rfl (Cell.own Pick.head rfl) rfl ?_))
       refine WO.callR rfl Try.call43 (fun L w hi => ref_two w _ _ l taps (hR.later hi) (hU.later hi)) rfl ?_
       refine WO.p rfl rfl (WO.p rfl rfl ?_)
       refine WO.nil ?_
       refine W.ret ?_
       refine fin.ret (Res.two rfl (RV.tmp rfl) (RV.tmp rfl)) ?_
       first | exact (prfV_a (by assumption)).symm | exact (prfV_b (by omega) (by omega)).symm | exact (prfV_c h20 (by omega) (fun h => absurd h.1 (by omega))).symm | exact (prfV_c h20 (by omega) (fun h => absurd h.2.1 (by assumption))).symm | exact (prfV_c h20 (by omega) (fun h => absurd (by assumption) h.2.2)).symm | exact (prfV_d h20 (by omega) ⟨by omega, by assumption, by assumption⟩).symm)
  · first
    | (exfalso; omega)
    | (refine W.skip ?_
       refine W.seq ?_
       refine W.sreg ?_
       refine WO.fieldL rfl rfl rfl (WO.load rfl rfl (Cell.own Pick.head rfl) rfl (WO.p rfl rfl (WO.p rfl rfl ?_)))
       refine WO.guard_bl rfl rfl (fun c2 => ?_) (fun c2 => ?_)
       · first
         | (exfalso; omega)
         | (refine WO.no rfl rfl (WO.no rfl rfl (WO.no rfl rfl (WO.no rfl rfl (WO.no rfl rfl (WO.p rfl rfl ?_)))))
            refine WO.nil ?_
            refine W.cond_t rfl ?_
            refine W.sreg ?_
            refine WO.p rfl rfl (WO.p rfl rfl ?_)
            refine WO.nil ?_
            refine W.ret ?_
            refine fin.ret (Res.two rfl (RV.tmp rfl) (RV.tmp rfl)) ?_
            first | exact (prfV_a (by assumption)).symm | exact (prfV_b (by omega) (by omega)).symm | exact (prfV_c h20 (by omega) (fun h => absurd h.1 (by omega))).symm | exact (prfV_c h20 (by omega) (fun h => absurd h.2.1 (by assumption))).symm | exact (prfV_c h20 (by omega) (fun h => absurd (by assumption) h.2.2)).symm | exact (prfV_d h20 (by omega) ⟨by omega, by assumption, by assumption⟩).symm)
       · first
         | (exfalso; omega)
         | (refine WO.go' rfl (WO.fieldL rfl rfl rfl (WO.go' rfl (WO.load rfl rfl (Cell.own Pick.head rfl) rfl (WO.pg rfl rfl rfl (WO.go' rfl ?_)))))
            refine' WO.len (n := _) rfl rfl ?hs rfl ?_
            case hs => (first | exact hR.sl)
            refine WO.pg rfl rfl rfl (WO.p rfl rfl ?_)
            refine WO.nil ?_
            refine W.cond_bl rfl (fun c3 => ?_) (fun c3 => ?_)
            · first
              | (exfalso; omega)
              | (refine W.sreg ?_
                 refine WO.p rfl rfl (WO.p rfl rfl ?_)
                 refine WO.nil ?_
                 refine W.ret ?_
                 refine fin.ret (Res.two rfl (RV.tmp rfl) (RV.tmp rfl)) ?_
                 first | exact (prfV_a (by assumption)).symm | exact (prfV_b (by omega) (by omega)).symm | exact (prfV_c h20 (by omega) (fun h => absurd h.1 (by omega))).symm | exact (prfV_c h20 (by omega) (fun h => absurd h.2.1 (by assumption))).symm | exact (prfV_c h20 (by omega) (fun h => absurd (by assumption) h.2.2)).symm | exact (prfV_d h20 (by omega) ⟨by omega, by assumption, by assumption⟩).symm)
            · first
              | (exfalso; omega)
              | (refine W.skip ?_
                 refine W.seq ?_
                 refine W.seq ?_
                 have h20 : chk2 l taps = 0 := by omega
                 have h2 := chk20.1 h20
                 have o1 := (chkB0.1 h2.1).2
                 have o2 := (chkB0.1 h2.2).2
                 refine W.drawD 24 [.r 0 [], .b 1 [], .r 2 [], .r 3 [], .b 4 [], .r 5 [], .r 6 [], .r 7 [], .r 8 [], .b 9 [], .r 10 [], .r 11 [], .b 12 [], .b 13 [], .r 14 [], .r 15 [], .r 16 [], .r 17 [], .r 18 [], .b 19 [], .r 20 [], .r 21 [], .r 22 [], .b 23 []] [] (A0 := []) (Sub.refl _) (by kernel_rfl) ?_ ?_
                 · exact (ALok.r (ALok.b (ALok.r (ALok.r (ALok.b (ALok.r (ALok.r (ALok.r (ALok.r (ALok.b (ALok.r (ALok.r (ALok.b (ALok.b (ALok.r (ALok.r (ALok.r (ALok.r (ALok.r (ALok.b (ALok.r (ALok.r (ALok.r (ALok.b ALok.nil))))))))))))))))))))))))
                 refine' DT.r rfl rfl rfl ?hq ?_
                 case hq =>
                   refine WO.field0 rfl rfl rfl ?_
                   exact WO.nil ⟨rfl, rfl⟩
                 refine' DT.b rfl rfl rfl ?hq ?_
                 case hq =>
                   refine WO.load rfl rfl (Cell.own Pick.head rfl) rfl ?_
                   exact WO.nil ⟨rfl, rfl⟩
                 refine' DT.r rfl rfl rfl ?hq ?_
                 case hq =>
                   refine' WO.len (n := _) rfl rfl ?hs rfl ?_
                   case hs => (first | exact hU.sl)
                   exact WO.nil ⟨rfl, rfl⟩
                 refine' DT.r rfl rfl rfl ?hq ?_
                 case hq =>
                   refine WO.fieldL rfl rfl rfl ?_
                   exact WO.nil ⟨rfl, rfl⟩
                 refine' DT.b rfl rfl rfl ?hq ?_
                 case hq =>
                   refine WO.load rfl rfl (Cell.own Pick.head rfl) rfl ?_
                   exact WO.nil ⟨rfl, rfl⟩
                 refine' DT.r rfl rfl rfl ?hq ?_
                 case hq =>
                   refine WO.p rfl rfl ?_
                   exact WO.nil ⟨rfl, rfl⟩
                 refine' DT.rB rfl rfl rfl ?hq (fun c4 => ?_) (fun c4 => ?_)
                 case hq =>
                   refine WO.p rfl rfl ?_
                   exact WO.nil ⟨rfl, rfl⟩
                 · first
                   | (exfalso; omega)
                   | (refine' DT.r rfl rfl rfl ?hq ?_
                      case hq =>
                        refine WO.no rfl rfl ?_
                        exact WO.nil ⟨rfl, rfl⟩
                      refine' DT.r rfl rfl rfl ?hq ?_
                      case hq =>
                        refine WO.no rfl rfl ?_
                        exact WO.nil ⟨rfl, rfl⟩
                      refine' DT.b rfl rfl rfl ?hq ?_
                      case hq =>
                        refine WO.no rfl rfl ?_
                        exact WO.nil ⟨rfl, rfl⟩
                      refine' DT.r rfl rfl rfl ?hq ?_
                      case hq =>
                        refine WO.no rfl rfl ?_
                        exact WO.nil ⟨rfl, rfl⟩
                      refine' DT.r rfl rfl rfl ?hq ?_
                      case hq =>
                        refine WO.no rfl rfl ?_
                        exact WO.nil ⟨rfl, rfl⟩
                      refine' DT.b rfl rfl rfl ?hq ?_
                      case hq =>
                        refine WO.no rfl rfl ?_
                        exact WO.nil ⟨rfl, rfl⟩
                      refine' DT.b rfl rfl rfl ?hq ?_
                      case hq =>
                        refine WO.no rfl rfl ?_
                        exact WO.nil ⟨rfl, rfl⟩
                      refine' DT.r rfl rfl rfl ?hq ?_
                      case hq =>
                        refine WO.no rfl rfl ?_
                        exact WO.nil ⟨rfl, rfl⟩
                      refine' DT.r rfl rfl rfl ?hq ?_
                      case hq =>
                        refine WO.p rfl rfl ?_
                        exact WO.nil ⟨rfl, rfl⟩
                      refine' DT.r rfl rfl rfl ?hq ?_
                      case hq =>
                        refine WO.p rfl rfl ?_
                        exact WO.nil ⟨rfl, rfl⟩
                      refine' DT.r rfl rfl rfl ?hq ?_
                      case hq =>
                        refine WO.no rfl rfl ?_
                        exact WO.nil ⟨rfl, rfl⟩
                      refine' DT.r rfl rfl rfl ?hq ?_
                      case hq =>
                        refine WO.no rfl rfl ?_
                        exact WO.nil ⟨rfl, rfl⟩
                      refine' DT.b rfl rfl rfl ?hq ?_
                      case hq =>
                        refine WO.no rfl rfl ?_
                        exact WO.nil ⟨rfl, rfl⟩
                      refine' DT.r rfl rfl rfl ?hq ?_
                      case hq =>
                        refine WO.no rfl rfl ?_
                        exact WO.nil ⟨rfl, rfl⟩
                      refine' DT.r rfl rfl rfl ?hq ?_
                      case hq =>
                        refine WO.no rfl rfl ?_
                        exact WO.nil ⟨rfl, rfl⟩
                      refine' DT.r rfl rfl rfl ?hq ?_
                      case hq =>
                        refine WO.no rfl rfl ?_
                        exact WO.nil ⟨rfl, rfl⟩
                      refine' DT.b rfl rfl rfl ?hq ?_
                      case hq =>
                        refine WO.no rfl rfl ?_
                        exact WO.nil ⟨rfl, rfl⟩
                      refine DT.nil [_] rfl ?_
                      refine WO.no rfl rfl (WO.p rfl rfl ?_)
                      refine WO.nil ?_
                      refine W.cond_t rfl ?_
                      refine W.sreg ?_
                      refine WO.p rfl rfl (WO.p rfl rfl ?_)
                      refine WO.nil ?_
                      refine W.ret ?_
                      refine fin.ret (Res.two rfl (RV.tmp rfl) (RV.tmp rfl)) ?_
                      first | exact (prfV_a (by assumption)).symm | exact (prfV_b (by omega) (by omega)).symm | exact (prfV_c h20 (by omega) (fun h => absurd h.1 (by omega))).symm | exact (prfV_c h20 (by omega) (fun h => absurd h.2.1 (by assumption))).symm | exact (prfV_c h20 (by omega) (fun h => absurd (by assumption) h.2.2)).symm | exact (prfV_d h20 (by omega) ⟨by omega, by assumption, by assumption⟩).symm)
                 · first
                   | (exfalso; omega)
                   | (refine' DT.r rfl rfl rfl ?hq ?_
                      case hq =>
                        refine WO.pg rfl rfl rfl ?_
                        exact WO.nil ⟨rfl, rfl⟩
                      refine' DT.r rfl rfl rfl ?hq ?_
                      case hq =>
                        refine WO.go' rfl (WO.fieldL rfl rfl rfl ?_)
                        exact WO.nil ⟨rfl, rfl⟩
                      refine' DT.b rfl rfl rfl ?hq ?_
                      case hq =>
                        refine WO.go' rfl (WO.load rfl rfl (Cell.own Pick.head rfl) rfl ?_)
                        exact WO.nil ⟨rfl, rfl⟩
                      refine' DT.r rfl rfl rfl ?hq ?_
                      case hq =>
                        refine WO.go' rfl ?_
                        refine WO.slSl (lo := 0) (hi := n.toNat) (mx := vc) rfl rfl bnd.no (bnd.atZ rfl (by omega)) bnd.no (by simp) (by omega) (by omega) (by omega) rfl ?_
                        exact WO.nil ⟨rfl, rfl⟩
                      refine' DT.r rfl rfl rfl ?hq ?_
                      case hq =>
                        refine WO.go' rfl (WO.field0 rfl rfl rfl ?_)
                        exact WO.nil ⟨rfl, rfl⟩
                      refine' DT.b rfl rfl rfl ?hq ?_
                      case hq =>
                        refine WO.go' rfl (WO.load rfl rfl (Cell.own Pick.head rfl) rfl ?_)
                        exact WO.nil ⟨rfl, rfl⟩
                      refine' DT.b rfl rfl rfl ?hq ?_
                      case hq =>
                        refine WO.go' rfl ?_
                        refine WO.callR rfl Try.call29 (fun L w hi => ref_Makes w _ _ (l.take n.toNat) taps ((hR.sub (lo := 0) (hi := n.toNat) (mx := vc) (by omega) (by omega) (by omega)).later hi) (hU.later hi) (by rw [take_len (by omega)]; exact ⟨_, _, rfl, by omega⟩) (fun x hx => o1 x (List.mem_of_mem_take hx)) o2) rfl ?_
                        exact WO.nil ⟨rfl, rfl⟩
                      refine' DT.r rfl rfl rfl ?hq ?_
                      case hq =>
                        refine WO.pg rfl rfl rfl ?_
                        exact WO.nil ⟨rfl, rfl⟩
                      refine' DT.r rfl rfl rfl ?hq ?_
                      case hq =>
                        refine WO.p rfl rfl ?_
                        exact WO.nil ⟨rfl, rfl⟩
                      refine' DT.rNB rfl rfl rfl ?hq (fun c5 => ?_) (fun c5 => ?_)
                      case hq =>
                        refine WO.p rfl rfl ?_
                        exact WO.nil ⟨rfl, rfl⟩
                      · first
                        | (exfalso; omega)
                        | (refine' DT.r rfl rfl rfl ?hq ?_
                           case hq =>
                             refine WO.no rfl rfl ?_
                             exact WO.nil ⟨rfl, rfl⟩
                           refine' DT.r rfl rfl rfl ?hq ?_
                           case hq =>
                             refine WO.no rfl rfl ?_
                             exact WO.nil ⟨rfl, rfl⟩
                           refine' DT.b rfl rfl rfl ?hq ?_
                           case hq =>
                             refine WO.no rfl rfl ?_
                             exact WO.nil ⟨rfl, rfl⟩
                           refine' DT.r rfl rfl rfl ?hq ?_
                           case hq =>
                             refine WO.no rfl rfl ?_
                             exact WO.nil ⟨rfl, rfl⟩
                           refine' DT.r rfl rfl rfl ?hq ?_
                           case hq =>
                             refine WO.no rfl rfl ?_
                             exact WO.nil ⟨rfl, rfl⟩
                           refine' DT.r rfl rfl rfl ?hq ?_
                           case hq =>
                             refine WO.no rfl rfl ?_
                             exact WO.nil ⟨rfl, rfl⟩
                           refine' DT.b rfl rfl rfl ?hq ?_
                           case hq =>
                             refine WO.no rfl rfl ?_
                             exact WO.nil ⟨rfl, rfl⟩
                           refine DT.nil [_] rfl ?_
                           refine WO.no rfl rfl (WO.p rfl rfl ?_)
                           refine WO.nil ?_
                           refine W.cond_t rfl ?_
                           refine W.sreg ?_
                           refine WO.p rfl rfl (WO.p rfl rfl ?_)
                           refine WO.nil ?_
                           refine W.ret ?_
                           refine fin.ret (Res.two rfl (RV.tmp rfl) (RV.tmp rfl)) ?_
                           first | exact (prfV_a (by assumption)).symm | exact (prfV_b (by omega) (by omega)).symm | exact (prfV_c h20 (by omega) (fun h => absurd h.1 (by omega))).symm | exact (prfV_c h20 (by omega) (fun h => absurd h.2.1 (by assumption))).symm | exact (prfV_c h20 (by omega) (fun h => absurd (by assumption) h.2.2)).symm | exact (prfV_d h20 (by omega) ⟨by omega, by assumption, by assumption⟩).symm)
                      · first
                        | (exfalso; omega)
                        | (refine' DT.r rfl rfl rfl ?hq ?_
                           case hq =>
                             refine WO.pg rfl rfl rfl ?_
                             exact WO.nil ⟨rfl, rfl⟩
                           refine' DT.r rfl rfl rfl ?hq ?_
                           case hq =>
                             refine WO.go' rfl (WO.fieldL rfl rfl rfl ?_)
                             exact WO.nil ⟨rfl, rfl⟩
                           refine' DT.b rfl rfl rfl ?hq ?_
                           case hq =>
                             refine WO.go' rfl (WO.load rfl rfl (Cell.own Pick.head rfl) rfl ?_)
                             exact WO.nil ⟨rfl, rfl⟩
                           refine' DT.r rfl rfl rfl ?hq ?_
                           case hq =>
                             refine WO.go' rfl (WO.ar rfl rfl rfl (by (first | (unfold in64; omega) | (unfold in64; omega))) rfl ?_)
                             exact WO.nil ⟨rfl, rfl⟩
                           refine' DT.r rfl rfl rfl ?hq ?_
                           case hq =>
                             refine WO.go' rfl ?_
                             refine WO.slSl (lo := 0) (hi := n.toNat + 1) (mx := vc) rfl rfl bnd.no (bnd.atZ rfl (by omega)) bnd.no (by simp) (by omega) (by omega) (by omega) rfl ?_
                             exact WO.nil ⟨rfl, rfl⟩
                           refine' DT.r rfl rfl rfl ?hq ?_
                           case hq =>
                             refine WO.go' rfl (WO.field0 rfl rfl rfl ?_)
                             exact WO.nil ⟨rfl, rfl⟩
                           refine' DT.b rfl rfl rfl ?hq ?_
                           case hq =>
                             refine WO.go' rfl (WO.load rfl rfl (Cell.own Pick.head rfl) rfl ?_)
                             exact WO.nil ⟨rfl, rfl⟩
                           refine DT.nil [_] rfl ?_
                           refine WO.go' rfl ?_
                           refine WO.callR rfl Try.call29 (fun L w hi => ref_Makes w _ _ (l.take (n.toNat + 1)) taps ((hR.sub (lo := 0) (hi := n.toNat + 1) (mx := vc) (by omega) (by omega) (by omega)).later hi) (hU.later hi) (by rw [take_len (by omega)]; exact ⟨_, _, rfl, by omega⟩) (fun x hx => o1 x (List.mem_of_mem_take hx)) o2) rfl ?_
                           refine WO.p rfl rfl ?_
                           refine WO.nil ?_
                           refine W.cond_bl rfl (fun c6 => ?_) (fun c6 => ?_)
                           · first
                             | (exfalso; omega)
                             | (refine W.sreg ?_
                                refine WO.p rfl rfl (WO.p rfl rfl ?_)
                                refine WO.nil ?_
                                refine W.ret ?_
                                refine fin.ret (Res.two rfl (RV.tmp rfl) (RV.tmp rfl)) ?_
                                first | exact (prfV_a (by assumption)).symm | exact (prfV_b (by omega) (by omega)).symm | exact (prfV_c h20 (by omega) (fun h => absurd h.1 (by omega))).symm | exact (prfV_c h20 (by omega) (fun h => absurd h.2.1 (by assumption))).symm | exact (prfV_c h20 (by omega) (fun h => absurd (by assumption) h.2.2)).symm | exact (prfV_d h20 (by omega) ⟨by omega, by assumption, by assumption⟩).symm)
                           · first
                             | (exfalso; omega)
                             | (refine W.skip ?_
                                refine W.sreg ?_
                                refine WO.fieldL rfl rfl rfl (WO.load rfl rfl (Cell.own Pick.head rfl) rfl (WO.ar rfl rfl rfl (by (first | (unfold in64; omega) | (unfold in64; omega))) rfl (WO.field0 rfl rfl rfl (WO.load rfl rfl (Cell.own Pick.head rfl) rfl ?_))))
                                refine' WO.len (n := _) rfl rfl ?hs rfl ?_
                                case hs => (first | exact hU.sl)
                                refine WO.ar rfl rfl rfl (by (first | (unfold in64; omega) | (unfold in64; omega))) rfl (WO.p rfl rfl (WO.p rfl rfl ?_))
                                refine WO.nil ?_
                                refine W.ret ?_
                                refine fin.ret (Res.two rfl (RV.tmp rfl) (RV.tmp rfl)) ?_
                                first | exact (prfV_a (by assumption)).symm | exact (prfV_b (by omega) (by omega)).symm | exact (prfV_c h20 (by omega) (fun h => absurd h.1 (by omega))).symm | exact (prfV_c h20 (by omega) (fun h => absurd h.2.1 (by assumption))).symm | exact (prfV_c h20 (by omega) (fun h => absurd (by assumption) h.2.2)).symm | exact (prfV_d h20 (by omega) ⟨by omega, by assumption, by assumption⟩).symm))))))
end Go.Proofs.Ytingkbglkaojdaa
namespace Go.Proofs.Ytingkbglkaojdaa
open Go Go.TH Go.TH.Wv
attribute [local irreducible] W WO pt
set_option maxRecDepth 10000
set_option maxHeartbeats 1000000
/-- a row, and the rows -/
def rowP (l : List Int) (i j : Nat) : List Int := (List.range j).map fun j => l.getD (i - 1 - j) 0
def rowL (l : List Int) (L i : Nat) : List Int := rowP l i L ++ [l.getD i 0]
def rowsL (l : List Int) (L n : Nat) : List (List Int) := (List.range n).map fun k => rowL l L (L + k)
theorem rowP_succ (l : List Int) (i j : Nat) : rowP l i (j + 1) = rowP l i j ++ [l.getD (i - 1 - j) 0] := by unfold rowP; rw [List.range_succ, List.map_append]; rfl
theorem rowP_len (l : List Int) (i j : Nat) : (rowP l i j).length = j := by unfold rowP; simp
theorem rowL_len (l : List Int) (L i : Nat) : (rowL l L i).length = L + 1 := by unfold rowL; rw [List.length_append, rowP_len]; rfl
theorem rowsL_succ (l : List Int) (L n : Nat) : rowsL l L (n + 1) = rowsL l L n ++ [rowL l L (L + n)] := by unfold rowsL; rw [List.range_succ, List.map_append]; rfl
theorem rowsL_len (l : List Int) (L n : Nat) : (rowsL l L n).length = n := by unfold rowsL; simp
/-- an entry of a row -/
def ent (rs : List (List Int)) (j i : Nat) : Int := (rs.getD j []).getD i 0
/-- a row to which another one is added, up to a place -/
def addTo (L : Nat) (r q : List Int) (c : Nat) : List Int := (List.range (L + 1)).map fun i => if i < c then (r.getD i 0 + q.getD i 0) % 2 else r.getD i 0
theorem mapR_get {α : Type} {f : Nat → α} {n i : Nat} (z : α) (h : i < n) : ((List.range n).map f).getD i z = f i := by simp [h]
theorem ext_getD {α : Type} (z : α) {l l' : List α} (h : l.length = l'.length) (h2 : ∀ i, i < l.length → l.getD i z = l'.getD i z) : l = l' :=
  List.ext_getElem h fun i h1 h3 => by have := h2 i h1; simpa [h1, h3] using this
theorem getD_set {α : Type} (z : α) {l : List α} {c i : Nat} {v : α} (h : i < l.length) : (l.set c v).getD i z = if c = i then v else l.getD i z := by
  simp only [List.getD_eq_getElem?_getD, List.getElem?_set]
  by_cases g : c = i
  · subst g; simp [h]
  · simp [g]
theorem getD_out {α : Type} {z : α} {l : List α} {i : Nat} (h : l.length ≤ i) : l.getD i z = z := by simp [h]
theorem addTo_len (L : Nat) (r q : List Int) (c : Nat) : (addTo L r q c).length = L + 1 := by unfold addTo; simp
theorem addTo_get {L c i : Nat} {r q : List Int} (h : i ≤ L) : (addTo L r q c).getD i 0 = if i < c then (r.getD i 0 + q.getD i 0) % 2 else r.getD i 0 := mapR_get 0 (by omega)
theorem addTo_0 {L : Nat} {r q : List Int} (h : r.length = L + 1) : addTo L r q 0 = r :=
  ext_getD 0 (by rw [addTo_len, h]) fun i h1 => by rw [addTo_len] at h1; rw [addTo_get (by omega), if_neg (by omega)]
theorem addTo_set {L c : Nat} {r q : List Int} (_h : c ≤ L) : (addTo L r q c).set c ((r.getD c 0 + q.getD c 0) % 2) = addTo L r q (c + 1) :=
  ext_getD 0 (by rw [List.length_set, addTo_len, addTo_len]) fun i h1 => by
    rw [List.length_set, addTo_len] at h1
    rw [getD_set 0 (by rw [addTo_len]; exact h1), addTo_get (by omega), addTo_get (by omega)]
    by_cases g : c = i
    · subst g; rw [if_pos rfl, if_pos (by omega)]
    · rw [if_neg g]
      by_cases g2 : i < c
      · rw [if_pos g2, if_pos (by omega)]
      · rw [if_neg g2, if_neg (by omega)]
/-- the rows behind row k that have the tap a: row k is added -/
def upd (L : Nat) (rs : List (List Int)) (k a m : Nat) : List (List Int) := (List.range rs.length).map fun j => if k < j ∧ j < m ∧ ent rs j a ≠ 0 then addTo L (rs.getD j []) (rs.getD k []) (L + 1) else rs.getD j []
theorem upd_len (L : Nat) (rs : List (List Int)) (k a m : Nat) : (upd L rs k a m).length = rs.length := by unfold upd; simp
theorem upd_get {L k a m j : Nat} {rs : List (List Int)} (h : j < rs.length) : (upd L rs k a m).getD j [] = if k < j ∧ j < m ∧ ent rs j a ≠ 0 then addTo L (rs.getD j []) (rs.getD k []) (L + 1) else rs.getD j [] := mapR_get [] h
theorem upd_0 {L k a : Nat} {rs : List (List Int)} : upd L rs k a (k + 1) = rs :=
  ext_getD [] (upd_len _ _ _ _ _) fun i h1 => by rw [upd_len] at h1; rw [upd_get h1, if_neg (by omega)]
theorem upd_f {L k a m : Nat} {rs : List (List Int)} (h : ent rs m a = 0) : upd L rs k a m = upd L rs k a (m + 1) := by
  unfold upd
  refine List.map_congr_left fun j _ => ?_
  by_cases g : j = m
  · subst g; rw [if_neg (fun h' => h'.2.2 h), if_neg (fun h' => h'.2.2 h)]
  · by_cases g2 : k < j ∧ j < m ∧ ent rs j a ≠ 0
    · rw [if_pos g2, if_pos ⟨g2.1, by omega, g2.2.2⟩]
    · rw [if_neg g2, if_neg (fun h' => g2 ⟨h'.1, by omega, h'.2.2⟩)]
theorem upd_t {L k a m : Nat} {rs : List (List Int)} (hk : k < m) (h : ent rs m a ≠ 0) : (upd L rs k a m).set m (addTo L (rs.getD m []) (rs.getD k []) (L + 1)) = upd L rs k a (m + 1) :=
  ext_getD [] (by rw [List.length_set, upd_len, upd_len]) fun i h1 => by
    rw [List.length_set, upd_len] at h1
    rw [getD_set [] (by rw [upd_len]; exact h1), upd_get h1, upd_get h1]
    by_cases g : m = i
    · subst g; rw [if_pos rfl, if_pos ⟨hk, by omega, h⟩]
    · rw [if_neg g]
      by_cases g2 : k < i ∧ i < m ∧ ent rs i a ≠ 0
      · rw [if_pos g2, if_pos ⟨g2.1, by omega, g2.2.2⟩]
      · rw [if_neg g2, if_neg (fun h' => g2 ⟨h'.1, by omega, h'.2.2⟩)]
/-- what the elimination keeps -/
structure El (l : List Int) (L k : Nat) (rs : List (List Int)) : Prop where
  len : rs.length = l.length - L
  row : ∀ j, j < l.length - L → (rs.getD j []).length = L + 1
  bit : ∀ j i, ent rs j i = 0 ∨ ent rs j i = 1
  done : ∀ j, j < k → Done L (l.length - L) (ent rs) j
  sol : ∀ c, (∀ j, j < l.length - L → Sat L c (Wv.row L (bt l) (L + j))) ↔ ∀ j, j < l.length - L → Sat L c (ent rs j)
theorem rowL_get {l : List Int} {L i j : Nat} (h : j ≤ L) : (rowL l L i).getD j 0 = Wv.row L (bt l) i j := by
  unfold rowL Wv.row
  by_cases g : j < L
  · rw [if_pos g, List.getD_eq_getElem?_getD, List.getElem?_append_left (by rw [rowP_len]; exact g), ← List.getD_eq_getElem?_getD]
    exact mapR_get 0 g
  · rw [if_neg g, show j = L by omega]
    rw [List.getD_eq_getElem?_getD, List.getElem?_append_right (by rw [rowP_len]; omega), rowP_len]
    simp [bt]
theorem El.start {l : List Int} {L : Nat} (hl : OkBs l) : El l L 0 (rowsL l L (l.length - L)) := by
  have hg : ∀ j, j < l.length - L → (rowsL l L (l.length - L)).getD j [] = rowL l L (L + j) := fun j hj => mapR_get [] hj
  refine ⟨rowsL_len _ _ _, fun j hj => by rw [hg j hj, rowL_len], fun j i => ?_, fun j hj => by omega, fun c => ?_⟩
  · unfold ent
    rcases Nat.lt_or_ge j (l.length - L) with g | g
    · rw [hg j g]
      rcases Nat.lt_or_ge L i with g2 | g2
      · left; exact getD_out (by rw [rowL_len]; omega)
      · rw [rowL_get g2]; unfold Wv.row; split <;> exact bt_ok hl _
    · left; rw [getD_out (l := rowsL l L (l.length - L)) (by rw [rowsL_len]; exact g)]; rfl
  · have e : ∀ j, j < l.length - L → (Sat L c (Wv.row L (bt l) (L + j)) ↔ Sat L c (ent (rowsL l L (l.length - L)) j)) := fun j hj => Sat.congr fun i hi => by
      unfold ent; rw [hg j hj, rowL_get hi]; exact Eq2.rfl'
    exact ⟨fun h j hj => (e j hj).1 (h j hj), fun h j hj => (e j hj).2 (h j hj)⟩
theorem El.zero {l : List Int} {L k : Nat} {rs : List (List Int)} (h : El l L k rs) (hz : ∀ i, i ≤ L → ent rs k i = 0) : El l L (k + 1) rs :=
  ⟨h.len, h.row, h.bit, fun j hj => by
    rcases Nat.lt_or_ge j k with g | g
    · exact h.done j g
    · rw [show j = k by omega]; exact .inl fun i hi => by rw [hz i hi]; exact Eq2.rfl', h.sol⟩
theorem upd_ent {l : List Int} {L k a m j i : Nat} {rs : List (List Int)} (h : El l L k rs) (hj : j < l.length - L) (hi : i ≤ L) : ent (upd L rs k a m) j i = if k < j ∧ j < m ∧ ent rs j a ≠ 0 then (ent rs j i + ent rs k i) % 2 else ent rs j i := by
  unfold ent
  rw [upd_get (by rw [h.len]; exact hj)]
  by_cases g : k < j ∧ j < m ∧ ent rs j a ≠ 0
  · have g' : k < j ∧ j < m ∧ (rs.getD j []).getD a 0 ≠ 0 := g
    rw [if_pos g, if_pos g', addTo_get hi, if_pos (by omega)]
  · have g' : ¬ (k < j ∧ j < m ∧ (rs.getD j []).getD a 0 ≠ 0) := g
    rw [if_neg g, if_neg g']
theorem El.step {l : List Int} {L k a : Nat} {rs : List (List Int)} (h : El l L k rs) (hk : k < l.length - L) (ha : a < L) (hp : ent rs k a ≠ 0) : El l L (k + 1) (upd L rs k a (l.length - L)) := by
  have hb := h.bit
  have hkk : ∀ i, i ≤ L → ent (upd L rs k a (l.length - L)) k i = ent rs k i := fun i hi => by rw [upd_ent h hk hi, if_neg (by omega)]
  refine ⟨by rw [upd_len]; exact h.len, fun j hj => ?_, fun j i => ?_, fun j hj => ?_, fun c => ?_⟩
  · rw [upd_get (by rw [h.len]; exact hj)]
    split
    · exact addTo_len _ _ _ _
    · exact h.row j hj
  · rcases Nat.lt_or_ge j (l.length - L) with g | g
    · rcases Nat.lt_or_ge L i with g2 | g2
      · left
        have hl : ((upd L rs k a (l.length - L)).getD j []).length = L + 1 := by
          rw [upd_get (by rw [h.len]; exact g)]
          split
          · exact addTo_len _ _ _ _
          · exact h.row j g
        exact getD_out (by rw [hl]; omega)
      · rw [upd_ent h g g2]
        split
        · omega
        · exact hb j i
    · left; unfold ent; rw [getD_out (l := upd L rs k a (l.length - L)) (by rw [upd_len, h.len]; exact g)]; rfl
  · have hpe := hb k a
    rcases Nat.lt_or_ge j k with g | g
    · rcases h.done j g with h0 | ⟨p, h1, h2, h3⟩
      · left
        intro i hi
        rw [upd_ent h (by omega) hi, if_neg (by omega)]; exact h0 i hi
      · right
        refine ⟨p, h1, by rw [upd_ent h (by omega) (by omega), if_neg (by omega)]; exact h2, fun m g1 g2 => ?_⟩
        have q1 := h3 m g1 g2
        have q2 := h3 k g hk
        rw [upd_ent h g2 (by omega)]
        unfold Eq2 at *
        split <;> omega
    · rw [show j = k by omega]
      right
      refine ⟨a, ha, by rw [hkk a (by omega), show ent rs k a = 1 by omega]; exact Eq2.rfl', fun m g1 g2 => ?_⟩
      have := hb m a
      rw [upd_ent h g2 (by omega)]
      unfold Eq2
      split <;> rename_i hc
      · omega
      · rcases this with e | e
        · rw [e]
        · exact absurd ⟨g1, g2, by omega⟩ hc
  · rw [h.sol c]
    have e : (Sat L c (ent rs k)) → ∀ j, j < l.length - L → (Sat L c (ent rs j) ↔ Sat L c (ent (upd L rs k a (l.length - L)) j)) := fun hs j hj => by
      by_cases g : k < j ∧ j < l.length - L ∧ ent rs j a ≠ 0
      · refine (sat_add hs).symm.trans (Sat.congr fun i hi => ?_)
        rw [upd_ent h hj hi, if_pos g]; exact (Eq2.mod _).symm
      · exact Sat.congr fun i hi => by rw [upd_ent h hj hi, if_neg g]; exact Eq2.rfl'
    constructor
    · intro g j hj; exact (e (g k hk) j hj).1 (g j hj)
    · intro g
      have gk : Sat L c (ent rs k) := (Sat.congr fun i hi => by rw [hkk i hi]; exact Eq2.rfl').1 (g k hk)
      intro j hj; exact (e gk j hj).2 (g j hj)
noncomputable instance (L : Nat) (s : Nat → Int) (n : Nat) : Decidable (Sol L s n) := Classical.propDecidable _
theorem El.yes {l : List Int} {L : Nat} {rs : List (List Int)} (h : El l L (l.length - L) rs) : Sol L (bt l) l.length := by
  obtain ⟨c, hc⟩ := exists_sol h.done
  exact sol_iff.2 ⟨c, (h.sol c).2 hc⟩
theorem El.no {l : List Int} {L k : Nat} {rs : List (List Int)} (h : El l L k rs) (hk : k < l.length - L) (hz : ∀ i, i < L → ent rs k i = 0) (h1 : ent rs k L = 1) : ¬ Sol L (bt l) l.length := fun hs => by
  obtain ⟨c, hc⟩ := sol_iff.1 hs
  exact no_sol (fun j hj => by rw [hz j hj]; exact Eq2.rfl') (by rw [h1]; exact Eq2.rfl') ((h.sol c).1 hc k hk)
theorem cellR {C : Cx Try.prog} {H : List HP} {rv : List Value} {rs : List (List Int)} {i k : Nat} {u : Int} (s : Sub H [RowsE encI 3 1 rv rs]) (hi : i < rs.length) (hk : k < (rs.getD i []).length) (hu : (rs.getD i []).getD k 0 = u) : Cell C H (elt (rv.getD i undef) k 1) (.int .i64 u) := by
  subst hu
  cases s with
  | cons p _ => exact RowsE.cell0 encI_ok p hi hk 0 rfl
theorem set_getD {T : List (List Int)} {m : Nat} {r : List Int} (h : m < T.length) (e : T.getD m [] = r) : T.set m r = T := by
  subst e
  simp [h]
theorem set_get {T : List (List Int)} {m : Nat} {r : List Int} (h : m < T.length) : (T.set m r).getD m [] = r := by simp [h]
theorem set_get' {T : List (List Int)} {m k : Nat} {r : List Int} (h : m ≠ k) : (T.set m r).getD k [] = T.getD k [] := by simp [List.getD_eq_getElem?_getD, List.getElem?_set, h]
theorem set_step {T : List (List Int)} {m c : Nat} {r : List Int} {v : Int} (h : m < T.length) : (T.set m r).set m (((T.set m r).getD m []).set c v) = T.set m (r.set c v) := by
  rw [set_get h, List.set_set]
theorem ref_solved (w : World) (v : Value) (l : List Int) (L : Nat) (hR : RdF encI 1 w.heap.size w v l) (hL : L ≤ l.length) (hn : l.length ≤ 128) (hl : OkBs l) : Ret Try.prog 59 [v, .int .i64 (L : Int)].toArray w (.bool (bl (Sol L (bt l) l.length))) := by
  refine Ret.of mixed tyTab Try.func59 rfl rfl ?_
  replace hR : RdF encI 1 (fnCx mixed tyTab Try.f59.ntmps w).B (fnCx mixed tyTab Try.f59.ntmps w).w0 v l := hR
  have hle := hR.sl.le
  refine W.sreg ?_
  refine WO.p rfl rfl ?_
  refine WO.nil ?_
  refine W.sreg ?_
  refine WO.p rfl rfl ?_
  refine WO.nil ?_
  refine W.seq ?_
  refine W.sreg ?_
  refine WO.p rfl rfl (WO.p rfl rfl ?_)
  refine WO.nil ?_
  refine W.block ?_
  refine W.chg (owcNil (e := 22) (sz := 1)) ?_
  refine W.chg (rowsNil (enc := encI) (e := 3) (sz := 1)) ?_
  refine W.loop3 (fun (n : Nat) (o : Value) (rv : List Value) => L + n ≤ l.length)
    (fun (n : Nat) (o : Value) (rv : List Value) => [(6, .int .i64 ((L + n : Nat) : Int)), (5, o), (0, v), (1, .int .i64 (L : Int))])
    (fun (n : Nat) (o : Value) (rv : List Value) => [OwC 22 1 o n rv, RowsE encI 3 1 rv (rowsL l L n)])
    (fun (n : Nat) (o : Value) (rv : List Value) => l.length - (L + n)) 0 (.slice none 0 0) []
    (by omega) ⟨rfl, rfl, rfl, rfl, trivial⟩ (by repeat (first | exact Sub.nil | refine Sub.cons (by repeat (first | exact Pick.head | apply Pick.tail)) ?_)) ?_
  rintro n o rv hi0
  refine W.seq ?_
  refine W.sreg ?_
  refine WO.p rfl rfl (WO.p rfl rfl ?_)
  refine' WO.len (n := _) rfl rfl ?hs rfl ?_
  case hs => (first | exact hR.sl)
  refine WO.p rfl rfl ?_
  refine WO.nil ?_
  refine W.cond_bl rfl (fun c1 => ?_) (fun c1 => ?_)
  · first
    | (exfalso; omega)
    | (refine W.skip ?_
       refine W.seq ?_
       refine W.block ?_
       refine W.sreg ?_
       refine WO.p rfl rfl ?_
       refine WO.nil ?_
       refine W.seq ?_
       refine W.sreg ?_
       refine WO.p rfl rfl ?_
       refine WO.nil ?_
       refine W.block ?_
       refine W.chg (owNil (enc := encI) (e := 3) (sz := 1)) ?_
       refine W.loop2 (fun (j : Nat) (u : Value) => j ≤ L)
         (fun (j : Nat) (u : Value) => [(8, .int .i64 ((j : Int) + 1)), (7, u), (6, .int .i64 ((L + n : Nat) : Int)), (5, o), (0, v), (1, .int .i64 (L : Int))])
         (fun (j : Nat) (u : Value) => [OwE encI 3 1 u (rowP l (L + n) j), OwC 22 1 o n rv, RowsE encI 3 1 rv (rowsL l L n)])
         (fun (j : Nat) (u : Value) => L - j) 0 (.slice none 0 0)
         (by omega) ⟨rfl, rfl, rfl, rfl, rfl, rfl, trivial⟩ (by repeat (first | exact Sub.nil | refine Sub.cons (by repeat (first | exact Pick.head | apply Pick.tail)) ?_)) ?_
       rintro j u hj0
       refine W.seq ?_
       refine W.sreg ?_
       refine WO.p rfl rfl (WO.p rfl rfl (WO.p rfl rfl ?_))
       refine WO.nil ?_
       refine W.cond_bl rfl (fun c2 => ?_) (fun c2 => ?_)
       · first
         | (exfalso; omega)
         | (refine W.skip ?_
            refine W.seq ?_
            refine W.block ?_
            refine W.region ?_
            refine WO.p rfl rfl (WO.p rfl rfl (WO.p rfl rfl (WO.p rfl rfl (WO.ar rfl rfl rfl (by (first | (unfold in64; omega) | (unfold in64; omega))) rfl ?_))))
            refine' WO.indexAddrZ (n := _) rfl rfl rfl ?hs ?h00 ?h1 rfl ?_
            case hs => (first | exact hR.sl)
            case h00 => omega
            case h1 => (first | omega | (simp; omega))
            refine' WO.load (v := _) rfl rfl ?hc rfl ?_
            case hc => (first | (refine hR.cell0 (i := (((L + n : Nat) : Int) - ((j : Int) + 1)).toNat) ?_ 0 ?_ <;> first | rfl | omega))
            refine' WO.buildSl (cs := _) rfl rfl rfl rfl ?hf rfl rfl ?hl rfl (fun v1 => ?_)
            case hf => (conv => lhs; simp [-List.getD_eq_getElem?_getD, fillL, vcl, wrl, TTab.pl?.lget']) <;> rfl
            case hl => rfl
            refine' WO.appendE (enc := encI) (m := 1) (xs := rowP l (L + n) j) (ys := [l.getD (((L + n : Nat) : Int) - ((j : Int) + 1)).toNat 0]) encI_ok rfl rfl rfl rfl rfl (by repeat (first | exact Pick.head | apply Pick.tail)) (isSl_lit (by omega) (fun _ => ⟨_, _, rfl⟩)) (by omega) rfl (OwC.cells (by repeat (first | exact Pick.head | apply Pick.tail))) (by rw [rowP_len]; omega) (by rw [rowP_len]; omega) rfl (fun g c => ?_)
            rw [show (((L + n : Nat) : Int) - ((j : Int) + 1)).toNat = L + n - 1 - j by omega, ← rowP_succ]
            refine WO.p rfl rfl ?_
            refine WO.nil ?_
            refine W.region ?_
            refine WO.p rfl rfl (WO.ar rfl rfl rfl (by (first | (unfold in64; omega) | (unfold in64; omega))) rfl (WO.p rfl rfl ?_))
            refine WO.nil ?_
            refine' ⟨j + 1, _, ?hp, ?hmu, ⟨rfl, rfl, rfl, rfl, rfl, rfl, trivial⟩, ?hS⟩
            case hS => repeat (first | exact Sub.nil | refine Sub.cons (by repeat (first | exact Pick.head | apply Pick.tail)) ?_)
            case hp => omega
            case hmu => omega)
       · first
         | (exfalso; omega)
         | (refine W.exit (blk_same ?_)
            obtain rfl : L = j := by omega
            refine W.region ?_
            refine WO.p rfl rfl (WO.p rfl rfl (WO.p rfl rfl (WO.p rfl rfl ?_)))
            refine' WO.indexAddr (n := _) (i := _) rfl rfl rfl ?hs ?h1 rfl ?_
            case hs => (first | exact hR.sl)
            case h1 => (first | omega | (simp; omega))
            refine' WO.load (v := _) rfl rfl ?hc rfl ?_
            case hc => (first | (refine hR.cell0 (i := L + n) ?_ 0 ?_ <;> first | rfl | omega))
            refine' WO.buildSl (cs := _) rfl rfl rfl rfl ?hf rfl rfl ?hl rfl (fun v2 => ?_)
            case hf => (conv => lhs; simp [-List.getD_eq_getElem?_getD, fillL, vcl, wrl, TTab.pl?.lget']) <;> rfl
            case hl => rfl
            refine' WO.appendE (enc := encI) (m := 1) (xs := rowP l (L + n) L) (ys := [l.getD (L + n) 0]) encI_ok rfl rfl rfl rfl rfl (by repeat (first | exact Pick.head | apply Pick.tail)) (isSl_lit (by omega) (fun _ => ⟨_, _, rfl⟩)) (by omega) rfl (OwC.cells (by repeat (first | exact Pick.head | apply Pick.tail))) (by rw [rowP_len]; omega) (by rw [rowP_len]; omega) rfl (fun g c => ?_)
            rw [rowP_len, show rowP l (L + n) L ++ [l.getD (L + n) 0] = rowL l L (L + n) from rfl]
            refine' WO.buildSl (cs := _) rfl rfl rfl rfl ?hf rfl rfl ?hl rfl (fun v3 => ?_)
            case hf => (conv => lhs; simp [-List.getD_eq_getElem?_getD, fillL, vcl, wrl, TTab.pl?.lget']) <;> rfl
            case hl => rfl
            refine' WO.append (m := 1) (news := [.slice (some ⟨g, 0, none⟩) (L + 1) c]) rfl rfl rfl rfl rfl (by repeat (first | exact Pick.head | apply Pick.tail)) (isSl_lit (by omega) (fun _ => ⟨_, _, rfl⟩)) (by omega) (OwC.cells (by repeat (first | exact Pick.head | apply Pick.tail))) rfl (by simp [Value.oneCell']) (by omega) (by omega) rfl (fun g' c' => ?_)
            refine WO.p rfl rfl ?_
            refine WO.nil ?_
            refine W.chg (rowsSnoc (enc := encI) (e := 3) (sz := 1) (rv := rv) (xss := rowsL l L n) (xs := rowL l L (L + n)) (r := .slice (some ⟨g, 0, none⟩) (L + 1) c) (by repeat (first | exact Pick.head | apply Pick.tail)) (by repeat (first | exact Pick.head | apply Pick.tail))) ?_
            rw [← rowsL_succ]
            refine W.region ?_
            refine WO.p rfl rfl (WO.ar rfl rfl rfl (by (first | (unfold in64; omega) | (unfold in64; omega))) rfl (WO.p rfl rfl ?_))
            refine WO.nil ?_
            refine' ⟨n + 1, _, _, ?hp, ?hmu, ⟨rfl, rfl, rfl, rfl, trivial⟩, ?hS⟩
            case hS => repeat (first | exact Sub.nil | refine Sub.cons (by repeat (first | exact Pick.head | apply Pick.tail)) ?_)
            case hp => omega
            case hmu => omega))
  · first
    | (exfalso; omega)
    | (refine W.exit (blk_same ?_)
       refine W.seq ?_
       obtain rfl : l.length - L = n := by omega
       refine W.sreg ?_
       refine WO.p rfl rfl ?_
       refine WO.nil ?_
       refine W.block ?_
       refine W.loop2 (fun (k : Nat) (rs : List (List Int)) => k ≤ l.length - L ∧ El l L k rs)
         (fun (k : Nat) (rs : List (List Int)) => [(9, .int .i64 (k : Int)), (5, o), (1, .int .i64 (L : Int))])
         (fun (k : Nat) (rs : List (List Int)) => [OwC 22 1 o (l.length - L) rv, RowsE encI 3 1 rv rs])
         (fun (k : Nat) (rs : List (List Int)) => l.length - L - k) 0 (rowsL l L (l.length - L))
         (by exact ⟨by omega, El.start hl⟩) ⟨rfl, rfl, rfl, trivial⟩ (by repeat (first | exact Sub.nil | refine Sub.cons (by repeat (first | exact Pick.head | apply Pick.tail)) ?_)) ?_
       rintro k rs ⟨hk0, hel⟩
       refine W.fact (OwC.sl (e := 22) (n := l.length - L) (cs := rv) (by repeat (first | exact Pick.head | apply Pick.tail))) (fun hos => ?_)
       refine W.fact (RowsE.rowsLen (xss := rs) (by repeat (first | exact Pick.head | apply Pick.tail))) (fun hrl => ?_)
       have hlen := hel.len
       refine W.seq ?_
       refine W.sreg ?_
       refine WO.p rfl rfl (WO.p rfl rfl ?_)
       refine' WO.len (n := _) rfl rfl ?hs rfl ?_
       case hs => (first | exact hos)
       refine WO.p rfl rfl ?_
       refine WO.nil ?_
       refine W.cond_bl rfl (fun c3 => ?_) (fun c3 => ?_)
       · first
         | (exfalso; omega)
         | (refine W.skip ?_
            refine W.seq ?_
            refine W.block ?_
            refine W.fact (RowsE.rowSl (xss := rs) (i := k) (by repeat (first | exact Pick.head | apply Pick.tail)) (by omega)) (fun hrk => ?_)
            have hrowk := hel.row k (by omega)
            rw [hrowk] at hrk
            refine W.sreg ?_
            refine WO.p rfl rfl ?_
            refine WO.nil ?_
            refine W.seq ?_
            refine W.block ?_
            refine W.loop (fun (a : Nat) => a ≤ L ∧ ∀ i, i < a → ent rs k i = 0)
              (fun (a : Nat) => [(10, .int .i64 (a : Int)), (9, .int .i64 (k : Int)), (5, o), (1, .int .i64 (L : Int))])
              (fun (a : Nat) => [OwC 22 1 o (l.length - L) rv, RowsE encI 3 1 rv rs])
              (fun (a : Nat) => L - a) 0
              (by exact ⟨by omega, fun i hi => by omega⟩) ⟨rfl, rfl, rfl, rfl, trivial⟩ (by repeat (first | exact Sub.nil | refine Sub.cons (by repeat (first | exact Pick.head | apply Pick.tail)) ?_)) ?_
            rintro a ⟨ha0, haz⟩
            refine W.seq ?_
            refine W.sreg ?_
            refine WO.p rfl rfl (WO.p rfl rfl (WO.p rfl rfl (WO.p rfl rfl ?_)))
            refine WO.guard_bl rfl rfl (fun c4 => ?_) (fun c4 => ?_)
            · first
              | (exfalso; omega)
              | (refine WO.pg rfl rfl rfl (WO.pg rfl rfl rfl (WO.go' rfl ?_))
                 refine' WO.indexAddr (n := _) (i := _) rfl rfl rfl ?hs ?h1 rfl ?_
                 case hs => (first | exact hos)
                 case h1 => (first | omega | (simp; omega))
                 refine WO.go' rfl ?_
                 refine' WO.load (v := _) rfl rfl ?hc rfl ?_
                 case hc => (first | (refine OwC.cell1s (e := 22) (n := l.length - L) (cs := rv) (i := k) ?_ ?_; (repeat (first | exact Sub.nil | refine Sub.cons (by repeat (first | exact Pick.head | apply Pick.tail)) ?_)); omega))
                 refine WO.pg rfl rfl rfl (WO.go' rfl ?_)
                 refine' WO.indexAddr (n := _) (i := _) rfl rfl rfl ?hs ?h1 rfl ?_
                 case hs => (first | exact hrk)
                 case h1 => (first | omega | (simp; omega))
                 refine WO.go' rfl ?_
                 refine' WO.load (v := _) rfl rfl ?hc rfl ?_
                 case hc => (first | (refine cellR (rv := rv) (rs := rs) (i := k) (k := a) (u := ent rs k a) ?_ (by omega) (by omega) rfl; repeat (first | exact Sub.nil | refine Sub.cons (by repeat (first | exact Pick.head | apply Pick.tail)) ?_)))
                 refine WO.pg rfl rfl rfl (WO.p rfl rfl ?_)
                 refine WO.nil ?_
                 refine W.cond_bl rfl (fun c5 => ?_) (fun c5 => ?_)
                 · first
                   | (exfalso; omega)
                   | (refine W.skip ?_
                      refine W.block ?_
                      refine W.region ?_
                      refine WO.p rfl rfl (WO.ar rfl rfl rfl (by (first | (unfold in64; omega) | (unfold in64; omega))) rfl (WO.p rfl rfl ?_))
                      refine WO.nil ?_
                      refine' ⟨a + 1, ?hp, ?hmu, ⟨rfl, rfl, rfl, rfl, trivial⟩, ?hS⟩
                      case hS => repeat (first | exact Sub.nil | refine Sub.cons (by repeat (first | exact Pick.head | apply Pick.tail)) ?_)
                      case hp => exact ⟨by omega, fun i hi => by rcases Nat.lt_or_ge i a with g | g; exact haz i g; rw [show i = a by omega]; assumption⟩
                      case hmu => omega)
                 · first
                   | (exfalso; omega)
                   | (refine W.exit (blk_same ?_)
                      refine W.seq ?_
                      refine W.sreg ?_
                      refine WO.p rfl rfl (WO.p rfl rfl (WO.p rfl rfl ?_))
                      refine WO.nil ?_
                      refine W.cond_bl rfl (fun c6 => ?_) (fun c6 => ?_)
                      · first
                        | (exfalso; omega)
                        | (refine W.seq ?_
                           refine W.sreg ?_
                           refine WO.p rfl rfl (WO.p rfl rfl ?_)
                           refine' WO.indexAddr (n := _) (i := _) rfl rfl rfl ?hs ?h1 rfl ?_
                           case hs => (first | exact hos)
                           case h1 => (first | omega | (simp; omega))
                           refine' WO.load (v := _) rfl rfl ?hc rfl ?_
                           case hc => (first | (refine OwC.cell1s (e := 22) (n := l.length - L) (cs := rv) (i := k) ?_ ?_; (repeat (first | exact Sub.nil | refine Sub.cons (by repeat (first | exact Pick.head | apply Pick.tail)) ?_)); omega))
                           refine WO.p rfl rfl ?_
                           refine' WO.indexAddr (n := _) (i := _) rfl rfl rfl ?hs ?h1 rfl ?_
                           case hs => (first | exact hrk)
                           case h1 => (first | omega | (simp; omega))
                           refine' WO.load (v := _) rfl rfl ?hc rfl ?_
                           case hc => (first | (refine cellR (rv := rv) (rs := rs) (i := k) (k := L) (u := ent rs k L) ?_ (by omega) (by omega) rfl; repeat (first | exact Sub.nil | refine Sub.cons (by repeat (first | exact Pick.head | apply Pick.tail)) ?_)))
                           refine WO.p rfl rfl ?_
                           refine WO.nil ?_
                           refine W.cond_bl rfl (fun c7 => ?_) (fun c7 => ?_)
                           · first
                             | (exfalso; omega)
                             | (refine W.sreg ?_
                                refine WO.p rfl rfl ?_
                                refine WO.nil ?_
                                refine W.ret ?_
                                refine fin.ret (Res.one rfl (RV.tmp rfl)) (congrArg Value.bool ?_)
                                first | exact (bl_f.2 (hel.no (by omega) (fun i hi => haz i (by omega)) (by assumption))).symm | exact (bl_t.2 (by rw [show k = l.length - L by omega] at hel; exact hel.yes)).symm)
                           · first
                             | (exfalso; omega)
                             | (refine W.skip ?_
                                refine W.exit (blk_same ?_)
                                refine W.region ?_
                                refine WO.p rfl rfl (WO.ar rfl rfl rfl (by (first | (unfold in64; omega) | (unfold in64; omega))) rfl (WO.p rfl rfl ?_))
                                refine WO.nil ?_
                                refine' ⟨k + 1, _, ?hp, ?hmu, ⟨rfl, rfl, rfl, trivial⟩, ?hS⟩
                                case hS => repeat (first | exact Sub.nil | refine Sub.cons (by repeat (first | exact Pick.head | apply Pick.tail)) ?_)
                                case hp => first | exact ⟨by omega, by rw [show m = l.length - L by omega]; exact hel.step (by omega) (by omega) (by assumption)⟩ | exact ⟨by omega, hel.zero (fun i hi => by rcases Nat.lt_or_ge i a with g | g; exact haz i g; rw [show i = L by omega]; have := hel.bit k L; omega)⟩
                                case hmu => omega))
                      · first
                        | (exfalso; omega)
                        | (refine W.skip ?_
                           refine W.sreg ?_
                           refine WO.p rfl rfl (WO.ar rfl rfl rfl (by (first | (unfold in64; omega) | (unfold in64; omega))) rfl (WO.p rfl rfl ?_))
                           refine WO.nil ?_
                           refine W.block ?_
                           rw [show RowsE encI 3 1 rv rs = RowsE encI 3 1 rv (upd L rs k a (k + 1)) by rw [upd_0]]
                           refine W.loop (fun (m : Nat) => k < m ∧ m ≤ l.length - L)
                             (fun (m : Nat) => [(11, .int .i64 (m : Int)), (10, .int .i64 (a : Int)), (9, .int .i64 (k : Int)), (5, o), (1, .int .i64 (L : Int))])
                             (fun (m : Nat) => [OwC 22 1 o (l.length - L) rv, RowsE encI 3 1 rv (upd L rs k a m)])
                             (fun (m : Nat) => l.length - L - m) (k + 1)
                             (by exact ⟨by omega, by omega⟩) ⟨rfl, rfl, rfl, rfl, rfl, trivial⟩ (by repeat (first | exact Sub.nil | refine Sub.cons (by repeat (first | exact Pick.head | apply Pick.tail)) ?_)) ?_
                           rintro m ⟨hm0, hm1⟩
                           have hul := upd_len L rs k a m
                           refine W.seq ?_
                           refine W.sreg ?_
                           refine WO.p rfl rfl (WO.p rfl rfl ?_)
                           refine' WO.len (n := _) rfl rfl ?hs rfl ?_
                           case hs => (first | exact hos)
                           refine WO.p rfl rfl ?_
                           refine WO.nil ?_
                           refine W.cond_bl rfl (fun c8 => ?_) (fun c8 => ?_)
                           · first
                             | (exfalso; omega)
                             | (refine W.skip ?_
                                refine W.seq ?_
                                refine W.block ?_
                                refine W.seq ?_
                                have hum : (upd L rs k a m).getD m [] = rs.getD m [] := by rw [upd_get (by omega), if_neg (by omega)]
                                have huk : (upd L rs k a m).getD k [] = rs.getD k [] := by rw [upd_get (by omega), if_neg (by omega)]
                                have hmu : m < (upd L rs k a m).length := by rw [upd_len]; omega
                                refine W.fact (RowsE.rowSl (xss := upd L rs k a m) (i := m) (by repeat (first | exact Pick.head | apply Pick.tail)) hmu) (fun hrm => ?_)
                                have hrowm := hel.row m (by omega)
                                rw [hum, hrowm] at hrm
                                refine W.sreg ?_
                                refine WO.p rfl rfl (WO.p rfl rfl ?_)
                                refine' WO.indexAddr (n := _) (i := _) rfl rfl rfl ?hs ?h1 rfl ?_
                                case hs => (first | exact hos)
                                case h1 => (first | omega | (simp; omega))
                                refine' WO.load (v := _) rfl rfl ?hc rfl ?_
                                case hc => (first | (refine OwC.cell1s (e := 22) (n := l.length - L) (cs := rv) (i := m) ?_ ?_; (repeat (first | exact Sub.nil | refine Sub.cons (by repeat (first | exact Pick.head | apply Pick.tail)) ?_)); omega))
                                refine WO.p rfl rfl ?_
                                refine' WO.indexAddr (n := _) (i := _) rfl rfl rfl ?hs ?h1 rfl ?_
                                case hs => (first | exact hrm)
                                case h1 => (first | omega | (simp; omega))
                                refine' WO.load (v := _) rfl rfl ?hc rfl ?_
                                case hc => (first | (refine cellR (rv := rv) (rs := upd L rs k a m) (i := m) (k := a) (u := ent rs m a) ?_ (by rw [upd_len]; omega) (by rw [hum]; omega) (by rw [hum]; rfl); repeat (first | exact Sub.nil | refine Sub.cons (by repeat (first | exact Pick.head | apply Pick.tail)) ?_)))
                                refine WO.p rfl rfl ?_
                                refine WO.nil ?_
                                refine W.cond_bl rfl (fun c9 => ?_) (fun c9 => ?_)
                                · first
                                  | (exfalso; omega)
                                  | (refine W.exit (blk_same ?_)
                                     first
                                     | (obtain rfl : L + 1 = c := (by omega); rw [upd_t (L := L) (rs := rs) (k := k) (a := a) (m := m) (by omega) (by assumption)])
                                     | rw [upd_f (L := L) (rs := rs) (k := k) (a := a) (m := m) (by assumption)]
                                     refine W.region ?_
                                     refine WO.p rfl rfl (WO.ar rfl rfl rfl (by (first | (unfold in64; omega) | (unfold in64; omega))) rfl (WO.p rfl rfl ?_))
                                     refine WO.nil ?_
                                     refine' ⟨m + 1, ?hp, ?hmu, ⟨rfl, rfl, rfl, rfl, rfl, trivial⟩, ?hS⟩
                                     case hS => repeat (first | exact Sub.nil | refine Sub.cons (by repeat (first | exact Pick.head | apply Pick.tail)) ?_)
                                     case hp => exact ⟨by omega, by omega⟩
                                     case hmu => omega)
                                · first
                                  | (exfalso; omega)
                                  | (refine W.skip ?_
                                     refine W.sreg ?_
                                     refine WO.p rfl rfl ?_
                                     refine WO.nil ?_
                                     refine W.block ?_
                                     rw [show RowsE encI 3 1 rv (upd L rs k a m) = RowsE encI 3 1 rv ((upd L rs k a m).set m (addTo L (rs.getD m []) (rs.getD k []) 0)) by rw [addTo_0 hrowm, set_getD hmu hum]]
                                     refine W.loop (fun (c : Nat) => c ≤ L + 1)
                                       (fun (c : Nat) => [(12, .int .i64 (c : Int)), (11, .int .i64 (m : Int)), (10, .int .i64 (a : Int)), (9, .int .i64 (k : Int)), (5, o), (1, .int .i64 (L : Int))])
                                       (fun (c : Nat) => [OwC 22 1 o (l.length - L) rv, RowsE encI 3 1 rv ((upd L rs k a m).set m (addTo L (rs.getD m []) (rs.getD k []) c))])
                                       (fun (c : Nat) => L + 1 - c) 0
                                       (by omega) ⟨rfl, rfl, rfl, rfl, rfl, rfl, trivial⟩ (by repeat (first | exact Sub.nil | refine Sub.cons (by repeat (first | exact Pick.head | apply Pick.tail)) ?_)) ?_
                                     rintro c hc0
                                     refine W.seq ?_
                                     refine W.sreg ?_
                                     refine WO.p rfl rfl (WO.p rfl rfl (WO.p rfl rfl ?_))
                                     refine WO.nil ?_
                                     refine W.cond_bl rfl (fun c10 => ?_) (fun c10 => ?_)
                                     · first
                                       | (exfalso; omega)
                                       | (refine W.skip ?_
                                          refine W.seq ?_
                                          refine W.block ?_
                                          have hb1 := hel.bit m c
                                          have hb2 := hel.bit k c
                                          refine W.drawD 21 [.r 0 [], .r 1 [], .r 2 [], .b 3 [], .r 4 [], .r 5 [], .r 6 [], .r 7 [], .b 8 [], .r 9 [], .r 10 [], .b 11 [], .r 12 [], .r 13 [], .r 14 [], .b 15 [], .r 16 [], .r 17 [], .b 18 [], .r 19 [], .r 20 []] [] (A0 := []) (Sub.refl _) (by kernel_rfl) ?_ ?_
                                          · exact (ALok.r (ALok.r (ALok.r (ALok.b (ALok.r (ALok.r (ALok.r (ALok.r (ALok.b (ALok.r (ALok.r (ALok.b (ALok.r (ALok.r (ALok.r (ALok.b (ALok.r (ALok.r (ALok.b (ALok.r (ALok.r ALok.nil)))))))))))))))))))))
                                          refine' DT.r rfl rfl rfl ?hq ?_
                                          case hq =>
                                            refine WO.p rfl rfl ?_
                                            exact WO.nil ⟨rfl, rfl⟩
                                          refine' DT.r rfl rfl rfl ?hq ?_
                                          case hq =>
                                            refine WO.p rfl rfl ?_
                                            exact WO.nil ⟨rfl, rfl⟩
                                          refine' DT.r rfl rfl rfl ?hq ?_
                                          case hq =>
                                            refine' WO.indexAddr (n := _) (i := _) rfl rfl rfl ?hs ?h1 rfl ?_
                                            case hs => (first | exact hos)
                                            case h1 => (first | omega | (simp; omega))
                                            exact WO.nil ⟨rfl, rfl⟩
                                          refine' DT.b rfl rfl rfl ?hq ?_
                                          case hq =>
                                            refine' WO.load (v := _) rfl rfl ?hc rfl ?_
                                            case hc => (first | (refine OwC.cell1s (e := 22) (n := l.length - L) (cs := rv) (i := m) ?_ ?_; (repeat (first | exact Sub.nil | refine Sub.cons (by repeat (first | exact Pick.head | apply Pick.tail)) ?_)); omega))
                                            exact WO.nil ⟨rfl, rfl⟩
                                          refine' DT.r rfl rfl rfl ?hq ?_
                                          case hq =>
                                            refine WO.p rfl rfl ?_
                                            exact WO.nil ⟨rfl, rfl⟩
                                          refine' DT.r rfl rfl rfl ?hq ?_
                                          case hq =>
                                            refine WO.p rfl rfl ?_
                                            exact WO.nil ⟨rfl, rfl⟩
                                          refine' DT.r rfl rfl rfl ?hq ?_
                                          case hq =>
                                            refine WO.p rfl rfl ?_
                                            exact WO.nil ⟨rfl, rfl⟩
                                          refine' DT.r rfl rfl rfl ?hq ?_
                                          case hq =>
                                            refine' WO.indexAddr (n := _) (i := _) rfl rfl rfl ?hs ?h1 rfl ?_
                                            case hs => (first | exact hos)
                                            case h1 => (first | omega | (simp; omega))
                                            exact WO.nil ⟨rfl, rfl⟩
                                          refine' DT.b rfl rfl rfl ?hq ?_
                                          case hq =>
                                            refine' WO.load (v := _) rfl rfl ?hc rfl ?_
                                            case hc => (first | (refine OwC.cell1s (e := 22) (n := l.length - L) (cs := rv) (i := m) ?_ ?_; (repeat (first | exact Sub.nil | refine Sub.cons (by repeat (first | exact Pick.head | apply Pick.tail)) ?_)); omega))
                                            exact WO.nil ⟨rfl, rfl⟩
                                          refine' DT.r rfl rfl rfl ?hq ?_
                                          case hq =>
                                            refine WO.p rfl rfl ?_
                                            exact WO.nil ⟨rfl, rfl⟩
                                          refine' DT.r rfl rfl rfl ?hq ?_
                                          case hq =>
                                            refine' WO.indexAddr (n := _) (i := _) rfl rfl rfl ?hs ?h1 rfl ?_
                                            case hs => (first | exact hrm)
                                            case h1 => (first | omega | (simp; omega))
                                            exact WO.nil ⟨rfl, rfl⟩
                                          refine' DT.b rfl rfl rfl ?hq ?_
                                          case hq =>
                                            refine' WO.load (v := _) rfl rfl ?hc rfl ?_
                                            case hc => (first | (refine cellR (rv := rv) (rs := (upd L rs k a m).set m (addTo L (rs.getD m []) (rs.getD k []) c)) (i := m) (k := c) (u := ent rs m c) ?_ (by rw [List.length_set, upd_len]; omega) (by rw [set_get hmu, addTo_len]; omega) (by rw [set_get hmu, addTo_get (by omega), if_neg (by omega)]; rfl); repeat (first | exact Sub.nil | refine Sub.cons (by repeat (first | exact Pick.head | apply Pick.tail)) ?_)))
                                            exact WO.nil ⟨rfl, rfl⟩
                                          refine' DT.r rfl rfl rfl ?hq ?_
                                          case hq =>
                                            refine WO.p rfl rfl ?_
                                            exact WO.nil ⟨rfl, rfl⟩
                                          refine' DT.r rfl rfl rfl ?hq ?_
                                          case hq =>
                                            refine WO.p rfl rfl ?_
                                            exact WO.nil ⟨rfl, rfl⟩
                                          refine' DT.r rfl rfl rfl ?hq ?_
                                          case hq =>
                                            refine' WO.indexAddr (n := _) (i := _) rfl rfl rfl ?hs ?h1 rfl ?_
                                            case hs => (first | exact hos)
                                            case h1 => (first | omega | (simp; omega))
                                            exact WO.nil ⟨rfl, rfl⟩
                                          refine' DT.b rfl rfl rfl ?hq ?_
                                          case hq =>
                                            refine' WO.load (v := _) rfl rfl ?hc rfl ?_
                                            case hc => (first | (refine OwC.cell1s (e := 22) (n := l.length - L) (cs := rv) (i := k) ?_ ?_; (repeat (first | exact Sub.nil | refine Sub.cons (by repeat (first | exact Pick.head | apply Pick.tail)) ?_)); omega))
                                            exact WO.nil ⟨rfl, rfl⟩
                                          refine' DT.r rfl rfl rfl ?hq ?_
                                          case hq =>
                                            refine WO.p rfl rfl ?_
                                            exact WO.nil ⟨rfl, rfl⟩
                                          refine' DT.r rfl rfl rfl ?hq ?_
                                          case hq =>
                                            refine' WO.indexAddr (n := _) (i := _) rfl rfl rfl ?hs ?h1 rfl ?_
                                            case hs => (first | exact hrk)
                                            case h1 => (first | omega | (simp; omega))
                                            exact WO.nil ⟨rfl, rfl⟩
                                          refine' DT.b rfl rfl rfl ?hq ?_
                                          case hq =>
                                            refine' WO.load (v := _) rfl rfl ?hc rfl ?_
                                            case hc => (first | (refine cellR (rv := rv) (rs := (upd L rs k a m).set m (addTo L (rs.getD m []) (rs.getD k []) c)) (i := k) (k := c) (u := ent rs k c) ?_ (by rw [List.length_set, upd_len]; omega) (by rw [set_get' (by omega), huk]; omega) (by rw [set_get' (by omega), huk]; rfl); repeat (first | exact Sub.nil | refine Sub.cons (by repeat (first | exact Pick.head | apply Pick.tail)) ?_)))
                                            exact WO.nil ⟨rfl, rfl⟩
                                          refine' DT.r rfl rfl rfl ?hq ?_
                                          case hq =>
                                            refine WO.ar rfl rfl rfl (by (first | (unfold in64; omega) | (unfold in64; omega))) rfl ?_
                                            exact WO.nil ⟨rfl, rfl⟩
                                          refine' DT.r rfl rfl rfl ?hq ?_
                                          case hq =>
                                            refine WO.rem rfl rfl (by first | omega | assumption) rfl ?_
                                            exact WO.nil ⟨rfl, rfl⟩
                                          refine DT.nil [_, _] rfl ?_
                                          refine' WO.indexAddr (n := _) (i := _) rfl rfl rfl ?hs ?h1 rfl ?_
                                          case hs => (first | exact hrm)
                                          case h1 => (first | omega | (simp; omega))
                                          refine WO.storeRow (xss := (upd L rs k a m).set m (addTo L (rs.getD m []) (rs.getD k []) c)) (i := m) (k := c) (n := (ent rs m c + ent rs k c).tmod 2) encI_ok rfl rfl rfl rfl (by repeat (first | exact Pick.head | apply Pick.tail)) (by rw [List.length_set]; exact hmu) (by rw [set_get hmu, addTo_len]; omega) ?_
                                          rw [set_step hmu, Int.tmod_eq_emod_of_nonneg (by omega), show (ent rs m c + ent rs k c) % 2 = ((rs.getD m []).getD c 0 + (rs.getD k []).getD c 0) % 2 from rfl, addTo_set (by omega)]
                                          refine WO.nil ?_
                                          refine W.region ?_
                                          refine WO.p rfl rfl (WO.ar rfl rfl rfl (by (first | (unfold in64; omega) | (unfold in64; omega))) rfl (WO.p rfl rfl ?_))
                                          refine WO.nil ?_
                                          refine' ⟨c + 1, ?hp, ?hmu, ⟨rfl, rfl, rfl, rfl, rfl, rfl, trivial⟩, ?hS⟩
                                          case hS => repeat (first | exact Sub.nil | refine Sub.cons (by repeat (first | exact Pick.head | apply Pick.tail)) ?_)
                                          case hp => omega
                                          case hmu => omega)
                                     · first
                                       | (exfalso; omega)
                                       | (refine W.exit (blk_same ?_)
                                          first
                                          | (obtain rfl : L + 1 = c := (by omega); rw [upd_t (L := L) (rs := rs) (k := k) (a := a) (m := m) (by omega) (by assumption)])
                                          | rw [upd_f (L := L) (rs := rs) (k := k) (a := a) (m := m) (by assumption)]
                                          refine W.region ?_
                                          refine WO.p rfl rfl (WO.ar rfl rfl rfl (by (first | (unfold in64; omega) | (unfold in64; omega))) rfl (WO.p rfl rfl ?_))
                                          refine WO.nil ?_
                                          refine' ⟨m + 1, ?hp, ?hmu, ⟨rfl, rfl, rfl, rfl, rfl, trivial⟩, ?hS⟩
                                          case hS => repeat (first | exact Sub.nil | refine Sub.cons (by repeat (first | exact Pick.head | apply Pick.tail)) ?_)
                                          case hp => exact ⟨by omega, by omega⟩
                                          case hmu => omega)))
                           · first
                             | (exfalso; omega)
                             | (refine W.exit (blk_same ?_)
                                refine W.region ?_
                                refine WO.p rfl rfl (WO.ar rfl rfl rfl (by (first | (unfold in64; omega) | (unfold in64; omega))) rfl (WO.p rfl rfl ?_))
                                refine WO.nil ?_
                                refine' ⟨k + 1, _, ?hp, ?hmu, ⟨rfl, rfl, rfl, trivial⟩, ?hS⟩
                                case hS => repeat (first | exact Sub.nil | refine Sub.cons (by repeat (first | exact Pick.head | apply Pick.tail)) ?_)
                                case hp => first | exact ⟨by omega, by rw [show m = l.length - L by omega]; exact hel.step (by omega) (by omega) (by assumption)⟩ | exact ⟨by omega, hel.zero (fun i hi => by rcases Nat.lt_or_ge i a with g | g; exact haz i g; rw [show i = L by omega]; have := hel.bit k L; omega)⟩
                                case hmu => omega))))
            · first
              | (exfalso; omega)
              | (refine WO.no rfl rfl (WO.no rfl rfl (WO.no rfl rfl (WO.no rfl rfl (WO.no rfl rfl (WO.no rfl rfl (WO.no rfl rfl (WO.no rfl rfl (WO.p rfl rfl ?_))))))))
                 refine WO.nil ?_
                 refine W.cond_f rfl ?_
                 refine W.exit (blk_same ?_)
                 refine W.seq ?_
                 refine W.sreg ?_
                 refine WO.p rfl rfl (WO.p rfl rfl (WO.p rfl rfl ?_))
                 refine WO.nil ?_
                 refine W.cond_bl rfl (fun c11 => ?_) (fun c11 => ?_)
                 · first
                   | (exfalso; omega)
                   | (refine W.seq ?_
                      refine W.sreg ?_
                      refine WO.p rfl rfl (WO.p rfl rfl ?_)
                      refine' WO.indexAddr (n := _) (i := _) rfl rfl rfl ?hs ?h1 rfl ?_
                      case hs => (first | exact hos)
                      case h1 => (first | omega | (simp; omega))
                      refine' WO.load (v := _) rfl rfl ?hc rfl ?_
                      case hc => (first | (refine OwC.cell1s (e := 22) (n := l.length - L) (cs := rv) (i := k) ?_ ?_; (repeat (first | exact Sub.nil | refine Sub.cons (by repeat (first | exact Pick.head | apply Pick.tail)) ?_)); omega))
                      refine WO.p rfl rfl ?_
                      refine' WO.indexAddr (n := _) (i := _) rfl rfl rfl ?hs ?h1 rfl ?_
                      case hs => (first | exact hrk)
                      case h1 => (first | omega | (simp; omega))
                      refine' WO.load (v := _) rfl rfl ?hc rfl ?_
                      case hc => (first | (refine cellR (rv := rv) (rs := rs) (i := k) (k := L) (u := ent rs k L) ?_ (by omega) (by omega) rfl; repeat (first | exact Sub.nil | refine Sub.cons (by repeat (first | exact Pick.head | apply Pick.tail)) ?_)))
                      refine WO.p rfl rfl ?_
                      refine WO.nil ?_
                      refine W.cond_bl rfl (fun c12 => ?_) (fun c12 => ?_)
                      · first
                        | (exfalso; omega)
                        | (refine W.sreg ?_
                           refine WO.p rfl rfl ?_
                           refine WO.nil ?_
                           refine W.ret ?_
                           refine fin.ret (Res.one rfl (RV.tmp rfl)) (congrArg Value.bool ?_)
                           first | exact (bl_f.2 (hel.no (by omega) (fun i hi => haz i (by omega)) (by assumption))).symm | exact (bl_t.2 (by rw [show k = l.length - L by omega] at hel; exact hel.yes)).symm)
                      · first
                        | (exfalso; omega)
                        | (refine W.skip ?_
                           refine W.exit (blk_same ?_)
                           refine W.region ?_
                           refine WO.p rfl rfl (WO.ar rfl rfl rfl (by (first | (unfold in64; omega) | (unfold in64; omega))) rfl (WO.p rfl rfl ?_))
                           refine WO.nil ?_
                           refine' ⟨k + 1, _, ?hp, ?hmu, ⟨rfl, rfl, rfl, trivial⟩, ?hS⟩
                           case hS => repeat (first | exact Sub.nil | refine Sub.cons (by repeat (first | exact Pick.head | apply Pick.tail)) ?_)
                           case hp => first | exact ⟨by omega, by rw [show m = l.length - L by omega]; exact hel.step (by omega) (by omega) (by assumption)⟩ | exact ⟨by omega, hel.zero (fun i hi => by rcases Nat.lt_or_ge i a with g | g; exact haz i g; rw [show i = L by omega]; have := hel.bit k L; omega)⟩
                           case hmu => omega))
                 · first
                   | (exfalso; omega)
                   | (refine W.skip ?_
                      refine W.sreg ?_
                      refine WO.p rfl rfl (WO.ar rfl rfl rfl (by (first | (unfold in64; omega) | (unfold in64; omega))) rfl (WO.p rfl rfl ?_))
                      refine WO.nil ?_
                      refine W.block ?_
                      rw [show RowsE encI 3 1 rv rs = RowsE encI 3 1 rv (upd L rs k a (k + 1)) by rw [upd_0]]
                      refine W.loop (fun (m : Nat) => k < m ∧ m ≤ l.length - L)
                        (fun (m : Nat) => [(11, .int .i64 (m : Int)), (10, .int .i64 (a : Int)), (9, .int .i64 (k : Int)), (5, o), (1, .int .i64 (L : Int))])
                        (fun (m : Nat) => [OwC 22 1 o (l.length - L) rv, RowsE encI 3 1 rv (upd L rs k a m)])
                        (fun (m : Nat) => l.length - L - m) (k + 1)
                        (by exact ⟨by omega, by omega⟩) ⟨rfl, rfl, rfl, rfl, rfl, trivial⟩ (by repeat (first | exact Sub.nil | refine Sub.cons (by repeat (first | exact Pick.head | apply Pick.tail)) ?_)) ?_
                      rintro m ⟨hm0, hm1⟩
                      have hul := upd_len L rs k a m
                      refine W.seq ?_
                      refine W.sreg ?_
                      refine WO.p rfl rfl (WO.p rfl rfl ?_)
                      refine' WO.len (n := _) rfl rfl ?hs rfl ?_
                      case hs => (first | exact hos)
                      refine WO.p rfl rfl ?_
                      refine WO.nil ?_
                      refine W.cond_bl rfl (fun c13 => ?_) (fun c13 => ?_)
                      · first
                        | (exfalso; omega)
                        | (refine W.skip ?_
                           refine W.seq ?_
                           refine W.block ?_
                           refine W.seq ?_
                           have hum : (upd L rs k a m).getD m [] = rs.getD m [] := by rw [upd_get (by omega), if_neg (by omega)]
                           have huk : (upd L rs k a m).getD k [] = rs.getD k [] := by rw [upd_get (by omega), if_neg (by omega)]
                           have hmu : m < (upd L rs k a m).length := by rw [upd_len]; omega
                           refine W.fact (RowsE.rowSl (xss := upd L rs k a m) (i := m) (by repeat (first | exact Pick.head | apply Pick.tail)) hmu) (fun hrm => ?_)
                           have hrowm := hel.row m (by omega)
                           rw [hum, hrowm] at hrm
                           refine W.sreg ?_
                           refine WO.p rfl rfl (WO.p rfl rfl ?_)
                           refine' WO.indexAddr (n := _) (i := _) rfl rfl rfl ?hs ?h1 rfl ?_
                           case hs => (first | exact hos)
                           case h1 => (first | omega | (simp; omega))
                           refine' WO.load (v := _) rfl rfl ?hc rfl ?_
                           case hc => (first | (refine OwC.cell1s (e := 22) (n := l.length - L) (cs := rv) (i := m) ?_ ?_; (repeat (first | exact Sub.nil | refine Sub.cons (by repeat (first | exact Pick.head | apply Pick.tail)) ?_)); omega))
                           refine WO.p rfl rfl ?_
                           refine' WO.indexAddr (n := _) (i := _) rfl rfl rfl ?hs ?h1 rfl ?_
                           case hs => (first | exact hrm)
                           case h1 => (first | omega | (simp; omega))
                           refine' WO.load (v := _) rfl rfl ?hc rfl ?_
                           case hc => (first | (refine cellR (rv := rv) (rs := upd L rs k a m) (i := m) (k := a) (u := ent rs m a) ?_ (by rw [upd_len]; omega) (by rw [hum]; omega) (by rw [hum]; rfl); repeat (first | exact Sub.nil | refine Sub.cons (by repeat (first | exact Pick.head | apply Pick.tail)) ?_)))
                           refine WO.p rfl rfl ?_
                           refine WO.nil ?_
                           refine W.cond_bl rfl (fun c14 => ?_) (fun c14 => ?_)
                           · first
                             | (exfalso; omega)
                             | (refine W.exit (blk_same ?_)
                                first
                                | (obtain rfl : L + 1 = c := (by omega); rw [upd_t (L := L) (rs := rs) (k := k) (a := a) (m := m) (by omega) (by assumption)])
                                | rw [upd_f (L := L) (rs := rs) (k := k) (a := a) (m := m) (by assumption)]
                                refine W.region ?_
                                refine WO.p rfl rfl (WO.ar rfl rfl rfl (by (first | (unfold in64; omega) | (unfold in64; omega))) rfl (WO.p rfl rfl ?_))
                                refine WO.nil ?_
                                refine' ⟨m + 1, ?hp, ?hmu, ⟨rfl, rfl, rfl, rfl, rfl, trivial⟩, ?hS⟩
                                case hS => repeat (first | exact Sub.nil | refine Sub.cons (by repeat (first | exact Pick.head | apply Pick.tail)) ?_)
                                case hp => exact ⟨by omega, by omega⟩
                                case hmu => omega)
                           · first
                             | (exfalso; omega)
                             | (refine W.skip ?_
                                refine W.sreg ?_
                                refine WO.p rfl rfl ?_
                                refine WO.nil ?_
                                refine W.block ?_
                                rw [show RowsE encI 3 1 rv (upd L rs k a m) = RowsE encI 3 1 rv ((upd L rs k a m).set m (addTo L (rs.getD m []) (rs.getD k []) 0)) by rw [addTo_0 hrowm, set_getD hmu hum]]
                                refine W.loop (fun (c : Nat) => c ≤ L + 1)
                                  (fun (c : Nat) => [(12, .int .i64 (c : Int)), (11, .int .i64 (m : Int)), (10, .int .i64 (a : Int)), (9, .int .i64 (k : Int)), (5, o), (1, .int .i64 (L : Int))])
                                  (fun (c : Nat) => [OwC 22 1 o (l.length - L) rv, RowsE encI 3 1 rv ((upd L rs k a m).set m (addTo L (rs.getD m []) (rs.getD k []) c))])
                                  (fun (c : Nat) => L + 1 - c) 0
                                  (by omega) ⟨rfl, rfl, rfl, rfl, rfl, rfl, trivial⟩ (by repeat (first | exact Sub.nil | refine Sub.cons (by repeat (first | exact Pick.head | apply Pick.tail)) ?_)) ?_
                                rintro c hc0
                                refine W.seq ?_
                                refine W.sreg ?_
                                refine WO.p rfl rfl (WO.p rfl rfl (WO.p rfl rfl ?_))
                                refine WO.nil ?_
                                refine W.cond_bl rfl (fun c15 => ?_) (fun c15 => ?_)
                                · first
                                  | (exfalso; omega)
                                  | (refine W.skip ?_
                                     refine W.seq ?_
                                     refine W.block ?_
                                     have hb1 := hel.bit m c
                                     have hb2 := hel.bit k c
                                     refine W.drawD 21 [.r 0 [], .r 1 [], .r 2 [], .b 3 [], .r 4 [], .r 5 [], .r 6 [], .r 7 [], .b 8 [], .r 9 [], .r 10 [], .b 11 [], .r 12 [], .r 13 [], .r 14 [], .b 15 [], .r 16 [], .r 17 [], .b 18 [], .r 19 [], .r 20 []] [] (A0 := []) (Sub.refl _) (by kernel_rfl) ?_ ?_
                                     · exact (ALok.r (ALok.r (ALok.r (ALok.b (ALok.r (ALok.r (ALok.r (ALok.r (ALok.b (ALok.r (ALok.r (ALok.b (ALok.r (ALok.r (ALok.r (ALok.b (ALok.r (ALok.r (ALok.b (ALok.r (ALok.r ALok.nil)))))))))))))))))))))
                                     refine' DT.r rfl rfl rfl ?hq ?_
                                     case hq =>
                                       refine WO.p rfl rfl ?_
                                       exact WO.nil ⟨rfl, rfl⟩
                                     refine' DT.r rfl rfl rfl ?hq ?_
                                     case hq =>
                                       refine WO.p rfl rfl ?_
                                       exact WO.nil ⟨rfl, rfl⟩
                                     refine' DT.r rfl rfl rfl ?hq ?_
                                     case hq =>
                                       refine' WO.indexAddr (n := _) (i := _) rfl rfl rfl ?hs ?h1 rfl ?_
                                       case hs => (first | exact hos)
                                       case h1 => (first | omega | (simp; omega))
                                       exact WO.nil ⟨rfl, rfl⟩
                                     refine' DT.b rfl rfl rfl ?hq ?_
                                     case hq =>
                                       refine' WO.load (v := _) rfl rfl ?hc rfl ?_
                                       case hc => (first | (refine OwC.cell1s (e := 22) (n := l.length - L) (cs := rv) (i := m) ?_ ?_; (repeat (first | exact Sub.nil | refine Sub.cons (by repeat (first | exact Pick.head | apply Pick.tail)) ?_)); omega))
                                       exact WO.nil ⟨rfl, rfl⟩
                                     refine' DT.r rfl rfl rfl ?hq ?_
                                     case hq =>
                                       refine WO.p rfl rfl ?_
                                       exact WO.nil ⟨rfl, rfl⟩
                                     refine' DT.r rfl rfl rfl ?hq ?_
                                     case hq =>
                                       refine WO.p rfl rfl ?_
                                       exact WO.nil ⟨rfl, rfl⟩
                                     refine' DT.r rfl rfl rfl ?hq ?_
                                     case hq =>
                                       refine WO.p rfl rfl ?_
                                       exact WO.nil ⟨rfl, rfl⟩
                                     refine' DT.r rfl rfl rfl ?hq ?_
                                     case hq =>
                                       refine' WO.indexAddr (n := _) (i := _) rfl rfl rfl ?hs ?h1 rfl ?_
                                       case hs => (first | exact hos)
                                       case h1 => (first | omega | (simp; omega))
                                       exact WO.nil ⟨rfl, rfl⟩
                                     refine' DT.b rfl rfl rfl ?hq ?_
                                     case hq =>
                                       refine' WO.load (v := _) rfl rfl ?hc rfl ?_
                                       case hc => (first | (refine OwC.cell1s (e := 22) (n := l.length - L) (cs := rv) (i := m) ?_ ?_; (repeat (first | exact Sub.nil | refine Sub.cons (by repeat (first | exact Pick.head | apply Pick.tail)) ?_)); omega))
                                       exact WO.nil ⟨rfl, rfl⟩
                                     refine' DT.r rfl rfl rfl ?hq ?_
                                     case hq =>
                                       refine WO.p rfl rfl ?_
                                       exact WO.nil ⟨rfl, rfl⟩
                                     refine' DT.r rfl rfl rfl ?hq ?_
                                     case hq =>
                                       refine' WO.indexAddr (n := _) (i := _) rfl rfl rfl ?hs ?h1 rfl ?_
                                       case hs => (first | exact hrm)
                                       case h1 => (first | omega | (simp; omega))
                                       exact WO.nil ⟨rfl, rfl⟩
                                     refine' DT.b rfl rfl rfl ?hq ?_
                                     case hq =>
                                       refine' WO.load (v := _) rfl rfl ?hc rfl ?_
                                       case hc => (first | (refine cellR (rv := rv) (rs := (upd L rs k a m).set m (addTo L (rs.getD m []) (rs.getD k []) c)) (i := m) (k := c) (u := ent rs m c) ?_ (by rw [List.length_set, upd_len]; omega) (by rw [set_get hmu, addTo_len]; omega) (by rw [set_get hmu, addTo_get (by omega), if_neg (by omega)]; rfl); repeat (first | exact Sub.nil | refine Sub.cons (by repeat (first | exact Pick.head | apply Pick.tail)) ?_)))
                                       exact WO.nil ⟨rfl, rfl⟩
                                     refine' DT.r rfl rfl rfl ?hq ?_
                                     case hq =>
                                       refine WO.p rfl rfl ?_
                                       exact WO.nil ⟨rfl, rfl⟩
                                     refine' DT.r rfl rfl rfl ?hq ?_
                                     case hq =>
                                       refine WO.p rfl rfl ?_
                                       exact WO.nil ⟨rfl, rfl⟩
                                     refine' DT.r rfl rfl rfl ?hq ?_
                                     case hq =>
                                       refine' WO.indexAddr (n := _) (i := _) rfl rfl rfl ?hs ?h1 rfl ?_
                                       case hs => (first | exact hos)
                                       case h1 => (first | omega | (simp; omega))
                                       exact WO.nil ⟨rfl, rfl⟩
                                     refine' DT.b rfl rfl rfl ?hq ?_
                                     case hq =>
                                       refine' WO.load (v := _) rfl rfl ?hc rfl ?_
                                       case hc => (first | (refine OwC.cell1s (e := 22) (n := l.length - L) (cs := rv) (i := k) ?_ ?_; (repeat (first | exact Sub.nil | refine Sub.cons (by repeat (first | exact Pick.head | apply Pick.tail)) ?_)); omega))
                                       exact WO.nil ⟨rfl, rfl⟩
                                     refine' DT.r rfl rfl rfl ?hq ?_
                                     case hq =>
                                       refine WO.p rfl rfl ?_
                                       exact WO.nil ⟨rfl, rfl⟩
                                     refine' DT.r rfl rfl rfl ?hq ?_
                                     case hq =>
                                       refine' WO.indexAddr (n := _) (i := _) rfl rfl rfl ?hs ?h1 rfl ?_
                                       case hs => (first | exact hrk)
                                       case h1 => (first | omega | (simp; omega))
                                       exact WO.nil ⟨rfl, rfl⟩
                                     refine' DT.b rfl rfl rfl ?hq ?_
                                     case hq =>
                                       refine' WO.load (v := _) rfl rfl ?hc rfl ?_
                                       case hc => (first | (refine cellR (rv := rv) (rs := (upd L rs k a m).set m (addTo L (rs.getD m []) (rs.getD k []) c)) (i := k) (k := c) (u := ent rs k c) ?_ (by rw [List.length_set, upd_len]; omega) (by rw [set_get' (by omega), huk]; omega) (by rw [set_get' (by omega), huk]; rfl); repeat (first | exact Sub.nil | refine Sub.cons (by repeat (first | exact Pick.head | apply Pick.tail)) ?_)))
                                       exact WO.nil ⟨rfl, rfl⟩
                                     refine' DT.r rfl rfl rfl ?hq ?_
                                     case hq =>
                                       refine WO.ar rfl rfl rfl (by (first | (unfold in64; omega) | (unfold in64; omega))) rfl ?_
                                       exact WO.nil ⟨rfl, rfl⟩
                                     refine' DT.r rfl rfl rfl ?hq ?_
                                     case hq =>
                                       refine WO.rem rfl rfl (by first | omega | assumption) rfl ?_
                                       exact WO.nil ⟨rfl, rfl⟩
                                     refine DT.nil [_, _] rfl ?_
                                     refine' WO.indexAddr (n := _) (i := _) rfl rfl rfl ?hs ?h1 rfl ?_
                                     case hs => (first | exact hrm)
                                     case h1 => (first | omega | (simp; omega))
                                     refine WO.storeRow (xss := (upd L rs k a m).set m (addTo L (rs.getD m []) (rs.getD k []) c)) (i := m) (k := c) (n := (ent rs m c + ent rs k c).tmod 2) encI_ok rfl rfl rfl rfl (by repeat (first | exact Pick.head | apply Pick.tail)) (by rw [List.length_set]; exact hmu) (by rw [set_get hmu, addTo_len]; omega) ?_
                                     rw [set_step hmu, Int.tmod_eq_emod_of_nonneg (by omega), show (ent rs m c + ent rs k c) % 2 = ((rs.getD m []).getD c 0 + (rs.getD k []).getD c 0) % 2 from rfl, addTo_set (by omega)]
                                     refine WO.nil ?_
                                     refine W.region ?_
                                     refine WO.p rfl rfl (WO.ar rfl rfl rfl (by (first | (unfold in64; omega) | (unfold in64; omega))) rfl (WO.p rfl rfl ?_))
                                     refine WO.nil ?_
                                     refine' ⟨c + 1, ?hp, ?hmu, ⟨rfl, rfl, rfl, rfl, rfl, rfl, trivial⟩, ?hS⟩
                                     case hS => repeat (first | exact Sub.nil | refine Sub.cons (by repeat (first | exact Pick.head | apply Pick.tail)) ?_)
                                     case hp => omega
                                     case hmu => omega)
                                · first
                                  | (exfalso; omega)
                                  | (refine W.exit (blk_same ?_)
                                     first
                                     | (obtain rfl : L + 1 = c := (by omega); rw [upd_t (L := L) (rs := rs) (k := k) (a := a) (m := m) (by omega) (by assumption)])
                                     | rw [upd_f (L := L) (rs := rs) (k := k) (a := a) (m := m) (by assumption)]
                                     refine W.region ?_
                                     refine WO.p rfl rfl (WO.ar rfl rfl rfl (by (first | (unfold in64; omega) | (unfold in64; omega))) rfl (WO.p rfl rfl ?_))
                                     refine WO.nil ?_
                                     refine' ⟨m + 1, ?hp, ?hmu, ⟨rfl, rfl, rfl, rfl, rfl, trivial⟩, ?hS⟩
                                     case hS => repeat (first | exact Sub.nil | refine Sub.cons (by repeat (first | exact Pick.head | apply Pick.tail)) ?_)
                                     case hp => exact ⟨by omega, by omega⟩
                                     case hmu => omega)))
                      · first
                        | (exfalso; omega)
                        | (refine W.exit (blk_same ?_)
                           refine W.region ?_
                           refine WO.p rfl rfl (WO.ar rfl rfl rfl (by (first | (unfold in64; omega) | (unfold in64; omega))) rfl (WO.p rfl rfl ?_))
                           refine WO.nil ?_
                           refine' ⟨k + 1, _, ?hp, ?hmu, ⟨rfl, rfl, rfl, trivial⟩, ?hS⟩
                           case hS => repeat (first | exact Sub.nil | refine Sub.cons (by repeat (first | exact Pick.head | apply Pick.tail)) ?_)
                           case hp => first | exact ⟨by omega, by rw [show m = l.length - L by omega]; exact hel.step (by omega) (by omega) (by assumption)⟩ | exact ⟨by omega, hel.zero (fun i hi => by rcases Nat.lt_or_ge i a with g | g; exact haz i g; rw [show i = L by omega]; have := hel.bit k L; omega)⟩
                           case hmu => omega))))
       · first
         | (exfalso; omega)
         | (refine W.exit (blk_same ?_)
            refine W.sreg ?_
            refine WO.p rfl rfl ?_
            refine WO.nil ?_
            refine W.ret ?_
            refine fin.ret (Res.one rfl (RV.tmp rfl)) (congrArg Value.bool ?_)
            first | exact (bl_f.2 (hel.no (by omega) (fun i hi => haz i (by omega)) (by assumption))).symm | exact (bl_t.2 (by rw [show k = l.length - L by omega] at hel; exact hel.yes)).symm))
end Go.Proofs.Ytingkbglkaojdaa
namespace Go.Proofs.Ytingkbglkaojdaa
open Go Go.TH Go.TH.Wv
attribute [local irreducible] W WO pt
set_option maxRecDepth 10000
set_option maxHeartbeats 1000000
/-- the length of a shortest register -/
def IsLC (s : Nat → Int) (n L : Nat) : Prop := Sol L s n ∧ ∀ m, m < L → ¬ Sol m s n
theorem lc_ex (s : Nat → Int) (n : Nat) : ∃ L, IsLC s n L := by
  have key : ∀ k, (∀ m, m < k → ¬ Sol m s n) ∨ ∃ L, IsLC s n L := fun k => by
    induction k with
    | zero => exact .inl fun m h => by omega
    | succ k ih =>
      rcases ih with h | h
      · by_cases g : Sol k s n
        · exact .inr ⟨k, g, h⟩
        · exact .inl fun m hm => by
            rcases Nat.lt_or_ge m k with g2 | g2
            · exact h m g2
            · rw [show m = k by omega]; exact g
      · exact .inr h
  rcases key (n + 1) with h | h
  · exact absurd (Sol.all (Nat.le_refl n)) (h n (by omega))
  · exact h
noncomputable def LC (s : Nat → Int) (n : Nat) : Nat := Classical.choose (lc_ex s n)
theorem lc_is (s : Nat → Int) (n : Nat) : IsLC s n (LC s n) := Classical.choose_spec (lc_ex s n)
theorem lc_le {s : Nat → Int} {n L : Nat} (h : Sol L s n) : LC s n ≤ L := by
  rcases Nat.lt_or_ge L (LC s n) with g | g
  · exact absurd h ((lc_is s n).2 L g)
  · exact g
theorem lc_eq {s : Nat → Int} {n L : Nat} (h : IsLC s n L) : LC s n = L := by
  have h1 := lc_le h.1
  rcases Nat.lt_or_ge (LC s n) L with g | g
  · exact absurd (lc_is s n).1 (h.2 _ g)
  · omega
theorem lc_len (s : Nat → Int) (n : Nat) : LC s n ≤ n := lc_le (Sol.all (Nat.le_refl n))
theorem sol_congr {s s' : Nat → Int} {n L : Nat} (h : ∀ i, i < n → s i = s' i) : Sol L s n ↔ Sol L s' n :=
  ⟨fun ⟨c, hc⟩ => ⟨c, hc.congr (fun _ _ => rfl) h⟩, fun ⟨c, hc⟩ => ⟨c, hc.congr (fun _ _ => rfl) (fun i hi => (h i hi).symm)⟩⟩
theorem lc_congr {s s' : Nat → Int} {n : Nat} (h : ∀ i, i < n → s i = s' i) : LC s n = LC s' n :=
  lc_eq ⟨(sol_congr h).2 (lc_is s' n).1, fun m hm g => (lc_is s' n).2 m hm ((sol_congr h).1 g)⟩
theorem lc_take {l : List Int} {n : Nat} : LC (bt (l.take n)) n = LC (bt l) n := lc_congr fun i hi => bt_take hi
theorem ref_Complexity (w : World) (v : Value) (l : List Int) (hR : RdF encI 1 w.heap.size w v l) (hn : l.length ≤ 128) (hl : OkBs l) : Ret Try.prog 39 [v].toArray w (.int .i64 (LC (bt l) l.length : Int)) := by
  refine Ret.of mixed tyTab Try.func39 rfl rfl ?_
  replace hR : RdF encI 1 (fnCx mixed tyTab Try.f39.ntmps w).B (fnCx mixed tyTab Try.f39.ntmps w).w0 v l := hR
  refine W.sreg ?_
  refine WO.p rfl rfl ?_
  refine WO.nil ?_
  refine W.sreg ?_
  refine WO.p rfl rfl ?_
  refine WO.nil ?_
  refine W.seq ?_
  refine W.block ?_
  refine W.loop (fun (i : Nat) => i ≤ l.length ∧ ∀ m, m < i → ¬ Sol m (bt l) l.length)
    (fun (i : Nat) => [(3, .int .i64 (i : Int)), (0, v)])
    (fun (i : Nat) => [])
    (fun (i : Nat) => l.length - i) 0
    (by exact ⟨by omega, fun m hm => by omega⟩) ⟨rfl, rfl, trivial⟩ (by repeat (first | exact Sub.nil | refine Sub.cons (by repeat (first | exact Pick.head | apply Pick.tail)) ?_)) ?_
  rintro i ⟨hi0, hin⟩
  refine W.seq ?_
  refine W.sreg ?_
  refine WO.p rfl rfl (WO.p rfl rfl ?_)
  refine WO.callR rfl Try.call59 (fun L w hi => ref_solved w v l i (hR.later hi) hi0 hn hl) rfl ?_
  refine WO.p rfl rfl ?_
  refine WO.nil ?_
  refine W.cond_nbl rfl (fun c1 => ?_) (fun c1 => ?_)
  · first
    | (exfalso; omega)
    | (refine W.skip ?_
       refine W.block ?_
       refine W.region ?_
       refine WO.p rfl rfl (WO.ar rfl rfl rfl (by (first | (unfold in64; omega) | (unfold in64; omega))) rfl (WO.p rfl rfl ?_))
       refine WO.nil ?_
       refine' ⟨i + 1, ?hp, ?hmu, ⟨rfl, rfl, trivial⟩, ?hS⟩
       case hS => repeat (first | exact Sub.nil | refine Sub.cons (by repeat (first | exact Pick.head | apply Pick.tail)) ?_)
       case hp => exact ⟨by rcases Nat.lt_or_ge i l.length with g | g; omega; exact absurd (Sol.all g) (by assumption), fun m hm => by rcases Nat.lt_or_ge m i with g | g; exact hin m g; rw [show m = i by omega]; assumption⟩
       case hmu => (rcases Nat.lt_or_ge i l.length with g | g; omega; exact absurd (Sol.all g) (by assumption)))
  · first
    | (exfalso; omega)
    | (refine W.exit (blk_same ?_)
       refine W.sreg ?_
       refine WO.p rfl rfl (WO.p rfl rfl ?_)
       refine WO.nil ?_
       refine W.ret ?_
       refine fin.ret (Res.one rfl (RV.tmp rfl)) (congrArg (Value.int .i64) ?_)
       rw [lc_eq ⟨by assumption, hin⟩])
/-- the complexities of the beginnings -/
noncomputable def proL (l : List Int) (k : Nat) : List Int := (List.range k).map fun n => (LC (bt l) n : Int)
theorem proL_succ (l : List Int) (k : Nat) : proL l (k + 1) = proL l k ++ [(LC (bt l) k : Int)] := by unfold proL; rw [List.range_succ, List.map_append]; rfl
theorem proL_len (l : List Int) (k : Nat) : (proL l k).length = k := by unfold proL; simp
noncomputable def proV (l : List Int) : List Int := if chkB l = 0 then proL l (l.length + 1) else []
theorem ref_Profile (w : World) (v : Value) (l : List Int) (hR : RdF encI 1 w.heap.size w v l) (hv : HasCap v l.length) : Ct Try.prog 17 [v].toArray w fun r w' => ∃ Hq, (∃ x : Value, r = .tuple #[x, .int .i64 (chkB l)] ∧ Hq = [OwE encI 3 1 x (proV l)]) ∧ Inv w [] Hq w' := by
  refine Ct.ofI mixed tyTab Try.func17 rfl rfl ?_
  obtain ⟨va, vc, rfl, hcap⟩ := hv
  replace hR : RdF encI 1 (fnCx mixed tyTab Try.f17.ntmps w).B (fnCx mixed tyTab Try.f17.ntmps w).w0 (.slice va l.length vc) l := hR
  have hle := hR.sl.le
  refine W.sreg ?_
  refine WO.p rfl rfl (WO.p rfl rfl ?_)
  refine WO.nil ?_
  refine W.seq ?_
  refine W.sreg ?_
  refine WO.p rfl rfl ?_
  refine WO.callR rfl Try.call34 (fun L w hi => ref_CheckBits w _ l (hR.later hi)) rfl ?_
  refine WO.p rfl rfl ?_
  refine WO.nil ?_
  refine W.cond_bl rfl (fun c1 => ?_) (fun c1 => ?_)
  · first
    | (exfalso; omega)
    | (refine W.sreg ?_
       refine WO.p rfl rfl ?_
       refine WO.callR rfl Try.call34 (fun L w hi => ref_CheckBits w _ l (hR.later hi)) rfl ?_
       refine WO.p rfl rfl (WO.p rfl rfl ?_)
       refine WO.nil ?_
       refine W.ret ?_
       refine fin.ret (Res.two rfl (RV.tmp rfl) (RV.tmp rfl)) ?_
       first | (refine ⟨.slice none 0 0, rfl, ?_⟩; unfold proV; rw [if_neg (by assumption)]; exact owNil (enc := encI) (e := 3) (sz := 1)) | (refine ⟨x, by rw [chkB0.2 hok], ?_⟩; unfold proV; rw [if_pos (chkB0.2 hok), show l.length + 1 = n by omega]; exact fun h hs => Sub.sat (.cons .head .nil) hs))
  · first
    | (exfalso; omega)
    | (refine W.skip ?_
       have hok := chkB0.1 (show chkB l = 0 by omega)
       refine W.sreg ?_
       refine WO.p rfl rfl ?_
       refine WO.nil ?_
       refine W.seq ?_
       refine W.sreg ?_
       refine WO.p rfl rfl ?_
       refine WO.nil ?_
       refine W.block ?_
       refine W.chg (owNil (enc := encI) (e := 3) (sz := 1)) ?_
       refine W.loop2 (fun (n : Nat) (x : Value) => n ≤ l.length + 1)
         (fun (n : Nat) (x : Value) => [(5, .int .i64 (n : Int)), (4, x), (0, .slice va l.length vc)])
         (fun (n : Nat) (x : Value) => [OwE encI 3 1 x (proL l n)])
         (fun (n : Nat) (x : Value) => l.length + 1 - n) 0 (.slice none 0 0)
         (by omega) ⟨rfl, rfl, rfl, trivial⟩ (by repeat (first | exact Sub.nil | refine Sub.cons (by repeat (first | exact Pick.head | apply Pick.tail)) ?_)) ?_
       rintro n x hn0
       refine W.seq ?_
       refine W.sreg ?_
       refine WO.p rfl rfl (WO.p rfl rfl ?_)
       refine' WO.len (n := _) rfl rfl ?hs rfl ?_
       case hs => (first | exact hR.sl)
       refine WO.p rfl rfl ?_
       refine WO.nil ?_
       refine W.cond_bl rfl (fun c2 => ?_) (fun c2 => ?_)
       · first
         | (exfalso; omega)
         | (refine W.skip ?_
            refine W.seq ?_
            refine W.block ?_
            refine W.region ?_
            refine WO.p rfl rfl (WO.p rfl rfl (WO.p rfl rfl ?_))
            refine WO.slSl (lo := 0) (hi := n) (mx := vc) rfl rfl bnd.no (bnd.at rfl) bnd.no (by simp) (by omega) (by omega) (by omega) rfl ?_
            refine WO.callR (r := .int .i64 (LC (bt l) n : Int)) rfl Try.call39 (fun L w hi => by have h := ref_Complexity w _ (l.take n) ((hR.sub (lo := 0) (hi := n) (mx := vc) (by omega) (by omega) (by omega)).later hi) (by rw [take_len (by omega)]; omega) (fun x hx => hok.2 x (List.mem_of_mem_take hx)); rw [take_len (by omega), lc_take] at h; exact h) rfl ?_
            refine' WO.buildSl (cs := _) rfl rfl rfl rfl ?hf rfl rfl ?hl rfl (fun v1 => ?_)
            case hf => (conv => lhs; simp [-List.getD_eq_getElem?_getD, fillL, vcl, wrl, TTab.pl?.lget']) <;> rfl
            case hl => rfl
            refine' WO.appendE (enc := encI) (m := 1) (xs := proL l n) (ys := [(LC (bt l) n : Int)]) encI_ok rfl rfl rfl rfl rfl (by repeat (first | exact Pick.head | apply Pick.tail)) (isSl_lit (by omega) (fun _ => ⟨_, _, rfl⟩)) (by omega) rfl (OwC.cells (by repeat (first | exact Pick.head | apply Pick.tail))) (by rw [proL_len]; omega) (by rw [proL_len]; omega) rfl (fun g c => ?_)
            rw [← proL_succ]
            refine WO.p rfl rfl ?_
            refine WO.nil ?_
            refine W.region ?_
            refine WO.p rfl rfl (WO.ar rfl rfl rfl (by (first | (unfold in64; omega) | (unfold in64; omega))) rfl (WO.p rfl rfl ?_))
            refine WO.nil ?_
            refine' ⟨n + 1, _, ?hp, ?hmu, ⟨rfl, rfl, rfl, trivial⟩, ?hS⟩
            case hS => repeat (first | exact Sub.nil | refine Sub.cons (by repeat (first | exact Pick.head | apply Pick.tail)) ?_)
            case hp => omega
            case hmu => omega)
       · first
         | (exfalso; omega)
         | (refine W.exit (blk_same ?_)
            refine W.sreg ?_
            refine WO.p rfl rfl (WO.p rfl rfl (WO.p rfl rfl ?_))
            refine WO.nil ?_
            refine W.ret ?_
            refine fin.ret (Res.two rfl (RV.tmp rfl) (RV.tmp rfl)) ?_
            first | (refine ⟨.slice none 0 0, rfl, ?_⟩; unfold proV; rw [if_neg (by assumption)]; exact owNil (enc := encI) (e := 3) (sz := 1)) | (refine ⟨x, by rw [chkB0.2 hok], ?_⟩; unfold proV; rw [if_pos (chkB0.2 hok), show l.length + 1 = n by omega]; exact fun h hs => Sub.sat (.cons .head .nil) hs)))
end Go.Proofs.Ytingkbglkaojdaa
namespace Go.Proofs.Ytingkbglkaojdaa
open Go Go.TH Go.TH.Wv
attribute [local irreducible] W WO pt
set_option maxRecDepth 10000
set_option maxHeartbeats 1000000
/-- the cells of a polynomial, and its value -/
def polyC (p : Nat) : List Value := [.int .u64 (wd p 0 : Int), .int .u64 (wd p 1 : Int), .int .u64 (wd p 2 : Int)]
def polyV (p : Nat) : Value := .agg #[.int .u64 (wd p 0 : Int), .int .u64 (wd p 1 : Int), .int .u64 (wd p 2 : Int)]
theorem polyC_get {p k : Nat} (h : k < 3) : lget (polyC p) k = some (.int .u64 (wd p k : Int)) := match k, h with
  | 0, _ => rfl
  | 1, _ => rfl
  | 2, _ => rfl
theorem cellW {C : Cx Try.prog} {H : List HP} {b p k o' : Nat} {t : TypeId} {fr : Nat × Nat} (s : Sub H [pt b (.cells #[.int .u64 (wd p 0 : Int), .int .u64 (wd p 1 : Int), .int .u64 (wd p 2 : Int)] t fr)]) (ho : o' = k) (hk : k < 3) : Cell C H ⟨b, o', none⟩ (.int .u64 (wd p k : Int)) := by
  subst ho
  cases s with
  | cons q _ => exact Cell.own (cs := polyC p) q (polyC_get hk)
theorem wd_fits (p k : Nat) : Fits .u64 (wd p k) := wd_lt p k
theorem fits1 : Fits .u64 1 := fits01 (Nat.le_refl 1)
theorem c_bitP (w : World) (p i : Nat) (hi : i < 192) : Ret Try.prog 64 [polyV p, .int .i64 (i : Int)].toArray w (.int .i64 (cf p i)) := by
  refine Ret.of mixed tyTab Try.func64 rfl rfl ?_
  have hq : (i : Int).tdiv 64 = ((i / 64 : Nat) : Int) := by rw [Int.tdiv_eq_ediv_of_nonneg (by omega)]; omega
  have hr : (i : Int).tmod 64 = ((i % 64 : Nat) : Int) := by rw [Int.tmod_eq_emod_of_nonneg (by omega)]; omega
  have hb := cf_bit p i
  have hw := wd_get (p := p) (i := i)
  have hc : cf p i = ((wd p (i / 64) >>> (i % 64) &&& 1 : Nat) : Int) := by rw [hw]; unfold cf; split <;> rfl
  refine W.sreg ?_
  refine WO.boxA rfl rfl (fun b1 hb1 => ?_)
  refine WO.p rfl rfl ?_
  refine WO.nil ?_
  refine W.sreg ?_
  refine WO.p rfl rfl (WO.quo rfl rfl (by first | omega | assumption) (by (first | (unfold in64; omega) | (rw [hq]; unfold in64; omega) | (rw [← hc]; unfold in64; omega) | (unfold in64; omega))) rfl ?_)
  refine WO.indexArrE (i := i / 64) (o' := 0 + i / 64 * 1) rfl rfl rfl hq (by omega) rfl rfl ?_
  refine' WO.load (v := _) rfl rfl ?hc rfl ?_
  case hc => (first | (refine cellW (b := b1) (p := p) (k := i / 64) (o' := 0 + i / 64 * 1) (t := 55) (fr := (0, 0)) ?_ (by omega) (by omega); repeat (first | exact Sub.nil | refine Sub.cons (by repeat (first | exact Pick.head | apply Pick.tail)) ?_)))
  refine WO.p rfl rfl (WO.rem rfl rfl (by first | omega | assumption) rfl ?_)
  refine WO.shrN (k := .u64) (a := wd p (i / 64)) (s := i % 64) rfl (by rw [← hr]; rfl) (show i % 64 ≤ 64 by omega) rfl ?_
  refine WO.andN (a := wd p (i / 64) >>> (i % 64)) (b := 1) rfl rfl (wd_fits _ _).shr fits1 rfl ?_
  refine WO.conv64 rfl rfl rfl (by (first | (unfold in64; omega) | (rw [hq]; unfold in64; omega) | (rw [← hc]; unfold in64; omega) | (unfold in64; omega))) rfl (WO.p rfl rfl ?_)
  refine WO.nil ?_
  refine W.ret ?_
  exact fin.ret (Res.one rfl (RV.tmp rfl)) (by rw [hc])
theorem shl_fits {s : Nat} (h : s < 64) : Fits .u64 (1 <<< s) := by
  show 1 <<< s < 2 ^ 64
  rw [Nat.shiftLeft_eq, Nat.one_mul]
  exact Nat.pow_lt_pow_right (by decide) h
theorem polyC_set {p i : Nat} (hi : i < 192) : (polyC p).set (0 + i / 64 * 1) (.int .u64 ((wd p (i / 64) ||| 1 <<< (i % 64) : Nat) : Int)) = polyC (p ||| 1 <<< i) := by
  unfold polyC
  rw [wd_with, wd_with, wd_with]
  rcases (show i / 64 = 0 ∨ i / 64 = 1 ∨ i / 64 = 2 by omega) with h | h | h <;> rw [h] <;> rfl
theorem c_with (w : World) (p i : Nat) (hi : i < 192) : Ret Try.prog 61 [polyV p, .int .i64 (i : Int)].toArray w (polyV (p ||| 1 <<< i)) := by
  refine Ret.of mixed tyTab Try.func61 rfl rfl ?_
  have hq : (i : Int).tdiv 64 = ((i / 64 : Nat) : Int) := by rw [Int.tdiv_eq_ediv_of_nonneg (by omega)]; omega
  have hr : (i : Int).tmod 64 = ((i % 64 : Nat) : Int) := by rw [Int.tmod_eq_emod_of_nonneg (by omega)]; omega
  refine W.sreg ?_
  refine WO.boxA rfl rfl (fun b1 hb1 => ?_)
  refine WO.alloc rfl rfl rfl (fun b2 hb2 => ?_)
  refine WO.nil ?_
  refine W.seq ?_
  refine W.drawD 7 [.r 0 [], .r 1 [], .r 2 [], .b 3 [], .r 4 [], .r 5 [], .r 6 []] [] (A0 := []) (Sub.refl _) (by kernel_rfl) ?_ ?_
  · exact (ALok.r (ALok.r (ALok.r (ALok.b (ALok.r (ALok.r (ALok.r ALok.nil)))))))
  refine' DT.r rfl rfl rfl ?hq ?_
  case hq =>
    refine WO.p rfl rfl ?_
    exact WO.nil ⟨rfl, rfl⟩
  refine' DT.r rfl rfl rfl ?hq ?_
  case hq =>
    refine WO.quo rfl rfl (by first | omega | assumption) (by (first | (unfold in64; omega) | (rw [hq]; unfold in64; omega) | (unfold in64; omega))) rfl ?_
    exact WO.nil ⟨rfl, rfl⟩
  refine' DT.r rfl rfl rfl ?hq ?_
  case hq =>
    refine WO.indexArrE (i := i / 64) (o' := 0 + i / 64 * 1) rfl rfl rfl hq (by omega) rfl rfl ?_
    exact WO.nil ⟨rfl, rfl⟩
  refine' DT.b rfl rfl rfl ?hq ?_
  case hq =>
    refine' WO.load (v := _) rfl rfl ?hc rfl ?_
    case hc => (first | (refine cellW (b := b1) (p := p) (k := i / 64) (o' := 0 + i / 64 * 1) (t := 55) (fr := (0, 0)) ?_ (by omega) (by omega); repeat (first | exact Sub.nil | refine Sub.cons (by repeat (first | exact Pick.head | apply Pick.tail)) ?_)))
    exact WO.nil ⟨rfl, rfl⟩
  refine' DT.r rfl rfl rfl ?hq ?_
  case hq =>
    refine WO.p rfl rfl ?_
    exact WO.nil ⟨rfl, rfl⟩
  refine' DT.r rfl rfl rfl ?hq ?_
  case hq =>
    refine WO.rem rfl rfl (by first | omega | assumption) rfl ?_
    exact WO.nil ⟨rfl, rfl⟩
  refine' DT.r rfl rfl rfl ?hq ?_
  case hq =>
    refine WO.shlN (k := .u64) (a := 1) (s := i % 64) rfl (by rw [← hr]; rfl) (show i % 64 ≤ 64 by omega) (shl_fits (by omega)) rfl ?_
    exact WO.nil ⟨rfl, rfl⟩
  refine DT.nil [_, _] rfl ?_
  refine WO.orN (k := .u64) (a := wd p (i / 64)) (b := 1 <<< (i % 64)) rfl rfl (wd_fits _ _) (shl_fits (by omega)) rfl ?_
  refine WO.indexArrE (i := i / 64) (o' := 0 + i / 64 * 1) rfl rfl rfl hq (by omega) rfl rfl ?_
  refine WO.store1 (cs := polyC p) rfl rfl rfl rfl (by repeat (first | exact Pick.head | apply Pick.tail)) (by rw [Nat.blt_eq]; show 0 + i / 64 * 1 < 3; omega) ?_
  rw [polyC_set hi]
  refine WO.nil ?_
  refine W.sreg ?_
  refine WO.loadA rfl rfl (Cells.own Pick.head) rfl rfl (WO.storeA rfl rfl rfl rfl (Pick.tail (Pick.head)) rfl rfl ?_)
  refine WO.nil ?_
  refine W.ret ?_
  exact fin.ret (Res.one rfl (RV.cell rfl rfl rfl (Cells.own (by repeat (first | exact Pick.head | apply Pick.tail))))) rfl
/-- what is moved so far -/
def ShTo (p a i o : Nat) : Prop := ∀ j, o.testBit j = (decide (a ≤ j) && (decide (j < a + i) && p.testBit (j - a)))
theorem ShTo.zero (p a : Nat) : ShTo p a 0 0 := fun j => by
  rw [Nat.zero_testBit]
  by_cases h : a ≤ j
  · have : ¬ j < a := by omega
    simp [this]
  · simp [h]
theorem ShTo.next_t {p a i o : Nat} (h : ShTo p a i o) (hb : cf p i = 1) : ShTo p a (i + 1) (o ||| 1 <<< (i + a)) := fun j => by
  have hb' : p.testBit i = true := by unfold cf at hb; split at hb; assumption; omega
  rw [Nat.testBit_or, one_bit, h j]
  by_cases g : i + a = j
  · subst g
    have e1 : a ≤ i + a := by omega
    have e2 : i + a < a + (i + 1) := by omega
    simp [e1, e2, hb']
  · by_cases g2 : a ≤ j
    · by_cases g3 : j < a + i
      · have e2 : j < a + (i + 1) := by omega
        simp [g, g2, g3, e2]
      · have e2 : ¬ j < a + (i + 1) := by omega
        simp [g, g3, e2]
    · simp [g, g2]
theorem ShTo.next_f {p a i o : Nat} (h : ShTo p a i o) (hb : ¬ cf p i = 1) : ShTo p a (i + 1) o := fun j => by
  have hb' : p.testBit i = false := by unfold cf at hb; split at hb <;> simp_all
  rw [h j]
  by_cases g2 : a ≤ j
  · by_cases g3 : j < a + i
    · have e2 : j < a + (i + 1) := by omega
      simp [g3, e2]
    · by_cases g4 : j < a + (i + 1)
      · have e : j - a = i := by omega
        simp [g3, g4, e, hb']
      · simp [g3, g4]
  · simp [g2]
theorem ShTo.all {p a o : Nat} (ha : a ≤ 192) (h : ShTo p a (192 - a) o) : o = sh p a := Nat.eq_of_testBit_eq fun j => by
  rw [h j, sh_bit, show a + (192 - a) = 192 by omega]
  cases decide (a ≤ j) <;> cases decide (j < 192) <;> rfl
theorem c_shift (w : World) (p a : Nat) (ha : a ≤ 192) : Ret Try.prog 60 [polyV p, .int .i64 (a : Int)].toArray w (polyV (sh p a)) := by
  refine Ret.of mixed tyTab Try.func60 rfl rfl ?_
  refine W.sreg ?_
  refine WO.boxA rfl rfl (fun b1 hb1 => ?_)
  refine WO.alloc rfl rfl rfl (fun b2 hb2 => ?_)
  refine WO.nil ?_
  refine W.sreg ?_
  refine WO.alloc rfl rfl rfl (fun b3 hb3 => ?_)
  refine WO.nil ?_
  refine W.seq ?_
  refine W.sreg ?_
  refine WO.p rfl rfl (WO.ar rfl rfl rfl (by (first | (unfold in64; omega) | (unfold in64; omega))) rfl (WO.p rfl rfl ?_))
  refine WO.nil ?_
  refine W.block ?_
  refine W.loop2 (fun (i : Nat) (o : Nat) => i ≤ 192 - a ∧ ShTo p a i o)
    (fun (i : Nat) (o : Nat) => [(9, .int .i64 (i : Int)), (8, .int .i64 (192 - (a : Int))), (5, .pointer (some ⟨b3, 0, none⟩)), (4, .pointer (some ⟨b2, 0, none⟩)), (2, .pointer (some ⟨b1, 0, none⟩)), (1, .int .i64 (a : Int))])
    (fun (i : Nat) (o : Nat) => [pt b3 (.cells #[.int .u64 (wd o 0 : Int), .int .u64 (wd o 1 : Int), .int .u64 (wd o 2 : Int)] 55 (0, 0)), pt b2 (.cells #[.int .u64 0, .int .u64 0, .int .u64 0] 55 (0, 0)), pt b1 (.cells #[.int .u64 (wd p 0 : Int), .int .u64 (wd p 1 : Int), .int .u64 (wd p 2 : Int)] 55 (0, 0))])
    (fun (i : Nat) (o : Nat) => 192 - a - i) 0 0
    (by exact ⟨by omega, ShTo.zero p a⟩) ⟨rfl, rfl, rfl, rfl, rfl, rfl, trivial⟩ (by repeat (first | exact Sub.nil | refine Sub.cons (by repeat (first | exact Pick.head | apply Pick.tail)) ?_)) ?_
  rintro i o ⟨hi0, hsh⟩
  refine W.sreg ?_
  refine WO.p rfl rfl ?_
  refine WO.nil ?_
  refine W.seq ?_
  refine W.cond_bl rfl (fun c1 => ?_) (fun c1 => ?_)
  · first
    | (exfalso; omega)
    | (refine W.skip ?_
       refine W.seq ?_
       refine W.block ?_
       refine W.sreg ?_
       refine WO.p rfl rfl (WO.p rfl rfl ?_)
       refine WO.nil ?_
       refine W.sreg ?_
       refine WO.loadA rfl rfl (Cells.own (Pick.tail (Pick.tail (Pick.head)))) rfl rfl (WO.p rfl rfl ?_)
       refine WO.callR rfl Try.call64 (fun L w hi => c_bitP w p i (by omega)) rfl ?_
       refine WO.p rfl rfl ?_
       refine WO.nil ?_
       refine W.cond_bl rfl (fun c2 => ?_) (fun c2 => ?_)
       · first
         | (exfalso; omega)
         | (refine W.region ?_
            refine WO.loadA rfl rfl (Cells.own Pick.head) rfl rfl (WO.p rfl rfl (WO.p rfl rfl (WO.ar rfl rfl rfl (by (first | (unfold in64; omega) | (unfold in64; omega))) rfl ?_)))
            refine WO.callR rfl Try.call61 (fun L w hi => c_with w o (i + a) (by omega)) rfl ?_
            refine WO.storeA rfl rfl rfl rfl Pick.head rfl rfl ?_
            refine WO.nil ?_
            refine W.region ?_
            refine WO.ar rfl rfl rfl (by (first | (unfold in64; omega) | (unfold in64; omega))) rfl (WO.p rfl rfl ?_)
            refine WO.nil ?_
            refine' ⟨i + 1, _, ?hp, ?hmu, ⟨rfl, rfl, rfl, rfl, rfl, rfl, trivial⟩, ?hS⟩
            case hS => repeat (first | exact Sub.nil | refine Sub.cons (by repeat (first | exact Pick.head | apply Pick.tail)) ?_)
            case hp => first | exact ⟨by omega, hsh.next_t (by assumption)⟩ | exact ⟨by omega, hsh.next_f (by assumption)⟩
            case hmu => omega)
       · first
         | (exfalso; omega)
         | (refine W.skip ?_
            refine W.region ?_
            refine WO.ar rfl rfl rfl (by (first | (unfold in64; omega) | (unfold in64; omega))) rfl (WO.p rfl rfl ?_)
            refine WO.nil ?_
            refine' ⟨i + 1, _, ?hp, ?hmu, ⟨rfl, rfl, rfl, rfl, rfl, rfl, trivial⟩, ?hS⟩
            case hS => repeat (first | exact Sub.nil | refine Sub.cons (by repeat (first | exact Pick.head | apply Pick.tail)) ?_)
            case hp => first | exact ⟨by omega, hsh.next_t (by assumption)⟩ | exact ⟨by omega, hsh.next_f (by assumption)⟩
            case hmu => omega))
  · first
    | (exfalso; omega)
    | (refine W.exit (blk_same ?_)
       refine W.sreg ?_
       refine WO.loadA rfl rfl (Cells.own Pick.head) rfl rfl (WO.storeA rfl rfl rfl rfl (Pick.tail (Pick.head)) rfl rfl ?_)
       refine WO.nil ?_
       refine W.ret ?_
       refine fin.ret (Res.one rfl (RV.cell rfl rfl rfl (Cells.own (by repeat (first | exact Pick.head | apply Pick.tail))))) ?_
       rw [show i = 192 - a by omega] at hsh
       rw [← hsh.all ha]; rfl)
end Go.Proofs.Ytingkbglkaojdaa
namespace Go.Proofs.Ytingkbglkaojdaa
open Go Go.TH Go.TH.Wv
attribute [local irreducible] W WO pt
set_option maxRecDepth 10000
set_option maxHeartbeats 1000000
theorem polyC_ok : EncOk polyC 3 := ⟨fun _ => rfl, fun x u hu => by simp [polyC] at hu; rcases hu with rfl | rfl | rfl <;> rfl, by omega⟩
/-- the sum of some -/
def xorL (ps : List Nat) : Nat := ps.foldl (· ^^^ ·) 0
theorem xorL_take {ps : List Nat} {i : Nat} (h : i < ps.length) : xorL (ps.take (i + 1)) = xorL (ps.take i) ^^^ ps.getD i 0 := by
  unfold xorL; rw [take_succ_getD h 0, List.foldl_append]; rfl
/-- a word after another one -/
def xow (o q k : Nat) : List Value := [.int .u64 ((if 0 < k then wd o 0 ^^^ wd q 0 else wd o 0 : Nat) : Int), .int .u64 ((if 1 < k then wd o 1 ^^^ wd q 1 else wd o 1 : Nat) : Int), .int .u64 ((if 2 < k then wd o 2 ^^^ wd q 2 else wd o 2 : Nat) : Int)]
theorem xow_0 (o q : Nat) : xow o q 0 = polyC o := rfl
theorem xow_3 (o q : Nat) : xow o q 3 = polyC (o ^^^ q) := by unfold polyC; rw [wd_xor, wd_xor, wd_xor]; rfl
theorem xow_get {o q k : Nat} (h : k < 3) : lget (xow o q k) k = some (.int .u64 (wd o k : Int)) := match k, h with
  | 0, _ => rfl
  | 1, _ => rfl
  | 2, _ => rfl
theorem xow_set {o q k : Nat} (h : k < 3) : (xow o q k).set (0 + k * 1) (.int .u64 ((wd o k ^^^ wd q k : Nat) : Int)) = xow o q (k + 1) := match k, h with
  | 0, _ => rfl
  | 1, _ => rfl
  | 2, _ => rfl
theorem cellX {C : Cx Try.prog} {H : List HP} {b o q k o' : Nat} {t : TypeId} {fr : Nat × Nat} (s : Sub H [pt b (.cells (xow o q k).toArray t fr)]) (ho : o' = k) (hk : k < 3) : Cell C H ⟨b, o', none⟩ (.int .u64 (wd o k : Int)) := by
  subst ho
  cases s with
  | cons g _ => exact Cell.own (cs := xow o q o') g (xow_get hk)
theorem cells3 {C : Cx Try.prog} {H : List HP} {o : Value} {ps : List Nat} (h : RdF polyC 3 C.B C.w0 o ps) {i : Nat} (h1 : i < ps.length) : Cells C H (elt o i 3) [.int .u64 (wd (ps.getD i 0) 0 : Int), .int .u64 (wd (ps.getD i 0) 1 : Int), .int .u64 (wd (ps.getD i 0) 2 : Int)] := RdF.cells h h1 0
theorem c_sumP (w : World) (v : Value) (ps : List Nat) (hR : RdF polyC 3 w.heap.size w v ps) : Ret Try.prog 63 [v].toArray w (polyV (xorL ps)) := by
  refine Ret.of mixed tyTab Try.func63 rfl rfl ?_
  replace hR : RdF polyC 3 (fnCx mixed tyTab Try.f63.ntmps w).B (fnCx mixed tyTab Try.f63.ntmps w).w0 v ps := hR
  have hle := hR.sl.le
  refine W.sreg ?_
  refine WO.alloc rfl rfl rfl (fun b1 hb1 => ?_)
  refine WO.nil ?_
  refine W.sreg ?_
  refine WO.alloc rfl rfl rfl (fun b2 hb2 => ?_)
  refine WO.nil ?_
  refine W.seq ?_
  refine W.sreg ?_
  refine WO.p rfl rfl ?_
  refine' WO.len (n := _) rfl rfl ?hs rfl ?_
  case hs => (first | exact hR.sl)
  refine WO.p rfl rfl ?_
  refine WO.nil ?_
  refine W.block ?_
  refine W.loop2 (fun (i : Nat) (o : Nat) => i ≤ ps.length ∧ o = xorL (ps.take i))
    (fun (i : Nat) (o : Nat) => [(10, .int .i64 (i : Int)), (9, .int .i64 (ps.length : Int)), (8, v), (3, .pointer (some ⟨b2, 0, none⟩)), (2, .pointer (some ⟨b1, 0, none⟩))])
    (fun (i : Nat) (o : Nat) => [pt b2 (.cells #[.int .u64 (wd o 0 : Int), .int .u64 (wd o 1 : Int), .int .u64 (wd o 2 : Int)] 55 (0, 0)), pt b1 (.cells #[.int .u64 0, .int .u64 0, .int .u64 0] 55 (0, 0))])
    (fun (i : Nat) (o : Nat) => ps.length - i) 0 0
    (by exact ⟨by omega, rfl⟩) ⟨rfl, rfl, rfl, rfl, rfl, trivial⟩ (by repeat (first | exact Sub.nil | refine Sub.cons (by repeat (first | exact Pick.head | apply Pick.tail)) ?_)) ?_
  rintro i o ⟨hi0, ho⟩
  refine W.sreg ?_
  refine WO.p rfl rfl ?_
  refine WO.nil ?_
  refine W.seq ?_
  refine W.cond_bl rfl (fun c1 => ?_) (fun c1 => ?_)
  · first
    | (exfalso; omega)
    | (refine W.skip ?_
       refine W.seq ?_
       refine W.block ?_
       refine W.sreg ?_
       refine' WO.indexAddr (n := _) (i := _) rfl rfl rfl ?hs ?h1 rfl ?_
       case hs => (first | exact hR.sl)
       case h1 => (first | omega | (simp; omega))
       refine' WO.loadA (vs := _) rfl rfl ?hc ?hl rfl ?_
       case hc => (first | exact cells3 hR (i := i) (by omega))
       case hl => rfl
       refine WO.alloc rfl rfl rfl (fun b3 hb3 => ?_)
       refine WO.storeA rfl rfl rfl rfl Pick.head rfl rfl ?_
       refine WO.nil ?_
       refine W.sreg ?_
       refine WO.loadA rfl rfl (Cells.own Pick.head) rfl rfl (WO.p rfl rfl ?_)
       refine WO.nil ?_
       refine W.block ?_
       refine W.loop (fun (k : Nat) => k ≤ 3)
         (fun (k : Nat) => [(15, .int .i64 (k : Int)), (14, .agg #[.int .u64 (wd (ps.getD i 0) 0 : Int), .int .u64 (wd (ps.getD i 0) 1 : Int), .int .u64 (wd (ps.getD i 0) 2 : Int)]), (10, .int .i64 (i : Int)), (9, .int .i64 (ps.length : Int)), (8, v), (3, .pointer (some ⟨b2, 0, none⟩)), (2, .pointer (some ⟨b1, 0, none⟩))])
         (fun (k : Nat) => [pt b2 (.cells (xow o (ps.getD i 0) k).toArray 55 (0, 0)), pt b1 (.cells #[.int .u64 0, .int .u64 0, .int .u64 0] 55 (0, 0))])
         (fun (k : Nat) => 3 - k) 0
         (by omega) ⟨rfl, rfl, rfl, rfl, rfl, rfl, rfl, trivial⟩ (by repeat (first | exact Sub.nil | refine Sub.cons (by repeat (first | exact Pick.head | apply Pick.tail)) ?_)) ?_
       rintro k hk0
       refine W.sreg ?_
       refine WO.p rfl rfl ?_
       refine WO.nil ?_
       refine W.seq ?_
       refine W.cond_bl rfl (fun c2 => ?_) (fun c2 => ?_)
       · first
         | (exfalso; omega)
         | (refine W.skip ?_
            refine W.seq ?_
            refine W.block ?_
            refine W.sreg ?_
            refine WO.p rfl rfl ?_
            refine WO.indexV (vs := polyC (ps.getD i 0)) (i := k) rfl rfl rfl rfl (by omega) (polyC_get (by omega)) rfl ?_
            refine WO.p rfl rfl (WO.p rfl rfl ?_)
            refine WO.nil ?_
            refine W.region ?_
            refine WO.p rfl rfl ?_
            refine WO.indexArrE (i := k) (o' := 0 + k * 1) rfl rfl rfl rfl (by omega) rfl rfl ?_
            refine' WO.load (v := _) rfl rfl ?hc rfl ?_
            case hc => (first | (refine cellX (b := b2) (o := o) (q := ps.getD i 0) (k := k) (o' := 0 + k * 1) (t := 55) (fr := (0, 0)) ?_ (by omega) (by omega); repeat (first | exact Sub.nil | refine Sub.cons (by repeat (first | exact Pick.head | apply Pick.tail)) ?_)))
            refine WO.p rfl rfl ?_
            refine WO.xorN (k := .u64) (a := wd o k) (b := wd (ps.getD i 0) k) rfl rfl (wd_fits _ _) (wd_fits _ _) rfl ?_
            refine WO.indexArrE (i := k) (o' := 0 + k * 1) rfl rfl rfl rfl (by omega) rfl rfl ?_
            refine WO.store1 (cs := xow o (ps.getD i 0) k) rfl rfl rfl rfl (by repeat (first | exact Pick.head | apply Pick.tail)) (by rw [Nat.blt_eq]; show 0 + k * 1 < 3; omega) ?_
            rw [xow_set (by omega)]
            refine WO.nil ?_
            refine W.region ?_
            refine WO.ar rfl rfl rfl (by (first | (unfold in64; omega) | (unfold in64; omega))) rfl (WO.p rfl rfl ?_)
            refine WO.nil ?_
            refine' ⟨k + 1, ?hp, ?hmu, ⟨rfl, rfl, rfl, rfl, rfl, rfl, rfl, trivial⟩, ?hS⟩
            case hS => repeat (first | exact Sub.nil | refine Sub.cons (by repeat (first | exact Pick.head | apply Pick.tail)) ?_)
            case hp => omega
            case hmu => omega)
       · first
         | (exfalso; omega)
         | (refine W.exit (blk_same ?_)
            obtain rfl : 3 = k := by omega
            rw [xow_3]
            refine W.region ?_
            refine WO.ar rfl rfl rfl (by (first | (unfold in64; omega) | (unfold in64; omega))) rfl (WO.p rfl rfl ?_)
            refine WO.nil ?_
            refine' ⟨i + 1, _, ?hp, ?hmu, ⟨rfl, rfl, rfl, rfl, rfl, trivial⟩, ?hS⟩
            case hS => repeat (first | exact Sub.nil | refine Sub.cons (by repeat (first | exact Pick.head | apply Pick.tail)) ?_)
            case hp => exact ⟨by omega, by rw [xorL_take (by omega), ho]⟩
            case hmu => omega))
  · first
    | (exfalso; omega)
    | (refine W.exit (blk_same ?_)
       refine W.sreg ?_
       refine WO.loadA rfl rfl (Cells.own Pick.head) rfl rfl (WO.storeA rfl rfl rfl rfl (Pick.tail (Pick.head)) rfl rfl ?_)
       refine WO.nil ?_
       refine W.ret ?_
       refine fin.ret (Res.one rfl (RV.cell rfl rfl rfl (Cells.own (by repeat (first | exact Pick.head | apply Pick.tail))))) ?_
       rw [show i = ps.length by omega, List.take_length] at ho
       rw [← ho]; rfl)
end Go.Proofs.Ytingkbglkaojdaa
namespace Go.Proofs.Ytingkbglkaojdaa
open Go Go.TH Go.TH.Wv
attribute [local irreducible] W WO pt
set_option maxRecDepth 10000
set_option maxHeartbeats 1000000
/-- the cells of a finder -/
def finC (p : Nat) (L : Nat) (pv jv : Value) : List Value := [.int .u64 (wd p 0 : Int), .int .u64 (wd p 1 : Int), .int .u64 (wd p 2 : Int), .int .i64 (L : Int), pv, jv]
theorem fin3 {p L : Nat} {pv jv : Value} (j : Nat) (v : Value) (h : (polyC p)[j]? = some v) : (finC p L pv jv)[j]? = some v := by
  match j, h with
  | 0, h => exact h
  | 1, h => exact h
  | 2, h => exact h
/-- the taps of a polynomial -/
def tapsL (p L : Nat) : List Int := (List.range L).map fun j => cf p (j + 1)
theorem tapsL_succ (p L : Nat) : tapsL p (L + 1) = tapsL p L ++ [cf p (L + 1)] := by unfold tapsL; rw [List.range_succ, List.map_append]; rfl
theorem tapsL_len (p L : Nat) : (tapsL p L).length = L := by unfold tapsL; simp
theorem fillT {p L i : Nat} (h : i < L) : (tapsL p i ++ List.replicate (L - i) 0).set i (cf p (i + 1)) = tapsL p (i + 1) ++ List.replicate (L - (i + 1)) 0 := by
  rw [List.set_append_right _ _ (by rw [tapsL_len]; exact Nat.le_refl i), tapsL_len, Nat.sub_self, show L - i = (L - (i + 1)) + 1 by omega, List.replicate_succ, List.set_cons_zero, tapsL_succ, List.append_assoc]
  rfl
theorem c_taps (w : World) (q : Addr) (p L : Nat) (pv jv : Value) (hP : RdC w.heap.size w q (finC p L pv jv)) (hL : L ≤ 190) : Ct Try.prog 42 [.pointer (some q)].toArray w fun r w' => ∃ Hq, (Hq = [OwE encI 3 1 r (tapsL p L)]) ∧ Inv w [] Hq w' := by
  refine Ct.of mixed tyTab Try.func42 rfl rfl ?_
  replace hP : RdC (fnCx mixed tyTab Try.f42.ntmps w).B (fnCx mixed tyTab Try.f42.ntmps w).w0 q (finC p L pv jv) := hP
  have hPp := hP.part (us := polyC p) fin3
  refine W.sreg ?_
  refine WO.p rfl rfl ?_
  refine WO.nil ?_
  refine W.sreg ?_
  refine WO.p rfl rfl (WO.p rfl rfl (WO.field rfl rfl rfl ?_))
  refine' WO.load (v := _) rfl rfl ?hc rfl ?_
  case hc => (first | (refine hP.cellAt ?_; rfl))
  refine WO.makeI rfl rfl rfl rfl (by omega) (by omega) rfl (fun sb => ?_)
  refine WO.p rfl rfl ?_
  refine WO.nil ?_
  refine W.seq ?_
  refine W.sreg ?_
  refine WO.p rfl rfl ?_
  refine' WO.len (n := _) rfl rfl ?hs rfl ?_
  case hs => (first | exact isSl_lit (n := L) (by omega) (fun _ => ⟨_, _, rfl⟩))
  refine WO.p rfl rfl ?_
  refine WO.nil ?_
  refine W.block ?_
  refine W.loop (fun (i : Nat) => i ≤ L)
    (fun (i : Nat) => [(12, .int .i64 (i : Int)), (11, .int .i64 (L : Int)), (3, .slice (some ⟨sb, 0, none⟩) L L), (0, .pointer (some q))])
    (fun (i : Nat) => [OwE encI 3 1 (.slice (some ⟨sb, 0, none⟩) L L) (tapsL p i ++ List.replicate (L - i) 0)])
    (fun (i : Nat) => L - i) 0
    (by omega) ⟨rfl, rfl, rfl, rfl, trivial⟩ (by repeat (first | exact Sub.nil | refine Sub.cons (by repeat (first | exact Pick.head | apply Pick.tail)) ?_)) ?_
  rintro i hi0
  refine W.sreg ?_
  refine WO.p rfl rfl ?_
  refine WO.nil ?_
  refine W.seq ?_
  refine W.cond_bl rfl (fun c1 => ?_) (fun c1 => ?_)
  · first
    | (exfalso; omega)
    | (refine W.skip ?_
       refine W.seq ?_
       refine W.block ?_
       refine W.sreg ?_
       refine WO.p rfl rfl (WO.p rfl rfl ?_)
       refine WO.nil ?_
       refine W.region ?_
       refine WO.p rfl rfl (WO.p rfl rfl (WO.p rfl rfl (WO.p rfl rfl (WO.field0 rfl rfl rfl ?_))))
       refine' WO.loadA (vs := _) rfl rfl ?hc ?hl rfl ?_
       case hc => (first | exact hPp.cells)
       case hl => rfl
       refine WO.p rfl rfl (WO.ar rfl rfl rfl (by (first | (unfold in64; omega) | (unfold in64; omega))) rfl ?_)
       refine WO.callR rfl Try.call64 (fun L w hi => c_bitP w p (i + 1) (by omega)) rfl ?_
       refine' WO.indexAddr (n := _) (i := _) rfl rfl rfl ?hs ?h1 rfl ?_
       case hs => (first | exact isSl_lit (n := L) (by omega) (fun _ => ⟨_, _, rfl⟩))
       case h1 => (first | omega | (simp; omega))
       refine WO.storeE encI_ok rfl rfl rfl rfl (by repeat (first | exact Pick.head | apply Pick.tail)) (by rw [List.length_append, tapsL_len, List.length_replicate]; omega) ?_
       rw [fillT (by omega)]
       refine WO.nil ?_
       refine W.region ?_
       refine WO.ar rfl rfl rfl (by (first | (unfold in64; omega) | (unfold in64; omega))) rfl (WO.p rfl rfl ?_)
       refine WO.nil ?_
       refine' ⟨i + 1, ?hp, ?hmu, ⟨rfl, rfl, rfl, rfl, trivial⟩, ?hS⟩
       case hS => repeat (first | exact Sub.nil | refine Sub.cons (by repeat (first | exact Pick.head | apply Pick.tail)) ?_)
       case hp => omega
       case hmu => omega)
  · first
    | (exfalso; omega)
    | (refine W.exit (blk_same ?_)
       obtain rfl : i = L := by omega
       rw [Nat.sub_self, List.replicate_zero, List.append_nil]
       refine W.sreg ?_
       refine WO.p rfl rfl (WO.p rfl rfl ?_)
       refine WO.nil ?_
       refine W.ret ?_
       exact fin.ret (Res.one rfl (RV.tmp rfl)) rfl)
/-! ### whether it meets a bit -/
/-- words of both, the first k -/
def anw (x p k : Nat) : List Value := [.int .u64 ((if 0 < k then wd (x &&& p) 0 else 0 : Nat) : Int), .int .u64 ((if 1 < k then wd (x &&& p) 1 else 0 : Nat) : Int), .int .u64 ((if 2 < k then wd (x &&& p) 2 else 0 : Nat) : Int)]
theorem anw_3 (x p : Nat) : anw x p 3 = polyC (x &&& p) := rfl
theorem anw_set {x p k : Nat} (h : k < 3) : (anw x p k).set (0 + k * 1) (.int .u64 ((wd x k &&& wd p k : Nat) : Int)) = anw x p (k + 1) := by
  rw [← wd_and]
  match k, h with
  | 0, _ => rfl
  | 1, _ => rfl
  | 2, _ => rfl
theorem cellF {C : Cx Try.prog} {H : List HP} {q a : Addr} {p L k : Nat} {pv jv : Value} (h : RdC C.B C.w0 q (finC p L pv jv)) (hk : k < 3) (ha : a = q.add k) : Cell C H a (.int .u64 (wd p k : Int)) := by
  subst ha
  have := h.cellAt (H := H) (j := k) (u := .int .u64 (wd p k : Int)) (match k, hk with
    | 0, _ => rfl
    | 1, _ => rfl
    | 2, _ => rfl)
  rw [prt_eq] at this
  exact this
theorem eq55 (a : Nat) : EqT Try.prog .eql 55 (polyV a) (.agg #[.int .u64 0, .int .u64 0, .int .u64 0]) (.bool (bl (wd a 0 = 0 ∧ wd a 1 = 0 ∧ wd a 2 = 0))) := by
  intro x y w
  obtain ⟨i, hi⟩ : ∃ i, Try.prog.info? 53 = some i := ⟨_, rfl⟩
  have hc : Try.prog.cellsOf 53 = 1 := rfl
  have h : (Op.equalIn 10000 55 (polyV a) (.agg #[.int .u64 0, .int .u64 0, .int .u64 0])).run Try.prog w = .ok (bl (wd a 0 = 0 ∧ wd a 1 = 0 ∧ wd a 2 = 0)) w := by
    unfold polyV
    rw [show (10000 : Nat) = 9999 + 1 from rfl, run_equalIn_array _ 9999 (t := 55) (e := 53) (n := 3) _ _ rfl hi, hc]
    simp [Op.eqItems, go_sem, List.range, List.range.loop, Try.underlying53]
    by_cases h1 : wd a 0 = 0 <;> by_cases h2 : wd a 1 = 0 <;> by_cases h3 : wd a 2 = 0 <;> simp [h1, h2, h3, bl_eq]
  unfold polyV at *
  simp [go_sem, Try.eqGuardType55, Try.underlying55, h]
theorem cf_wd {a j : Nat} (h : wd a (j / 64) = 0) : cf a j = 0 := by
  have := wd_get (p := a) (i := j)
  rw [h] at this
  unfold cf
  by_cases g : a.testBit j
  · rw [if_pos g] at this; simp at this
  · rw [if_neg g]
theorem cf_none {a j : Nat} (h : wd a 0 = 0 ∧ wd a 1 = 0 ∧ wd a 2 = 0) (hj : j < 192) : cf a j = 0 := cf_wd (by
  have h1 : j / 64 = 0 ∨ j / 64 = 1 ∨ j / 64 = 2 := by omega
  rcases h1 with g | g | g <;> rw [g]
  · exact h.1
  · exact h.2.1
  · exact h.2.2)
/-- whether a register meets the bits that are kept -/
def meetB (x p L : Nat) : Bool := decide (sm (L + 1) (fun j => cf (x &&& p) j) % 2 = 0)
theorem meet_zero {x p L : Nat} (h : wd (x &&& p) 0 = 0 ∧ wd (x &&& p) 1 = 0 ∧ wd (x &&& p) 2 = 0) (hL : L ≤ 190) : meetB x p L = true := by
  unfold meetB
  rw [sm_zero (fun j hj => cf_none h (by omega))]
  rfl
theorem c_meets (w : World) (q : Addr) (x p L : Nat) (pv jv : Value) (hP : RdC w.heap.size w q (finC p L pv jv)) (hL : L ≤ 190) : Ret Try.prog 62 [.pointer (some q), polyV x].toArray w (.bool (meetB x p L)) := by
  refine Ret.of mixed tyTab Try.func62 rfl rfl ?_
  replace hP : RdC (fnCx mixed tyTab Try.f62.ntmps w).B (fnCx mixed tyTab Try.f62.ntmps w).w0 q (finC p L pv jv) := hP
  have hb := fun j => cf_bit (x &&& p) j
  refine W.sreg ?_
  refine WO.boxA rfl rfl (fun b1 hb1 => ?_)
  refine WO.p rfl rfl ?_
  refine WO.nil ?_
  refine W.sreg ?_
  refine WO.p rfl rfl ?_
  refine WO.nil ?_
  refine W.sreg ?_
  refine WO.alloc rfl rfl rfl (fun b2 hb2 => ?_)
  refine WO.nil ?_
  refine W.seq ?_
  refine W.sreg ?_
  refine WO.loadA rfl rfl (Cells.own (Pick.tail (Pick.head))) rfl rfl (WO.p rfl rfl ?_)
  refine WO.nil ?_
  refine W.block ?_
  refine W.loop (fun (k : Nat) => k ≤ 3)
    (fun (k : Nat) => [(11, .int .i64 (k : Int)), (10, polyV x), (6, .pointer (some ⟨b2, 0, none⟩)), (5, .int .i64 0), (0, .pointer (some q))])
    (fun (k : Nat) => [pt b2 (.cells (anw x p k).toArray 55 (0, 0))])
    (fun (k : Nat) => 3 - k) 0
    (by omega) ⟨rfl, rfl, rfl, rfl, rfl, trivial⟩ (by repeat (first | exact Sub.nil | refine Sub.cons (by repeat (first | exact Pick.head | apply Pick.tail)) ?_)) ?_
  rintro k hk0
  refine W.sreg ?_
  refine WO.p rfl rfl ?_
  refine WO.nil ?_
  refine W.seq ?_
  refine W.cond_bl rfl (fun c1 => ?_) (fun c1 => ?_)
  · first
    | (exfalso; omega)
    | (refine W.skip ?_
       refine W.seq ?_
       refine W.block ?_
       refine W.sreg ?_
       refine WO.p rfl rfl ?_
       refine WO.indexV (vs := polyC x) (i := k) rfl rfl rfl rfl (by omega) (polyC_get (by omega)) rfl ?_
       refine WO.p rfl rfl (WO.p rfl rfl ?_)
       refine WO.nil ?_
       refine W.region ?_
       refine WO.p rfl rfl (WO.p rfl rfl (WO.p rfl rfl (WO.p rfl rfl (WO.p rfl rfl (WO.field0 rfl rfl rfl ?_)))))
       refine WO.indexArr (i := (k : Int)) rfl rfl rfl (by omega) (by omega) rfl ?_
       refine' WO.load (v := _) rfl rfl ?hc rfl ?_
       case hc => (first | (refine cellF hP (k := k) (by omega) ?_; rw [Int.toNat_natCast, Nat.mul_one]))
       refine WO.andN (k := .u64) (a := wd x k) (b := wd p k) rfl rfl (wd_fits _ _) (wd_fits _ _) rfl ?_
       refine WO.indexArrE (i := k) (o' := 0 + k * 1) rfl rfl rfl rfl (by omega) rfl rfl ?_
       refine WO.store1 (cs := anw x p k) rfl rfl rfl rfl (by repeat (first | exact Pick.head | apply Pick.tail)) (by rw [Nat.blt_eq]; show 0 + k * 1 < 3; omega) ?_
       rw [anw_set (by omega)]
       refine WO.nil ?_
       refine W.region ?_
       refine WO.ar rfl rfl rfl (by (first | (unfold in64; omega) | (unfold in64; omega))) rfl (WO.p rfl rfl ?_)
       refine WO.nil ?_
       refine' ⟨k + 1, ?hp, ?hmu, ⟨rfl, rfl, rfl, rfl, rfl, trivial⟩, ?hS⟩
       case hS => repeat (first | exact Sub.nil | refine Sub.cons (by repeat (first | exact Pick.head | apply Pick.tail)) ?_)
       case hp => omega
       case hmu => omega)
  · first
    | (exfalso; omega)
    | (refine W.exit (blk_same ?_)
       refine W.seq ?_
       obtain rfl : 3 = k := by omega
       rw [anw_3]
       refine W.sreg ?_
       refine WO.loadA rfl rfl (Cells.own Pick.head) rfl rfl ?_
       refine' WO.build (cs := _) rfl rfl rfl ?hf rfl ?_
       case hf => (conv => lhs; simp [-List.getD_eq_getElem?_getD, fillL, vcl, wrl, TTab.pl?.lget']) <;> rfl
       refine WO.eqT rfl rfl (eq55 _) rfl ?_
       refine WO.nil ?_
       refine W.cond_bl rfl (fun c2 => ?_) (fun c2 => ?_)
       · first
         | (exfalso; omega)
         | (refine W.sreg ?_
            refine WO.p rfl rfl ?_
            refine WO.nil ?_
            refine W.ret ?_
            first | (have q1 := hn0; refine fin.ret (Res.one rfl (RV.tmp rfl)) ?_; obtain rfl : i = L + 1 := (by omega); rw [hn0, bl_eq]; rfl) | (exact fin.ret (Res.one rfl (RV.tmp rfl)) (by rw [meet_zero c2 hL])))
       · first
         | (exfalso; omega)
         | (refine W.skip ?_
            refine W.seq ?_
            refine W.sreg ?_
            refine WO.p rfl rfl (WO.p rfl rfl (WO.field rfl rfl rfl ?_))
            refine' WO.load (v := _) rfl rfl ?hc rfl ?_
            case hc => (first | (refine hP.cellAt ?_; rfl))
            refine WO.ar rfl rfl rfl (by (first | (unfold in64; omega) | (unfold in64; omega))) rfl (WO.p rfl rfl ?_)
            refine WO.nil ?_
            refine W.block ?_
            refine W.loop2 (fun (i : Nat) (n : Int) => i ≤ L + 1 ∧ n = sm i (fun j => cf (x &&& p) j) % 2)
              (fun (i : Nat) (n : Int) => [(34, .int .i64 (i : Int)), (33, .int .i64 ((L : Int) + 1)), (6, .pointer (some ⟨b2, 0, none⟩)), (5, .int .i64 n)])
              (fun (i : Nat) (n : Int) => [pt b2 (.cells (polyC (x &&& p)).toArray 55 (0, 0))])
              (fun (i : Nat) (n : Int) => L + 1 - i) 0 0
              (by exact ⟨by omega, rfl⟩) ⟨rfl, rfl, rfl, rfl, trivial⟩ (by repeat (first | exact Sub.nil | refine Sub.cons (by repeat (first | exact Pick.head | apply Pick.tail)) ?_)) ?_
            rintro i n ⟨hi0, hn0⟩
            refine W.sreg ?_
            refine WO.p rfl rfl ?_
            refine WO.nil ?_
            refine W.seq ?_
            refine W.cond_bl rfl (fun c3 => ?_) (fun c3 => ?_)
            · first
              | (exfalso; omega)
              | (refine W.skip ?_
                 refine W.seq ?_
                 refine W.block ?_
                 refine W.sreg ?_
                 refine WO.p rfl rfl (WO.p rfl rfl ?_)
                 refine WO.nil ?_
                 refine W.region ?_
                 refine WO.p rfl rfl (WO.loadA rfl rfl (Cells.own Pick.head) rfl rfl (WO.p rfl rfl ?_))
                 refine WO.callR rfl Try.call64 (fun L w hi => c_bitP w (x &&& p) i (by omega)) rfl ?_
                 refine WO.xor01 rfl rfl (by omega) (hb i) rfl ?_
                 refine WO.p rfl rfl ?_
                 refine WO.nil ?_
                 refine W.region ?_
                 refine WO.ar rfl rfl rfl (by (first | (unfold in64; omega) | (unfold in64; omega))) rfl (WO.p rfl rfl ?_)
                 refine WO.nil ?_
                 refine' ⟨i + 1, _, ?hp, ?hmu, ⟨rfl, rfl, rfl, rfl, trivial⟩, ?hS⟩
                 case hS => repeat (first | exact Sub.nil | refine Sub.cons (by repeat (first | exact Pick.head | apply Pick.tail)) ?_)
                 case hp => exact ⟨by omega, by rw [hn0]; show _ = (sm i (fun j => cf (x &&& p) j) + cf (x &&& p) i) % 2; omega⟩
                 case hmu => omega)
            · first
              | (exfalso; omega)
              | (refine W.exit (blk_same ?_)
                 refine W.sreg ?_
                 refine WO.p rfl rfl (WO.p rfl rfl (WO.p rfl rfl ?_))
                 refine WO.nil ?_
                 refine W.ret ?_
                 first | (have q1 := hn0; refine fin.ret (Res.one rfl (RV.tmp rfl)) ?_; obtain rfl : i = L + 1 := (by omega); rw [hn0, bl_eq]; rfl) | (exact fin.ret (Res.one rfl (RV.tmp rfl)) (by rw [meet_zero c2 hL])))))
end Go.Proofs.Ytingkbglkaojdaa
