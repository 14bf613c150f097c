/-
  What is proved here: a table of the program's types (cells, fields, elements, zero values) agrees with the program. Conditions: none.
  What is proved here: which days are valid. Conditions: none; each contract states its own.
  What is proved here: how waves die down. Conditions: none; each contract states its own.
  What is proved here: waits, and the planner. Conditions: none; each contract states its own.
  What is proved here: the planner. Conditions: none; each contract states its own.
  What is proved here: which orders are valid, when a run begins. Conditions: none; each contract states its own.
  What is proved here: when runs begin. Conditions: none; each contract states its own.
-/
import Derived.Test.YtkonhpcldomidaaM2
import Derived.Test.YtkonhpcldomidaaChecked
import Derived.KernelRfl
import Derived.Test.YtkonhpcldomidaaM3
set_option linter.unusedVariables false
set_option linter.unusedSimpArgs false
namespace Go.Proofs.Ytkonhpcldomidaa
open Go Go.TH
def tyList : List TI := [⟨.none, 0, none⟩,
  ⟨.one, 1, some (.nilFunc)⟩,
  ⟨.int .i64, 1, some (.int .i64 0)⟩,
  ⟨.int .i64, 1, some (.int .i64 0)⟩,
  ⟨.one, 1, some (.bool false)⟩,
  ⟨.int .u8, 1, some (.int .u8 0)⟩,
  ⟨.int .u8, 1, some (.int .u8 0)⟩,
  ⟨.st [(0, 2), (1, 3), (2, 4), (3, 6)], 4, some (.agg #[.int .i64 0, .int .i64 0, .bool false, .int .u8 0])⟩,
  ⟨.st [(0, 2), (1, 3), (2, 4), (3, 6)], 4, some (.agg #[.int .i64 0, .int .i64 0, .bool false, .int .u8 0])⟩,
  ⟨.none, 0, none⟩,
  ⟨.none, 0, none⟩,
  ⟨.none, 0, none⟩,
  ⟨.int .u64, 1, some (.int .u64 0)⟩,
  ⟨.st [(0, 9), (1, 12)], 2, none⟩,
  ⟨.st [(0, 9), (1, 12)], 2, none⟩,
  ⟨.one, 1, some (.pointer none)⟩,
  ⟨.one, 1, some (.pointer none)⟩,
  ⟨.one, 1, some (.pointer none)⟩,
  ⟨.st [(0, 17)], 1, some (.agg #[.pointer none])⟩,
  ⟨.st [(0, 17)], 1, some (.agg #[.pointer none])⟩,
  ⟨.one, 1, some (.nilIface)⟩,
  ⟨.int .i32, 1, some (.int .i32 0)⟩,
  ⟨.st [(0, 2), (1, 2)], 2, some (.agg #[.int .i64 0, .int .i64 0])⟩,
  ⟨.st [(0, 2), (1, 2)], 2, some (.agg #[.int .i64 0, .int .i64 0])⟩,
  ⟨.sl 48 6 48, 1, some (.slice none 0 0)⟩,
  ⟨.st [(0, 23), (2, 24)], 3, some (.agg #[.int .i64 0, .int .i64 0, .slice none 0 0])⟩,
  ⟨.st [(0, 23), (2, 24)], 3, some (.agg #[.int .i64 0, .int .i64 0, .slice none 0 0])⟩,
  ⟨.sl 3 1 8, 1, some (.slice none 0 0)⟩,
  ⟨.sl 2 1 8, 1, some (.slice none 0 0)⟩,
  ⟨.one, 1, some (.nilFunc)⟩,
  ⟨.int .i64, 1, some (.int .i64 0)⟩,
  ⟨.none, 0, none⟩,
  ⟨.one, 1, some (.nilFunc)⟩,
  ⟨.one, 1, some (.nilFunc)⟩,
  ⟨.one, 1, some (.nilFunc)⟩,
  ⟨.one, 1, some (.nilFunc)⟩,
  ⟨.one, 1, some (.nilFunc)⟩,
  ⟨.none, 0, none⟩,
  ⟨.one, 1, some (.nilFunc)⟩,
  ⟨.one, 1, some (.nilFunc)⟩,
  ⟨.one, 1, some (.nilFunc)⟩,
  ⟨.none, 0, none⟩,
  ⟨.one, 1, some (.nilFunc)⟩,
  ⟨.one, 1, some (.nilFunc)⟩,
  ⟨.sl 5 1 1, 1, some (.slice none 0 0)⟩,
  ⟨.sl 60 1 4, 1, some (.slice none 0 0)⟩,
  ⟨.one, 1, some (.nilFunc)⟩,
  ⟨.st [(0, 2), (1, 23), (3, 2), (4, 2), (5, 2)], 6, some (.agg #[.int .i64 0, .int .i64 0, .int .i64 0, .int .i64 0, .int .i64 0, .int .i64 0])⟩,
  ⟨.st [(0, 2), (1, 23), (3, 2), (4, 2), (5, 2)], 6, some (.agg #[.int .i64 0, .int .i64 0, .int .i64 0, .int .i64 0, .int .i64 0, .int .i64 0])⟩,
  ⟨.none, 0, none⟩,
  ⟨.one, 1, some (.nilFunc)⟩,
  ⟨.one, 1, some (.nilFunc)⟩,
  ⟨.one, 1, some (.nilFunc)⟩,
  ⟨.sl 57 2 4, 1, some (.slice none 0 0)⟩,
  ⟨.one, 1, some (.nilFunc)⟩,
  ⟨.int .u16, 1, some (.int .u16 0)⟩,
  ⟨.int .i16, 1, some (.int .i16 0)⟩,
  ⟨.ar 2 56 1, 2, some (.agg #[.int .i16 0, .int .i16 0])⟩,
  ⟨.one, 1, some (.nilFunc)⟩,
  ⟨.one, 1, some (.nilFunc)⟩,
  ⟨.int .u32, 1, some (.int .u32 0)⟩,
  ⟨.ar 4 60 1, 4, some (.agg #[.int .u32 0, .int .u32 0, .int .u32 0, .int .u32 0])⟩,
  ⟨.one, 1, some (.pointer none)⟩,
  ⟨.one, 1, some (.nilFunc)⟩,
  ⟨.one, 1, some (.nilFunc)⟩,
  ⟨.one, 1, some (.nilFunc)⟩,
  ⟨.one, 1, some (.nilFunc)⟩,
  ⟨.one, 1, some (.nilFunc)⟩,
  ⟨.one, 1, some (.pointer none)⟩,
  ⟨.none, 0, none⟩,
  ⟨.one, 1, some (.nilFunc)⟩,
  ⟨.one, 1, some (.nilFunc)⟩,
  ⟨.ar 8 2 1, 8, some (.agg #[.int .i64 0, .int .i64 0, .int .i64 0, .int .i64 0, .int .i64 0, .int .i64 0, .int .i64 0, .int .i64 0])⟩,
  ⟨.ar 8 72 8, 64, some (.agg #[.int .i64 0, .int .i64 0, .int .i64 0, .int .i64 0, .int .i64 0, .int .i64 0, .int .i64 0, .int .i64 0, .int .i64 0, .int .i64 0, .int .i64 0, .int .i64 0, .int .i64 0, .int .i64 0, .int .i64 0, .int .i64 0, .int .i64 0, .int .i64 0, .int .i64 0, .int .i64 0, .int .i64 0, .int .i64 0, .int .i64 0, .int .i64 0, .int .i64 0, .int .i64 0, .int .i64 0, .int .i64 0, .int .i64 0, .int .i64 0, .int .i64 0, .int .i64 0, .int .i64 0, .int .i64 0, .int .i64 0, .int .i64 0, .int .i64 0, .int .i64 0, .int .i64 0, .int .i64 0, .int .i64 0, .int .i64 0, .int .i64 0, .int .i64 0, .int .i64 0, .int .i64 0, .int .i64 0, .int .i64 0, .int .i64 0, .int .i64 0, .int .i64 0, .int .i64 0, .int .i64 0, .int .i64 0, .int .i64 0, .int .i64 0, .int .i64 0, .int .i64 0, .int .i64 0, .int .i64 0, .int .i64 0, .int .i64 0, .int .i64 0, .int .i64 0])⟩,
  ⟨.st [(0, 26), (3, 73)], 67, some (.agg #[.int .i64 0, .int .i64 0, .slice none 0 0, .int .i64 0, .int .i64 0, .int .i64 0, .int .i64 0, .int .i64 0, .int .i64 0, .int .i64 0, .int .i64 0, .int .i64 0, .int .i64 0, .int .i64 0, .int .i64 0, .int .i64 0, .int .i64 0, .int .i64 0, .int .i64 0, .int .i64 0, .int .i64 0, .int .i64 0, .int .i64 0, .int .i64 0, .int .i64 0, .int .i64 0, .int .i64 0, .int .i64 0, .int .i64 0, .int .i64 0, .int .i64 0, .int .i64 0, .int .i64 0, .int .i64 0, .int .i64 0, .int .i64 0, .int .i64 0, .int .i64 0, .int .i64 0, .int .i64 0, .int .i64 0, .int .i64 0, .int .i64 0, .int .i64 0, .int .i64 0, .int .i64 0, .int .i64 0, .int .i64 0, .int .i64 0, .int .i64 0, .int .i64 0, .int .i64 0, .int .i64 0, .int .i64 0, .int .i64 0, .int .i64 0, .int .i64 0, .int .i64 0, .int .i64 0, .int .i64 0, .int .i64 0, .int .i64 0, .int .i64 0, .int .i64 0, .int .i64 0, .int .i64 0, .int .i64 0])⟩,
  ⟨.st [(0, 26), (3, 73)], 67, some (.agg #[.int .i64 0, .int .i64 0, .slice none 0 0, .int .i64 0, .int .i64 0, .int .i64 0, .int .i64 0, .int .i64 0, .int .i64 0, .int .i64 0, .int .i64 0, .int .i64 0, .int .i64 0, .int .i64 0, .int .i64 0, .int .i64 0, .int .i64 0, .int .i64 0, .int .i64 0, .int .i64 0, .int .i64 0, .int .i64 0, .int .i64 0, .int .i64 0, .int .i64 0, .int .i64 0, .int .i64 0, .int .i64 0, .int .i64 0, .int .i64 0, .int .i64 0, .int .i64 0, .int .i64 0, .int .i64 0, .int .i64 0, .int .i64 0, .int .i64 0, .int .i64 0, .int .i64 0, .int .i64 0, .int .i64 0, .int .i64 0, .int .i64 0, .int .i64 0, .int .i64 0, .int .i64 0, .int .i64 0, .int .i64 0, .int .i64 0, .int .i64 0, .int .i64 0, .int .i64 0, .int .i64 0, .int .i64 0, .int .i64 0, .int .i64 0, .int .i64 0, .int .i64 0, .int .i64 0, .int .i64 0, .int .i64 0, .int .i64 0, .int .i64 0, .int .i64 0, .int .i64 0, .int .i64 0, .int .i64 0])⟩,
  ⟨.one, 1, some (.nilFunc)⟩,
  ⟨.one, 1, some (.nilFunc)⟩,
  ⟨.one, 1, some (.nilFunc)⟩,
  ⟨.one, 1, some (.nilFunc)⟩,
  ⟨.one, 1, some (.nilFunc)⟩,
  ⟨.one, 1, some (.pointer none)⟩,
  ⟨.st [(0, 68), (1, 27), (2, 2)], 3, some (.agg #[.pointer none, .slice none 0 0, .int .i64 0])⟩,
  ⟨.st [(0, 68), (1, 27), (2, 2)], 3, some (.agg #[.pointer none, .slice none 0 0, .int .i64 0])⟩,
  ⟨.one, 1, some (.nilFunc)⟩,
  ⟨.sl 27 1 24, 1, some (.slice none 0 0)⟩,
  ⟨.one, 1, some (.nilFunc)⟩,
  ⟨.one, 1, some (.nilFunc)⟩,
  ⟨.one, 1, some (.map none)⟩,
  ⟨.one, 1, some (.map none)⟩,
  ⟨.one, 1, some (.nilFunc)⟩,
  ⟨.one, 1, some (.nilFunc)⟩,
  ⟨.st [(0, 3), (1, 3)], 2, some (.agg #[.int .i64 0, .int .i64 0])⟩,
  ⟨.st [(0, 3), (1, 3)], 2, some (.agg #[.int .i64 0, .int .i64 0])⟩,
  ⟨.one, 1, some (.nilFunc)⟩,
  ⟨.one, 1, some (.nilFunc)⟩,
  ⟨.one, 1, some (.nilFunc)⟩,
  ⟨.int .u64, 1, some (.int .u64 0)⟩,
  ⟨.one, 1, some (.nilFunc)⟩,
  ⟨.one, 1, some (.nilFunc)⟩,
  ⟨.one, 1, some (.nilFunc)⟩,
  ⟨.one, 1, some (.nilFunc)⟩,
  ⟨.sl 23 2 16, 1, some (.slice none 0 0)⟩,
  ⟨.one, 1, some (.nilFunc)⟩,
  ⟨.one, 1, some (.nilFunc)⟩,
  ⟨.one, 1, some (.nilFunc)⟩,
  ⟨.one, 1, some (.nilFunc)⟩,
  ⟨.one, 1, some (.nilFunc)⟩,
  ⟨.one, 1, some (.nilFunc)⟩,
  ⟨.one, 1, some (.nilFunc)⟩,
  ⟨.none, 0, none⟩,
  ⟨.one, 1, some (.nilFunc)⟩,
  ⟨.one, 1, some (.nilFunc)⟩,
  ⟨.one, 1, some (.nilFunc)⟩,
  ⟨.one, 1, some (.nilFunc)⟩,
  ⟨.int .u64, 1, some (.int .u64 0)⟩,
  ⟨.one, 1, some (.nilFunc)⟩,
  ⟨.ar 8 3 1, 8, some (.agg #[.int .i64 0, .int .i64 0, .int .i64 0, .int .i64 0, .int .i64 0, .int .i64 0, .int .i64 0, .int .i64 0])⟩,
  ⟨.one, 1, some (.nilFunc)⟩,
  ⟨.one, 1, some (.nilFunc)⟩,
  ⟨.one, 1, some (.nilFunc)⟩,
  ⟨.one, 1, some (.nilFunc)⟩,
  ⟨.one, 1, some (.nilFunc)⟩,
  ⟨.st [(0, 17), (1, 17), (2, 17), (3, 9)], 4, none⟩,
  ⟨.st [(0, 17), (1, 17), (2, 17), (3, 9)], 4, none⟩,
  ⟨.none, 0, none⟩,
  ⟨.none, 0, none⟩,
  ⟨.none, 0, none⟩,
  ⟨.one, 1, some (.nilFunc)⟩,
  ⟨.int .u8, 1, some (.int .u8 0)⟩,
  ⟨.int .u8, 1, some (.int .u8 0)⟩,
  ⟨.one, 1, some (.nilFunc)⟩,
  ⟨.one, 1, some (.pointer none)⟩,
  ⟨.int .i32, 1, some (.int .i32 0)⟩,
  ⟨.int .i32, 1, some (.int .i32 0)⟩,
  ⟨.st [(0, 12), (1, 12), (2, 60), (3, 129), (4, 5), (5, 5), (6, 130), (7, 131), (8, 132), (9, 133), (10, 134)], 11, some (.agg #[.int .u64 0, .int .u64 0, .int .u32 0, .int .u8 0, .int .u8 0, .int .u8 0, .int .u8 0, .nilFunc, .pointer none, .int .i32 0, .int .i32 0])⟩,
  ⟨.st [(0, 12), (1, 12), (2, 60), (3, 129), (4, 5), (5, 5), (6, 130), (7, 131), (8, 132), (9, 133), (10, 134)], 11, some (.agg #[.int .u64 0, .int .u64 0, .int .u32 0, .int .u8 0, .int .u8 0, .int .u8 0, .int .u8 0, .nilFunc, .pointer none, .int .i32 0, .int .i32 0])⟩,
  ⟨.none, 0, none⟩]
theorem ty_ok : (tyList.zipIdx.all fun (ti, T) => tiChk Try.prog T ti) = true := by kernel_rfl
def tyTab : TTab Try.prog := ⟨tyList, ty_ok⟩
theorem mixed : Try.prog.follows .mixedOrders = true := by kernel_rfl
end Go.Proofs.Ytkonhpcldomidaa
namespace Go.Proofs.Ytkonhpcldomidaa
open Go Go.TH
attribute [local irreducible] W WO pt
set_option maxRecDepth 10000
set_option maxHeartbeats 1000000
/-- a run of a day -/
structure Rn where
  mi : Int
  lo : Int
  hi : Int
  st : Int
  fr : Int
  un : Int
def rn0 : Rn := ⟨0, 0, 0, 0, 0, 0⟩
def encR (r : Rn) : List Value := [.int .i64 r.mi, .int .i64 r.lo, .int .i64 r.hi, .int .i64 r.st, .int .i64 r.fr, .int .i64 r.un]
theorem encR_ok : EncOk encR 6 := by
  refine ⟨fun x => rfl, fun x u hu => ?_, by omega⟩
  simp [encR] at hu
  rcases hu with rfl | rfl | rfl | rfl | rfl | rfl <;> rfl
def OkR (r : Rn) : Prop := (1 ≤ r.mi ∧ r.mi ≤ 1000) ∧ (0 ≤ r.lo ∧ r.lo ≤ r.hi ∧ r.hi ≤ 1000000) ∧ (0 ≤ r.st ∧ r.st ≤ 1000000) ∧ 0 ≤ r.fr ∧ r.fr ≤ r.un ∧ r.un ≤ 1000
instance (r : Rn) : Decidable (OkR r) := by unfold OkR; infer_instance
def OkK (a b : Int) : Prop := 0 ≤ a ∧ a ≤ b ∧ b ≤ 1000
instance (a b : Int) : Decidable (OkK a b) := by unfold OkK; infer_instance
/-- keeps and runs are valid -/
def OkD (a b : Int) (l : List Rn) : Prop := OkK a b ∧ ∀ r ∈ l, OkR r
instance (a b : Int) (l : List Rn) : Decidable (OkD a b l) := by unfold OkD; infer_instance
/-- what CheckDay answers -/
def chkD (a b : Int) (l : List Rn) : Int := if l.length < 1 ∨ 8 < l.length then 6 else if OkD a b l then 0 else 2
theorem chkD0 {a b : Int} {l : List Rn} : chkD a b l = 0 ↔ (1 ≤ l.length ∧ l.length ≤ 8) ∧ OkD a b l := by
  unfold chkD
  split
  · exact ⟨fun h => by omega, fun h => by omega⟩
  split
  · exact ⟨fun _ => ⟨by omega, by assumption⟩, fun _ => rfl⟩
  exact ⟨fun h => by omega, fun h => absurd h.2 (by assumption)⟩
theorem chkD6 {a b : Int} {l : List Rn} (h : l.length < 1 ∨ 8 < l.length) : chkD a b l = 6 := if_pos h
theorem chkD2 {a b : Int} {l : List Rn} (h : ¬ (l.length < 1 ∨ 8 < l.length)) (g : ¬ OkD a b l) : chkD a b l = 2 := by unfold chkD; rw [if_neg h, if_neg g]
theorem OkD.at_ {a b : Int} {l : List Rn} (h : OkD a b l) {i : Nat} (hi : i < l.length) : OkR (l.getD i rn0) := h.2 _ (getD_mem hi rn0)
theorem OkD.succ {a b : Int} {l : List Rn} {i : Nat} (hi : i < l.length) : OkD a b (l.take (i + 1)) ↔ OkD a b (l.take i) ∧ OkR (l.getD i rn0) := by
  unfold OkD
  have e : l.take (i + 1) = l.take i ++ [l.getD i rn0] := by
    rw [List.take_add_one, List.getElem?_eq_getElem hi, List.getD_eq_getElem?_getD, List.getElem?_eq_getElem hi]; rfl
  rw [e]
  constructor
  · rintro ⟨h1, h2⟩; exact ⟨⟨h1, fun r hr => h2 r (by simp [hr])⟩, h2 _ (by simp)⟩
  rintro ⟨⟨h1, h2⟩, h3⟩
  refine ⟨h1, fun r hr => ?_⟩
  rcases List.mem_append.1 hr with h | h
  · exact h2 r h
  rw [List.mem_singleton.1 h]; exact h3
/-- ranges are valid, within bounds -/
def InR (lo hi : Int) (p : Int × Int) : Prop := lo ≤ p.1 ∧ p.1 ≤ p.2 ∧ p.2 ≤ hi
instance (lo hi : Int) (p : Int × Int) : Decidable (InR lo hi p) := by unfold InR; infer_instance
def dayV (a b : Int) (v : Value) : Value := .agg #[.int .i64 a, .int .i64 b, v]
theorem RdF.cellsP {C : Cx Try.prog} {H : List HP} {o : Value} {l : List (Int × Int)} (h : RdF encP 2 C.B C.w0 o l) {i : Nat} (h1 : i < l.length) : Cells C H (elt o i 2) [.int .i64 (l.getD i (0, 0)).1, .int .i64 (l.getD i (0, 0)).2] := RdF.cells h h1 (0, 0)
theorem RdF.cellsR {C : Cx Try.prog} {H : List HP} {o : Value} {l : List Rn} (h : RdF encR 6 C.B C.w0 o l) {i : Nat} (h1 : i < l.length) : Cells C H (elt o i 6) [.int .i64 (l.getD i rn0).mi, .int .i64 (l.getD i rn0).lo, .int .i64 (l.getD i rn0).hi, .int .i64 (l.getD i rn0).st, .int .i64 (l.getD i rn0).fr, .int .i64 (l.getD i rn0).un] := RdF.cells h h1 rn0
theorem ref_between (w : World) (n lo hi : Int) : Ret Try.prog 43 [.int .i64 n, .int .i64 lo, .int .i64 hi].toArray w (.bool (bl (lo ≤ n ∧ n ≤ hi))) := by
  refine Ret.of mixed tyTab Try.func43 rfl rfl ?_
  refine W.sreg ?_
  refine WO.p rfl rfl ?_
  refine WO.nil ?_
  refine W.sreg ?_
  refine WO.p rfl rfl (WO.p rfl rfl (WO.p rfl rfl (WO.p rfl rfl ?_)))
  refine WO.guard_bl rfl rfl (fun c1 => ?_) (fun c1 => ?_)
  · first
    | (exfalso; omega)
    | (refine WO.pg rfl rfl rfl (WO.pg rfl rfl rfl (WO.pg rfl rfl rfl (WO.p rfl rfl (WO.p rfl rfl ?_))))
       refine WO.nil ?_
       refine W.ret ?_
       refine fin.ret (Res.one rfl (RV.tmp rfl)) (congrArg Value.bool ?_)
       first | exact (bl_t.2 (by omega)).symm | exact (bl_f.2 (by omega)).symm | (rw [bl_eq, bl_eq, decide_eq_decide]; omega))
  first
  | (exfalso; omega)
  | (refine WO.no rfl rfl (WO.no rfl rfl (WO.no rfl rfl (WO.p rfl rfl (WO.p rfl rfl ?_))))
     refine WO.nil ?_
     refine W.ret ?_
     refine fin.ret (Res.one rfl (RV.tmp rfl)) (congrArg Value.bool ?_)
     first | exact (bl_t.2 (by omega)).symm | exact (bl_f.2 (by omega)).symm | (rw [bl_eq, bl_eq, decide_eq_decide]; omega))
theorem ref_CheckDay (w : World) (v : Value) (a b : Int) (l : List Rn) (hR : RdF encR 6 w.heap.size w v l) : Ret Try.prog 35 [dayV a b v].toArray w (.int .i64 (chkD a b l)) := by
  refine Ret.of mixed tyTab Try.func35 rfl rfl ?_
  replace hR : RdF encR 6 (fnCx mixed tyTab Try.f35.ntmps w).B (fnCx mixed tyTab Try.f35.ntmps w).w0 v l := hR
  have hle := hR.sl.le
  have ho := hR.sl.oc
  refine W.sreg ?_
  refine WO.boxA rfl rfl (fun b1 hb1 => ?_)
  refine WO.p rfl rfl ?_
  refine WO.nil ?_
  refine W.seq ?_
  refine W.sreg ?_
  refine WO.fieldL rfl rfl rfl (WO.load rfl rfl (Cell.own Pick.head rfl) rfl ?_)
  refine' WO.len (n := _) rfl rfl ?hs rfl ?_
  case hs => (first | exact hR.sl)
  refine WO.p rfl rfl (WO.p rfl rfl ?_)
  refine WO.guard_bl rfl rfl (fun c1 => ?_) (fun c1 => ?_)
  · first
    | (exfalso; omega)
    | (refine WO.no rfl rfl (WO.no rfl rfl (WO.no rfl rfl (WO.no rfl rfl (WO.p rfl rfl ?_))))
       refine WO.nil ?_
       refine W.cond_t rfl ?_
       refine W.sreg ?_
       refine WO.p rfl rfl ?_
       refine WO.nil ?_
       refine W.ret ?_
       refine fin.ret (Res.one rfl (RV.tmp rfl)) (congrArg (Value.int .i64) ?_)
       first | exact (chkD6 (by omega)).symm | exact (chkD2 (by omega) (fun h => by have h1 := h.1; unfold OkK at h1; omega)).symm | exact (chkD2 (by omega) (fun h => by have h1 := h.at_ (show i < l.length by omega); unfold OkR at h1; omega)).symm | exact (chkD0.2 ⟨by omega, by rw [show i = l.length by omega, List.take_length] at hin; exact hin⟩).symm)
  first
  | (exfalso; omega)
  | (refine WO.go' rfl (WO.fieldL rfl rfl rfl (WO.go' rfl (WO.load rfl rfl (Cell.own Pick.head rfl) rfl (WO.go' rfl ?_))))
     refine' WO.len (n := _) rfl rfl ?hs rfl ?_
     case hs => (first | exact hR.sl)
     refine WO.pg rfl rfl rfl (WO.p rfl rfl ?_)
     refine WO.nil ?_
     refine W.cond_bl rfl (fun c2 => ?_) (fun c2 => ?_)
     · first
       | (exfalso; omega)
       | (refine W.sreg ?_
          refine WO.p rfl rfl ?_
          refine WO.nil ?_
          refine W.ret ?_
          refine fin.ret (Res.one rfl (RV.tmp rfl)) (congrArg (Value.int .i64) ?_)
          first | exact (chkD6 (by omega)).symm | exact (chkD2 (by omega) (fun h => by have h1 := h.1; unfold OkK at h1; omega)).symm | exact (chkD2 (by omega) (fun h => by have h1 := h.at_ (show i < l.length by omega); unfold OkR at h1; omega)).symm | exact (chkD0.2 ⟨by omega, by rw [show i = l.length by omega, List.take_length] at hin; exact hin⟩).symm)
     first
     | (exfalso; omega)
     | (refine W.skip ?_
        refine W.seq ?_
        refine W.sreg ?_
        refine WO.field0 rfl rfl rfl (WO.field0 rfl rfl rfl (WO.load rfl rfl (Cell.own Pick.head rfl) rfl (WO.p rfl rfl (WO.p rfl rfl ?_))))
        refine WO.guard_bl rfl rfl (fun c3 => ?_) (fun c3 => ?_)
        · first
          | (exfalso; omega)
          | (refine WO.no rfl rfl (WO.no rfl rfl (WO.no rfl rfl (WO.no rfl rfl (WO.no rfl rfl (WO.no rfl rfl (WO.no rfl rfl (WO.p rfl rfl (WO.p rfl rfl (WO.no rfl rfl (WO.no rfl rfl (WO.no rfl rfl ?_)))))))))))
             refine WO.no rfl rfl (WO.p rfl rfl ?_)
             refine WO.nil ?_
             refine W.cond_t rfl ?_
             refine W.sreg ?_
             refine WO.p rfl rfl ?_
             refine WO.nil ?_
             refine W.ret ?_
             refine fin.ret (Res.one rfl (RV.tmp rfl)) (congrArg (Value.int .i64) ?_)
             first | exact (chkD6 (by omega)).symm | exact (chkD2 (by omega) (fun h => by have h1 := h.1; unfold OkK at h1; omega)).symm | exact (chkD2 (by omega) (fun h => by have h1 := h.at_ (show i < l.length by omega); unfold OkR at h1; omega)).symm | exact (chkD0.2 ⟨by omega, by rw [show i = l.length by omega, List.take_length] at hin; exact hin⟩).symm)
        first
        | (exfalso; omega)
        | (refine WO.go' rfl (WO.field0 rfl rfl rfl (WO.go' rfl (WO.field0 rfl rfl rfl (WO.go' rfl (WO.load rfl rfl (Cell.own Pick.head rfl) rfl (WO.go' rfl (WO.field0 rfl rfl rfl (WO.go' rfl (WO.fieldL rfl rfl rfl (WO.go' rfl (WO.load rfl rfl (Cell.own Pick.head rfl) rfl ?_)))))))))))
           refine WO.pg rfl rfl rfl (WO.p rfl rfl (WO.p rfl rfl ?_))
           refine WO.guard_bl rfl rfl (fun c4 => ?_) (fun c4 => ?_)
           · first
             | (exfalso; omega)
             | (refine WO.no rfl rfl (WO.no rfl rfl (WO.no rfl rfl (WO.no rfl rfl (WO.p rfl rfl ?_))))
                refine WO.nil ?_
                refine W.cond_t rfl ?_
                refine W.sreg ?_
                refine WO.p rfl rfl ?_
                refine WO.nil ?_
                refine W.ret ?_
                refine fin.ret (Res.one rfl (RV.tmp rfl)) (congrArg (Value.int .i64) ?_)
                first | exact (chkD6 (by omega)).symm | exact (chkD2 (by omega) (fun h => by have h1 := h.1; unfold OkK at h1; omega)).symm | exact (chkD2 (by omega) (fun h => by have h1 := h.at_ (show i < l.length by omega); unfold OkR at h1; omega)).symm | exact (chkD0.2 ⟨by omega, by rw [show i = l.length by omega, List.take_length] at hin; exact hin⟩).symm)
           first
           | (exfalso; omega)
           | (refine WO.go' rfl (WO.field0 rfl rfl rfl (WO.go' rfl (WO.fieldL rfl rfl rfl (WO.go' rfl (WO.load rfl rfl (Cell.own Pick.head rfl) rfl (WO.pg rfl rfl rfl (WO.p rfl rfl ?_)))))))
              refine WO.nil ?_
              refine W.cond_bl rfl (fun c5 => ?_) (fun c5 => ?_)
              · first
                | (exfalso; omega)
                | (refine W.sreg ?_
                   refine WO.p rfl rfl ?_
                   refine WO.nil ?_
                   refine W.ret ?_
                   refine fin.ret (Res.one rfl (RV.tmp rfl)) (congrArg (Value.int .i64) ?_)
                   first | exact (chkD6 (by omega)).symm | exact (chkD2 (by omega) (fun h => by have h1 := h.1; unfold OkK at h1; omega)).symm | exact (chkD2 (by omega) (fun h => by have h1 := h.at_ (show i < l.length by omega); unfold OkR at h1; omega)).symm | exact (chkD0.2 ⟨by omega, by rw [show i = l.length by omega, List.take_length] at hin; exact hin⟩).symm)
              first
              | (exfalso; omega)
              | (refine W.skip ?_
                 refine W.seq ?_
                 refine W.sreg ?_
                 refine WO.p rfl rfl ?_
                 refine WO.nil ?_
                 refine W.block ?_
                 refine W.loop (fun (i : Nat) => i ≤ l.length ∧ OkD a b (l.take i))
                   (fun (i : Nat) => [(3, .int .i64 (i : Int)), (1, .pointer (some ⟨b1, 0, none⟩))])
                   (fun (i : Nat) => [pt b1 (.cells #[.int .i64 a, .int .i64 b, v] 26 (0, 0))])
                   (fun (i : Nat) => l.length - i) 0
                   (by exact ⟨by omega, by unfold OkK; omega, fun x hx => by simp at hx⟩) ⟨rfl, rfl, trivial⟩ (by repeat (first | exact Sub.nil | refine Sub.cons (by repeat (first | exact Pick.head | apply Pick.tail)) ?_)) ?_
                 rintro i ⟨hi, hin⟩
                 refine W.seq ?_
                 refine W.sreg ?_
                 refine WO.p rfl rfl (WO.fieldL rfl rfl rfl (WO.load rfl rfl (Cell.own Pick.head rfl) rfl ?_))
                 refine' WO.len (n := _) rfl rfl ?hs rfl ?_
                 case hs => (first | exact hR.sl)
                 refine WO.p rfl rfl ?_
                 refine WO.nil ?_
                 refine W.cond_bl rfl (fun c6 => ?_) (fun c6 => ?_)
                 · first
                   | (exfalso; omega)
                   | (refine W.skip ?_
                      refine W.seq ?_
                      refine W.block ?_
                      refine W.sreg ?_
                      refine WO.fieldL rfl rfl rfl (WO.load rfl rfl (Cell.own Pick.head rfl) rfl (WO.p rfl rfl ?_))
                      refine' WO.indexAddr (n := _) (i := _) rfl rfl rfl ?hs ?h1 rfl ?_
                      case hs => (first | exact hR.sl)
                      case h1 => (first | omega | (simp; omega))
                      refine' WO.loadA (vs := _) rfl rfl ?hc ?hl rfl ?_
                      case hc => (first | exact RdF.cellsR hR (i := i) (by omega))
                      case hl => rfl
                      refine WO.alloc rfl rfl rfl (fun b2 hb2 => ?_)
                      refine WO.storeA rfl rfl rfl rfl Pick.head rfl rfl ?_
                      refine WO.nil ?_
                      refine W.sreg ?_
                      refine WO.field0 rfl rfl rfl (WO.load rfl rfl (Cell.own Pick.head rfl) rfl ?_)
                      refine WO.callR rfl Try.call43 (fun L w hi => ref_between w _ _ _) rfl ?_
                      refine WO.p rfl rfl (WO.p rfl rfl ?_)
                      refine WO.guard_nbl rfl rfl (fun c7 => ?_) (fun c7 => ?_)
                      · first
                        | (exfalso; omega)
                        | (refine WO.no rfl rfl (WO.no rfl rfl (WO.no rfl rfl (WO.no rfl rfl (WO.p rfl rfl (WO.p rfl rfl (WO.no rfl rfl (WO.no rfl rfl (WO.no rfl rfl (WO.no rfl rfl (WO.no rfl rfl (WO.no rfl rfl ?_)))))))))))
                           refine WO.no rfl rfl (WO.p rfl rfl (WO.p rfl rfl (WO.no rfl rfl (WO.no rfl rfl (WO.no rfl rfl (WO.no rfl rfl (WO.p rfl rfl (WO.p rfl rfl (WO.no rfl rfl (WO.no rfl rfl (WO.no rfl rfl ?_)))))))))))
                           refine WO.no rfl rfl (WO.p rfl rfl (WO.p rfl rfl (WO.no rfl rfl (WO.no rfl rfl (WO.no rfl rfl (WO.no rfl rfl (WO.p rfl rfl (WO.p rfl rfl (WO.no rfl rfl (WO.no rfl rfl (WO.no rfl rfl ?_)))))))))))
                           refine WO.no rfl rfl (WO.p rfl rfl (WO.p rfl rfl (WO.no rfl rfl (WO.no rfl rfl (WO.no rfl rfl (WO.no rfl rfl (WO.no rfl rfl (WO.p rfl rfl ?_))))))))
                           refine WO.nil ?_
                           refine W.cond_t rfl ?_
                           refine W.sreg ?_
                           refine WO.p rfl rfl ?_
                           refine WO.nil ?_
                           refine W.ret ?_
                           refine fin.ret (Res.one rfl (RV.tmp rfl)) (congrArg (Value.int .i64) ?_)
                           first | exact (chkD6 (by omega)).symm | exact (chkD2 (by omega) (fun h => by have h1 := h.1; unfold OkK at h1; omega)).symm | exact (chkD2 (by omega) (fun h => by have h1 := h.at_ (show i < l.length by omega); unfold OkR at h1; omega)).symm | exact (chkD0.2 ⟨by omega, by rw [show i = l.length by omega, List.take_length] at hin; exact hin⟩).symm)
                      first
                      | (exfalso; omega)
                      | (refine WO.go' rfl (WO.fieldL rfl rfl rfl (WO.go' rfl (WO.field0 rfl rfl rfl (WO.go' rfl (WO.load rfl rfl (Cell.own Pick.head rfl) rfl (WO.pg rfl rfl rfl (WO.p rfl rfl (WO.p rfl rfl ?_))))))))
                         refine WO.guard_bl rfl rfl (fun c8 => ?_) (fun c8 => ?_)
                         · first
                           | (exfalso; omega)
                           | (refine WO.no rfl rfl (WO.no rfl rfl (WO.no rfl rfl (WO.no rfl rfl (WO.no rfl rfl (WO.no rfl rfl (WO.no rfl rfl (WO.p rfl rfl (WO.p rfl rfl (WO.no rfl rfl (WO.no rfl rfl (WO.no rfl rfl ?_)))))))))))
                              refine WO.no rfl rfl (WO.p rfl rfl (WO.p rfl rfl (WO.no rfl rfl (WO.no rfl rfl (WO.no rfl rfl (WO.no rfl rfl (WO.p rfl rfl (WO.p rfl rfl (WO.no rfl rfl (WO.no rfl rfl (WO.no rfl rfl ?_)))))))))))
                              refine WO.no rfl rfl (WO.p rfl rfl (WO.p rfl rfl (WO.no rfl rfl (WO.no rfl rfl (WO.no rfl rfl (WO.no rfl rfl (WO.p rfl rfl (WO.p rfl rfl (WO.no rfl rfl (WO.no rfl rfl (WO.no rfl rfl ?_)))))))))))
                              refine WO.no rfl rfl (WO.no rfl rfl (WO.p rfl rfl ?_))
                              refine WO.nil ?_
                              refine W.cond_t rfl ?_
                              refine W.sreg ?_
                              refine WO.p rfl rfl ?_
                              refine WO.nil ?_
                              refine W.ret ?_
                              refine fin.ret (Res.one rfl (RV.tmp rfl)) (congrArg (Value.int .i64) ?_)
                              first | exact (chkD6 (by omega)).symm | exact (chkD2 (by omega) (fun h => by have h1 := h.1; unfold OkK at h1; omega)).symm | exact (chkD2 (by omega) (fun h => by have h1 := h.at_ (show i < l.length by omega); unfold OkR at h1; omega)).symm | exact (chkD0.2 ⟨by omega, by rw [show i = l.length by omega, List.take_length] at hin; exact hin⟩).symm)
                         first
                         | (exfalso; omega)
                         | (refine WO.go' rfl (WO.fieldL rfl rfl rfl (WO.go' rfl (WO.field0 rfl rfl rfl (WO.go' rfl (WO.load rfl rfl (Cell.own Pick.head rfl) rfl (WO.go' rfl (WO.fieldL rfl rfl rfl (WO.go' rfl (WO.fieldL rfl rfl rfl (WO.go' rfl (WO.load rfl rfl (Cell.own Pick.head rfl) rfl ?_)))))))))))
                            refine WO.pg rfl rfl rfl (WO.p rfl rfl (WO.p rfl rfl ?_))
                            refine WO.guard_bl rfl rfl (fun c9 => ?_) (fun c9 => ?_)
                            · first
                              | (exfalso; omega)
                              | (refine WO.no rfl rfl (WO.no rfl rfl (WO.no rfl rfl (WO.no rfl rfl (WO.p rfl rfl (WO.p rfl rfl (WO.no rfl rfl (WO.no rfl rfl (WO.no rfl rfl (WO.no rfl rfl (WO.p rfl rfl (WO.p rfl rfl ?_)))))))))))
                                 refine WO.no rfl rfl (WO.no rfl rfl (WO.no rfl rfl (WO.no rfl rfl (WO.p rfl rfl (WO.p rfl rfl (WO.no rfl rfl (WO.no rfl rfl (WO.no rfl rfl (WO.no rfl rfl (WO.p rfl rfl (WO.p rfl rfl ?_)))))))))))
                                 refine WO.no rfl rfl (WO.no rfl rfl (WO.no rfl rfl (WO.no rfl rfl (WO.no rfl rfl (WO.p rfl rfl ?_)))))
                                 refine WO.nil ?_
                                 refine W.cond_t rfl ?_
                                 refine W.sreg ?_
                                 refine WO.p rfl rfl ?_
                                 refine WO.nil ?_
                                 refine W.ret ?_
                                 refine fin.ret (Res.one rfl (RV.tmp rfl)) (congrArg (Value.int .i64) ?_)
                                 first | exact (chkD6 (by omega)).symm | exact (chkD2 (by omega) (fun h => by have h1 := h.1; unfold OkK at h1; omega)).symm | exact (chkD2 (by omega) (fun h => by have h1 := h.at_ (show i < l.length by omega); unfold OkR at h1; omega)).symm | exact (chkD0.2 ⟨by omega, by rw [show i = l.length by omega, List.take_length] at hin; exact hin⟩).symm)
                            first
                            | (exfalso; omega)
                            | (refine WO.go' rfl (WO.fieldL rfl rfl rfl (WO.go' rfl (WO.fieldL rfl rfl rfl (WO.go' rfl (WO.load rfl rfl (Cell.own Pick.head rfl) rfl (WO.pg rfl rfl rfl (WO.p rfl rfl (WO.p rfl rfl ?_))))))))
                               refine WO.guard_bl rfl rfl (fun c10 => ?_) (fun c10 => ?_)
                               · first
                                 | (exfalso; omega)
                                 | (refine WO.no rfl rfl (WO.no rfl rfl (WO.no rfl rfl (WO.no rfl rfl (WO.p rfl rfl (WO.p rfl rfl (WO.no rfl rfl (WO.no rfl rfl (WO.no rfl rfl (WO.no rfl rfl (WO.p rfl rfl (WO.p rfl rfl ?_)))))))))))
                                    refine WO.no rfl rfl (WO.no rfl rfl (WO.no rfl rfl (WO.no rfl rfl (WO.p rfl rfl (WO.p rfl rfl (WO.no rfl rfl (WO.no rfl rfl (WO.no rfl rfl (WO.no rfl rfl (WO.no rfl rfl (WO.p rfl rfl ?_)))))))))))
                                    refine WO.nil ?_
                                    refine W.cond_t rfl ?_
                                    refine W.sreg ?_
                                    refine WO.p rfl rfl ?_
                                    refine WO.nil ?_
                                    refine W.ret ?_
                                    refine fin.ret (Res.one rfl (RV.tmp rfl)) (congrArg (Value.int .i64) ?_)
                                    first | exact (chkD6 (by omega)).symm | exact (chkD2 (by omega) (fun h => by have h1 := h.1; unfold OkK at h1; omega)).symm | exact (chkD2 (by omega) (fun h => by have h1 := h.at_ (show i < l.length by omega); unfold OkR at h1; omega)).symm | exact (chkD0.2 ⟨by omega, by rw [show i = l.length by omega, List.take_length] at hin; exact hin⟩).symm)
                               first
                               | (exfalso; omega)
                               | (refine WO.go' rfl (WO.fieldL rfl rfl rfl (WO.go' rfl (WO.load rfl rfl (Cell.own Pick.head rfl) rfl (WO.go' rfl ?_))))
                                  refine WO.callR rfl Try.call43 (fun L w hi => ref_between w _ _ _) rfl ?_
                                  refine WO.pg rfl rfl rfl (WO.p rfl rfl (WO.p rfl rfl ?_))
                                  refine WO.guard_nbl rfl rfl (fun c11 => ?_) (fun c11 => ?_)
                                  · first
                                    | (exfalso; omega)
                                    | (refine WO.no rfl rfl (WO.no rfl rfl (WO.no rfl rfl (WO.no rfl rfl (WO.p rfl rfl (WO.p rfl rfl (WO.no rfl rfl (WO.no rfl rfl (WO.no rfl rfl (WO.no rfl rfl (WO.p rfl rfl (WO.p rfl rfl ?_)))))))))))
                                       refine WO.no rfl rfl (WO.no rfl rfl (WO.no rfl rfl (WO.no rfl rfl (WO.no rfl rfl (WO.p rfl rfl ?_)))))
                                       refine WO.nil ?_
                                       refine W.cond_t rfl ?_
                                       refine W.sreg ?_
                                       refine WO.p rfl rfl ?_
                                       refine WO.nil ?_
                                       refine W.ret ?_
                                       refine fin.ret (Res.one rfl (RV.tmp rfl)) (congrArg (Value.int .i64) ?_)
                                       first | exact (chkD6 (by omega)).symm | exact (chkD2 (by omega) (fun h => by have h1 := h.1; unfold OkK at h1; omega)).symm | exact (chkD2 (by omega) (fun h => by have h1 := h.at_ (show i < l.length by omega); unfold OkR at h1; omega)).symm | exact (chkD0.2 ⟨by omega, by rw [show i = l.length by omega, List.take_length] at hin; exact hin⟩).symm)
                                  first
                                  | (exfalso; omega)
                                  | (refine WO.go' rfl (WO.fieldL rfl rfl rfl (WO.go' rfl (WO.load rfl rfl (Cell.own Pick.head rfl) rfl (WO.go' rfl ?_))))
                                     refine WO.callR rfl Try.call43 (fun L w hi => ref_between w _ _ _) rfl ?_
                                     refine WO.pg rfl rfl rfl (WO.p rfl rfl (WO.p rfl rfl ?_))
                                     refine WO.guard_nbl rfl rfl (fun c12 => ?_) (fun c12 => ?_)
                                     · first
                                       | (exfalso; omega)
                                       | (refine WO.no rfl rfl (WO.no rfl rfl (WO.no rfl rfl (WO.no rfl rfl (WO.p rfl rfl (WO.p rfl rfl (WO.no rfl rfl (WO.no rfl rfl (WO.no rfl rfl (WO.no rfl rfl (WO.no rfl rfl (WO.p rfl rfl ?_)))))))))))
                                          refine WO.nil ?_
                                          refine W.cond_t rfl ?_
                                          refine W.sreg ?_
                                          refine WO.p rfl rfl ?_
                                          refine WO.nil ?_
                                          refine W.ret ?_
                                          refine fin.ret (Res.one rfl (RV.tmp rfl)) (congrArg (Value.int .i64) ?_)
                                          first | exact (chkD6 (by omega)).symm | exact (chkD2 (by omega) (fun h => by have h1 := h.1; unfold OkK at h1; omega)).symm | exact (chkD2 (by omega) (fun h => by have h1 := h.at_ (show i < l.length by omega); unfold OkR at h1; omega)).symm | exact (chkD0.2 ⟨by omega, by rw [show i = l.length by omega, List.take_length] at hin; exact hin⟩).symm)
                                     first
                                     | (exfalso; omega)
                                     | (refine WO.go' rfl (WO.fieldL rfl rfl rfl (WO.go' rfl (WO.load rfl rfl (Cell.own Pick.head rfl) rfl (WO.go' rfl ?_))))
                                        refine WO.callR rfl Try.call43 (fun L w hi => ref_between w _ _ _) rfl ?_
                                        refine WO.pg rfl rfl rfl (WO.p rfl rfl (WO.p rfl rfl ?_))
                                        refine WO.guard_nbl rfl rfl (fun c13 => ?_) (fun c13 => ?_)
                                        · first
                                          | (exfalso; omega)
                                          | (refine WO.no rfl rfl (WO.no rfl rfl (WO.no rfl rfl (WO.no rfl rfl (WO.no rfl rfl (WO.p rfl rfl ?_)))))
                                             refine WO.nil ?_
                                             refine W.cond_t rfl ?_
                                             refine W.sreg ?_
                                             refine WO.p rfl rfl ?_
                                             refine WO.nil ?_
                                             refine W.ret ?_
                                             refine fin.ret (Res.one rfl (RV.tmp rfl)) (congrArg (Value.int .i64) ?_)
                                             first | exact (chkD6 (by omega)).symm | exact (chkD2 (by omega) (fun h => by have h1 := h.1; unfold OkK at h1; omega)).symm | exact (chkD2 (by omega) (fun h => by have h1 := h.at_ (show i < l.length by omega); unfold OkR at h1; omega)).symm | exact (chkD0.2 ⟨by omega, by rw [show i = l.length by omega, List.take_length] at hin; exact hin⟩).symm)
                                        first
                                        | (exfalso; omega)
                                        | (refine WO.go' rfl (WO.fieldL rfl rfl rfl (WO.go' rfl (WO.load rfl rfl (Cell.own Pick.head rfl) rfl (WO.go' rfl (WO.fieldL rfl rfl rfl (WO.go' rfl (WO.load rfl rfl (Cell.own Pick.head rfl) rfl (WO.pg rfl rfl rfl (WO.p rfl rfl ?_)))))))))
                                           refine WO.nil ?_
                                           refine W.cond_bl rfl (fun c14 => ?_) (fun c14 => ?_)
                                           · first
                                             | (exfalso; omega)
                                             | (refine W.sreg ?_
                                                refine WO.p rfl rfl ?_
                                                refine WO.nil ?_
                                                refine W.ret ?_
                                                refine fin.ret (Res.one rfl (RV.tmp rfl)) (congrArg (Value.int .i64) ?_)
                                                first | exact (chkD6 (by omega)).symm | exact (chkD2 (by omega) (fun h => by have h1 := h.1; unfold OkK at h1; omega)).symm | exact (chkD2 (by omega) (fun h => by have h1 := h.at_ (show i < l.length by omega); unfold OkR at h1; omega)).symm | exact (chkD0.2 ⟨by omega, by rw [show i = l.length by omega, List.take_length] at hin; exact hin⟩).symm)
                                           first
                                           | (exfalso; omega)
                                           | (refine W.skip ?_
                                              refine W.region ?_
                                              refine WO.p rfl rfl (WO.ar rfl rfl rfl (by (first | (unfold in64; omega) | (unfold in64; omega))) rfl (WO.p rfl rfl ?_))
                                              refine WO.nil ?_
                                              refine' ⟨i + 1, ?hp, ?hmu, ⟨rfl, rfl, trivial⟩, ?hS⟩
                                              case hS => repeat (first | exact Sub.nil | refine Sub.cons (by repeat (first | exact Pick.head | apply Pick.tail)) ?_)
                                              case hp => exact ⟨by omega, (OkD.succ (by omega)).2 ⟨hin, by unfold OkR; omega⟩⟩
                                              case hmu => omega)))))))))
                 first
                 | (exfalso; omega)
                 | (refine W.exit (blk_same ?_)
                    refine W.sreg ?_
                    refine WO.p rfl rfl ?_
                    refine WO.nil ?_
                    refine W.ret ?_
                    refine fin.ret (Res.one rfl (RV.tmp rfl)) (congrArg (Value.int .i64) ?_)
                    first | exact (chkD6 (by omega)).symm | exact (chkD2 (by omega) (fun h => by have h1 := h.1; unfold OkK at h1; omega)).symm | exact (chkD2 (by omega) (fun h => by have h1 := h.at_ (show i < l.length by omega); unfold OkR at h1; omega)).symm | exact (chkD0.2 ⟨by omega, by rw [show i = l.length by omega, List.take_length] at hin; exact hin⟩).symm))))))
theorem c_within1 (w : World) (x : Int × Int) (lo hi : Int) (p q : Addr) (h1 : Cap w p (.int .i64 lo)) (h2 : Cap w q (.int .i64 hi)) : Ret Try.prog 60 [.agg #[.int .i64 x.1, .int .i64 x.2], .pointer (some p), .pointer (some q)].toArray w (.bool (bl (¬ InR lo hi x))) := by
  refine Ret.of mixed tyTab Try.func60 rfl rfl ?_
  replace h1 : Cap (fnCx mixed tyTab Try.f60.ntmps w).w0 p (.int .i64 lo) := h1
  replace h2 : Cap (fnCx mixed tyTab Try.f60.ntmps w).w0 q (.int .i64 hi) := h2
  refine W.sreg ?_
  refine WO.boxA rfl rfl (fun b1 hb1 => ?_)
  refine WO.p rfl rfl ?_
  refine WO.nil ?_
  refine W.sreg ?_
  refine WO.field0 rfl rfl rfl (WO.load rfl rfl (Cell.own Pick.head rfl) rfl ?_)
  refine' WO.load (v := _) rfl rfl ?hc rfl ?_
  case hc => (first | (refine Cap.cell (v := .int .i64 lo) rfl h1))
  refine WO.p rfl rfl (WO.p rfl rfl ?_)
  refine WO.guard_bl rfl rfl (fun c1 => ?_) (fun c1 => ?_)
  · first
    | (exfalso; omega)
    | (refine WO.no rfl rfl (WO.no rfl rfl (WO.no rfl rfl (WO.no rfl rfl (WO.no rfl rfl (WO.p rfl rfl (WO.p rfl rfl (WO.no rfl rfl (WO.no rfl rfl (WO.no rfl rfl (WO.no rfl rfl (WO.p rfl rfl ?_)))))))))))
       refine WO.p rfl rfl ?_
       refine WO.nil ?_
       refine W.ret ?_
       refine fin.ret (Res.one rfl (RV.tmp rfl)) (congrArg Value.bool ?_)
       first | exact (bl_t.2 (by unfold InR; omega)).symm | (rw [bl_eq, bl_eq, decide_eq_decide]; unfold InR; omega))
  first
  | (exfalso; omega)
  | (refine WO.go' rfl (WO.field0 rfl rfl rfl (WO.go' rfl (WO.load rfl rfl (Cell.own Pick.head rfl) rfl (WO.go' rfl (WO.fieldL rfl rfl rfl (WO.go' rfl (WO.load rfl rfl (Cell.own Pick.head rfl) rfl (WO.pg rfl rfl rfl (WO.p rfl rfl (WO.p rfl rfl ?_))))))))))
     refine WO.guard_bl rfl rfl (fun c2 => ?_) (fun c2 => ?_)
     · first
       | (exfalso; omega)
       | (refine WO.no rfl rfl (WO.no rfl rfl (WO.no rfl rfl (WO.no rfl rfl (WO.p rfl rfl (WO.p rfl rfl ?_)))))
          refine WO.nil ?_
          refine W.ret ?_
          refine fin.ret (Res.one rfl (RV.tmp rfl)) (congrArg Value.bool ?_)
          first | exact (bl_t.2 (by unfold InR; omega)).symm | (rw [bl_eq, bl_eq, decide_eq_decide]; unfold InR; omega))
     first
     | (exfalso; omega)
     | (refine WO.go' rfl (WO.fieldL rfl rfl rfl (WO.go' rfl (WO.load rfl rfl (Cell.own Pick.head rfl) rfl (WO.go' rfl ?_))))
        refine' WO.load (v := _) rfl rfl ?hc rfl ?_
        case hc => (first | (refine Cap.cell (v := .int .i64 hi) rfl h2))
        refine WO.pg rfl rfl rfl (WO.p rfl rfl (WO.p rfl rfl ?_))
        refine WO.nil ?_
        refine W.ret ?_
        refine fin.ret (Res.one rfl (RV.tmp rfl)) (congrArg Value.bool ?_)
        first | exact (bl_t.2 (by unfold InR; omega)).symm | (rw [bl_eq, bl_eq, decide_eq_decide]; unfold InR; omega)))
theorem c_IndexR (w : World) (v : Value) (xs : List (Int × Int)) (lo hi : Int) (p q : Addr) (hR : RdF encP 2 w.heap.size w v xs) (h1 : Cap w p (.int .i64 lo)) (h2 : Cap w q (.int .i64 hi)) : RetE Try.prog 70 [v, .func (.func 60) #[] #[.pointer (some p), .pointer (some q)]].toArray w (fun r => ∃ n : Int, r = .int .i64 n ∧ (0 ≤ n ↔ ¬ ∀ x ∈ xs, InR lo hi x)) := by
  refine RetE.of mixed tyTab Try.func70 rfl rfl ?_
  replace hR : RdF encP 2 (fnCx mixed tyTab Try.f70.ntmps w).B (fnCx mixed tyTab Try.f70.ntmps w).w0 v xs := hR
  replace h1 : Cap (fnCx mixed tyTab Try.f70.ntmps w).w0 p (.int .i64 lo) := h1
  replace h2 : Cap (fnCx mixed tyTab Try.f70.ntmps w).w0 q (.int .i64 hi) := h2
  have hle := hR.sl.le
  refine W.sreg ?_
  refine WO.p rfl rfl ?_
  refine WO.nil ?_
  refine W.seq ?_
  refine W.sreg ?_
  refine WO.p rfl rfl ?_
  refine' WO.len (n := _) rfl rfl ?hs rfl ?_
  case hs => (first | exact hR.sl)
  refine WO.p rfl rfl ?_
  refine WO.nil ?_
  refine W.block ?_
  refine W.loop (fun (i : Nat) => i ≤ xs.length ∧ ∀ x ∈ xs.take i, InR lo hi x)
    (fun (i : Nat) => [(8, .int .i64 (i : Int)), (7, .int .i64 (xs.length : Int)), (0, v), (1, .func (.func 60) #[] #[.pointer (some p), .pointer (some q)])])
    (fun (i : Nat) => [])
    (fun (i : Nat) => xs.length - i) 0
    (by exact ⟨by omega, by simp⟩) ⟨rfl, rfl, rfl, rfl, trivial⟩ (by repeat (first | exact Sub.nil | refine Sub.cons (by repeat (first | exact Pick.head | apply Pick.tail)) ?_)) ?_
  rintro i ⟨hi0, hal⟩
  refine W.sreg ?_
  refine WO.p rfl rfl ?_
  refine WO.nil ?_
  refine W.seq ?_
  refine W.cond_bl rfl (fun c1 => ?_) (fun c1 => ?_)
  · first
    | (exfalso; omega)
    | (refine W.skip ?_
       refine W.seq ?_
       refine W.block ?_
       refine W.sreg ?_
       refine WO.p rfl rfl (WO.p rfl rfl ?_)
       refine WO.nil ?_
       refine W.sreg ?_
       refine WO.p rfl rfl (WO.p rfl rfl (WO.p rfl rfl ?_))
       refine' WO.indexAddr (n := _) (i := _) rfl rfl rfl ?hs ?h1 rfl ?_
       case hs => (first | exact hR.sl)
       case h1 => (first | omega | (simp; omega))
       refine' WO.loadA (vs := _) rfl rfl ?hc ?hl rfl ?_
       case hc => (first | exact RdF.cellsP hR (i := i) (by omega))
       case hl => rfl
       refine WO.callCR (first := []) (captured := [.pointer (some p), .pointer (some q)]) rfl rfl Try.call60 (fun L w hi' => c_within1 w (xs.getD i (0, 0)) lo hi p q (h1.old rfl hi') (h2.old rfl hi')) rfl ?_
       refine WO.nil ?_
       refine W.cond_bl rfl (fun c2 => ?_) (fun c2 => ?_)
       · first
         | (exfalso; omega)
         | (refine W.sreg ?_
            refine WO.p rfl rfl (WO.p rfl rfl ?_)
            refine WO.nil ?_
            refine W.ret ?_
            exact fin.ret (Res.one rfl (RV.tmp rfl)) ⟨_, rfl, by first | exact ⟨fun h => by omega, fun h => absurd (all_len (by omega) hal) h⟩ | exact ⟨fun _ => not_all_getD (i := i) (by omega) (0, 0) (by assumption), fun _ => by omega⟩⟩)
       first
       | (exfalso; omega)
       | (refine W.skip ?_
          refine W.region ?_
          refine WO.ar rfl rfl rfl (by (first | (unfold in64; omega) | (unfold in64; omega))) rfl (WO.p rfl rfl ?_)
          refine WO.nil ?_
          refine' ⟨i + 1, ?hp, ?hmu, ⟨rfl, rfl, rfl, rfl, trivial⟩, ?hS⟩
          case hS => repeat (first | exact Sub.nil | refine Sub.cons (by repeat (first | exact Pick.head | apply Pick.tail)) ?_)
          case hp => exact ⟨by omega, all_succ (by omega) (0, 0) hal (Decidable.not_not.1 (by assumption))⟩
          case hmu => omega))
  first
  | (exfalso; omega)
  | (refine W.exit (blk_same ?_)
     refine W.sreg ?_
     refine WO.p rfl rfl ?_
     refine WO.nil ?_
     refine W.ret ?_
     exact fin.ret (Res.one rfl (RV.tmp rfl)) ⟨_, rfl, by first | exact ⟨fun h => by omega, fun h => absurd (all_len (by omega) hal) h⟩ | exact ⟨fun _ => not_all_getD (i := i) (by omega) (0, 0) (by assumption), fun _ => by omega⟩⟩)
theorem c_ContR (w : World) (v : Value) (xs : List (Int × Int)) (lo hi : Int) (p q : Addr) (hR : RdF encP 2 w.heap.size w v xs) (h1 : Cap w p (.int .i64 lo)) (h2 : Cap w q (.int .i64 hi)) : Ret Try.prog 59 [v, .func (.func 60) #[] #[.pointer (some p), .pointer (some q)]].toArray w (.bool (bl (¬ ∀ x ∈ xs, InR lo hi x))) := by
  refine Ret.of mixed tyTab Try.func59 rfl rfl ?_
  replace hR : RdF encP 2 (fnCx mixed tyTab Try.f59.ntmps w).B (fnCx mixed tyTab Try.f59.ntmps w).w0 v xs := hR
  replace h1 : Cap (fnCx mixed tyTab Try.f59.ntmps w).w0 p (.int .i64 lo) := h1
  replace h2 : Cap (fnCx mixed tyTab Try.f59.ntmps w).w0 q (.int .i64 hi) := h2
  refine W.sreg ?_
  refine WO.p rfl rfl ?_
  refine WO.nil ?_
  refine W.sreg ?_
  refine WO.p rfl rfl (WO.p rfl rfl ?_)
  refine WO.callE rfl Try.call70 (fun L w hi' => c_IndexR w v xs lo hi p q (hR.later hi') (h1.old rfl hi') (h2.old rfl hi')) rfl ?_
  rintro _ ⟨n, rfl, hn⟩
  refine WO.p rfl rfl (WO.p rfl rfl ?_)
  refine WO.nil ?_
  refine W.ret ?_
  refine fin.ret (Res.one rfl (RV.tmp rfl)) ?_
  refine congrArg Value.bool ?_
  rw [bl_eq, bl_eq]; exact decide_eq_decide.2 hn
theorem c_within (w : World) (v : Value) (xs : List (Int × Int)) (lo hi : Int) (hR : RdF encP 2 w.heap.size w v xs) : Ret Try.prog 40 [.int .i64 lo, .int .i64 hi, v].toArray w (.bool (bl (∀ x ∈ xs, InR lo hi x))) := by
  refine Ret.of mixed tyTab Try.func40 rfl rfl ?_
  replace hR : RdF encP 2 (fnCx mixed tyTab Try.f40.ntmps w).B (fnCx mixed tyTab Try.f40.ntmps w).w0 v xs := hR
  refine W.sreg ?_
  refine WO.box1 rfl (by first | rfl | assumption) rfl (fun b1 hb1 => ?_)
  refine WO.box1 rfl (by first | rfl | assumption) rfl (fun b2 hb2 => ?_)
  refine WO.p rfl rfl ?_
  refine WO.nil ?_
  refine W.sreg ?_
  refine WO.p rfl rfl (WO.p rfl rfl ?_)
  refine WO.callR rfl Try.call59 (fun L w hi' => c_ContR w v xs lo hi _ _ (hR.later hi') (Cap.of (b := b1) (by repeat (first | exact Pick.head | apply Pick.tail)) rfl hi') (Cap.of (b := b2) (by repeat (first | exact Pick.head | apply Pick.tail)) rfl hi')) rfl ?_
  refine WO.p rfl rfl (WO.p rfl rfl ?_)
  refine WO.nil ?_
  refine W.ret ?_
  refine fin.ret (Res.one rfl (RV.tmp rfl)) (congrArg Value.bool ?_)
  rcases Decidable.em (∀ x ∈ xs, InR lo hi x) with h | h
  · (rw [bl_t.2 h, bl_f.2 (fun g => g h)]; try rfl)
  (rw [bl_f.2 h, bl_t.2 h]; try rfl)
theorem c_one (w : World) (n : Int) : Ret Try.prog 41 [.int .i64 n].toArray w (.agg #[.int .i64 n, .int .i64 n]) := by
  refine Ret.of mixed tyTab Try.func41 rfl rfl ?_
  refine W.sreg ?_
  refine WO.alloc rfl rfl rfl (fun b1 hb1 => ?_)
  refine WO.nil ?_
  refine W.sreg ?_
  refine WO.p rfl rfl (WO.p rfl rfl ?_)
  refine' WO.build (cs := _) rfl rfl rfl ?hf rfl ?_
  case hf => (conv => lhs; simp [-List.getD_eq_getElem?_getD, fillL, vcl, wrl, TTab.pl?.lget']) <;> rfl
  refine WO.storeA rfl rfl rfl rfl Pick.head rfl rfl ?_
  refine WO.nil ?_
  refine W.ret ?_
  exact fin.ret (Res.one rfl (RV.cell rfl rfl rfl (Cells.own (by repeat (first | exact Pick.head | apply Pick.tail))))) rfl
theorem all1 {lo hi : Int} {p : Int × Int} {q : Prop} [Decidable q] (h : InR lo hi p ↔ q) : bl (∀ y ∈ [p], InR lo hi y) = bl q := by rw [bl_eq, bl_eq, decide_eq_decide]; simpa using h
theorem all2 {lo hi : Int} {p r : Int × Int} {q : Prop} [Decidable q] (h : (InR lo hi p ∧ InR lo hi r) ↔ q) : bl (∀ y ∈ [p, r], InR lo hi y) = bl q := by rw [bl_eq, bl_eq, decide_eq_decide]; simpa using h
theorem bl_cg {p q : Prop} [Decidable p] [Decidable q] (h : p ↔ q) : bl p = bl q := by rw [bl_eq, bl_eq, decide_eq_decide]; exact h
theorem c_CheckDay (w : World) (v : Value) (a b : Int) (l : List Rn) (hR : RdF encR 6 w.heap.size w v l) : Ret Try.prog 34 [dayV a b v].toArray w (.int .i64 (chkD a b l)) := by
  refine Ret.of mixed tyTab Try.func34 rfl rfl ?_
  replace hR : RdF encR 6 (fnCx mixed tyTab Try.f34.ntmps w).B (fnCx mixed tyTab Try.f34.ntmps w).w0 v l := hR
  have hle := hR.sl.le
  have ho := hR.sl.oc
  refine W.sreg ?_
  refine WO.boxA rfl rfl (fun b1 hb1 => ?_)
  refine WO.p rfl rfl ?_
  refine WO.nil ?_
  refine W.seq ?_
  refine W.sreg ?_
  refine WO.fieldL rfl rfl rfl (WO.load rfl rfl (Cell.own Pick.head rfl) rfl ?_)
  refine' WO.len (n := _) rfl rfl ?hs rfl ?_
  case hs => (first | exact hR.sl)
  refine WO.p rfl rfl (WO.p rfl rfl ?_)
  refine WO.guard_bl rfl rfl (fun c1 => ?_) (fun c1 => ?_)
  · first
    | (exfalso; omega)
    | (refine WO.no rfl rfl (WO.no rfl rfl (WO.no rfl rfl (WO.no rfl rfl (WO.p rfl rfl ?_))))
       refine WO.nil ?_
       refine W.cond_t rfl ?_
       refine W.sreg ?_
       refine WO.p rfl rfl ?_
       refine WO.nil ?_
       refine W.ret ?_
       refine fin.ret (Res.one rfl (RV.tmp rfl)) (congrArg (Value.int .i64) ?_)
       first | exact (chkD6 (by omega)).symm | (have h3 : ¬ OkD a b (l.take i) := (by assumption); rw [show i = l.length by omega, List.take_length] at h3; exact (chkD2 (by omega) h3).symm) | (have h3 : OkD a b (l.take i) := (by assumption); rw [show i = l.length by omega, List.take_length] at h3; exact (chkD0.2 ⟨by omega, h3⟩).symm))
  first
  | (exfalso; omega)
  | (refine WO.go' rfl (WO.fieldL rfl rfl rfl (WO.go' rfl (WO.load rfl rfl (Cell.own Pick.head rfl) rfl (WO.go' rfl ?_))))
     refine' WO.len (n := _) rfl rfl ?hs rfl ?_
     case hs => (first | exact hR.sl)
     refine WO.pg rfl rfl rfl (WO.p rfl rfl ?_)
     refine WO.nil ?_
     refine W.cond_bl rfl (fun c2 => ?_) (fun c2 => ?_)
     · first
       | (exfalso; omega)
       | (refine W.sreg ?_
          refine WO.p rfl rfl ?_
          refine WO.nil ?_
          refine W.ret ?_
          refine fin.ret (Res.one rfl (RV.tmp rfl)) (congrArg (Value.int .i64) ?_)
          first | exact (chkD6 (by omega)).symm | (have h3 : ¬ OkD a b (l.take i) := (by assumption); rw [show i = l.length by omega, List.take_length] at h3; exact (chkD2 (by omega) h3).symm) | (have h3 : OkD a b (l.take i) := (by assumption); rw [show i = l.length by omega, List.take_length] at h3; exact (chkD0.2 ⟨by omega, h3⟩).symm))
     first
     | (exfalso; omega)
     | (refine W.skip ?_
        refine W.sreg ?_
        refine WO.field0 rfl rfl rfl (WO.loadA rfl rfl (Cells.ownAt (n := 2) Pick.head rfl) rfl rfl ?_)
        refine' WO.buildSl (cs := _) rfl rfl rfl rfl ?hf rfl rfl ?hl rfl (fun v2 => ?_)
        case hf => (conv => lhs; simp [-List.getD_eq_getElem?_getD, fillL, vcl, wrl, TTab.pl?.lget']) <;> rfl
        case hl => rfl
        refine WO.callR (r := .bool (bl (OkD a b (l.take 0)))) rfl Try.call40 (fun L w hi => by rw [← all1 (p := (a, b)) (lo := 0) (hi := 1000) (by unfold OkD InR OkK; simp)]; exact c_within w _ [(a, b)] _ _ (RdF.of_ow (e := 23) encP_ok (by repeat (first | exact Pick.head | apply Pick.tail)) hi)) rfl ?_
        refine WO.p rfl rfl ?_
        refine WO.nil ?_
        refine W.seq ?_
        refine W.sreg ?_
        refine WO.fieldL rfl rfl rfl (WO.load rfl rfl (Cell.own (Pick.tail (Pick.head)) rfl) rfl ?_)
        refine' WO.len (n := _) rfl rfl ?hs rfl ?_
        case hs => (first | exact hR.sl)
        refine WO.p rfl rfl ?_
        refine WO.nil ?_
        refine W.block ?_
        refine W.loop2 (fun (i : Nat) (z : Bool) => i ≤ l.length ∧ z = bl (OkD a b (l.take i)))
          (fun (i : Nat) (z : Bool) => [(3, .bool z), (21, v), (22, .int .i64 (l.length : Int)), (23, .int .i64 (i : Int))])
          (fun (i : Nat) (z : Bool) => [])
          (fun (i : Nat) (z : Bool) => l.length - i) 0 _
          (by exact ⟨by omega, rfl⟩) ⟨rfl, rfl, rfl, rfl, trivial⟩ (by repeat (first | exact Sub.nil | refine Sub.cons (by repeat (first | exact Pick.head | apply Pick.tail)) ?_)) ?_
        rintro i z ⟨hi, rfl⟩
        refine W.sreg ?_
        refine WO.p rfl rfl ?_
        refine WO.nil ?_
        refine W.seq ?_
        refine W.cond_bl rfl (fun c3 => ?_) (fun c3 => ?_)
        · first
          | (exfalso; omega)
          | (refine W.skip ?_
             refine W.seq ?_
             refine W.block ?_
             refine W.sreg ?_
             refine' WO.indexAddr (n := _) (i := _) rfl rfl rfl ?hs ?h1 rfl ?_
             case hs => (first | exact hR.sl)
             case h1 => (first | omega | (simp; omega))
             refine' WO.loadA (vs := _) rfl rfl ?hc ?hl rfl ?_
             case hc => (first | exact RdF.cellsR hR (i := i) (by omega))
             case hl => rfl
             refine WO.alloc rfl rfl rfl (fun b3 hb3 => ?_)
             refine WO.storeA rfl rfl rfl rfl Pick.head rfl rfl ?_
             refine WO.nil ?_
             obtain ⟨r, hr⟩ : ∃ r, r = l.getD i rn0 := ⟨_, rfl⟩
             have hsc := OkD.succ (a := a) (b := b) (l := l) (i := i) (by omega)
             rw [← hr] at hsc ⊢
             refine W.drawD 22 [.r 0 [], .r 1 [], .r 2 [], .b 3 [], .r 4 [], .c 5 [], .f 6 [], .r 7 [], .r 8 [], .r 9 [], .b 10 [], .r 11 [], .b 12 [], .r 13 [], .c 14 [], .f 15 [], .r 16 [], .r 17 [], .r 18 [], .b 19 [], .r 20 [], .b 21 []] [] (A0 := []) (Sub.refl _) (by kernel_rfl) ?_ ?_
             · exact (ALok.r (ALok.r (ALok.r (ALok.b (ALok.r (ALok.c (ALok.f (ALok.r (ALok.r (ALok.r (ALok.b (ALok.r (ALok.b (ALok.r (ALok.c (ALok.f (ALok.r (ALok.r (ALok.r (ALok.b (ALok.r (ALok.b ALok.nil))))))))))))))))))))))
             refine' DT.r rfl rfl rfl ?hq ?_
             case hq =>
               refine WO.p rfl rfl ?_
               exact WO.nil ⟨rfl, rfl⟩
             refine' DT.rB rfl rfl rfl ?hq (fun c4 => ?_) (fun c4 => ?_)
             case hq =>
               refine WO.p rfl rfl ?_
               exact WO.nil ⟨rfl, rfl⟩
             · first
               | (exfalso; omega)
               | (refine' DT.r rfl rfl rfl ?hq ?_
                  case hq =>
                    refine WO.go' rfl (WO.field0 rfl rfl rfl ?_)
                    exact WO.nil ⟨rfl, rfl⟩
                  refine' DT.b rfl rfl rfl ?hq ?_
                  case hq =>
                    refine WO.go' rfl (WO.load rfl rfl (Cell.own Pick.head rfl) rfl ?_)
                    exact WO.nil ⟨rfl, rfl⟩
                  refine' DT.r rfl rfl rfl ?hq ?_
                  case hq =>
                    refine WO.go' rfl ?_
                    refine WO.callR rfl Try.call41 (fun L w hi => c_one w _) rfl ?_
                    exact WO.nil ⟨rfl, rfl⟩
                  refine DT.c [_] rfl rfl rfl rfl ?_
                  refine WO.go' rfl ?_
                  refine' WO.buildSl (cs := _) rfl rfl rfl rfl ?hf rfl rfl ?hl rfl (fun v4 => ?_)
                  case hf => (conv => lhs; simp [-List.getD_eq_getElem?_getD, fillL, vcl, wrl, TTab.pl?.lget']) <;> rfl
                  case hl => rfl
                  refine WO.nil ⟨_, [_], rfl, rfl, (Keep.r (Keep.b (Keep.r (Keep.r (Keep.r Keep.nil))))), ?_⟩
                  refine' DT.f [_, _] rfl rfl rfl rfl ?hq ?_
                  case hq =>
                    refine WO.go' rfl ?_
                    refine WO.callR (r := .bool (bl (1 ≤ r.mi ∧ r.mi ≤ 1000))) rfl Try.call40 (fun L w hi => by rw [← all1 (p := (r.mi, r.mi)) (lo := 1) (hi := 1000) (by unfold InR; simp)]; exact c_within w _ [(r.mi, r.mi)] _ _ (RdF.of_ow (e := 23) encP_ok (by repeat (first | exact Pick.head | apply Pick.tail)) hi)) rfl ?_
                    exact WO.nil ⟨rfl, rfl⟩
                  refine' DT.r rfl rfl rfl ?hq ?_
                  case hq =>
                    refine WO.p rfl rfl ?_
                    exact WO.nil ⟨rfl, rfl⟩
                  refine' DT.rB rfl rfl rfl ?hq (fun c5 => ?_) (fun c5 => ?_)
                  case hq =>
                    refine WO.p rfl rfl ?_
                    exact WO.nil ⟨rfl, rfl⟩
                  · first
                    | (exfalso; omega)
                    | (refine' DT.r rfl rfl rfl ?hq ?_
                       case hq =>
                         refine WO.go' rfl (WO.fieldL rfl rfl rfl ?_)
                         exact WO.nil ⟨rfl, rfl⟩
                       refine' DT.b rfl rfl rfl ?hq ?_
                       case hq =>
                         refine WO.go' rfl (WO.loadA rfl rfl (Cells.ownAt (n := 2) Pick.head rfl) rfl rfl ?_)
                         exact WO.nil ⟨rfl, rfl⟩
                       refine' DT.r rfl rfl rfl ?hq ?_
                       case hq =>
                         refine WO.go' rfl (WO.fieldL rfl rfl rfl ?_)
                         exact WO.nil ⟨rfl, rfl⟩
                       refine' DT.b rfl rfl rfl ?hq ?_
                       case hq =>
                         refine WO.go' rfl (WO.load rfl rfl (Cell.own Pick.head rfl) rfl ?_)
                         exact WO.nil ⟨rfl, rfl⟩
                       refine' DT.r rfl rfl rfl ?hq ?_
                       case hq =>
                         refine WO.go' rfl ?_
                         refine WO.callR rfl Try.call41 (fun L w hi => c_one w _) rfl ?_
                         exact WO.nil ⟨rfl, rfl⟩
                       refine DT.c [_, _] rfl rfl rfl rfl ?_
                       refine WO.go' rfl ?_
                       refine' WO.buildSl (cs := _) rfl rfl rfl rfl ?hf rfl rfl ?hl rfl (fun v5 => ?_)
                       case hf => (conv => lhs; simp [-List.getD_eq_getElem?_getD, fillL, vcl, wrl, TTab.pl?.lget']) <;> rfl
                       case hl => rfl
                       refine WO.nil ⟨_, [_, _], rfl, rfl, (Keep.r (Keep.b (Keep.r (Keep.b (Keep.r (Keep.r (Keep.r (Keep.f (Keep.c (Keep.r (Keep.b (Keep.r (Keep.r (Keep.r Keep.nil)))))))))))))), ?_⟩
                       refine' DT.f [_, _, _] rfl rfl rfl rfl ?hq ?_
                       case hq =>
                         refine WO.go' rfl ?_
                         refine WO.callR (r := .bool (bl (0 ≤ r.lo ∧ r.lo ≤ r.hi ∧ r.hi ≤ 1000000 ∧ 0 ≤ r.st ∧ r.st ≤ 1000000))) rfl Try.call40 (fun L w hi => by rw [← all2 (p := (r.lo, r.hi)) (r := (r.st, r.st)) (lo := 0) (hi := 1000000) (by unfold InR; simp; omega)]; exact c_within w _ [(r.lo, r.hi), (r.st, r.st)] _ _ (RdF.of_ow (e := 23) encP_ok (by repeat (first | exact Pick.head | apply Pick.tail)) hi)) rfl ?_
                         exact WO.nil ⟨rfl, rfl⟩
                       refine' DT.r rfl rfl rfl ?hq ?_
                       case hq =>
                         refine WO.p rfl rfl ?_
                         exact WO.nil ⟨rfl, rfl⟩
                       refine' DT.rB rfl rfl rfl ?hq (fun c6 => ?_) (fun c6 => ?_)
                       case hq =>
                         refine WO.p rfl rfl ?_
                         exact WO.nil ⟨rfl, rfl⟩
                       · first
                         | (exfalso; omega)
                         | (refine' DT.r rfl rfl rfl ?hq ?_
                            case hq =>
                              refine WO.go' rfl (WO.fieldL rfl rfl rfl ?_)
                              exact WO.nil ⟨rfl, rfl⟩
                            refine' DT.b rfl rfl rfl ?hq ?_
                            case hq =>
                              refine WO.go' rfl (WO.load rfl rfl (Cell.own Pick.head rfl) rfl ?_)
                              exact WO.nil ⟨rfl, rfl⟩
                            refine' DT.r rfl rfl rfl ?hq ?_
                            case hq =>
                              refine WO.go' rfl (WO.fieldL rfl rfl rfl ?_)
                              exact WO.nil ⟨rfl, rfl⟩
                            refine' DT.b rfl rfl rfl ?hq ?_
                            case hq =>
                              refine WO.go' rfl (WO.load rfl rfl (Cell.own Pick.head rfl) rfl ?_)
                              exact WO.nil ⟨rfl, rfl⟩
                            refine DT.nil [_, _, _] rfl ?_
                            refine WO.go' rfl ?_
                            refine' WO.build (cs := _) rfl rfl rfl ?hf rfl ?_
                            case hf => (conv => lhs; simp [-List.getD_eq_getElem?_getD, fillL, vcl, wrl, TTab.pl?.lget']) <;> rfl
                            refine WO.go' rfl ?_
                            refine' WO.buildSl (cs := _) rfl rfl rfl rfl ?hf rfl rfl ?hl rfl (fun v6 => ?_)
                            case hf => (conv => lhs; simp [-List.getD_eq_getElem?_getD, fillL, vcl, wrl, TTab.pl?.lget']) <;> rfl
                            case hl => rfl
                            refine WO.go' rfl ?_
                            refine WO.callR (r := .bool (bl (0 ≤ r.fr ∧ r.fr ≤ r.un ∧ r.un ≤ 1000))) rfl Try.call40 (fun L w hi => by rw [← all1 (p := (r.fr, r.un)) (lo := 0) (hi := 1000) (by unfold InR; simp)]; exact c_within w _ [(r.fr, r.un)] _ _ (RdF.of_ow (e := 23) encP_ok (by repeat (first | exact Pick.head | apply Pick.tail)) hi)) rfl ?_
                            refine WO.p rfl rfl (WO.p rfl rfl ?_)
                            refine WO.nil ?_
                            refine W.region ?_
                            refine WO.ar rfl rfl rfl (by (first | (unfold in64; omega) | (unfold in64; omega))) rfl (WO.p rfl rfl ?_)
                            refine WO.nil ?_
                            refine' ⟨i + 1, _, ?hp, ?hmu, ⟨rfl, rfl, rfl, rfl, trivial⟩, ?hS⟩
                            case hS => repeat (first | exact Sub.nil | refine Sub.cons (by repeat (first | exact Pick.head | apply Pick.tail)) ?_)
                            case hp => exact ⟨by omega, by first | (refine (bl_f.2 ?_).symm; intro h; have h := hsc.1 h; have h2 := h.2; unfold OkR at h2; first | exact absurd h.1 (by assumption) | omega) | (refine bl_cg ?_; rw [hsc]; unfold OkR; constructor; (intro h; exact ⟨by assumption, by omega⟩); (intro h; omega))⟩
                            case hmu => omega)
                       first
                       | (exfalso; omega)
                       | (refine' DT.r rfl rfl rfl ?hq ?_
                          case hq =>
                            refine WO.no rfl rfl ?_
                            exact WO.nil ⟨rfl, rfl⟩
                          refine' DT.b rfl rfl rfl ?hq ?_
                          case hq =>
                            refine WO.no rfl rfl ?_
                            exact WO.nil ⟨rfl, rfl⟩
                          refine' DT.r rfl rfl rfl ?hq ?_
                          case hq =>
                            refine WO.no rfl rfl ?_
                            exact WO.nil ⟨rfl, rfl⟩
                          refine' DT.b rfl rfl rfl ?hq ?_
                          case hq =>
                            refine WO.no rfl rfl ?_
                            exact WO.nil ⟨rfl, rfl⟩
                          refine DT.nil [_, _, _] rfl ?_
                          refine WO.no rfl rfl (WO.no rfl rfl (WO.no rfl rfl (WO.p rfl rfl (WO.p rfl rfl ?_))))
                          refine WO.nil ?_
                          refine W.region ?_
                          refine WO.ar rfl rfl rfl (by (first | (unfold in64; omega) | (unfold in64; omega))) rfl (WO.p rfl rfl ?_)
                          refine WO.nil ?_
                          refine' ⟨i + 1, _, ?hp, ?hmu, ⟨rfl, rfl, rfl, rfl, trivial⟩, ?hS⟩
                          case hS => repeat (first | exact Sub.nil | refine Sub.cons (by repeat (first | exact Pick.head | apply Pick.tail)) ?_)
                          case hp => exact ⟨by omega, by first | (refine (bl_f.2 ?_).symm; intro h; have h := hsc.1 h; have h2 := h.2; unfold OkR at h2; first | exact absurd h.1 (by assumption) | omega) | (refine bl_cg ?_; rw [hsc]; unfold OkR; constructor; (intro h; exact ⟨by assumption, by omega⟩); (intro h; omega))⟩
                          case hmu => omega))
                  first
                  | (exfalso; omega)
                  | (refine' DT.r rfl rfl rfl ?hq ?_
                     case hq =>
                       refine WO.no rfl rfl ?_
                       exact WO.nil ⟨rfl, rfl⟩
                     refine' DT.b rfl rfl rfl ?hq ?_
                     case hq =>
                       refine WO.no rfl rfl ?_
                       exact WO.nil ⟨rfl, rfl⟩
                     refine' DT.r rfl rfl rfl ?hq ?_
                     case hq =>
                       refine WO.no rfl rfl ?_
                       exact WO.nil ⟨rfl, rfl⟩
                     refine' DT.b rfl rfl rfl ?hq ?_
                     case hq =>
                       refine WO.no rfl rfl ?_
                       exact WO.nil ⟨rfl, rfl⟩
                     refine' DT.r rfl rfl rfl ?hq ?_
                     case hq =>
                       refine WO.no rfl rfl ?_
                       exact WO.nil ⟨rfl, rfl⟩
                     refine DT.c [_, _] rfl rfl rfl rfl ?_
                     refine WO.no rfl rfl ?_
                     refine WO.nil ⟨_, [_], rfl, rfl, (Keep.r (Keep.b (Keep.r (Keep.b (Keep.r (Keep.r (Keep.r (Keep.f (Keep.c (Keep.r (Keep.b (Keep.r (Keep.r (Keep.r Keep.nil)))))))))))))), ?_⟩
                     refine' DT.f [_, _] rfl rfl rfl rfl ?hq ?_
                     case hq =>
                       refine WO.no rfl rfl ?_
                       exact WO.nil ⟨rfl, rfl⟩
                     refine' DT.r rfl rfl rfl ?hq ?_
                     case hq =>
                       refine WO.p rfl rfl ?_
                       exact WO.nil ⟨rfl, rfl⟩
                     refine' DT.r rfl rfl rfl ?hq ?_
                     case hq =>
                       refine WO.p rfl rfl ?_
                       exact WO.nil ⟨rfl, rfl⟩
                     refine' DT.r rfl rfl rfl ?hq ?_
                     case hq =>
                       refine WO.no rfl rfl ?_
                       exact WO.nil ⟨rfl, rfl⟩
                     refine' DT.b rfl rfl rfl ?hq ?_
                     case hq =>
                       refine WO.no rfl rfl ?_
                       exact WO.nil ⟨rfl, rfl⟩
                     refine' DT.r rfl rfl rfl ?hq ?_
                     case hq =>
                       refine WO.no rfl rfl ?_
                       exact WO.nil ⟨rfl, rfl⟩
                     refine' DT.b rfl rfl rfl ?hq ?_
                     case hq =>
                       refine WO.no rfl rfl ?_
                       exact WO.nil ⟨rfl, rfl⟩
                     refine DT.nil [_, _] rfl ?_
                     refine WO.no rfl rfl (WO.no rfl rfl (WO.no rfl rfl (WO.p rfl rfl (WO.p rfl rfl ?_))))
                     refine WO.nil ?_
                     refine W.region ?_
                     refine WO.ar rfl rfl rfl (by (first | (unfold in64; omega) | (unfold in64; omega))) rfl (WO.p rfl rfl ?_)
                     refine WO.nil ?_
                     refine' ⟨i + 1, _, ?hp, ?hmu, ⟨rfl, rfl, rfl, rfl, trivial⟩, ?hS⟩
                     case hS => repeat (first | exact Sub.nil | refine Sub.cons (by repeat (first | exact Pick.head | apply Pick.tail)) ?_)
                     case hp => exact ⟨by omega, by first | (refine (bl_f.2 ?_).symm; intro h; have h := hsc.1 h; have h2 := h.2; unfold OkR at h2; first | exact absurd h.1 (by assumption) | omega) | (refine bl_cg ?_; rw [hsc]; unfold OkR; constructor; (intro h; exact ⟨by assumption, by omega⟩); (intro h; omega))⟩
                     case hmu => omega))
             first
             | (exfalso; omega)
             | (refine' DT.r rfl rfl rfl ?hq ?_
                case hq =>
                  refine WO.no rfl rfl ?_
                  exact WO.nil ⟨rfl, rfl⟩
                refine' DT.b rfl rfl rfl ?hq ?_
                case hq =>
                  refine WO.no rfl rfl ?_
                  exact WO.nil ⟨rfl, rfl⟩
                refine' DT.r rfl rfl rfl ?hq ?_
                case hq =>
                  refine WO.no rfl rfl ?_
                  exact WO.nil ⟨rfl, rfl⟩
                refine DT.c [_] rfl rfl rfl rfl ?_
                refine WO.no rfl rfl ?_
                refine WO.nil ⟨_, [], rfl, rfl, (Keep.r (Keep.b (Keep.r (Keep.r (Keep.r Keep.nil))))), ?_⟩
                refine' DT.f [_] rfl rfl rfl rfl ?hq ?_
                case hq =>
                  refine WO.no rfl rfl ?_
                  exact WO.nil ⟨rfl, rfl⟩
                refine' DT.r rfl rfl rfl ?hq ?_
                case hq =>
                  refine WO.p rfl rfl ?_
                  exact WO.nil ⟨rfl, rfl⟩
                refine' DT.r rfl rfl rfl ?hq ?_
                case hq =>
                  refine WO.p rfl rfl ?_
                  exact WO.nil ⟨rfl, rfl⟩
                refine' DT.r rfl rfl rfl ?hq ?_
                case hq =>
                  refine WO.no rfl rfl ?_
                  exact WO.nil ⟨rfl, rfl⟩
                refine' DT.b rfl rfl rfl ?hq ?_
                case hq =>
                  refine WO.no rfl rfl ?_
                  exact WO.nil ⟨rfl, rfl⟩
                refine' DT.r rfl rfl rfl ?hq ?_
                case hq =>
                  refine WO.no rfl rfl ?_
                  exact WO.nil ⟨rfl, rfl⟩
                refine' DT.b rfl rfl rfl ?hq ?_
                case hq =>
                  refine WO.no rfl rfl ?_
                  exact WO.nil ⟨rfl, rfl⟩
                refine' DT.r rfl rfl rfl ?hq ?_
                case hq =>
                  refine WO.no rfl rfl ?_
                  exact WO.nil ⟨rfl, rfl⟩
                refine DT.c [_] rfl rfl rfl rfl ?_
                refine WO.no rfl rfl ?_
                refine WO.nil ⟨_, [], rfl, rfl, (Keep.r (Keep.b (Keep.r (Keep.b (Keep.r (Keep.r (Keep.r (Keep.f (Keep.c (Keep.r (Keep.b (Keep.r (Keep.r (Keep.r Keep.nil)))))))))))))), ?_⟩
                refine' DT.f [_] rfl rfl rfl rfl ?hq ?_
                case hq =>
                  refine WO.no rfl rfl ?_
                  exact WO.nil ⟨rfl, rfl⟩
                refine' DT.r rfl rfl rfl ?hq ?_
                case hq =>
                  refine WO.p rfl rfl ?_
                  exact WO.nil ⟨rfl, rfl⟩
                refine' DT.r rfl rfl rfl ?hq ?_
                case hq =>
                  refine WO.p rfl rfl ?_
                  exact WO.nil ⟨rfl, rfl⟩
                refine' DT.r rfl rfl rfl ?hq ?_
                case hq =>
                  refine WO.no rfl rfl ?_
                  exact WO.nil ⟨rfl, rfl⟩
                refine' DT.b rfl rfl rfl ?hq ?_
                case hq =>
                  refine WO.no rfl rfl ?_
                  exact WO.nil ⟨rfl, rfl⟩
                refine' DT.r rfl rfl rfl ?hq ?_
                case hq =>
                  refine WO.no rfl rfl ?_
                  exact WO.nil ⟨rfl, rfl⟩
                refine' DT.b rfl rfl rfl ?hq ?_
                case hq =>
                  refine WO.no rfl rfl ?_
                  exact WO.nil ⟨rfl, rfl⟩
                refine DT.nil [_] rfl ?_
                refine WO.no rfl rfl (WO.no rfl rfl (WO.no rfl rfl (WO.p rfl rfl (WO.p rfl rfl ?_))))
                refine WO.nil ?_
                refine W.region ?_
                refine WO.ar rfl rfl rfl (by (first | (unfold in64; omega) | (unfold in64; omega))) rfl (WO.p rfl rfl ?_)
                refine WO.nil ?_
                refine' ⟨i + 1, _, ?hp, ?hmu, ⟨rfl, rfl, rfl, rfl, trivial⟩, ?hS⟩
                case hS => repeat (first | exact Sub.nil | refine Sub.cons (by repeat (first | exact Pick.head | apply Pick.tail)) ?_)
                case hp => exact ⟨by omega, by first | (refine (bl_f.2 ?_).symm; intro h; have h := hsc.1 h; have h2 := h.2; unfold OkR at h2; first | exact absurd h.1 (by assumption) | omega) | (refine bl_cg ?_; rw [hsc]; unfold OkR; constructor; (intro h; exact ⟨by assumption, by omega⟩); (intro h; omega))⟩
                case hmu => omega))
        first
        | (exfalso; omega)
        | (refine W.exit (blk_same ?_)
           refine W.seq ?_
           refine W.sreg ?_
           refine WO.p rfl rfl (WO.p rfl rfl ?_)
           refine WO.nil ?_
           refine W.cond_nbl rfl (fun c4 => ?_) (fun c4 => ?_)
           · first
             | (exfalso; omega)
             | (refine W.sreg ?_
                refine WO.p rfl rfl ?_
                refine WO.nil ?_
                refine W.ret ?_
                refine fin.ret (Res.one rfl (RV.tmp rfl)) (congrArg (Value.int .i64) ?_)
                first | exact (chkD6 (by omega)).symm | (have h3 : ¬ OkD a b (l.take i) := (by assumption); rw [show i = l.length by omega, List.take_length] at h3; exact (chkD2 (by omega) h3).symm) | (have h3 : OkD a b (l.take i) := (by assumption); rw [show i = l.length by omega, List.take_length] at h3; exact (chkD0.2 ⟨by omega, h3⟩).symm))
           first
           | (exfalso; omega)
           | (refine W.skip ?_
              refine W.sreg ?_
              refine WO.p rfl rfl ?_
              refine WO.nil ?_
              refine W.ret ?_
              refine fin.ret (Res.one rfl (RV.tmp rfl)) (congrArg (Value.int .i64) ?_)
              first | exact (chkD6 (by omega)).symm | (have h3 : ¬ OkD a b (l.take i) := (by assumption); rw [show i = l.length by omega, List.take_length] at h3; exact (chkD2 (by omega) h3).symm) | (have h3 : OkD a b (l.take i) := (by assumption); rw [show i = l.length by omega, List.take_length] at h3; exact (chkD0.2 ⟨by omega, h3⟩).symm)))))
end Go.Proofs.Ytkonhpcldomidaa
namespace Go.Proofs.Ytkonhpcldomidaa
open Go Go.TH
attribute [local irreducible] W WO pt
set_option maxRecDepth 10000
set_option maxHeartbeats 1000000
/-- the energy after a minute -/
def dyn (k e : Int) : Int := (e * k).tdiv 1000
/-- the energy after some minutes -/
def en (k e : Int) : Nat → Int
  | 0 => e
  | m + 1 => dyn k (en k e m)
/-- energies and what is kept that are valid -/
def OkE (k e : Int) : Prop := (0 ≤ k ∧ k ≤ 1000) ∧ 0 ≤ e ∧ e ≤ 1000000
theorem mul_kn {k e : Int} (h : OkE k e) : 0 ≤ e * k ∧ e * k ≤ e * 1000 := by
  have h1 := Int.mul_nonneg h.2.1 h.1.1
  have h2 := Int.mul_le_mul_of_nonneg_left h.1.2 h.2.1
  exact ⟨h1, h2⟩
theorem dyn_bd {k e : Int} (h : OkE k e) : 0 ≤ dyn k e ∧ dyn k e ≤ e := by
  have h1 := mul_kn h
  unfold dyn
  rw [Int.tdiv_eq_ediv_of_nonneg h1.1]
  generalize e * k = q at h1
  omega
theorem en_ok {k e : Int} (h : OkE k e) : ∀ m, OkE k (en k e m)
  | 0 => h
  | m + 1 => by
    have ih := en_ok h m
    have := dyn_bd ih
    exact ⟨h.1, by unfold en; omega, by have := ih.2.2; unfold en; omega⟩
theorem en_le {k e : Int} (h : OkE k e) (m : Nat) : en k e (m + 1) ≤ en k e m := (dyn_bd (en_ok h m)).2
theorem en_mul {k e : Int} (h : OkE k e) (m : Nat) : 0 ≤ en k e m * k ∧ en k e m * k ≤ 1000000000 := by
  have h1 := en_ok h m
  have h2 := mul_kn h1
  have h3 := h1.2
  generalize en k e m * k = q at h2
  omega
/-- the first number for which something is so -/
def fi (p : Nat → Prop) [DecidablePred p] : Nat → Nat
  | 0 => 0
  | n + 1 => if fi p n < n then fi p n else if p n then n else n + 1
theorem fi_spec (p : Nat → Prop) [DecidablePred p] : ∀ n, fi p n ≤ n ∧ (fi p n < n → p (fi p n)) ∧ ∀ j, j < fi p n → ¬ p j
  | 0 => ⟨Nat.le_refl _, fun h => by simp [fi] at h, fun j h => by simp [fi] at h⟩
  | n + 1 => by
    obtain ⟨h1, h2, h3⟩ := fi_spec p n
    unfold fi
    split
    · exact ⟨by omega, fun _ => h2 (by assumption), h3⟩
    split
    · refine ⟨by omega, fun _ => by assumption, fun j hj => h3 j (by omega)⟩
    refine ⟨by omega, fun h => by omega, fun j hj => ?_⟩
    rcases Nat.lt_or_ge j (fi p n) with g | g
    · exact h3 j g
    rw [show j = n by omega]; assumption
theorem fi_eq {p : Nat → Prop} [DecidablePred p] {n j : Nat} (h1 : j ≤ n) (h2 : j < n → p j) (h3 : ∀ i, i < j → ¬ p i) : fi p n = j := by
  obtain ⟨g1, g2, g3⟩ := fi_spec p n
  rcases Nat.lt_trichotomy (fi p n) j with g | g | g
  · exact absurd (g2 (by omega)) (h3 _ g)
  · exact g
  exact absurd (h2 (by omega)) (g3 _ g)
/-- how long waves become less -/
def dyS (k e : Int) : Nat := fi (fun m => en k e (m + 1) = en k e m) e.toNat
theorem en_down {k e : Int} (h : OkE k e) : ∀ m, (∀ j, j < m → en k e (j + 1) ≠ en k e j) → en k e m ≤ e - (m : Int)
  | 0, _ => by simp [en]
  | m + 1, hm => by
    have ih := en_down h m (fun j hj => hm j (by omega))
    have h1 := hm m (by omega)
    have h2 := en_le h m
    omega
theorem dyS_stop {k e : Int} (h : OkE k e) : en k e (dyS k e + 1) = en k e (dyS k e) := by
  obtain ⟨g1, g2, g3⟩ := fi_spec (fun m => en k e (m + 1) = en k e m) e.toNat
  rcases Nat.lt_or_ge (dyS k e) e.toNat with g | g
  · exact g2 g
  have e1 : dyS k e = e.toNat := by have : dyS k e ≤ e.toNat := g1; omega
  have h1 := en_down h (dyS k e) g3
  have h2 := en_ok h (dyS k e)
  have h3 := en_ok h (dyS k e + 1)
  have h4 := en_le h (dyS k e)
  have := h2.2.1
  have := h3.2.1
  omega
theorem dyS_go {k e : Int} {m : Nat} (h : m < dyS k e) : en k e (m + 1) ≠ en k e m := (fi_spec (fun m => en k e (m + 1) = en k e m) e.toNat).2.2 m h
theorem dyS_le {k e : Int} (h : OkE k e) : dyS k e ≤ 1000000 := by
  have h1 : dyS k e ≤ e.toNat := (fi_spec (fun m => en k e (m + 1) = en k e m) e.toNat).1
  have := h.2
  omega
theorem en_same {k e : Int} {n : Nat} (h : en k e (n + 1) = en k e n) : ∀ m, n ≤ m → en k e m = en k e n
  | 0, g => by rw [show n = 0 by omega]
  | m + 1, g => by
    rcases Nat.lt_or_ge m n with q | q
    · rw [show m + 1 = n by omega]
    show dyn k (en k e m) = _
    rw [en_same h m q]; exact h
theorem ref_after (w : World) (k e : Int) (n : Nat) (h : OkE k e) (hn : n ≤ 1000000000) : Ret Try.prog 44 [.int .i64 e, .int .i64 k, .int .i64 (n : Int)].toArray w (.int .i64 (en k e n)) := by
  refine Ret.of mixed tyTab Try.func44 rfl rfl ?_
  refine W.sreg ?_
  refine WO.p rfl rfl ?_
  refine WO.nil ?_
  refine W.seq ?_
  refine W.sreg ?_
  refine WO.p rfl rfl ?_
  refine WO.nil ?_
  refine W.block ?_
  refine W.loop (fun (m : Nat) => m ≤ n)
    (fun (m : Nat) => [(0, .int .i64 (en k e m)), (1, .int .i64 k), (2, .int .i64 (n : Int)), (7, .int .i64 (m : Int))])
    (fun (m : Nat) => [])
    (fun (m : Nat) => n - m) 0
    (by exact Nat.zero_le _) ⟨rfl, rfl, rfl, rfl, trivial⟩ (by repeat (first | exact Sub.nil | refine Sub.cons (by repeat (first | exact Pick.head | apply Pick.tail)) ?_)) ?_
  rintro m hm
  refine W.seq ?_
  refine W.sreg ?_
  refine WO.p rfl rfl (WO.p rfl rfl (WO.p rfl rfl ?_))
  refine WO.nil ?_
  refine W.cond_bl rfl (fun c1 => ?_) (fun c1 => ?_)
  · first
    | (exfalso; omega)
    | (refine W.skip ?_
       refine W.seq ?_
       refine W.block ?_
       have hml := en_mul h m
       have hdb := dyn_bd (en_ok h m)
       have hem := en_ok h m
       refine W.sreg ?_
       refine WO.p rfl rfl (WO.p rfl rfl (WO.ar rfl rfl rfl (by (first | (unfold in64; omega) | (unfold in64; omega))) rfl ?_))
       refine WO.quo rfl rfl (by omega) (by have q := en_ok h (m + 1); unfold OkE at q; have : (en k e m * k).tdiv 1000 = en k e (m + 1) := rfl; unfold in64; omega) rfl ?_
       rw [show (en k e m * k).tdiv 1000 = en k e (m + 1) from rfl]
       refine WO.p rfl rfl ?_
       refine WO.nil ?_
       refine W.seq ?_
       refine W.sreg ?_
       refine WO.p rfl rfl (WO.p rfl rfl (WO.p rfl rfl ?_))
       refine WO.nil ?_
       refine W.cond_bl rfl (fun c2 => ?_) (fun c2 => ?_)
       · first
         | (exfalso; omega)
         | (refine W.sreg ?_
            refine WO.p rfl rfl (WO.p rfl rfl ?_)
            refine WO.nil ?_
            refine W.ret ?_
            refine fin.ret (Res.one rfl (RV.tmp rfl)) (congrArg (Value.int .i64) ?_)
            first | (rw [show m = n by omega]; done) | exact (en_same (show en k e (m + 1) = en k e m by assumption) n hm).symm)
       first
       | (exfalso; omega)
       | (refine W.skip ?_
          refine W.region ?_
          refine WO.p rfl rfl (WO.p rfl rfl ?_)
          refine WO.nil ?_
          refine W.region ?_
          refine WO.p rfl rfl (WO.ar rfl rfl rfl (by (first | (unfold in64; omega) | (unfold in64; omega))) rfl (WO.p rfl rfl ?_))
          refine WO.nil ?_
          refine' ⟨m + 1, ?hp, ?hmu, ⟨rfl, rfl, rfl, rfl, trivial⟩, ?hS⟩
          case hS => repeat (first | exact Sub.nil | refine Sub.cons (by repeat (first | exact Pick.head | apply Pick.tail)) ?_)
          case hp => omega
          case hmu => omega))
  first
  | (exfalso; omega)
  | (refine W.exit (blk_same ?_)
     refine W.sreg ?_
     refine WO.p rfl rfl (WO.p rfl rfl ?_)
     refine WO.nil ?_
     refine W.ret ?_
     refine fin.ret (Res.one rfl (RV.tmp rfl)) (congrArg (Value.int .i64) ?_)
     first | (rw [show m = n by omega]; done) | exact (en_same (show en k e (m + 1) = en k e m by assumption) n hm).symm)
/-- what dying yields -/
def dyV (k e : Int) : List (Value × Value) := (List.range (dyS k e + 1)).map fun (m : Nat) => (.int .i64 (m : Int), .int .i64 (en k e m))
theorem dyV_len (k e : Int) : (dyV k e).length = dyS k e + 1 := by simp [dyV]
theorem dyV_get {k e : Int} {m : Nat} (h : m ≤ dyS k e) : (dyV k e)[m]? = some (.int .i64 (m : Int), .int .i64 (en k e m)) := by
  unfold dyV; rw [List.getElem?_map, List.getElem?_range (by omega)]; rfl
theorem dyV_at {k e : Int} {m : Nat} {x : Value × Value} (h : (dyV k e)[m]? = some x) : m ≤ dyS k e ∧ x = (.int .i64 (m : Int), .int .i64 (en k e m)) := by
  have h1 := (List.getElem?_eq_some_iff.1 h).1
  rw [dyV_len] at h1
  have h2 : m ≤ dyS k e := by omega
  rw [dyV_get h2] at h
  exact ⟨h2, (Option.some.inj h).symm⟩
theorem c_dying (w : World) (e k : Int) : Ct Try.prog 61 [.int .i64 e, .int .i64 k].toArray w fun v w' => ∃ Hq, (∃ b1 b2, v = .func (.func 71) #[] #[.pointer (some ⟨b1, 0, none⟩), .pointer (some ⟨b2, 0, none⟩)] ∧
    Hq = [pt b2 (.cells #[.int .i64 k] 2 (0, 0)), pt b1 (.cells #[.int .i64 e] 2 (0, 0))]) ∧ Inv w [] Hq w' := by
  refine Ct.of mixed tyTab Try.func61 rfl rfl ?_
  refine W.sreg ?_
  refine WO.box1 rfl (by first | rfl | assumption) rfl (fun b1 hb1 => ?_)
  refine WO.box1 rfl (by first | rfl | assumption) rfl (fun b2 hb2 => ?_)
  refine WO.p rfl rfl ?_
  refine WO.nil ?_
  refine W.sreg ?_
  refine WO.p rfl rfl (WO.p rfl rfl ?_)
  refine WO.nil ?_
  refine W.ret ?_
  exact fin.ret (Res.one rfl (RV.tmp rfl)) ⟨b1, b2, rfl, rfl⟩
theorem c_dying1 (B : Nat) (wr : World) (k e : Int) (h : OkE k e) (last : Nat) (l : Nat) (Hc : Nat → List HP) (hy : ∀ m x, (dyV k e)[m]? = some x → m ≤ last → YieldB Try.prog B wr l #[x.1, x.2] (bl (m < last)) (Hc m) (Hc (m + 1))) (b1 b2 : Nat) (w : World) (M' : List Nat) (hB : B ≤ w.heap.size) (hk : ∀ k, k < B → w.heap[k]? = wr.heap[k]?) (hM : ∀ b ∈ M', B ≤ b)
    (hi : Inv w M' ([pt b2 (.cells #[.int .i64 k] 2 (0, 0)), pt b1 (.cells #[.int .i64 e] 2 (0, 0))] ++ Hc 0) w) :
    Ct Try.prog 71 ([.func (.yield l) #[] #[], .pointer (some ⟨b1, 0, none⟩), .pointer (some ⟨b2, 0, none⟩)] : List Value).toArray w fun _ w' => Inv w M' ([] ++ Hc (min (dyV k e).length (last + 1))) w' := by
  refine Iter.ofD (Hit := [pt b2 (.cells #[.int .i64 k] 2 (0, 0)), pt b1 (.cells #[.int .i64 e] 2 (0, 0))]) (Hit' := []) (A := Hc 0) mixed tyTab hB hM Try.func71 rfl rfl hi ?_
  have hS := dyS_le h
  refine W.sreg ?_
  refine WO.p rfl rfl ?_
  refine WO.nil ?_
  refine W.block ?_
  refine W.loop (fun (m : Nat) => m ≤ dyS k e ∧ m ≤ last)
    (fun (m : Nat) => [(0, .func (.yield l) #[] #[]), (1, .pointer (some ⟨b1, 0, none⟩)), (2, .pointer (some ⟨b2, 0, none⟩)), (4, .int .i64 (m : Int))])
    (fun (m : Nat) => [pt b1 (.cells #[.int .i64 (en k e m)] 2 (0, 0)), pt b2 (.cells #[.int .i64 k] 2 (0, 0)), sat (Hc m)])
    (fun (m : Nat) => dyS k e - m) 0
    (by exact ⟨by omega, by omega⟩) ⟨rfl, rfl, rfl, rfl, trivial⟩ (by repeat (first | exact Sub.nil | refine Sub.cons (by repeat (first | exact Pick.head | apply Pick.tail)) ?_)) ?_
  rintro m ⟨hm, hml⟩
  refine W.seq ?_
  refine W.sreg ?_
  refine WO.p rfl rfl (WO.p rfl rfl (WO.load rfl rfl (Cell.own Pick.head rfl) rfl ?_))
  refine WO.yieldB0 (go := bl (m < last)) rfl rfl (by repeat (first | exact Pick.head | apply Pick.tail)) (((hy _ _ (dyV_get hm) hml).one0).agree hk) rfl ?_
  refine WO.nil ?_
  refine W.cond_bl rfl (fun c1 => ?_) (fun c1 => ?_)
  · first
    | (exfalso; omega)
    | (refine W.skip ?_
       refine W.seq ?_
       refine W.block ?_
       have hmu := en_mul h m
       refine W.sreg ?_
       refine WO.load rfl rfl (Cell.own (Pick.tail (Pick.head)) rfl) rfl (WO.load rfl rfl (Cell.own (Pick.tail (Pick.tail (Pick.head))) rfl) rfl (WO.ar rfl rfl rfl (by (first | (unfold in64; omega) | (unfold in64; omega))) rfl ?_))
       refine WO.quo rfl rfl (by omega) (by have q := en_ok h (m + 1); unfold OkE at q; have : (en k e m * k).tdiv 1000 = en k e (m + 1) := rfl; unfold in64; omega) rfl ?_
       rw [show (en k e m * k).tdiv 1000 = en k e (m + 1) from rfl]
       refine WO.p rfl rfl ?_
       refine WO.nil ?_
       refine W.seq ?_
       refine W.sreg ?_
       refine WO.p rfl rfl (WO.load rfl rfl (Cell.own (Pick.tail (Pick.head)) rfl) rfl (WO.p rfl rfl ?_))
       refine WO.nil ?_
       refine W.cond_bl rfl (fun c2 => ?_) (fun c2 => ?_)
       · first
         | (exfalso; omega)
         | (refine W.ret ?_
            have hge : dyS k e ≤ m := by (rcases Nat.lt_or_ge m (dyS k e) with g | g; exact absurd (by assumption) (dyS_go g); exact g)
            refine fin.ret (Res.none rfl) ?_
            rw [dyV_len, show min (dyS k e + 1) (last + 1) = m + 1 by omega]
            exact (by repeat (first | exact Sub.nil | refine Sub.cons (by repeat (first | exact Pick.head | apply Pick.tail)) ?_)))
       first
       | (exfalso; omega)
       | (refine W.skip ?_
          have hlt : m < dyS k e := by (rcases Nat.lt_or_ge m (dyS k e) with g | g; exact g; (exfalso; exact absurd (by rw [show m = dyS k e by omega]; exact dyS_stop h) (show ¬ en k e (m + 1) = en k e m by assumption)))
          refine W.region ?_
          refine WO.p rfl rfl (WO.store1 rfl rfl rfl (by first | rfl | assumption) (Pick.tail (Pick.head)) rfl ?_)
          refine WO.nil ?_
          refine W.region ?_
          refine WO.p rfl rfl (WO.ar rfl rfl rfl (by (first | (unfold in64; omega) | (unfold in64; omega))) rfl (WO.p rfl rfl ?_))
          refine WO.nil ?_
          refine' ⟨m + 1, ?hp, ?hmu, ⟨rfl, rfl, rfl, rfl, trivial⟩, ?hS⟩
          case hS => repeat (first | exact Sub.nil | refine Sub.cons (by repeat (first | exact Pick.head | apply Pick.tail)) ?_)
          case hp => exact ⟨hlt, by have : m < last := (by assumption); omega⟩
          case hmu => omega))
  first
  | (exfalso; omega)
  | (refine W.exit (blk_same ?_)
     refine fin.normal (Res.none rfl) ?_
     rw [dyV_len, show min (dyS k e + 1) (last + 1) = m + 1 by omega]
     exact (by repeat (first | exact Sub.nil | refine Sub.cons (by repeat (first | exact Pick.head | apply Pick.tail)) ?_)))
def enP (k e : Int) : Nat → Int
  | 0 => e
  | m + 1 => en k e m
theorem c_left (w : World) (k e : Int) (n : Nat) (h : OkE k e) : Ret Try.prog 42 [.int .i64 e, .int .i64 k, .int .i64 (n : Int)].toArray w (.int .i64 (en k e n)) := by
  refine Ret.of mixed tyTab Try.func42 rfl rfl ?_
  refine W.sreg ?_
  refine WO.box1 rfl (by first | rfl | assumption) rfl (fun b1 hb1 => ?_)
  refine WO.p rfl rfl ?_
  refine WO.nil ?_
  refine W.sreg ?_
  refine WO.p rfl rfl ?_
  refine WO.alloc rfl rfl rfl (fun b2 hb2 => ?_)
  refine WO.store1 rfl rfl rfl (by first | rfl | assumption) Pick.head rfl ?_
  refine WO.nil ?_
  refine W.seq ?_
  refine W.sreg ?_
  refine WO.p rfl rfl (WO.p rfl rfl ?_)
  refine WO.call rfl Try.call61 (fun L w hi => c_dying w e k) rfl ?_
  rintro _ _ ⟨b5, b6, rfl, rfl⟩
  refine WO.nil ?_
  refine W.block ?_
  refine W.rangeFuncB2 (Jmp.exit 0) [pt b6 (.cells #[.int .i64 k] 2 (0, 0)), pt b5 (.cells #[.int .i64 e] 2 (0, 0))] [] (fun m => [pt b1 (.cells #[.int .i64 (n : Int)] 2 (0, 0)), pt b2 (.cells #[.int .i64 (enP k e m)] 2 (0, 0))]) (dyV k e) (n) rfl rfl rfl rfl Try.call71 (by repeat (first | exact Sub.nil | refine Sub.cons (by repeat (first | exact Pick.head | apply Pick.tail)) ?_)) ?_ ?_ ?_ ?_
  · intro ll Hc hy w1 M1 hB1 hk1 hM1 hi1
    exact c_dying1 _ _ k e h n ll Hc hy b5 b6 w1 M1 hB1 hk1 hM1 hi1
  · intro ll w1 M1 hB1 hM1 hk1 m x hx hle1
    obtain ⟨hm, rfl⟩ := dyV_at hx
    refine W.sreg ?_
    refine WO.p rfl rfl ?_
    refine WO.nil ?_
    refine W.region ?_
    refine WO.p rfl rfl ?_
    refine WO.nil ?_
    refine W.block ?_
    refine W.sreg ?_
    refine WO.p rfl rfl (WO.store1 rfl rfl rfl (by first | rfl | assumption) (Pick.tail (Pick.head)) rfl ?_)
    refine WO.nil ?_
    refine W.sreg ?_
    refine WO.p rfl rfl (WO.load rfl rfl (Cell.own (Pick.tail (Pick.head)) rfl) rfl (WO.p rfl rfl ?_))
    refine WO.nil ?_
    refine W.cond_bl rfl (fun c1 => ?_) (fun c1 => ?_)
    · first
      | (exfalso; omega)
      | (refine W.exit (blk_other rfl ?_)
         refine endR.stop (bl_f.2 (by omega)) rfl (fun h hs => Sub.sat (by repeat (first | exact Sub.nil | refine Sub.cons (by repeat (first | exact Pick.head | apply Pick.tail)) ?_)) hs))
    first
    | (exfalso; omega)
    | (refine W.skip ?_
       refine endR.go (bl_t.2 (by omega)) (fun h hs => Sub.sat (by repeat (first | exact Sub.nil | refine Sub.cons (by repeat (first | exact Pick.head | apply Pick.tail)) ?_)) hs))
  · intro hAll
    rw [dyV_len] at hAll ⊢
    refine W.sreg ?_
    refine WO.load rfl rfl (Cell.own (Pick.tail (Pick.head)) rfl) rfl (WO.p rfl rfl ?_)
    refine WO.nil ?_
    refine W.ret ?_
    refine fin.ret (Res.one rfl (RV.tmp rfl)) (congrArg (Value.int .i64) ?_)
    first | rfl | exact (en_same (dyS_stop h) n (by omega)).symm
  intro hStop
  skip
  refine W.exit (blk_same ?_)
  refine W.sreg ?_
  refine WO.load rfl rfl (Cell.own (Pick.tail (Pick.head)) rfl) rfl (WO.p rfl rfl ?_)
  refine WO.nil ?_
  refine W.ret ?_
  refine fin.ret (Res.one rfl (RV.tmp rfl)) (congrArg (Value.int .i64) ?_)
  first | rfl | exact (en_same (dyS_stop h) n (by omega)).symm
/-- what Left answers -/
def LtP (a b e k mn : Int) : Prop := (0 ≤ e ∧ e ≤ 1000000) ∧ (a ≤ k ∧ k ≤ b) ∧ 0 ≤ mn ∧ mn ≤ 1000
instance (a b e k mn : Int) : Decidable (LtP a b e k mn) := by unfold LtP; infer_instance
def ltE (a b : Int) (l : List Rn) (e k mn : Int) : Int := if chkD a b l ≠ 0 then chkD a b l else if LtP a b e k mn then 0 else 3
def ltN (a b : Int) (l : List Rn) (e k mn : Int) : Int := if ltE a b l e k mn = 0 then en k e mn.toNat else 0
def ltV (a b : Int) (l : List Rn) (e k mn : Int) : Value := .tuple #[.int .i64 (ltN a b l e k mn), .int .i64 (ltE a b l e k mn)]
theorem ltV_bad {a b : Int} {l : List Rn} {e k mn : Int} (h : chkD a b l ≠ 0) : ltV a b l e k mn = .tuple #[.int .i64 0, .int .i64 (chkD a b l)] := by
  have e1 : ltE a b l e k mn = chkD a b l := if_pos h
  unfold ltV ltN; rw [e1, if_neg h]
theorem ltV_3 {a b : Int} {l : List Rn} {e k mn : Int} (h : ¬ chkD a b l ≠ 0) (g : ¬ LtP a b e k mn) : ltV a b l e k mn = .tuple #[.int .i64 0, .int .i64 3] := by
  have e1 : ltE a b l e k mn = 3 := by unfold ltE; rw [if_neg h, if_neg g]
  unfold ltV ltN; rw [e1, if_neg (by omega)]
theorem ltV_0 {a b : Int} {l : List Rn} {e k mn : Int} (h : ¬ chkD a b l ≠ 0) (g : LtP a b e k mn) : ltV a b l e k mn = .tuple #[.int .i64 (en k e mn.toNat), .int .i64 0] := by
  have e1 : ltE a b l e k mn = 0 := by unfold ltE; rw [if_neg h, if_pos g]
  unfold ltV ltN; rw [e1, if_pos rfl]
theorem ref_Left (w : World) (v : Value) (a b : Int) (l : List Rn) (e k mn : Int) (hR : RdF encR 6 w.heap.size w v l) : Ret Try.prog 32 [dayV a b v, .int .i64 e, .int .i64 k, .int .i64 mn].toArray w (ltV a b l e k mn) := by
  refine Ret.of mixed tyTab Try.func32 rfl rfl ?_
  replace hR : RdF encR 6 (fnCx mixed tyTab Try.f32.ntmps w).B (fnCx mixed tyTab Try.f32.ntmps w).w0 v l := hR
  have ho := hR.sl.oc
  refine W.sreg ?_
  refine WO.boxA rfl rfl (fun b1 hb1 => ?_)
  refine WO.p rfl rfl (WO.p rfl rfl ?_)
  refine WO.nil ?_
  refine W.seq ?_
  refine W.sreg ?_
  refine WO.loadA rfl rfl (Cells.own Pick.head) rfl rfl ?_
  refine WO.callR rfl Try.call35 (fun L w hi => ref_CheckDay w v a b l (hR.later hi)) rfl ?_
  refine WO.p rfl rfl ?_
  refine WO.nil ?_
  refine W.cond_bl rfl (fun c1 => ?_) (fun c1 => ?_)
  · first
    | (exfalso; omega)
    | (refine W.sreg ?_
       refine WO.loadA rfl rfl (Cells.own Pick.head) rfl rfl ?_
       refine WO.callR rfl Try.call35 (fun L w hi => ref_CheckDay w v a b l (hR.later hi)) rfl ?_
       refine WO.p rfl rfl (WO.p rfl rfl ?_)
       refine WO.nil ?_
       refine W.ret ?_
       first | (rw [ltV_bad (by assumption)]; exact fin.ret (Res.two rfl (RV.tmp rfl) (RV.tmp rfl)) rfl) | (rw [ltV_3 (by omega) (by unfold LtP; omega)]; exact fin.ret (Res.two rfl (RV.tmp rfl) (RV.tmp rfl)) rfl) | (rw [ltV_0 (by omega) (by unfold LtP; omega)]; exact fin.ret (Res.two rfl (RV.tmp rfl) (RV.tmp rfl)) rfl))
  first
  | (exfalso; omega)
  | (refine W.skip ?_
     refine W.seq ?_
     refine W.sreg ?_
     refine WO.p rfl rfl ?_
     refine WO.callR rfl Try.call43 (fun L w hi => ref_between w _ _ _) rfl ?_
     refine WO.p rfl rfl (WO.p rfl rfl ?_)
     refine WO.guard_nbl rfl rfl (fun c2 => ?_) (fun c2 => ?_)
     · first
       | (exfalso; omega)
       | (refine WO.no rfl rfl (WO.no rfl rfl (WO.no rfl rfl (WO.no rfl rfl (WO.no rfl rfl (WO.no rfl rfl (WO.no rfl rfl (WO.no rfl rfl (WO.no rfl rfl (WO.p rfl rfl (WO.p rfl rfl (WO.no rfl rfl ?_)))))))))))
          refine WO.no rfl rfl (WO.no rfl rfl (WO.p rfl rfl ?_))
          refine WO.nil ?_
          refine W.cond_t rfl ?_
          refine W.sreg ?_
          refine WO.p rfl rfl (WO.p rfl rfl ?_)
          refine WO.nil ?_
          refine W.ret ?_
          first | (rw [ltV_bad (by assumption)]; exact fin.ret (Res.two rfl (RV.tmp rfl) (RV.tmp rfl)) rfl) | (rw [ltV_3 (by omega) (by unfold LtP; omega)]; exact fin.ret (Res.two rfl (RV.tmp rfl) (RV.tmp rfl)) rfl) | (rw [ltV_0 (by omega) (by unfold LtP; omega)]; exact fin.ret (Res.two rfl (RV.tmp rfl) (RV.tmp rfl)) rfl))
     first
     | (exfalso; omega)
     | (refine WO.pg rfl rfl rfl (WO.go' rfl (WO.field0 rfl rfl rfl (WO.go' rfl (WO.field0 rfl rfl rfl (WO.go' rfl (WO.load rfl rfl (Cell.own Pick.head rfl) rfl (WO.go' rfl (WO.field0 rfl rfl rfl (WO.go' rfl (WO.fieldL rfl rfl rfl (WO.go' rfl ?_)))))))))))
        refine WO.load rfl rfl (Cell.own Pick.head rfl) rfl (WO.go' rfl ?_)
        refine WO.callR rfl Try.call43 (fun L w hi => ref_between w _ _ _) rfl ?_
        refine WO.pg rfl rfl rfl (WO.p rfl rfl (WO.p rfl rfl ?_))
        refine WO.guard_nbl rfl rfl (fun c3 => ?_) (fun c3 => ?_)
        · first
          | (exfalso; omega)
          | (refine WO.no rfl rfl (WO.no rfl rfl (WO.no rfl rfl (WO.p rfl rfl ?_)))
             refine WO.nil ?_
             refine W.cond_t rfl ?_
             refine W.sreg ?_
             refine WO.p rfl rfl (WO.p rfl rfl ?_)
             refine WO.nil ?_
             refine W.ret ?_
             first | (rw [ltV_bad (by assumption)]; exact fin.ret (Res.two rfl (RV.tmp rfl) (RV.tmp rfl)) rfl) | (rw [ltV_3 (by omega) (by unfold LtP; omega)]; exact fin.ret (Res.two rfl (RV.tmp rfl) (RV.tmp rfl)) rfl) | (rw [ltV_0 (by omega) (by unfold LtP; omega)]; exact fin.ret (Res.two rfl (RV.tmp rfl) (RV.tmp rfl)) rfl))
        first
        | (exfalso; omega)
        | (refine WO.pg rfl rfl rfl (WO.go' rfl ?_)
           refine WO.callR rfl Try.call43 (fun L w hi => ref_between w _ _ _) rfl ?_
           refine WO.pg rfl rfl rfl (WO.p rfl rfl ?_)
           refine WO.nil ?_
           refine W.cond_nbl rfl (fun c4 => ?_) (fun c4 => ?_)
           · first
             | (exfalso; omega)
             | (refine W.sreg ?_
                refine WO.p rfl rfl (WO.p rfl rfl ?_)
                refine WO.nil ?_
                refine W.ret ?_
                first | (rw [ltV_bad (by assumption)]; exact fin.ret (Res.two rfl (RV.tmp rfl) (RV.tmp rfl)) rfl) | (rw [ltV_3 (by omega) (by unfold LtP; omega)]; exact fin.ret (Res.two rfl (RV.tmp rfl) (RV.tmp rfl)) rfl) | (rw [ltV_0 (by omega) (by unfold LtP; omega)]; exact fin.ret (Res.two rfl (RV.tmp rfl) (RV.tmp rfl)) rfl))
           first
           | (exfalso; omega)
           | (refine W.skip ?_
              have hcd := chkD0.1 (show chkD a b l = 0 by omega)
              have hok : OkE k e := by have := hcd.2.1; unfold OkK at this; unfold OkE; omega
              obtain ⟨n, rfl⟩ : ∃ n : Nat, mn = (n : Int) := ⟨mn.toNat, by omega⟩
              refine W.sreg ?_
              refine WO.p rfl rfl (WO.p rfl rfl (WO.p rfl rfl ?_))
              refine WO.callR rfl Try.call44 (fun L w hi => ref_after w k e n hok (by omega)) rfl ?_
              refine WO.p rfl rfl (WO.p rfl rfl ?_)
              refine WO.nil ?_
              refine W.ret ?_
              first | (rw [ltV_bad (by assumption)]; exact fin.ret (Res.two rfl (RV.tmp rfl) (RV.tmp rfl)) rfl) | (rw [ltV_3 (by omega) (by unfold LtP; omega)]; exact fin.ret (Res.two rfl (RV.tmp rfl) (RV.tmp rfl)) rfl) | (rw [ltV_0 (by omega) (by unfold LtP; omega)]; exact fin.ret (Res.two rfl (RV.tmp rfl) (RV.tmp rfl)) rfl)))))
theorem c_Left (w : World) (v : Value) (a b : Int) (l : List Rn) (e k mn : Int) (hR : RdF encR 6 w.heap.size w v l) : Ret Try.prog 31 [dayV a b v, .int .i64 e, .int .i64 k, .int .i64 mn].toArray w (ltV a b l e k mn) := by
  refine Ret.of mixed tyTab Try.func31 rfl rfl ?_
  replace hR : RdF encR 6 (fnCx mixed tyTab Try.f31.ntmps w).B (fnCx mixed tyTab Try.f31.ntmps w).w0 v l := hR
  have ho := hR.sl.oc
  refine W.sreg ?_
  refine WO.boxA rfl rfl (fun b1 hb1 => ?_)
  refine WO.p rfl rfl (WO.p rfl rfl ?_)
  refine WO.nil ?_
  refine W.seq ?_
  refine W.sreg ?_
  refine WO.loadA rfl rfl (Cells.own Pick.head) rfl rfl ?_
  refine WO.callR rfl Try.call34 (fun L w hi => c_CheckDay w v a b l (hR.later hi)) rfl ?_
  refine WO.p rfl rfl ?_
  refine WO.nil ?_
  refine W.sreg ?_
  refine WO.p rfl rfl (WO.p rfl rfl ?_)
  refine WO.nil ?_
  refine W.cond_bl rfl (fun c1 => ?_) (fun c1 => ?_)
  · first
    | (exfalso; omega)
    | (refine W.sreg ?_
       refine WO.p rfl rfl (WO.p rfl rfl (WO.p rfl rfl ?_))
       refine WO.nil ?_
       refine W.ret ?_
       first | (rw [ltV_bad (by assumption)]; exact fin.ret (Res.two rfl (RV.tmp rfl) (RV.tmp rfl)) rfl) | (rw [ltV_3 (by omega) (by unfold LtP; omega)]; exact fin.ret (Res.two rfl (RV.tmp rfl) (RV.tmp rfl)) rfl) | (rw [ltV_0 (by omega) (by unfold LtP; omega)]; exact fin.ret (Res.two rfl (RV.tmp rfl) (RV.tmp rfl)) rfl))
  first
  | (exfalso; omega)
  | (refine W.skip ?_
     refine W.seq ?_
     refine W.seq ?_
     refine W.drawD 15 [.r 0 [], .r 1 [], .c 2 [], .f 3 [], .r 4 [], .r 5 [], .r 6 [], .r 7 [], .b 8 [], .r 9 [], .r 10 [], .b 11 [], .r 12 [], .r 13 [], .c 14 []] [] (A0 := []) (Sub.refl _) (by kernel_rfl) ?_ ?_
     · exact (ALok.r (ALok.r (ALok.c (ALok.f (ALok.r (ALok.r (ALok.r (ALok.r (ALok.b (ALok.r (ALok.r (ALok.b (ALok.r (ALok.r (ALok.c ALok.nil)))))))))))))))
     refine' DT.r rfl rfl rfl ?hq ?_
     case hq =>
       refine WO.p rfl rfl ?_
       exact WO.nil ⟨rfl, rfl⟩
     refine' DT.r rfl rfl rfl ?hq ?_
     case hq =>
       refine WO.callR rfl Try.call41 (fun L w hi => c_one w _) rfl ?_
       exact WO.nil ⟨rfl, rfl⟩
     refine DT.c [_] rfl rfl rfl rfl ?_
     refine' WO.buildSl (cs := _) rfl rfl rfl rfl ?hf rfl rfl ?hl rfl (fun v2 => ?_)
     case hf => (conv => lhs; simp [-List.getD_eq_getElem?_getD, fillL, vcl, wrl, TTab.pl?.lget']) <;> rfl
     case hl => rfl
     refine WO.nil ⟨_, [_], rfl, rfl, (Keep.r (Keep.r Keep.nil)), ?_⟩
     refine' DT.f [_, _] rfl rfl rfl rfl ?hq ?_
     case hq =>
       refine WO.callR (r := .bool (bl (0 ≤ e ∧ e ≤ 1000000))) rfl Try.call40 (fun L w hi => by rw [← all1 (p := (e, e)) (lo := 0) (hi := 1000000) (by unfold InR; simp)]; exact c_within w _ [(e, e)] _ _ (RdF.of_ow (e := 23) encP_ok (by repeat (first | exact Pick.head | apply Pick.tail)) hi)) rfl ?_
       exact WO.nil ⟨rfl, rfl⟩
     refine' DT.r rfl rfl rfl ?hq ?_
     case hq =>
       refine WO.p rfl rfl ?_
       exact WO.nil ⟨rfl, rfl⟩
     refine' DT.rNB rfl rfl rfl ?hq (fun c2 => ?_) (fun c2 => ?_)
     case hq =>
       refine WO.p rfl rfl ?_
       exact WO.nil ⟨rfl, rfl⟩
     · first
       | (exfalso; omega)
       | (refine' DT.r rfl rfl rfl ?hq ?_
          case hq =>
            refine WO.no rfl rfl ?_
            exact WO.nil ⟨rfl, rfl⟩
          refine' DT.r rfl rfl rfl ?hq ?_
          case hq =>
            refine WO.no rfl rfl ?_
            exact WO.nil ⟨rfl, rfl⟩
          refine' DT.b rfl rfl rfl ?hq ?_
          case hq =>
            refine WO.no rfl rfl ?_
            exact WO.nil ⟨rfl, rfl⟩
          refine' DT.r rfl rfl rfl ?hq ?_
          case hq =>
            refine WO.no rfl rfl ?_
            exact WO.nil ⟨rfl, rfl⟩
          refine' DT.r rfl rfl rfl ?hq ?_
          case hq =>
            refine WO.no rfl rfl ?_
            exact WO.nil ⟨rfl, rfl⟩
          refine' DT.b rfl rfl rfl ?hq ?_
          case hq =>
            refine WO.no rfl rfl ?_
            exact WO.nil ⟨rfl, rfl⟩
          refine' DT.r rfl rfl rfl ?hq ?_
          case hq =>
            refine WO.no rfl rfl ?_
            exact WO.nil ⟨rfl, rfl⟩
          refine' DT.r rfl rfl rfl ?hq ?_
          case hq =>
            refine WO.no rfl rfl ?_
            exact WO.nil ⟨rfl, rfl⟩
          refine DT.c [_, _] rfl rfl rfl rfl ?_
          refine WO.no rfl rfl ?_
          refine WO.nil ⟨_, [_], rfl, rfl, (Keep.r (Keep.r (Keep.b (Keep.r (Keep.r (Keep.b (Keep.r (Keep.r (Keep.r (Keep.r (Keep.f (Keep.c (Keep.r (Keep.r Keep.nil)))))))))))))), ?_⟩
          refine DT.nil [_, _] rfl ?_
          refine WO.no rfl rfl (WO.no rfl rfl (WO.p rfl rfl (WO.p rfl rfl (WO.no rfl rfl (WO.no rfl rfl (WO.no rfl rfl (WO.no rfl rfl (WO.no rfl rfl (WO.p rfl rfl ?_)))))))))
          refine WO.nil ?_
          refine W.cond_t rfl ?_
          refine W.sreg ?_
          refine WO.p rfl rfl (WO.p rfl rfl ?_)
          refine WO.nil ?_
          refine W.ret ?_
          first | (rw [ltV_bad (by assumption)]; exact fin.ret (Res.two rfl (RV.tmp rfl) (RV.tmp rfl)) rfl) | (rw [ltV_3 (by omega) (by unfold LtP; omega)]; exact fin.ret (Res.two rfl (RV.tmp rfl) (RV.tmp rfl)) rfl) | (rw [ltV_0 (by omega) (by unfold LtP; omega)]; exact fin.ret (Res.two rfl (RV.tmp rfl) (RV.tmp rfl)) rfl))
     first
     | (exfalso; omega)
     | (refine' DT.r rfl rfl rfl ?hq ?_
        case hq =>
          refine WO.go' rfl (WO.field0 rfl rfl rfl ?_)
          exact WO.nil ⟨rfl, rfl⟩
        refine' DT.r rfl rfl rfl ?hq ?_
        case hq =>
          refine WO.go' rfl (WO.field0 rfl rfl rfl ?_)
          exact WO.nil ⟨rfl, rfl⟩
        refine' DT.b rfl rfl rfl ?hq ?_
        case hq =>
          refine WO.go' rfl (WO.load rfl rfl (Cell.own Pick.head rfl) rfl ?_)
          exact WO.nil ⟨rfl, rfl⟩
        refine' DT.r rfl rfl rfl ?hq ?_
        case hq =>
          refine WO.go' rfl (WO.field0 rfl rfl rfl ?_)
          exact WO.nil ⟨rfl, rfl⟩
        refine' DT.r rfl rfl rfl ?hq ?_
        case hq =>
          refine WO.go' rfl (WO.fieldL rfl rfl rfl ?_)
          exact WO.nil ⟨rfl, rfl⟩
        refine' DT.b rfl rfl rfl ?hq ?_
        case hq =>
          refine WO.go' rfl (WO.load rfl rfl (Cell.own Pick.head rfl) rfl ?_)
          exact WO.nil ⟨rfl, rfl⟩
        refine' DT.r rfl rfl rfl ?hq ?_
        case hq =>
          refine WO.pg rfl rfl rfl ?_
          exact WO.nil ⟨rfl, rfl⟩
        refine' DT.r rfl rfl rfl ?hq ?_
        case hq =>
          refine WO.go' rfl ?_
          refine WO.callR rfl Try.call41 (fun L w hi => c_one w _) rfl ?_
          exact WO.nil ⟨rfl, rfl⟩
        refine DT.c [_, _] rfl rfl rfl rfl ?_
        refine WO.go' rfl ?_
        refine' WO.buildSl (cs := _) rfl rfl rfl rfl ?hf rfl rfl ?hl rfl (fun v3 => ?_)
        case hf => (conv => lhs; simp [-List.getD_eq_getElem?_getD, fillL, vcl, wrl, TTab.pl?.lget']) <;> rfl
        case hl => rfl
        refine WO.nil ⟨_, [_, _], rfl, rfl, (Keep.r (Keep.r (Keep.b (Keep.r (Keep.r (Keep.b (Keep.r (Keep.r (Keep.r (Keep.r (Keep.f (Keep.c (Keep.r (Keep.r Keep.nil)))))))))))))), ?_⟩
        refine DT.nil [_, _, _] rfl ?_
        refine WO.go' rfl ?_
        refine WO.callR (r := .bool (bl (a ≤ k ∧ k ≤ b))) rfl Try.call40 (fun L w hi => by rw [← all1 (p := (k, k)) (lo := a) (hi := b) (by unfold InR; simp)]; exact c_within w _ [(k, k)] _ _ (RdF.of_ow (e := 23) encP_ok (by repeat (first | exact Pick.head | apply Pick.tail)) hi)) rfl ?_
        refine WO.pg rfl rfl rfl (WO.p rfl rfl (WO.p rfl rfl ?_))
        refine WO.guard_nbl rfl rfl (fun c3 => ?_) (fun c3 => ?_)
        · first
          | (exfalso; omega)
          | (refine WO.no rfl rfl (WO.no rfl rfl (WO.no rfl rfl (WO.no rfl rfl (WO.no rfl rfl (WO.p rfl rfl ?_)))))
             refine WO.nil ?_
             refine W.cond_t rfl ?_
             refine W.sreg ?_
             refine WO.p rfl rfl (WO.p rfl rfl ?_)
             refine WO.nil ?_
             refine W.ret ?_
             first | (rw [ltV_bad (by assumption)]; exact fin.ret (Res.two rfl (RV.tmp rfl) (RV.tmp rfl)) rfl) | (rw [ltV_3 (by omega) (by unfold LtP; omega)]; exact fin.ret (Res.two rfl (RV.tmp rfl) (RV.tmp rfl)) rfl) | (rw [ltV_0 (by omega) (by unfold LtP; omega)]; exact fin.ret (Res.two rfl (RV.tmp rfl) (RV.tmp rfl)) rfl))
        first
        | (exfalso; omega)
        | (refine WO.pg rfl rfl rfl (WO.go' rfl ?_)
           refine WO.callR rfl Try.call41 (fun L w hi => c_one w _) rfl ?_
           refine WO.go' rfl ?_
           refine' WO.buildSl (cs := _) rfl rfl rfl rfl ?hf rfl rfl ?hl rfl (fun v4 => ?_)
           case hf => (conv => lhs; simp [-List.getD_eq_getElem?_getD, fillL, vcl, wrl, TTab.pl?.lget']) <;> rfl
           case hl => rfl
           refine WO.go' rfl ?_
           refine WO.callR (r := .bool (bl (0 ≤ mn ∧ mn ≤ 1000))) rfl Try.call40 (fun L w hi => by rw [← all1 (p := (mn, mn)) (lo := 0) (hi := 1000) (by unfold InR; simp)]; exact c_within w _ [(mn, mn)] _ _ (RdF.of_ow (e := 23) encP_ok (by repeat (first | exact Pick.head | apply Pick.tail)) hi)) rfl ?_
           refine WO.pg rfl rfl rfl (WO.p rfl rfl ?_)
           refine WO.nil ?_
           refine W.cond_nbl rfl (fun c4 => ?_) (fun c4 => ?_)
           · first
             | (exfalso; omega)
             | (refine W.sreg ?_
                refine WO.p rfl rfl (WO.p rfl rfl ?_)
                refine WO.nil ?_
                refine W.ret ?_
                first | (rw [ltV_bad (by assumption)]; exact fin.ret (Res.two rfl (RV.tmp rfl) (RV.tmp rfl)) rfl) | (rw [ltV_3 (by omega) (by unfold LtP; omega)]; exact fin.ret (Res.two rfl (RV.tmp rfl) (RV.tmp rfl)) rfl) | (rw [ltV_0 (by omega) (by unfold LtP; omega)]; exact fin.ret (Res.two rfl (RV.tmp rfl) (RV.tmp rfl)) rfl))
           first
           | (exfalso; omega)
           | (refine W.skip ?_
              have hcd := chkD0.1 (show chkD a b l = 0 by omega)
              have hok : OkE k e := by have := hcd.2.1; unfold OkK at this; unfold OkE; omega
              obtain ⟨n, rfl⟩ : ∃ n : Nat, mn = (n : Int) := ⟨mn.toNat, by omega⟩
              refine W.sreg ?_
              refine WO.p rfl rfl (WO.p rfl rfl (WO.p rfl rfl ?_))
              refine WO.callR rfl Try.call42 (fun L w hi => c_left w k e n hok) rfl ?_
              refine WO.p rfl rfl (WO.p rfl rfl ?_)
              refine WO.nil ?_
              refine W.ret ?_
              first | (rw [ltV_bad (by assumption)]; exact fin.ret (Res.two rfl (RV.tmp rfl) (RV.tmp rfl)) rfl) | (rw [ltV_3 (by omega) (by unfold LtP; omega)]; exact fin.ret (Res.two rfl (RV.tmp rfl) (RV.tmp rfl)) rfl) | (rw [ltV_0 (by omega) (by unfold LtP; omega)]; exact fin.ret (Res.two rfl (RV.tmp rfl) (RV.tmp rfl)) rfl)))))
end Go.Proofs.Ytkonhpcldomidaa
namespace Go.Proofs.Ytkonhpcldomidaa
open Go Go.TH
attribute [local irreducible] W WO pt
set_option maxRecDepth 10000
set_option maxHeartbeats 1000000
/-- after how many minutes waves are still enough; beyond dyS: never -/
def wq (k e st : Int) : Nat := fi (fun m => en k e m ≤ st) (dyS k e + 1)
/-- the wait, -1 if there is none -/
def wt (k e st : Int) : Int := if wq k e st ≤ dyS k e then (wq k e st : Int) else -1
def wOf (b : Int) (l : List Rn) (i j : Nat) : Int := wt b (l.getD i rn0).hi (l.getD j rn0).st
theorem wq_eq {k e st : Int} {m : Nat} (h1 : m ≤ dyS k e) (h2 : en k e m ≤ st) (h3 : ∀ j, j < m → st < en k e j) : wq k e st = m :=
  fi_eq (by omega) (fun _ => h2) (fun i hi => by have := h3 i hi; omega)
theorem wt_eq {k e st : Int} {m : Nat} (h1 : m ≤ dyS k e) (h2 : en k e m ≤ st) (h3 : ∀ j, j < m → st < en k e j) : wt k e st = (m : Int) := by
  unfold wt; rw [wq_eq h1 h2 h3, if_pos h1]
theorem wt_none {k e st : Int} (h3 : ∀ j, j ≤ dyS k e → st < en k e j) : wt k e st = -1 := by
  have e1 : wq k e st = dyS k e + 1 := fi_eq (by omega) (fun h => by omega) (fun i hi => by have := h3 i (by omega); omega)
  unfold wt; rw [e1, if_neg (by omega)]
theorem wt_bd {k e st : Int} (h : OkE k e) : -1 ≤ wt k e st ∧ wt k e st ≤ 1000000 := by
  have := dyS_le h
  unfold wt
  split <;> omega
theorem OkD.ke {a b : Int} {l : List Rn} (h : OkD a b l) {i : Nat} (hi : i < l.length) : OkE b (l.getD i rn0).hi := by
  have h1 := h.1
  have h2 := h.at_ hi
  unfold OkK at h1; unfold OkR at h2; unfold OkE; omega
theorem RdF.rAt {C : Cx Try.prog} {H : List HP} {o : Value} {l : List Rn} (h : RdF encR 6 C.B C.w0 o l) {i j : Nat} {u : Value} (h1 : i < l.length) (hu : lget (encR (l.getD i rn0)) j = some u) : Cell C H (prt (elt o i 6) j) u := h.cellAt h1 rn0 hu
theorem RdF.rAt2 {C : Cx Try.prog} {H : List HP} {o : Value} {l : List Rn} (h : RdF encR 6 C.B C.w0 o l) {i p q : Nat} {u : Value} (h1 : i < l.length) (hu : lget (encR (l.getD i rn0)) (p + q) = some u) : Cell C H (prt (prt (elt o i 6) p) q) u := by
  rw [prt_eq (prt _ _) q, prt_prt]; exact RdF.rAt h h1 hu
theorem ref_Waits (w : World) (v : Value) (a b : Int) (l : List Rn) (i j : Nat) (hR : RdF encR 6 w.heap.size w v l) (hd : OkD a b l) (hi : i < l.length) (hj : j < l.length) : Ret Try.prog 56 [dayV a b v, .int .i64 (i : Int), .int .i64 (j : Int)].toArray w (.int .i64 (wOf b l i j)) := by
  refine Ret.of mixed tyTab Try.func56 rfl rfl ?_
  replace hR : RdF encR 6 (fnCx mixed tyTab Try.f56.ntmps w).B (fnCx mixed tyTab Try.f56.ntmps w).w0 v l := hR
  have ho := hR.sl.oc
  obtain ⟨e, he⟩ : ∃ e, e = (l.getD i rn0).hi := ⟨_, rfl⟩
  obtain ⟨st, hst⟩ : ∃ st, st = (l.getD j rn0).st := ⟨_, rfl⟩
  have hok : OkE b e := by rw [he]; exact hd.ke hi
  have hw : wOf b l i j = wt b e st := by rw [he, hst]; rfl
  rw [hw]
  have hS := dyS_le hok
  refine W.sreg ?_
  refine WO.boxA rfl rfl (fun b1 hb1 => ?_)
  refine WO.p rfl rfl ?_
  refine WO.nil ?_
  refine W.sreg ?_
  refine WO.fieldL rfl rfl rfl (WO.load rfl rfl (Cell.own Pick.head rfl) rfl (WO.p rfl rfl ?_))
  refine' WO.indexAddr (n := _) (i := _) rfl rfl rfl ?hs ?h1 rfl ?_
  case hs => (first | exact hR.sl)
  case h1 => (first | omega | (simp; omega))
  refine WO.field rfl rfl rfl (WO.field rfl rfl rfl ?_)
  refine' WO.load (v := _) rfl rfl ?hc rfl ?_
  case hc => (first | (refine RdF.rAt2 hR (i := i) (p := 1) (q := 1) (u := .int .i64 e) hi ?_; rw [he]; rfl))
  refine WO.p rfl rfl (WO.p rfl rfl ?_)
  refine WO.nil ?_
  refine W.seq ?_
  refine W.block ?_
  refine W.loop (fun (m : Nat) => m ≤ dyS b e ∧ ∀ j, j < m → st < en b e j)
    (fun (m : Nat) => [(1, .int .i64 (i : Int)), (2, .int .i64 (j : Int)), (3, .pointer (some ⟨b1, 0, none⟩)), (7, .int .i64 (en b e m)), (8, .int .i64 (m : Int))])
    (fun (m : Nat) => [pt b1 (.cells #[.int .i64 a, .int .i64 b, v] 26 (0, 0))])
    (fun (m : Nat) => dyS b e - m) 0
    (by exact ⟨by omega, fun j hj => by omega⟩) ⟨rfl, rfl, rfl, rfl, rfl, trivial⟩ (by repeat (first | exact Sub.nil | refine Sub.cons (by repeat (first | exact Pick.head | apply Pick.tail)) ?_)) ?_
  rintro m ⟨hm, hall⟩
  refine W.seq ?_
  refine W.sreg ?_
  refine WO.p rfl rfl (WO.fieldL rfl rfl rfl (WO.load rfl rfl (Cell.own Pick.head rfl) rfl (WO.p rfl rfl ?_)))
  refine' WO.indexAddr (n := _) (i := _) rfl rfl rfl ?hs ?h1 rfl ?_
  case hs => (first | exact hR.sl)
  case h1 => (first | omega | (simp; omega))
  refine WO.field rfl rfl rfl ?_
  refine' WO.load (v := _) rfl rfl ?hc rfl ?_
  case hc => (first | (refine RdF.rAt hR (i := j) (u := .int .i64 st) hj ?_; rw [hst]; rfl))
  refine WO.p rfl rfl ?_
  refine WO.nil ?_
  refine W.cond_bl rfl (fun c1 => ?_) (fun c1 => ?_)
  · first
    | (exfalso; omega)
    | (refine W.skip ?_
       refine W.block ?_
       have hml := en_mul hok m
       refine W.sreg ?_
       refine WO.p rfl rfl (WO.field0 rfl rfl rfl (WO.fieldL rfl rfl rfl (WO.load rfl rfl (Cell.own Pick.head rfl) rfl (WO.ar rfl rfl rfl (by (first | (unfold in64; omega) | (unfold in64; omega))) rfl ?_))))
       refine WO.quo rfl rfl (by omega) (by have q := en_ok hok (m + 1); unfold OkE at q; have : (en b e m * b).tdiv 1000 = en b e (m + 1) := rfl; unfold in64; omega) rfl ?_
       rw [show (en b e m * b).tdiv 1000 = en b e (m + 1) from rfl]
       refine WO.p rfl rfl ?_
       refine WO.nil ?_
       refine W.seq ?_
       refine W.sreg ?_
       refine WO.p rfl rfl (WO.p rfl rfl (WO.p rfl rfl ?_))
       refine WO.nil ?_
       refine W.cond_bl rfl (fun c2 => ?_) (fun c2 => ?_)
       · first
         | (exfalso; omega)
         | (refine W.sreg ?_
            refine WO.p rfl rfl ?_
            refine WO.nil ?_
            refine W.ret ?_
            refine fin.ret (Res.one rfl (RV.tmp rfl)) (congrArg (Value.int .i64) ?_)
            first | exact (wt_eq hm (by omega) hall).symm | (have hge : m = dyS b e := (by (rcases Nat.lt_or_ge m (dyS b e) with g | g; exact absurd (by assumption) (dyS_go g); omega)); exact (wt_none (fun q hq => by (rcases Nat.lt_or_ge q m with g | g; exact hall q g; (rw [show q = m by omega]; assumption)))).symm))
       first
       | (exfalso; omega)
       | (refine W.skip ?_
          have hlt : m < dyS b e := by (rcases Nat.lt_or_ge m (dyS b e) with g | g; exact g; (exfalso; exact absurd (by rw [show m = dyS b e by omega]; exact dyS_stop hok) (show ¬ en b e (m + 1) = en b e m by assumption)))
          refine W.sreg ?_
          refine WO.p rfl rfl (WO.p rfl rfl ?_)
          refine WO.nil ?_
          refine W.region ?_
          refine WO.p rfl rfl (WO.ar rfl rfl rfl (by (first | (unfold in64; omega) | (unfold in64; omega))) rfl (WO.p rfl rfl ?_))
          refine WO.nil ?_
          refine' ⟨m + 1, ?hp, ?hmu, ⟨rfl, rfl, rfl, rfl, rfl, trivial⟩, ?hS⟩
          case hS => repeat (first | exact Sub.nil | refine Sub.cons (by repeat (first | exact Pick.head | apply Pick.tail)) ?_)
          case hp => exact ⟨by omega, fun q hq => by (rcases Nat.lt_or_ge q m with g | g; exact hall q g; (rw [show q = m by omega]; assumption))⟩
          case hmu => omega))
  first
  | (exfalso; omega)
  | (refine W.exit (blk_same ?_)
     refine W.sreg ?_
     refine WO.p rfl rfl (WO.p rfl rfl ?_)
     refine WO.nil ?_
     refine W.ret ?_
     refine fin.ret (Res.one rfl (RV.tmp rfl)) (congrArg (Value.int .i64) ?_)
     first | exact (wt_eq hm (by omega) hall).symm | (have hge : m = dyS b e := (by (rcases Nat.lt_or_ge m (dyS b e) with g | g; exact absurd (by assumption) (dyS_go g); omega)); exact (wt_none (fun q hq => by (rcases Nat.lt_or_ge q m with g | g; exact hall q g; (rw [show q = m by omega]; assumption)))).symm))
/-- what Wait answers -/
def wtE (a b : Int) (l : List Rn) (i j : Int) : Int := if chkD a b l ≠ 0 then chkD a b l else if i < 0 ∨ (l.length : Int) ≤ i ∨ j < 0 ∨ (l.length : Int) ≤ j then 3 else if wOf b l i.toNat j.toNat < 0 then 18 else 0
def wtN (a b : Int) (l : List Rn) (i j : Int) : Int := if wtE a b l i j = 0 then wOf b l i.toNat j.toNat else 0
def wtV (a b : Int) (l : List Rn) (i j : Int) : Value := .tuple #[.int .i64 (wtN a b l i j), .int .i64 (wtE a b l i j)]
theorem wtV_bad {a b : Int} {l : List Rn} {i j : Int} (h : chkD a b l ≠ 0) : wtV a b l i j = .tuple #[.int .i64 0, .int .i64 (chkD a b l)] := by
  have e1 : wtE a b l i j = chkD a b l := if_pos h
  unfold wtV wtN; rw [e1, if_neg h]
theorem wtV_3 {a b : Int} {l : List Rn} {i j : Int} (h : ¬ chkD a b l ≠ 0) (g : i < 0 ∨ (l.length : Int) ≤ i ∨ j < 0 ∨ (l.length : Int) ≤ j) : wtV a b l i j = .tuple #[.int .i64 0, .int .i64 3] := by
  have e1 : wtE a b l i j = 3 := by unfold wtE; rw [if_neg h, if_pos g]
  unfold wtV wtN; rw [e1, if_neg (by omega)]
theorem wtV_18 {a b : Int} {l : List Rn} {i j : Nat} (h : ¬ chkD a b l ≠ 0) (h1 : i < l.length) (h2 : j < l.length) (g : wOf b l i j < 0) : wtV a b l (i : Int) (j : Int) = .tuple #[.int .i64 0, .int .i64 18] := by
  have e1 : wtE a b l (i : Int) (j : Int) = 18 := by unfold wtE; rw [if_neg h, if_neg (by omega), Int.toNat_natCast, Int.toNat_natCast, if_pos g]
  unfold wtV wtN; rw [e1, if_neg (by omega)]
theorem wtV_0 {a b : Int} {l : List Rn} {i j : Nat} (h : ¬ chkD a b l ≠ 0) (h1 : i < l.length) (h2 : j < l.length) (g : ¬ wOf b l i j < 0) : wtV a b l (i : Int) (j : Int) = .tuple #[.int .i64 (wOf b l i j), .int .i64 0] := by
  have e1 : wtE a b l (i : Int) (j : Int) = 0 := by unfold wtE; rw [if_neg h, if_neg (by omega), Int.toNat_natCast, Int.toNat_natCast, if_neg g]
  unfold wtV wtN; rw [e1, if_pos rfl, Int.toNat_natCast, Int.toNat_natCast]
theorem ref_Wait (w : World) (v : Value) (a b : Int) (l : List Rn) (i j : Int) (hR : RdF encR 6 w.heap.size w v l) : Ret Try.prog 33 [dayV a b v, .int .i64 i, .int .i64 j].toArray w (wtV a b l i j) := by
  refine Ret.of mixed tyTab Try.func33 rfl rfl ?_
  replace hR : RdF encR 6 (fnCx mixed tyTab Try.f33.ntmps w).B (fnCx mixed tyTab Try.f33.ntmps w).w0 v l := hR
  have ho := hR.sl.oc
  refine W.sreg ?_
  refine WO.boxA rfl rfl (fun b1 hb1 => ?_)
  refine WO.p rfl rfl (WO.p rfl rfl ?_)
  refine WO.nil ?_
  refine W.seq ?_
  refine W.sreg ?_
  refine WO.loadA rfl rfl (Cells.own Pick.head) rfl rfl ?_
  refine WO.callR rfl Try.call35 (fun L w hi => ref_CheckDay w v a b l (hR.later hi)) rfl ?_
  refine WO.p rfl rfl ?_
  refine WO.nil ?_
  refine W.cond_bl rfl (fun c1 => ?_) (fun c1 => ?_)
  · first
    | (exfalso; omega)
    | (refine W.sreg ?_
       refine WO.loadA rfl rfl (Cells.own Pick.head) rfl rfl ?_
       refine WO.callR rfl Try.call35 (fun L w hi => ref_CheckDay w v a b l (hR.later hi)) rfl ?_
       refine WO.p rfl rfl (WO.p rfl rfl ?_)
       refine WO.nil ?_
       refine W.ret ?_
       first | (rw [wtV_bad (by assumption)]; exact fin.ret (Res.two rfl (RV.tmp rfl) (RV.tmp rfl)) rfl) | (rw [wtV_3 (by omega) (by omega)]; exact fin.ret (Res.two rfl (RV.tmp rfl) (RV.tmp rfl)) rfl) | (rw [wtV_18 (by omega) (by omega) (by omega) (by omega)]; exact fin.ret (Res.two rfl (RV.tmp rfl) (RV.tmp rfl)) rfl) | (rw [wtV_0 (by omega) (by omega) (by omega) (by omega)]; exact fin.ret (Res.two rfl (RV.tmp rfl) (RV.tmp rfl)) rfl))
  first
  | (exfalso; omega)
  | (refine W.skip ?_
     refine W.seq ?_
     refine W.sreg ?_
     refine WO.p rfl rfl (WO.p rfl rfl (WO.p rfl rfl ?_))
     refine WO.guard_bl rfl rfl (fun c2 => ?_) (fun c2 => ?_)
     · first
       | (exfalso; omega)
       | (refine WO.no rfl rfl (WO.no rfl rfl (WO.no rfl rfl (WO.no rfl rfl (WO.no rfl rfl (WO.p rfl rfl (WO.p rfl rfl (WO.no rfl rfl (WO.no rfl rfl (WO.p rfl rfl (WO.p rfl rfl (WO.no rfl rfl ?_)))))))))))
          refine WO.no rfl rfl (WO.no rfl rfl (WO.no rfl rfl (WO.no rfl rfl (WO.p rfl rfl ?_))))
          refine WO.nil ?_
          refine W.cond_t rfl ?_
          refine W.sreg ?_
          refine WO.p rfl rfl (WO.p rfl rfl ?_)
          refine WO.nil ?_
          refine W.ret ?_
          first | (rw [wtV_bad (by assumption)]; exact fin.ret (Res.two rfl (RV.tmp rfl) (RV.tmp rfl)) rfl) | (rw [wtV_3 (by omega) (by omega)]; exact fin.ret (Res.two rfl (RV.tmp rfl) (RV.tmp rfl)) rfl) | (rw [wtV_18 (by omega) (by omega) (by omega) (by omega)]; exact fin.ret (Res.two rfl (RV.tmp rfl) (RV.tmp rfl)) rfl) | (rw [wtV_0 (by omega) (by omega) (by omega) (by omega)]; exact fin.ret (Res.two rfl (RV.tmp rfl) (RV.tmp rfl)) rfl))
     first
     | (exfalso; omega)
     | (refine WO.pg rfl rfl rfl (WO.go' rfl (WO.fieldL rfl rfl rfl (WO.go' rfl (WO.load rfl rfl (Cell.own Pick.head rfl) rfl (WO.go' rfl ?_)))))
        refine' WO.len (n := _) rfl rfl ?hs rfl ?_
        case hs => (first | exact hR.sl)
        refine WO.pg rfl rfl rfl (WO.p rfl rfl (WO.p rfl rfl ?_))
        refine WO.guard_bl rfl rfl (fun c3 => ?_) (fun c3 => ?_)
        · first
          | (exfalso; omega)
          | (refine WO.no rfl rfl (WO.no rfl rfl (WO.p rfl rfl (WO.p rfl rfl (WO.no rfl rfl (WO.no rfl rfl (WO.no rfl rfl (WO.no rfl rfl (WO.no rfl rfl (WO.p rfl rfl ?_)))))))))
             refine WO.nil ?_
             refine W.cond_t rfl ?_
             refine W.sreg ?_
             refine WO.p rfl rfl (WO.p rfl rfl ?_)
             refine WO.nil ?_
             refine W.ret ?_
             first | (rw [wtV_bad (by assumption)]; exact fin.ret (Res.two rfl (RV.tmp rfl) (RV.tmp rfl)) rfl) | (rw [wtV_3 (by omega) (by omega)]; exact fin.ret (Res.two rfl (RV.tmp rfl) (RV.tmp rfl)) rfl) | (rw [wtV_18 (by omega) (by omega) (by omega) (by omega)]; exact fin.ret (Res.two rfl (RV.tmp rfl) (RV.tmp rfl)) rfl) | (rw [wtV_0 (by omega) (by omega) (by omega) (by omega)]; exact fin.ret (Res.two rfl (RV.tmp rfl) (RV.tmp rfl)) rfl))
        first
        | (exfalso; omega)
        | (refine WO.pg rfl rfl rfl (WO.pg rfl rfl rfl (WO.p rfl rfl (WO.p rfl rfl ?_)))
           refine WO.guard_bl rfl rfl (fun c4 => ?_) (fun c4 => ?_)
           · first
             | (exfalso; omega)
             | (refine WO.no rfl rfl (WO.no rfl rfl (WO.no rfl rfl (WO.no rfl rfl (WO.no rfl rfl (WO.p rfl rfl ?_)))))
                refine WO.nil ?_
                refine W.cond_t rfl ?_
                refine W.sreg ?_
                refine WO.p rfl rfl (WO.p rfl rfl ?_)
                refine WO.nil ?_
                refine W.ret ?_
                first | (rw [wtV_bad (by assumption)]; exact fin.ret (Res.two rfl (RV.tmp rfl) (RV.tmp rfl)) rfl) | (rw [wtV_3 (by omega) (by omega)]; exact fin.ret (Res.two rfl (RV.tmp rfl) (RV.tmp rfl)) rfl) | (rw [wtV_18 (by omega) (by omega) (by omega) (by omega)]; exact fin.ret (Res.two rfl (RV.tmp rfl) (RV.tmp rfl)) rfl) | (rw [wtV_0 (by omega) (by omega) (by omega) (by omega)]; exact fin.ret (Res.two rfl (RV.tmp rfl) (RV.tmp rfl)) rfl))
           first
           | (exfalso; omega)
           | (refine WO.pg rfl rfl rfl (WO.go' rfl (WO.fieldL rfl rfl rfl (WO.go' rfl (WO.load rfl rfl (Cell.own Pick.head rfl) rfl (WO.go' rfl ?_)))))
              refine' WO.len (n := _) rfl rfl ?hs rfl ?_
              case hs => (first | exact hR.sl)
              refine WO.pg rfl rfl rfl (WO.p rfl rfl ?_)
              refine WO.nil ?_
              refine W.cond_bl rfl (fun c5 => ?_) (fun c5 => ?_)
              · first
                | (exfalso; omega)
                | (refine W.sreg ?_
                   refine WO.p rfl rfl (WO.p rfl rfl ?_)
                   refine WO.nil ?_
                   refine W.ret ?_
                   first | (rw [wtV_bad (by assumption)]; exact fin.ret (Res.two rfl (RV.tmp rfl) (RV.tmp rfl)) rfl) | (rw [wtV_3 (by omega) (by omega)]; exact fin.ret (Res.two rfl (RV.tmp rfl) (RV.tmp rfl)) rfl) | (rw [wtV_18 (by omega) (by omega) (by omega) (by omega)]; exact fin.ret (Res.two rfl (RV.tmp rfl) (RV.tmp rfl)) rfl) | (rw [wtV_0 (by omega) (by omega) (by omega) (by omega)]; exact fin.ret (Res.two rfl (RV.tmp rfl) (RV.tmp rfl)) rfl))
              first
              | (exfalso; omega)
              | (refine W.skip ?_
                 have hcd := chkD0.1 (show chkD a b l = 0 by omega)
                 obtain ⟨i', rfl⟩ : ∃ n : Nat, i = (n : Int) := ⟨i.toNat, by omega⟩
                 obtain ⟨j', rfl⟩ : ∃ n : Nat, j = (n : Int) := ⟨j.toNat, by omega⟩
                 refine W.sreg ?_
                 refine WO.loadA rfl rfl (Cells.own Pick.head) rfl rfl (WO.p rfl rfl (WO.p rfl rfl ?_))
                 refine WO.callR rfl Try.call56 (fun L w hi => ref_Waits w v a b l i' j' (hR.later hi) hcd.2 (by omega) (by omega)) rfl ?_
                 refine WO.p rfl rfl ?_
                 refine WO.nil ?_
                 refine W.seq ?_
                 refine W.sreg ?_
                 refine WO.p rfl rfl (WO.p rfl rfl ?_)
                 refine WO.nil ?_
                 refine W.cond_bl rfl (fun c6 => ?_) (fun c6 => ?_)
                 · first
                   | (exfalso; omega)
                   | (refine W.sreg ?_
                      refine WO.p rfl rfl (WO.p rfl rfl ?_)
                      refine WO.nil ?_
                      refine W.ret ?_
                      first | (rw [wtV_bad (by assumption)]; exact fin.ret (Res.two rfl (RV.tmp rfl) (RV.tmp rfl)) rfl) | (rw [wtV_3 (by omega) (by omega)]; exact fin.ret (Res.two rfl (RV.tmp rfl) (RV.tmp rfl)) rfl) | (rw [wtV_18 (by omega) (by omega) (by omega) (by omega)]; exact fin.ret (Res.two rfl (RV.tmp rfl) (RV.tmp rfl)) rfl) | (rw [wtV_0 (by omega) (by omega) (by omega) (by omega)]; exact fin.ret (Res.two rfl (RV.tmp rfl) (RV.tmp rfl)) rfl))
                 first
                 | (exfalso; omega)
                 | (refine W.skip ?_
                    refine W.sreg ?_
                    refine WO.p rfl rfl (WO.p rfl rfl (WO.p rfl rfl ?_))
                    refine WO.nil ?_
                    refine W.ret ?_
                    first | (rw [wtV_bad (by assumption)]; exact fin.ret (Res.two rfl (RV.tmp rfl) (RV.tmp rfl)) rfl) | (rw [wtV_3 (by omega) (by omega)]; exact fin.ret (Res.two rfl (RV.tmp rfl) (RV.tmp rfl)) rfl) | (rw [wtV_18 (by omega) (by omega) (by omega) (by omega)]; exact fin.ret (Res.two rfl (RV.tmp rfl) (RV.tmp rfl)) rfl) | (rw [wtV_0 (by omega) (by omega) (by omega) (by omega)]; exact fin.ret (Res.two rfl (RV.tmp rfl) (RV.tmp rfl)) rfl)))))))
end Go.Proofs.Ytkonhpcldomidaa
namespace Go.Proofs.Ytkonhpcldomidaa
open Go Go.TH
attribute [local irreducible] W WO pt
set_option maxRecDepth 10000
set_option maxHeartbeats 1000000
theorem ptEq {b : Nat} {cs cs' : List Value} {t : TypeId} {fr : Nat × Nat} {H H' : List HP} (pk : Pick (pt b (.cells cs.toArray t fr)) H H') (e : cs = cs') : ∀ h, sat H h → sat (pt b (.cells cs'.toArray t fr) :: H') h := by
  subst e
  exact fun h hs => Sub.sat (.cons pk (Sub.refl _)) hs
/-- all waits -/
def gW (b : Int) (l : List Rn) (x : Nat) : Int := if x / 8 < l.length ∧ x % 8 < l.length then wOf b l (x / 8) (x % 8) else 0
def gP (b : Int) (l : List Rn) (c x : Nat) : Int := if x < c then gW b l x else 0
/-- what lies in a planner -/
def plC (a b : Int) (v : Value) (g : Nat → Int) : List Value := .int .i64 a :: .int .i64 b :: v :: tabC 8 8 g
theorem plC_len (a b : Int) (v : Value) (g : Nat → Int) : (plC a b v g).length = 67 := by simp [plC, tabC_len]
theorem plC_set {a b : Int} {v : Value} {g : Nat → Int} {k : Nat} {c : Int} (h : k < 64) : (plC a b v g).set (3 + k) (.int .i64 c) = plC a b v (updF g k c) := by
  rw [show 3 + k = k + 3 by omega]
  show _ :: _ :: _ :: (tabC 8 8 g).set k _ = _
  rw [tabC_set (by omega)]; rfl
theorem updF_updF (g : Nat → Int) (k : Nat) (c d : Int) : updF (updF g k c) k d = updF g k d := by
  funext j
  by_cases h : j = k
  · subst h; rw [updF_same, updF_same]
  rw [updF_other h, updF_other h, updF_other h]
theorem gP_succ {b : Int} {l : List Rn} {i k : Nat} (hi : i < l.length) (hk : k < l.length) (h8 : l.length ≤ 8) : updF (gP b l (8 * i + k)) (8 * i + k) (wOf b l i k) = gP b l (8 * i + k + 1) := by
  funext j
  unfold gP
  by_cases h : j = 8 * i + k
  · subst h
    rw [updF_same, if_pos (by omega)]
    unfold gW
    rw [show (8 * i + k) / 8 = i by omega, show (8 * i + k) % 8 = k by omega, if_pos ⟨hi, hk⟩]
  rw [updF_other h]
  by_cases g : j < 8 * i + k
  · rw [if_pos g, if_pos (by omega)]
  rw [if_neg g, if_neg (by omega)]
theorem gP_row {b : Int} {l : List Rn} {i : Nat} (h8 : l.length ≤ 8) : gP b l (8 * i + l.length) = gP b l (8 * (i + 1)) := by
  funext j
  unfold gP
  by_cases g : j < 8 * i + l.length
  · rw [if_pos g, if_pos (by omega)]
  rw [if_neg g]
  by_cases q : j < 8 * (i + 1)
  · rw [if_pos q]
    unfold gW
    rw [if_neg (by omega)]
  rw [if_neg q]
theorem gP_all {b : Int} {l : List Rn} (h8 : l.length ≤ 8) : gP b l (8 * l.length) = gW b l := by
  funext j
  unfold gP
  split
  · rfl
  unfold gW
  rw [if_neg (by omega)]
theorem gP_0 (b : Int) (l : List Rn) : gP b l 0 = fun _ => 0 := by
  funext j; unfold gP; rw [if_neg (by omega)]
/-- the wait while it is looked for -/
def wp (k e st : Int) (m : Nat) : Int := if m ≤ wq k e st then -1 else (wq k e st : Int)
theorem wp_end {k e st : Int} (h : dyS k e + 1 ≤ wq k e st) : wp k e st (dyS k e + 1) = wt k e st := by unfold wp wt; rw [if_pos h, if_neg (by omega)]
theorem wp_stop {k e st : Int} (h : wq k e st < dyS k e + 1) : wp k e st (wq k e st + 1) = wt k e st := by unfold wp wt; rw [if_neg (by omega), if_pos (by omega)]
theorem wq_hit {k e st : Int} {m : Nat} (h1 : m ≤ dyS k e) (h2 : m ≤ wq k e st) (g : en k e m ≤ st) : m = wq k e st := by
  obtain ⟨_, _, h3⟩ := fi_spec (fun m => en k e m ≤ st) (dyS k e + 1)
  rcases Nat.lt_or_ge m (wq k e st) with q | q
  · exact absurd g (h3 m q)
  omega
theorem wq_go {k e st : Int} {m : Nat} (h1 : m ≤ dyS k e) (h2 : m ≤ wq k e st) (g : ¬ en k e m ≤ st) : m < wq k e st := by
  obtain ⟨_, h3, _⟩ := fi_spec (fun m => en k e m ≤ st) (dyS k e + 1)
  rcases Nat.lt_or_ge m (wq k e st) with q | q
  · exact q
  have e1 : m = wq k e st := by omega
  have := h3 (by show wq k e st < _; omega)
  exact absurd (by rw [e1]; exact this) g
theorem c_newPlanner (w : World) (v : Value) (a b : Int) (l : List Rn) (hR : RdF encR 6 w.heap.size w v l) : Ct Try.prog 45 [dayV a b v].toArray w fun r w' => ∃ Hq, (∃ pv, r = .tuple #[pv, .int .i64 (chkD a b l)] ∧ Hq = [PtrP pv (chkD a b l) (plC a b v (gW b l)) 75]) ∧ Inv w [] Hq w' := by
  refine Ct.ofI (X := Value) (p := fun pv r => r = .tuple #[pv, .int .i64 (chkD a b l)]) (Hx := fun pv => [PtrP pv (chkD a b l) (plC a b v (gW b l)) 75]) mixed tyTab Try.func45 rfl rfl ?_
  replace hR : RdF encR 6 (fnCx mixed tyTab Try.f45.ntmps w).B (fnCx mixed tyTab Try.f45.ntmps w).w0 v l := hR
  have ho := hR.sl.oc
  refine W.sreg ?_
  refine WO.boxA rfl rfl (fun b1 hb1 => ?_)
  refine WO.p rfl rfl (WO.p rfl rfl ?_)
  refine WO.nil ?_
  refine W.seq ?_
  refine W.sreg ?_
  refine WO.loadA rfl rfl (Cells.own Pick.head) rfl rfl ?_
  refine WO.callR rfl Try.call34 (fun L w hi => c_CheckDay w v a b l (hR.later hi)) rfl ?_
  refine WO.p rfl rfl ?_
  refine WO.nil ?_
  refine W.sreg ?_
  refine WO.p rfl rfl (WO.p rfl rfl ?_)
  refine WO.nil ?_
  refine W.cond_bl rfl (fun c1 => ?_) (fun c1 => ?_)
  · first
    | (exfalso; omega)
    | (refine W.sreg ?_
       refine WO.p rfl rfl (WO.p rfl rfl (WO.p rfl rfl ?_))
       refine WO.nil ?_
       refine W.ret ?_
       first | exact fin.ret (Res.two rfl (RV.tmp rfl) (RV.tmp rfl)) ⟨_, rfl, fun h hs => Sub.sat (.cons .head .nil) (PtrP.no (by assumption) h hs)⟩ | (have e0 : chkD a b l = 0 := (by omega); obtain rfl : i = l.length := (by omega); rw [gP_all (by omega), e0]; exact fin.ret (Res.two rfl (RV.tmp rfl) (RV.tmp rfl)) ⟨_, rfl, fun h hs => Sub.sat (.cons .head .nil) (PtrP.yes (b := b2) (by repeat (first | exact Pick.head | apply Pick.tail)) h hs)⟩))
  first
  | (exfalso; omega)
  | (refine W.skip ?_
     have hcd := chkD0.1 (show chkD a b l = 0 by omega)
     refine W.sreg ?_
     refine WO.loadA rfl rfl (Cells.own Pick.head) rfl rfl ?_
     refine' WO.build (cs := _) rfl rfl rfl ?hf rfl ?_
     case hf => (conv => lhs; simp [-List.getD_eq_getElem?_getD, fillL, vcl, wrl, TTab.pl?.lget']) <;> rfl
     refine WO.boxA rfl rfl (fun b2 hb2 => ?_)
     refine WO.alloc rfl rfl rfl (fun b3 hb3 => ?_)
     refine WO.store1 rfl rfl rfl (by first | rfl | assumption) Pick.head rfl ?_
     refine WO.nil ?_
     refine W.seq ?_
     refine W.sreg ?_
     refine WO.fieldL rfl rfl rfl (WO.load rfl rfl (Cell.own (Pick.tail (Pick.tail (Pick.head))) rfl) rfl ?_)
     refine' WO.len (n := _) rfl rfl ?hs rfl ?_
     case hs => (first | exact hR.sl)
     refine WO.p rfl rfl ?_
     refine WO.nil ?_
     refine W.block ?_
     refine W.loop (fun (i : Nat) => i ≤ l.length)
       (fun (i : Nat) => [(1, .pointer (some ⟨b1, 0, none⟩)), (5, .pointer (some ⟨b3, 0, none⟩)), (21, v), (22, .int .i64 (l.length : Int)), (23, .int .i64 (i : Int))])
       (fun (i : Nat) => [pt b1 (.cells #[.int .i64 a, .int .i64 b, v] 26 (0, 0)), pt b2 (.cells (plC a b v (gP b l (8 * i))).toArray 75 (0, 0)), pt b3 (.cells #[.pointer (some ⟨b2, 0, none⟩)] 68 (0, 0))])
       (fun (i : Nat) => l.length - i) 0
       (by omega) ⟨rfl, rfl, rfl, rfl, rfl, trivial⟩ (by repeat (first | exact Sub.nil | refine Sub.cons (by repeat (first | exact Pick.head | apply Pick.tail)) ?_)) ?_
     rintro i hi
     refine W.sreg ?_
     refine WO.p rfl rfl ?_
     refine WO.nil ?_
     refine W.seq ?_
     refine W.cond_bl rfl (fun c2 => ?_) (fun c2 => ?_)
     · first
       | (exfalso; omega)
       | (refine W.skip ?_
          refine W.seq ?_
          refine W.block ?_
          refine W.sreg ?_
          refine WO.p rfl rfl ?_
          refine' WO.indexAddr (n := _) (i := _) rfl rfl rfl ?hs ?h1 rfl ?_
          case hs => (first | exact hR.sl)
          case h1 => (first | omega | (simp; omega))
          refine' WO.loadA (vs := _) rfl rfl ?hc ?hl rfl ?_
          case hc => (first | exact RdF.cellsR hR (i := i) (by omega))
          case hl => rfl
          refine WO.alloc rfl rfl rfl (fun b4 hb4 => ?_)
          refine WO.alloc rfl rfl rfl (fun b5 hb5 => ?_)
          refine WO.store1 rfl rfl rfl (by first | rfl | assumption) (Pick.tail (Pick.head)) rfl (WO.storeA rfl rfl rfl rfl (Pick.tail (Pick.head)) rfl rfl ?_)
          refine WO.nil ?_
          refine W.sreg ?_
          refine WO.fieldL rfl rfl rfl (WO.load rfl rfl (Cell.own (Pick.tail (Pick.tail (Pick.head))) rfl) rfl ?_)
          refine' WO.len (n := _) rfl rfl ?hs rfl ?_
          case hs => (first | exact hR.sl)
          refine WO.p rfl rfl ?_
          refine WO.nil ?_
          refine W.block ?_
          refine W.loop (fun (k : Nat) => k ≤ l.length)
            (fun (k : Nat) => [(1, .pointer (some ⟨b1, 0, none⟩)), (5, .pointer (some ⟨b3, 0, none⟩)), (6, .pointer (some ⟨b4, 0, none⟩)), (7, .pointer (some ⟨b5, 0, none⟩)), (21, v), (22, .int .i64 (l.length : Int)), (23, .int .i64 (i : Int)), (29, v), (30, .int .i64 (l.length : Int)), (31, .int .i64 (k : Int))])
            (fun (k : Nat) => [pt b1 (.cells #[.int .i64 a, .int .i64 b, v] 26 (0, 0)), pt b2 (.cells (plC a b v (gP b l (8 * i + k))).toArray 75 (0, 0)), pt b3 (.cells #[.pointer (some ⟨b2, 0, none⟩)] 68 (0, 0)), pt b4 (.cells #[.int .i64 (i : Int)] 3 (0, 0)), pt b5 (.cells #[.int .i64 (l.getD i rn0).mi, .int .i64 (l.getD i rn0).lo, .int .i64 (l.getD i rn0).hi, .int .i64 (l.getD i rn0).st, .int .i64 (l.getD i rn0).fr, .int .i64 (l.getD i rn0).un] 48 (0, 0))])
            (fun (k : Nat) => l.length - k) 0
            (by omega) ⟨rfl, rfl, rfl, rfl, rfl, rfl, rfl, rfl, rfl, rfl, trivial⟩ (by repeat (first | exact Sub.nil | refine Sub.cons (by repeat (first | exact Pick.head | apply Pick.tail)) ?_)) ?_
          rintro k hk
          refine W.sreg ?_
          refine WO.p rfl rfl ?_
          refine WO.nil ?_
          refine W.seq ?_
          refine W.cond_bl rfl (fun c3 => ?_) (fun c3 => ?_)
          · first
            | (exfalso; omega)
            | (refine W.skip ?_
               refine W.seq ?_
               refine W.block ?_
               refine W.sreg ?_
               refine WO.p rfl rfl ?_
               refine' WO.indexAddr (n := _) (i := _) rfl rfl rfl ?hs ?h1 rfl ?_
               case hs => (first | exact hR.sl)
               case h1 => (first | omega | (simp; omega))
               refine' WO.loadA (vs := _) rfl rfl ?hc ?hl rfl ?_
               case hc => (first | exact RdF.cellsR hR (i := k) (by omega))
               case hl => rfl
               refine WO.alloc rfl rfl rfl (fun b6 hb6 => ?_)
               refine WO.alloc rfl rfl rfl (fun b7 hb7 => ?_)
               refine WO.store1 rfl rfl rfl (by first | rfl | assumption) (Pick.tail (Pick.head)) rfl (WO.storeA rfl rfl rfl rfl (Pick.tail (Pick.head)) rfl rfl ?_)
               refine WO.nil ?_
               refine W.seq ?_
               refine W.drawD 6 [.b 0 [], .b 1 [], .b 2 [], .r 3 [], .r 4 [], .r 5 []] [] (A0 := []) (Sub.refl _) (by kernel_rfl) ?_ ?_
               · exact (ALok.b (ALok.b (ALok.b (ALok.r (ALok.r (ALok.r ALok.nil))))))
               refine' DT.b rfl rfl rfl ?hq ?_
               case hq =>
                 refine WO.load rfl rfl (Cell.own (Pick.tail (Pick.tail (Pick.tail (Pick.tail (Pick.head))))) rfl) rfl ?_
                 exact WO.nil ⟨rfl, rfl⟩
               refine' DT.b rfl rfl rfl ?hq ?_
               case hq =>
                 refine WO.load rfl rfl (Cell.own (Pick.tail (Pick.tail (Pick.tail (Pick.tail (Pick.tail (Pick.head)))))) rfl) rfl ?_
                 exact WO.nil ⟨rfl, rfl⟩
               refine' DT.b rfl rfl rfl ?hq ?_
               case hq =>
                 refine WO.load rfl rfl (Cell.own (Pick.tail (Pick.head)) rfl) rfl ?_
                 exact WO.nil ⟨rfl, rfl⟩
               refine' DT.r rfl rfl rfl ?hq ?_
               case hq =>
                 refine WO.p rfl rfl ?_
                 exact WO.nil ⟨rfl, rfl⟩
               refine' DT.r rfl rfl rfl ?hq ?_
               case hq =>
                 refine WO.fieldL rfl rfl rfl ?_
                 exact WO.nil ⟨rfl, rfl⟩
               refine' DT.r rfl rfl rfl ?hq ?_
               case hq =>
                 refine WO.indexArrE (i := i) (sz := 8) (off := 3) (o' := 3 + 8 * i) rfl rfl rfl rfl (by omega) (by omega) rfl ?_
                 exact WO.nil ⟨rfl, rfl⟩
               refine DT.nil [_, _, _, _, _, _, _] rfl ?_
               refine WO.indexArrE (i := k) (sz := 1) (off := 3 + 8 * i) (o' := 3 + (8 * i + k)) rfl rfl rfl rfl (by omega) (by omega) rfl ?_
               refine WO.store1 (off := 3 + (8 * i + k)) rfl rfl rfl rfl (by repeat (first | exact Pick.head | apply Pick.tail)) (by rw [Nat.blt_eq, plC_len]; omega) ?_
               rw [plC_set (by omega)]
               refine WO.nil ?_
               refine W.sreg ?_
               refine WO.fieldL rfl rfl rfl (WO.fieldL rfl rfl rfl (WO.load rfl rfl (Cell.own (Pick.tail (Pick.tail (Pick.tail (Pick.tail (Pick.tail (Pick.tail (Pick.head))))))) rfl) rfl (WO.field0 rfl rfl rfl (WO.fieldL rfl rfl rfl (WO.load rfl rfl (Cell.own (Pick.tail (Pick.tail (Pick.tail (Pick.head)))) rfl) rfl ?_)))))
               refine WO.call rfl Try.call61 (fun L w hi => c_dying w _ _) rfl ?_
               rintro _ _ ⟨b8, b9, rfl, rfl⟩
               refine WO.nil ?_
               refine W.block ?_
               have hok := hcd.2.ke (i := i) (by omega)
               refine W.chg (ptEq (b := b2) (cs' := (plC a b v (updF (gP b l (8 * i + k)) (8 * i + k) (wp b (l.getD i rn0).hi (l.getD k rn0).st 0)))) (by repeat (first | exact Pick.head | apply Pick.tail)) (by rw [show (wp b (l.getD i rn0).hi (l.getD k rn0).st 0) = -1 from if_pos (Nat.zero_le _)])) ?_
               refine W.rangeFuncB2 (Jmp.exit 4) [pt b9 (.cells #[.int .i64 b] 2 (0, 0)), pt b8 (.cells #[.int .i64 (l.getD i rn0).hi] 2 (0, 0))] [] (fun m => [pt b1 (.cells #[.int .i64 a, .int .i64 b, v] 26 (0, 0)), pt b2 (.cells (plC a b v (updF (gP b l (8 * i + k)) (8 * i + k) (wp b (l.getD i rn0).hi (l.getD k rn0).st m))).toArray 75 (0, 0)), pt b3 (.cells #[.pointer (some ⟨b2, 0, none⟩)] 68 (0, 0)), pt b4 (.cells #[.int .i64 (i : Int)] 3 (0, 0)), pt b5 (.cells #[.int .i64 (l.getD i rn0).mi, .int .i64 (l.getD i rn0).lo, .int .i64 (l.getD i rn0).hi, .int .i64 (l.getD i rn0).st, .int .i64 (l.getD i rn0).fr, .int .i64 (l.getD i rn0).un] 48 (0, 0)), pt b6 (.cells #[.int .i64 (k : Int)] 3 (0, 0)), pt b7 (.cells #[.int .i64 (l.getD k rn0).mi, .int .i64 (l.getD k rn0).lo, .int .i64 (l.getD k rn0).hi, .int .i64 (l.getD k rn0).st, .int .i64 (l.getD k rn0).fr, .int .i64 (l.getD k rn0).un] 48 (0, 0))]) (dyV b (l.getD i rn0).hi) (wq b (l.getD i rn0).hi (l.getD k rn0).st) rfl rfl rfl rfl Try.call71 (by repeat (first | exact Sub.nil | refine Sub.cons (by repeat (first | exact Pick.head | apply Pick.tail)) ?_)) ?_ ?_ ?_ ?_
               · intro ll Hc hy w1 M1 hB1 hk1 hM1 hi1
                 exact c_dying1 _ _ b (l.getD i rn0).hi hok _ ll Hc hy b8 b9 w1 M1 hB1 hk1 hM1 hi1
               · intro ll w1 M1 hB1 hM1 hk1 m x hx hle1
                 obtain ⟨hm, rfl⟩ := dyV_at hx
                 refine W.sreg ?_
                 refine WO.p rfl rfl ?_
                 refine WO.nil ?_
                 refine W.region ?_
                 refine WO.p rfl rfl ?_
                 refine WO.nil ?_
                 refine W.block ?_
                 refine W.sreg ?_
                 refine WO.p rfl rfl (WO.fieldL rfl rfl rfl (WO.load rfl rfl (Cell.own (Pick.tail (Pick.tail (Pick.tail (Pick.tail (Pick.tail (Pick.tail (Pick.head))))))) rfl) rfl (WO.p rfl rfl ?_)))
                 refine WO.nil ?_
                 refine W.cond_bl rfl (fun c4 => ?_) (fun c4 => ?_)
                 · first
                   | (exfalso; omega)
                   | (refine W.seq ?_
                      refine W.drawD 7 [.b 0 [], .b 1 [], .b 2 [], .r 3 [], .r 4 [], .r 5 [], .r 6 []] [] (A0 := []) (Sub.refl _) (by kernel_rfl) ?_ ?_
                      · exact (ALok.b (ALok.b (ALok.b (ALok.r (ALok.r (ALok.r (ALok.r ALok.nil)))))))
                      refine' DT.b rfl rfl rfl ?hq ?_
                      case hq =>
                        refine WO.load rfl rfl (Cell.own (Pick.tail (Pick.tail (Pick.head))) rfl) rfl ?_
                        exact WO.nil ⟨rfl, rfl⟩
                      refine' DT.b rfl rfl rfl ?hq ?_
                      case hq =>
                        refine WO.load rfl rfl (Cell.own (Pick.tail (Pick.tail (Pick.tail (Pick.head)))) rfl) rfl ?_
                        exact WO.nil ⟨rfl, rfl⟩
                      refine' DT.b rfl rfl rfl ?hq ?_
                      case hq =>
                        refine WO.load rfl rfl (Cell.own (Pick.tail (Pick.tail (Pick.tail (Pick.tail (Pick.tail (Pick.head)))))) rfl) rfl ?_
                        exact WO.nil ⟨rfl, rfl⟩
                      refine' DT.r rfl rfl rfl ?hq ?_
                      case hq =>
                        refine WO.p rfl rfl ?_
                        exact WO.nil ⟨rfl, rfl⟩
                      refine' DT.r rfl rfl rfl ?hq ?_
                      case hq =>
                        refine WO.p rfl rfl ?_
                        exact WO.nil ⟨rfl, rfl⟩
                      refine' DT.r rfl rfl rfl ?hq ?_
                      case hq =>
                        refine WO.fieldL rfl rfl rfl ?_
                        exact WO.nil ⟨rfl, rfl⟩
                      refine' DT.r rfl rfl rfl ?hq ?_
                      case hq =>
                        refine WO.indexArrE (i := i) (sz := 8) (off := 3) (o' := 3 + 8 * i) rfl rfl rfl rfl (by omega) (by omega) rfl ?_
                        exact WO.nil ⟨rfl, rfl⟩
                      refine DT.nil [_, _, _, _, _, _, _] rfl ?_
                      refine WO.indexArrE (i := k) (sz := 1) (off := 3 + 8 * i) (o' := 3 + (8 * i + k)) rfl rfl rfl rfl (by omega) (by omega) rfl ?_
                      refine WO.store1 (off := 3 + (8 * i + k)) rfl rfl rfl rfl (by repeat (first | exact Pick.head | apply Pick.tail)) (by rw [Nat.blt_eq, plC_len]; omega) ?_
                      rw [show (Value.int IntKind.i64 (m : Int), Value.int IntKind.i64 (en b (l.getD i rn0).hi m)).1 = Value.int IntKind.i64 (m : Int) from rfl, plC_set (by omega), updF_updF]
                      refine WO.nil ?_
                      refine W.exit (blk_other rfl ?_)
                      have heq := wq_hit hm hle1 (by assumption)
                      refine endR.stop (bl_f.2 (by omega)) rfl ?_
                      rw [show (wp b (l.getD i rn0).hi (l.getD k rn0).st (m + 1)) = (m : Int) by unfold wp; rw [if_neg (by omega), ← heq]]
                      exact (fun h hs => Sub.sat (by repeat (first | exact Sub.nil | refine Sub.cons (by repeat (first | exact Pick.head | apply Pick.tail)) ?_)) hs))
                 first
                 | (exfalso; omega)
                 | (refine W.skip ?_
                    have hlt := wq_go hm hle1 (by assumption)
                    refine endR.go (bl_t.2 hlt) ?_
                    rw [show (wp b (l.getD i rn0).hi (l.getD k rn0).st (m + 1)) = (wp b (l.getD i rn0).hi (l.getD k rn0).st m) by unfold wp; rw [if_pos hle1, if_pos (show m + 1 ≤ _ from hlt)]]
                    exact (fun h hs => Sub.sat (by repeat (first | exact Sub.nil | refine Sub.cons (by repeat (first | exact Pick.head | apply Pick.tail)) ?_)) hs))
               · intro hAll
                 rw [dyV_len] at hAll ⊢
                 rw [wp_end hAll, show wt b (l.getD i rn0).hi (l.getD k rn0).st = wOf b l i k from rfl, gP_succ (by omega) (by omega) (by omega)]
                 refine W.region ?_
                 refine WO.ar rfl rfl rfl (by (first | (unfold in64; omega) | (unfold in64; omega))) rfl (WO.p rfl rfl ?_)
                 refine WO.nil ?_
                 refine' ⟨k + 1, ?hp, ?hmu, ⟨rfl, rfl, rfl, rfl, rfl, rfl, rfl, rfl, rfl, rfl, trivial⟩, ?hS⟩
                 case hS => repeat (first | exact Sub.nil | refine Sub.cons (by repeat (first | exact Pick.head | apply Pick.tail)) ?_)
                 case hp => omega
                 case hmu => omega
               intro hStop
               rw [dyV_len] at hStop
               rw [wp_stop hStop, show wt b (l.getD i rn0).hi (l.getD k rn0).st = wOf b l i k from rfl, gP_succ (by omega) (by omega) (by omega)]
               refine W.exit (blk_same ?_)
               refine W.region ?_
               refine WO.ar rfl rfl rfl (by (first | (unfold in64; omega) | (unfold in64; omega))) rfl (WO.p rfl rfl ?_)
               refine WO.nil ?_
               refine' ⟨k + 1, ?hp, ?hmu, ⟨rfl, rfl, rfl, rfl, rfl, rfl, rfl, rfl, rfl, rfl, trivial⟩, ?hS⟩
               case hS => repeat (first | exact Sub.nil | refine Sub.cons (by repeat (first | exact Pick.head | apply Pick.tail)) ?_)
               case hp => omega
               case hmu => omega)
          first
          | (exfalso; omega)
          | (refine W.exit (blk_same ?_)
             obtain rfl : k = l.length := by omega
             rw [gP_row (by omega)]
             refine W.region ?_
             refine WO.ar rfl rfl rfl (by (first | (unfold in64; omega) | (unfold in64; omega))) rfl (WO.p rfl rfl ?_)
             refine WO.nil ?_
             refine' ⟨i + 1, ?hp, ?hmu, ⟨rfl, rfl, rfl, rfl, rfl, trivial⟩, ?hS⟩
             case hS => repeat (first | exact Sub.nil | refine Sub.cons (by repeat (first | exact Pick.head | apply Pick.tail)) ?_)
             case hp => omega
             case hmu => omega))
     first
     | (exfalso; omega)
     | (refine W.exit (blk_same ?_)
        refine W.sreg ?_
        refine WO.load rfl rfl (Cell.own (Pick.tail (Pick.tail (Pick.head))) rfl) rfl (WO.p rfl rfl (WO.p rfl rfl ?_))
        refine WO.nil ?_
        refine W.ret ?_
        first | exact fin.ret (Res.two rfl (RV.tmp rfl) (RV.tmp rfl)) ⟨_, rfl, fun h hs => Sub.sat (.cons .head .nil) (PtrP.no (by assumption) h hs)⟩ | (have e0 : chkD a b l = 0 := (by omega); obtain rfl : i = l.length := (by omega); rw [gP_all (by omega), e0]; exact fin.ret (Res.two rfl (RV.tmp rfl) (RV.tmp rfl)) ⟨_, rfl, fun h hs => Sub.sat (.cons .head .nil) (PtrP.yes (b := b2) (by repeat (first | exact Pick.head | apply Pick.tail)) h hs)⟩)))
end Go.Proofs.Ytkonhpcldomidaa
namespace Go.Proofs.Ytkonhpcldomidaa
open Go Go.TH
attribute [local irreducible] W WO pt
set_option maxRecDepth 10000
set_option maxHeartbeats 1000000
/-- what is read of a planner -/
structure PlR (n : Nat) (w : World) (p : Addr) (a b : Int) (v : Value) (l : List Rn) : Prop where
  c : RdC n w p (plC a b v (gW b l))
  r : RdF encR 6 n w v l
theorem PlR.later {C : Cx Try.prog} {H L : List HP} {w : World} {p : Addr} {a b : Int} {v : Value} {l : List Rn} (h : PlR C.B C.w0 p a b v l) (hi : Inv C.w0 C.M (L ++ H) w) : PlR w.heap.size w p a b v l := ⟨h.c.later hi, h.r.later hi⟩
theorem PlR.own {C : Cx Try.prog} {H H' L : List HP} {w : World} {q : Nat} {a b : Int} {v : Value} {l : List Rn} {fr : Nat × Nat} (p : Pick (pt q (.cells (plC a b v (gW b l)).toArray 75 fr)) H H') (hr : RdF encR 6 C.B C.w0 v l) (hi : Inv C.w0 C.M (L ++ H) w) : PlR w.heap.size w ⟨q, 0, none⟩ a b v l := ⟨RdC.own p hi, hr.later hi⟩
theorem PlR.wait {C : Cx Try.prog} {H : List HP} {p : Addr} {a b : Int} {v : Value} {l : List Rn} (h : PlR C.B C.w0 p a b v l) {i j k : Nat} (hi : i < l.length) (hj : j < l.length) (h8 : l.length ≤ 8) (hk : k = 3 + (8 * i + j)) : Cell C H (prt p k) (.int .i64 (wOf b l i j)) := by
  subst hk
  refine h.c.cellAt ?_
  rw [lget_eq]
  unfold plC
  rw [show 3 + (8 * i + j) = (8 * i + j) + 1 + 1 + 1 by omega, List.getElem?_cons_succ, List.getElem?_cons_succ, List.getElem?_cons_succ, tabC_get (by omega)]
  unfold gW
  rw [show (8 * i + j) / 8 = i by omega, show (8 * i + j) % 8 = j by omega, if_pos ⟨hi, hj⟩]
/-- is a number that of a run? -/
def In (l : List Rn) (i : Int) : Prop := 0 ≤ i ∧ i < (l.length : Int)
instance (l : List Rn) (i : Int) : Decidable (In l i) := by unfold In; infer_instance
theorem c_has (w : World) (p : Addr) (a b : Int) (v : Value) (l : List Rn) (i : Int) (hP : PlR w.heap.size w p a b v l) : Ret Try.prog 57 [.pointer (some p), .int .i64 i].toArray w (.bool (bl (In l i))) := by
  refine Ret.of mixed tyTab Try.func57 rfl rfl ?_
  have hP' : PlR (fnCx mixed tyTab Try.f57.ntmps w).B (fnCx mixed tyTab Try.f57.ntmps w).w0 p a b v l := hP
  have hR := hP'.r
  have hC := hP'.c
  refine W.sreg ?_
  refine WO.p rfl rfl ?_
  refine WO.nil ?_
  refine W.sreg ?_
  refine WO.p rfl rfl (WO.p rfl rfl (WO.p rfl rfl ?_))
  refine WO.guard_bl rfl rfl (fun c1 => ?_) (fun c1 => ?_)
  · first
    | (exfalso; omega)
    | (refine WO.pg rfl rfl rfl (WO.pg rfl rfl rfl (WO.pg rfl rfl rfl (WO.go' rfl (WO.field0 rfl rfl rfl (WO.go' rfl (WO.field rfl rfl rfl (WO.go' rfl ?_)))))))
       refine' WO.load (v := _) rfl rfl ?hc rfl ?_
       case hc => (first | (refine hC.cellAt (u := v) ?_; rfl))
       refine WO.go' rfl ?_
       refine' WO.len (n := _) rfl rfl ?hs rfl ?_
       case hs => (first | exact hR.sl)
       refine WO.pg rfl rfl rfl (WO.p rfl rfl (WO.p rfl rfl ?_))
       refine WO.nil ?_
       refine W.ret ?_
       refine fin.ret (Res.one rfl (RV.tmp rfl)) (congrArg Value.bool ?_)
       first | exact (bl_f.2 (by unfold In; omega)).symm | exact bl_cg (by unfold In; omega))
  first
  | (exfalso; omega)
  | (refine WO.no rfl rfl (WO.no rfl rfl (WO.no rfl rfl (WO.no rfl rfl (WO.no rfl rfl (WO.no rfl rfl (WO.no rfl rfl (WO.no rfl rfl (WO.p rfl rfl (WO.p rfl rfl ?_)))))))))
     refine WO.nil ?_
     refine W.ret ?_
     refine fin.ret (Res.one rfl (RV.tmp rfl)) (congrArg Value.bool ?_)
     first | exact (bl_f.2 (by unfold In; omega)).symm | exact bl_cg (by unfold In; omega))
theorem c_ord1 (w : World) (p q : Addr) (a b : Int) (v : Value) (l : List Rn) (i : Int) (hP : PlR w.heap.size w p a b v l) (h1 : Cap w q (.func (.func 57) #[.pointer (some p)] #[])) : Ret Try.prog 69 [.int .i64 i, .pointer (some q)].toArray w (.bool (bl (¬ In l i))) := by
  refine Ret.of mixed tyTab Try.func69 rfl rfl ?_
  have hP' : PlR (fnCx mixed tyTab Try.f69.ntmps w).B (fnCx mixed tyTab Try.f69.ntmps w).w0 p a b v l := hP
  replace h1 : Cap (fnCx mixed tyTab Try.f69.ntmps w).w0 q (.func (.func 57) #[.pointer (some p)] #[]) := h1
  refine W.sreg ?_
  refine WO.p rfl rfl ?_
  refine WO.nil ?_
  refine W.sreg ?_
  refine' WO.load (v := _) rfl rfl ?hc rfl ?_
  case hc => (first | (refine Cap.cell (v := .func (.func 57) #[.pointer (some p)] #[]) rfl h1))
  refine WO.p rfl rfl ?_
  refine WO.callCR (first := [.pointer (some p)]) (captured := []) rfl rfl Try.call57 (fun L w hi' => c_has w p a b v l i (hP'.later hi')) rfl ?_
  refine WO.p rfl rfl (WO.p rfl rfl ?_)
  refine WO.nil ?_
  refine W.ret ?_
  refine fin.ret (Res.one rfl (RV.tmp rfl)) (congrArg Value.bool ?_)
  rcases Decidable.em (In l i) with h | h
  · (rw [bl_t.2 h, bl_f.2 (fun g => g h)]; try rfl)
  (rw [bl_f.2 h, bl_t.2 h]; try rfl)
theorem c_IndexO (w : World) (u : Value) (xs : List Int) (p q : Addr) (a b : Int) (v : Value) (l : List Rn) (hX : RdF encI 1 w.heap.size w u xs) (hP : PlR w.heap.size w p a b v l) (h1 : Cap w q (.func (.func 57) #[.pointer (some p)] #[])) : RetE Try.prog 73 [u, .func (.func 69) #[] #[.pointer (some q)]].toArray w (fun r => ∃ n : Int, r = .int .i64 n ∧ (0 ≤ n ↔ ¬ ∀ x ∈ xs, In l x)) := by
  refine RetE.of mixed tyTab Try.func73 rfl rfl ?_
  replace hX : RdF encI 1 (fnCx mixed tyTab Try.f73.ntmps w).B (fnCx mixed tyTab Try.f73.ntmps w).w0 u xs := hX
  have hP' : PlR (fnCx mixed tyTab Try.f73.ntmps w).B (fnCx mixed tyTab Try.f73.ntmps w).w0 p a b v l := hP
  replace h1 : Cap (fnCx mixed tyTab Try.f73.ntmps w).w0 q (.func (.func 57) #[.pointer (some p)] #[]) := h1
  have hle := hX.sl.le
  refine W.sreg ?_
  refine WO.p rfl rfl ?_
  refine WO.nil ?_
  refine W.seq ?_
  refine W.sreg ?_
  refine WO.p rfl rfl ?_
  refine' WO.len (n := _) rfl rfl ?hs rfl ?_
  case hs => (first | exact hX.sl)
  refine WO.p rfl rfl ?_
  refine WO.nil ?_
  refine W.block ?_
  refine W.loop (fun (i : Nat) => i ≤ xs.length ∧ ∀ x ∈ xs.take i, In l x)
    (fun (i : Nat) => [(8, .int .i64 (i : Int)), (7, .int .i64 (xs.length : Int)), (0, u), (1, .func (.func 69) #[] #[.pointer (some q)])])
    (fun (i : Nat) => [])
    (fun (i : Nat) => xs.length - i) 0
    (by exact ⟨by omega, by simp⟩) ⟨rfl, rfl, rfl, rfl, trivial⟩ (by repeat (first | exact Sub.nil | refine Sub.cons (by repeat (first | exact Pick.head | apply Pick.tail)) ?_)) ?_
  rintro i ⟨hi0, hal⟩
  refine W.sreg ?_
  refine WO.p rfl rfl ?_
  refine WO.nil ?_
  refine W.seq ?_
  refine W.cond_bl rfl (fun c1 => ?_) (fun c1 => ?_)
  · first
    | (exfalso; omega)
    | (refine W.skip ?_
       refine W.seq ?_
       refine W.block ?_
       refine W.sreg ?_
       refine WO.p rfl rfl (WO.p rfl rfl ?_)
       refine WO.nil ?_
       refine W.sreg ?_
       refine WO.p rfl rfl (WO.p rfl rfl (WO.p rfl rfl ?_))
       refine' WO.indexAddr (n := _) (i := _) rfl rfl rfl ?hs ?h1 rfl ?_
       case hs => (first | exact hX.sl)
       case h1 => (first | omega | (simp; omega))
       refine' WO.load (v := _) rfl rfl ?hc rfl ?_
       case hc => (first | (refine hX.cell0 ?_ 0 ?_ <;> first | rfl | omega))
       refine WO.callCR (first := []) (captured := [.pointer (some q)]) rfl rfl Try.call69 (fun L w hi' => c_ord1 w p q a b v l (xs.getD i 0) (hP'.later hi') (h1.old rfl hi')) rfl ?_
       refine WO.nil ?_
       refine W.cond_bl rfl (fun c2 => ?_) (fun c2 => ?_)
       · first
         | (exfalso; omega)
         | (refine W.sreg ?_
            refine WO.p rfl rfl (WO.p rfl rfl ?_)
            refine WO.nil ?_
            refine W.ret ?_
            exact fin.ret (Res.one rfl (RV.tmp rfl)) ⟨_, rfl, by first | exact ⟨fun h => by omega, fun h => absurd (all_len (by omega) hal) h⟩ | exact ⟨fun _ => not_all_getD (i := i) (by omega) 0 (by assumption), fun _ => by omega⟩⟩)
       first
       | (exfalso; omega)
       | (refine W.skip ?_
          refine W.region ?_
          refine WO.ar rfl rfl rfl (by (first | (unfold in64; omega) | (unfold in64; omega))) rfl (WO.p rfl rfl ?_)
          refine WO.nil ?_
          refine' ⟨i + 1, ?hp, ?hmu, ⟨rfl, rfl, rfl, rfl, trivial⟩, ?hS⟩
          case hS => repeat (first | exact Sub.nil | refine Sub.cons (by repeat (first | exact Pick.head | apply Pick.tail)) ?_)
          case hp => exact ⟨by omega, all_succ (by omega) 0 hal (Decidable.not_not.1 (by assumption))⟩
          case hmu => omega))
  first
  | (exfalso; omega)
  | (refine W.exit (blk_same ?_)
     refine W.sreg ?_
     refine WO.p rfl rfl ?_
     refine WO.nil ?_
     refine W.ret ?_
     exact fin.ret (Res.one rfl (RV.tmp rfl)) ⟨_, rfl, by first | exact ⟨fun h => by omega, fun h => absurd (all_len (by omega) hal) h⟩ | exact ⟨fun _ => not_all_getD (i := i) (by omega) 0 (by assumption), fun _ => by omega⟩⟩)
theorem c_ContO (w : World) (u : Value) (xs : List Int) (p q : Addr) (a b : Int) (v : Value) (l : List Rn) (hX : RdF encI 1 w.heap.size w u xs) (hP : PlR w.heap.size w p a b v l) (h1 : Cap w q (.func (.func 57) #[.pointer (some p)] #[])) : Ret Try.prog 68 [u, .func (.func 69) #[] #[.pointer (some q)]].toArray w (.bool (bl (¬ ∀ x ∈ xs, In l x))) := by
  refine Ret.of mixed tyTab Try.func68 rfl rfl ?_
  replace hX : RdF encI 1 (fnCx mixed tyTab Try.f68.ntmps w).B (fnCx mixed tyTab Try.f68.ntmps w).w0 u xs := hX
  have hP' : PlR (fnCx mixed tyTab Try.f68.ntmps w).B (fnCx mixed tyTab Try.f68.ntmps w).w0 p a b v l := hP
  replace h1 : Cap (fnCx mixed tyTab Try.f68.ntmps w).w0 q (.func (.func 57) #[.pointer (some p)] #[]) := h1
  refine W.sreg ?_
  refine WO.p rfl rfl ?_
  refine WO.nil ?_
  refine W.sreg ?_
  refine WO.p rfl rfl (WO.p rfl rfl ?_)
  refine WO.callE rfl Try.call73 (fun L w hi' => c_IndexO w u xs p q a b v l (hX.later hi') (hP'.later hi') (h1.old rfl hi')) rfl ?_
  rintro _ ⟨n, rfl, hn⟩
  refine WO.p rfl rfl (WO.p rfl rfl ?_)
  refine WO.nil ?_
  refine W.ret ?_
  refine fin.ret (Res.one rfl (RV.tmp rfl)) ?_
  refine congrArg Value.bool ?_
  rw [bl_eq, bl_eq]; exact decide_eq_decide.2 hn
/-- the errors of an order -/
def ordE (l : List Rn) (o : List Int) : Int := if l.length < o.length then 6 else if ¬ (∀ x ∈ o, In l x) then 3 else if o.Nodup then 0 else 11
theorem ordE6 {l : List Rn} {o : List Int} (h : l.length < o.length) : ordE l o = 6 := if_pos h
theorem ordE3 {l : List Rn} {o : List Int} (h : ¬ l.length < o.length) (g : ¬ ∀ x ∈ o, In l x) : ordE l o = 3 := by unfold ordE; rw [if_neg h, if_pos g]
theorem ordE0 {l : List Rn} {o : List Int} : ordE l o = 0 ↔ o.length ≤ l.length ∧ (∀ x ∈ o, In l x) ∧ o.Nodup := by
  unfold ordE
  split
  · exact ⟨fun h => by omega, fun h => by omega⟩
  split
  · exact ⟨fun h => by omega, fun h => absurd h.2.1 (by assumption)⟩
  split
  · exact ⟨fun _ => ⟨by omega, Decidable.not_not.1 (by assumption), by assumption⟩, fun _ => rfl⟩
  exact ⟨fun h => by omega, fun h => absurd h.2.2 (by assumption)⟩
theorem ordE11 {l : List Rn} {o : List Int} (h : ¬ l.length < o.length) (g : ∀ x ∈ o, In l x) (k : ¬ o.Nodup) : ordE l o = 11 := by unfold ordE; rw [if_neg h, if_neg (fun q => q g), if_neg k]
theorem take_succ' {o : List Int} {k : Nat} (h : k < o.length) : o.take (k + 1) = o.take k ++ [o.getD k 0] := by
  rw [List.take_add_one, List.getElem?_eq_getElem h, List.getD_eq_getElem?_getD, List.getElem?_eq_getElem h]; rfl
theorem nodup_succ {o : List Int} {k : Nat} (h : k < o.length) (hn : (o.take k).Nodup) (hx : (o.take k).count (o.getD k 0) = 0) : (o.take (k + 1)).Nodup := by
  rw [take_succ' h, List.nodup_append]
  refine ⟨hn, List.pairwise_singleton _ _, fun a ha b hb e => ?_⟩
  rw [List.mem_singleton.1 hb] at e
  subst e
  exact absurd (List.count_pos_iff.2 ha) (by omega)
theorem not_nodup {o : List Int} {k : Nat} (h : k < o.length) (hx : 0 < (o.take k).count (o.getD k 0)) : ¬ o.Nodup := fun hn => by
  have h2 : (o.take (k + 1)).Nodup := hn.sublist (List.take_sublist _ _)
  rw [take_succ' h, List.nodup_append] at h2
  exact h2.2.2 _ (List.count_pos_iff.1 hx) _ (List.mem_singleton.2 rfl) rfl
/-- how often each number was there -/
def seC (o : List Int) (k : Nat) (j : Nat) : Int := ((o.take k).count (j : Int) : Int)
theorem seC_succ {o : List Int} {k j : Nat} (h : k < o.length) (hj : o.getD k 0 = (j : Int)) : updF (seC o k) j (seC o k j + 1) = seC o (k + 1) := by
  funext i
  unfold seC
  rw [take_succ' h, hj, List.count_append, List.count_singleton]
  by_cases e : i = j
  · subst e; rw [updF_same]; simp
  rw [updF_other e, show ((j : Int) == (i : Int)) = false by simp; omega]; simp
theorem ownC {C : Cx Try.prog} {H : List HP} {b off : Nat} {cs : List Value} {t : TypeId} {fr : Nat × Nat} {v : Value} (s : Sub H [pt b (.cells cs.toArray t fr)]) (hu : lget cs off = some v) : Cell C H ⟨b, off, none⟩ v := by
  cases s with
  | cons p _ => exact Cell.own p hu
theorem tab_at {n j : Nat} {g : Nat → Int} (h : j < n) : lget (tabC 1 n g) j = some (.int .i64 (g j)) := by rw [lget_eq]; exact tabC_get (by omega)
theorem c_order (w : World) (p : Addr) (a b : Int) (v u : Value) (l : List Rn) (o : List Int) (hP : PlR w.heap.size w p a b v l) (hX : RdF encI 1 w.heap.size w u o) (h8 : l.length ≤ 8) : Ret Try.prog 58 [.pointer (some p), u].toArray w (.int .i64 (ordE l o)) := by
  refine Ret.of mixed tyTab Try.func58 rfl rfl ?_
  have hP' : PlR (fnCx mixed tyTab Try.f58.ntmps w).B (fnCx mixed tyTab Try.f58.ntmps w).w0 p a b v l := hP
  replace hX : RdF encI 1 (fnCx mixed tyTab Try.f58.ntmps w).B (fnCx mixed tyTab Try.f58.ntmps w).w0 u o := hX
  have hR := hP'.r
  have hC := hP'.c
  refine W.sreg ?_
  refine WO.p rfl rfl ?_
  refine WO.nil ?_
  refine W.seq ?_
  refine W.sreg ?_
  refine WO.p rfl rfl ?_
  refine' WO.len (n := _) rfl rfl ?hs rfl ?_
  case hs => (first | exact hX.sl)
  refine WO.p rfl rfl (WO.p rfl rfl (WO.field0 rfl rfl rfl (WO.field rfl rfl rfl ?_)))
  refine' WO.load (v := _) rfl rfl ?hc rfl ?_
  case hc => (first | (refine hC.cellAt (u := v) ?_; rfl))
  refine' WO.len (n := _) rfl rfl ?hs rfl ?_
  case hs => (first | exact hR.sl)
  refine WO.p rfl rfl ?_
  refine WO.nil ?_
  refine W.cond_bl rfl (fun c1 => ?_) (fun c1 => ?_)
  · first
    | (exfalso; omega)
    | (refine W.sreg ?_
       refine WO.p rfl rfl ?_
       refine WO.nil ?_
       refine W.ret ?_
       refine fin.ret (Res.one rfl (RV.tmp rfl)) (congrArg (Value.int .i64) ?_)
       first | exact (ordE6 (by omega)).symm | exact (ordE3 (by omega) (by assumption)).symm | exact (ordE11 (by omega) (Decidable.not_not.1 (by assumption)) (not_nodup (k := k) (by omega) (by rw [hj]; unfold seC at *; omega))).symm | exact (ordE0.2 ⟨by omega, Decidable.not_not.1 (by assumption), by rw [show k = o.length by omega, List.take_length] at hnd; exact hnd⟩).symm)
  first
  | (exfalso; omega)
  | (refine W.skip ?_
     refine W.sreg ?_
     refine WO.p rfl rfl (WO.p rfl rfl ?_)
     refine WO.alloc rfl rfl rfl (fun b1 hb1 => ?_)
     refine WO.store1 rfl rfl rfl (by first | rfl | assumption) Pick.head rfl ?_
     refine WO.nil ?_
     refine W.seq ?_
     refine W.sreg ?_
     refine WO.p rfl rfl (WO.p rfl rfl ?_)
     refine WO.callR rfl Try.call68 (fun L w hi' => c_ContO w u o p _ a b v l (hX.later hi') (hP'.later hi') (Cap.of (b := b1) (by repeat (first | exact Pick.head | apply Pick.tail)) rfl hi')) rfl ?_
     refine WO.nil ?_
     refine W.cond_bl rfl (fun c2 => ?_) (fun c2 => ?_)
     · first
       | (exfalso; omega)
       | (refine W.sreg ?_
          refine WO.p rfl rfl ?_
          refine WO.nil ?_
          refine W.ret ?_
          refine fin.ret (Res.one rfl (RV.tmp rfl)) (congrArg (Value.int .i64) ?_)
          first | exact (ordE6 (by omega)).symm | exact (ordE3 (by omega) (by assumption)).symm | exact (ordE11 (by omega) (Decidable.not_not.1 (by assumption)) (not_nodup (k := k) (by omega) (by rw [hj]; unfold seC at *; omega))).symm | exact (ordE0.2 ⟨by omega, Decidable.not_not.1 (by assumption), by rw [show k = o.length by omega, List.take_length] at hnd; exact hnd⟩).symm)
     first
     | (exfalso; omega)
     | (refine W.skip ?_
        refine W.sreg ?_
        refine WO.alloc rfl rfl rfl (fun b2 hb2 => ?_)
        refine WO.nil ?_
        refine W.sreg ?_
        refine WO.sliceArr rfl rfl rfl ?_
        refine WO.clearP (n := 8) rfl rfl rfl rfl (by omega) (by repeat (first | exact Pick.head | apply Pick.tail)) (by rfl) ?_
        refine WO.nil ?_
        refine W.seq ?_
        refine W.sreg ?_
        refine WO.p rfl rfl ?_
        refine' WO.len (n := _) rfl rfl ?hs rfl ?_
        case hs => (first | exact hX.sl)
        refine WO.p rfl rfl ?_
        refine WO.nil ?_
        refine W.block ?_
        refine W.loop (fun (k : Nat) => k ≤ o.length ∧ (o.take k).Nodup)
          (fun (k : Nat) => [(6, .pointer (some ⟨b2, 0, none⟩)), (24, u), (25, .int .i64 (o.length : Int)), (26, .int .i64 (k : Int))])
          (fun (k : Nat) => [pt b2 (.cells (tabC 1 8 (seC o k)).toArray 117 (0, 0))])
          (fun (k : Nat) => o.length - k) 0
          (by exact ⟨by omega, List.nodup_nil⟩) ⟨rfl, rfl, rfl, rfl, trivial⟩ (by repeat (first | exact Sub.nil | refine Sub.cons (by repeat (first | exact Pick.head | apply Pick.tail)) ?_)) ?_
        rintro k ⟨hk, hnd⟩
        refine W.sreg ?_
        refine WO.p rfl rfl ?_
        refine WO.nil ?_
        refine W.seq ?_
        refine W.cond_bl rfl (fun c3 => ?_) (fun c3 => ?_)
        · first
          | (exfalso; omega)
          | (refine W.skip ?_
             refine W.seq ?_
             refine W.block ?_
             obtain ⟨j, hj, hj8⟩ : ∃ j : Nat, o.getD k 0 = (j : Int) ∧ j < 8 := by have q := Decidable.not_not.1 c2 _ (getD_mem (show k < o.length by omega) 0); unfold In at q; exact ⟨(o.getD k 0).toNat, by omega, by omega⟩
             have hcs : seC o (k + 1) j = seC o k j + 1 := by rw [← seC_succ (by omega) hj, updF_same]
             have hsb : 0 ≤ seC o k j ∧ seC o k j ≤ o.length := by unfold seC; have := List.count_le_length (l := o.take k) (a := (j : Int)); rw [List.length_take] at this; omega
             refine W.sreg ?_
             refine' WO.indexAddr (n := _) (i := _) rfl rfl rfl ?hs ?h1 rfl ?_
             case hs => (first | exact hX.sl)
             case h1 => (first | omega | (simp; omega))
             refine' WO.load (v := _) rfl rfl ?hc rfl ?_
             case hc => (first | (refine hX.cell0 (i := k) (by omega) 0 ?_; rw [hj]; rfl))
             refine WO.p rfl rfl ?_
             refine WO.nil ?_
             refine W.sreg ?_
             refine WO.p rfl rfl ?_
             refine WO.indexArrE (i := j) (sz := 1) (off := 0) (o' := j) rfl rfl rfl rfl hj8 (by omega) rfl ?_
             refine' WO.load (v := _) rfl rfl ?hc rfl ?_
             case hc => (first | (refine ownC (cs := tabC 1 8 (seC o k)) (v := .int .i64 (seC o k j)) (b := b2) (off := j) (t := 117) (fr := (0, 0)) ?_ (tab_at hj8); exact (by repeat (first | exact Sub.nil | refine Sub.cons (by repeat (first | exact Pick.head | apply Pick.tail)) ?_))))
             refine WO.ar rfl rfl rfl (by (first | (unfold in64; omega) | (unfold in64; omega))) rfl ?_
             refine WO.indexArrE (i := j) (sz := 1) (off := 0) (o' := j) rfl rfl rfl rfl hj8 (by omega) rfl ?_
             refine WO.store1 (off := j) rfl rfl rfl rfl (by repeat (first | exact Pick.head | apply Pick.tail)) (by rw [Nat.blt_eq, tabC_len]; omega) ?_
             rw [tabC_set (by omega), seC_succ (by omega) hj]
             refine WO.nil ?_
             refine W.sreg ?_
             refine WO.p rfl rfl ?_
             refine WO.indexArrE (i := j) (sz := 1) (off := 0) (o' := j) rfl rfl rfl rfl hj8 (by omega) rfl ?_
             refine' WO.load (v := _) rfl rfl ?hc rfl ?_
             case hc => (first | (refine ownC (cs := tabC 1 8 (seC o (k + 1))) (v := .int .i64 (seC o (k + 1) j)) (b := b2) (off := j) (t := 117) (fr := (0, 0)) ?_ (tab_at hj8); exact (by repeat (first | exact Sub.nil | refine Sub.cons (by repeat (first | exact Pick.head | apply Pick.tail)) ?_))))
             refine WO.p rfl rfl ?_
             refine WO.nil ?_
             refine W.cond_bl rfl (fun c4 => ?_) (fun c4 => ?_)
             · first
               | (exfalso; omega)
               | (refine W.sreg ?_
                  refine WO.p rfl rfl ?_
                  refine WO.nil ?_
                  refine W.ret ?_
                  refine fin.ret (Res.one rfl (RV.tmp rfl)) (congrArg (Value.int .i64) ?_)
                  first | exact (ordE6 (by omega)).symm | exact (ordE3 (by omega) (by assumption)).symm | exact (ordE11 (by omega) (Decidable.not_not.1 (by assumption)) (not_nodup (k := k) (by omega) (by rw [hj]; unfold seC at *; omega))).symm | exact (ordE0.2 ⟨by omega, Decidable.not_not.1 (by assumption), by rw [show k = o.length by omega, List.take_length] at hnd; exact hnd⟩).symm)
             first
             | (exfalso; omega)
             | (refine W.skip ?_
                refine W.region ?_
                refine WO.ar rfl rfl rfl (by (first | (unfold in64; omega) | (unfold in64; omega))) rfl (WO.p rfl rfl ?_)
                refine WO.nil ?_
                refine' ⟨k + 1, ?hp, ?hmu, ⟨rfl, rfl, rfl, rfl, trivial⟩, ?hS⟩
                case hS => repeat (first | exact Sub.nil | refine Sub.cons (by repeat (first | exact Pick.head | apply Pick.tail)) ?_)
                case hp => exact ⟨by omega, nodup_succ (by omega) hnd (by rw [hj]; unfold seC at *; omega)⟩
                case hmu => omega))
        first
        | (exfalso; omega)
        | (refine W.exit (blk_same ?_)
           refine W.sreg ?_
           refine WO.p rfl rfl ?_
           refine WO.nil ?_
           refine W.ret ?_
           refine fin.ret (Res.one rfl (RV.tmp rfl)) (congrArg (Value.int .i64) ?_)
           first | exact (ordE6 (by omega)).symm | exact (ordE3 (by omega) (by assumption)).symm | exact (ordE11 (by omega) (Decidable.not_not.1 (by assumption)) (not_nodup (k := k) (by omega) (by rw [hj]; unfold seC at *; omega))).symm | exact (ordE0.2 ⟨by omega, Decidable.not_not.1 (by assumption), by rw [show k = o.length by omega, List.take_length] at hnd; exact hnd⟩).symm)))
end Go.Proofs.Ytkonhpcldomidaa
namespace Go.Proofs.Ytkonhpcldomidaa
open Go Go.TH
attribute [local irreducible] W WO pt
set_option maxRecDepth 10000
set_option maxHeartbeats 1000000
/-- the earliest minute in which a run can begin, by the run before it and when this is over -/
def bgA (b : Int) (l : List Rn) (bf ov : Int) (k : Nat) : Int := if 0 ≤ bf then max (l.getD k rn0).fr (ov + wOf b l bf.toNat k) else (l.getD k rn0).fr
def bgE (b : Int) (l : List Rn) (bf ov : Int) (k : Nat) : Int := if 0 ≤ bf ∧ wOf b l bf.toNat k = -1 then 18 else if (l.getD k rn0).un < bgA b l bf ov k then 12 else 0
def bgN (b : Int) (l : List Rn) (bf ov : Int) (k : Nat) : Int := if bgE b l bf ov k = 0 then bgA b l bf ov k else 0
def bgV (b : Int) (l : List Rn) (bf ov : Int) (k : Nat) : Value := .tuple #[.int .i64 (bgN b l bf ov k), .int .i64 (bgE b l bf ov k)]
theorem bgV_18 {b : Int} {l : List Rn} {ov : Int} {i k : Nat} (h : wOf b l i k = -1) : bgV b l (i : Int) ov k = .tuple #[.int .i64 0, .int .i64 18] := by
  have e1 : bgE b l (i : Int) ov k = 18 := by unfold bgE; rw [Int.toNat_natCast, if_pos ⟨by omega, h⟩]
  unfold bgV bgN; rw [e1, if_neg (by omega)]
theorem bgV_12 {b : Int} {l : List Rn} {bf ov : Int} {k : Nat} (h : ¬ (0 ≤ bf ∧ wOf b l bf.toNat k = -1)) (g : (l.getD k rn0).un < bgA b l bf ov k) : bgV b l bf ov k = .tuple #[.int .i64 0, .int .i64 12] := by
  have e1 : bgE b l bf ov k = 12 := by unfold bgE; rw [if_neg h, if_pos g]
  unfold bgV bgN; rw [e1, if_neg (by omega)]
theorem bgV_0 {b : Int} {l : List Rn} {bf ov : Int} {k : Nat} (h : ¬ (0 ≤ bf ∧ wOf b l bf.toNat k = -1)) (g : ¬ (l.getD k rn0).un < bgA b l bf ov k) : bgV b l bf ov k = .tuple #[.int .i64 (bgA b l bf ov k), .int .i64 0] := by
  have e1 : bgE b l bf ov k = 0 := by unfold bgE; rw [if_neg h, if_neg g]
  unfold bgV bgN; rw [e1, if_pos rfl]
theorem bgA_i {b : Int} {l : List Rn} {ov : Int} {i k : Nat} : bgA b l (i : Int) ov k = max (l.getD k rn0).fr (ov + wOf b l i k) := by unfold bgA; rw [if_pos (by omega), Int.toNat_natCast]
theorem bgA_n {b : Int} {l : List Rn} {bf ov : Int} {k : Nat} (h : ¬ 0 ≤ bf) : bgA b l bf ov k = (l.getD k rn0).fr := if_neg h
theorem OkD.w {a b : Int} {l : List Rn} (h : OkD a b l) {i : Nat} (hi : i < l.length) (k : Nat) : -1 ≤ wOf b l i k ∧ wOf b l i k ≤ 1000000 := wt_bd (h.ke hi)
theorem c_begin (w : World) (p : Addr) (a b : Int) (v : Value) (l : List Rn) (bf ov : Int) (k : Nat) (hP : PlR w.heap.size w p a b v l) (hd : OkD a b l) (h8 : l.length ≤ 8) (hb : bf = -1 ∨ In l bf) (ho : 0 ≤ ov ∧ ov ≤ 1000000000) (hk : k < l.length) : Ret Try.prog 38 [.pointer (some p), .int .i64 bf, .int .i64 ov, .int .i64 (k : Int)].toArray w (bgV b l bf ov k) := by
  refine Ret.of mixed tyTab Try.func38 rfl rfl ?_
  have hP' : PlR (fnCx mixed tyTab Try.f38.ntmps w).B (fnCx mixed tyTab Try.f38.ntmps w).w0 p a b v l := hP
  have hR := hP'.r
  have hC := hP'.c
  have hrk := hd.at_ hk
  unfold OkR at hrk
  refine W.sreg ?_
  refine WO.p rfl rfl (WO.p rfl rfl ?_)
  refine WO.nil ?_
  refine W.sreg ?_
  refine WO.p rfl rfl (WO.p rfl rfl (WO.field0 rfl rfl rfl (WO.field rfl rfl rfl ?_)))
  refine' WO.load (v := _) rfl rfl ?hc rfl ?_
  case hc => (first | (refine hC.cellAt (u := v) ?_; rfl))
  refine WO.p rfl rfl ?_
  refine' WO.indexAddr (n := _) (i := _) rfl rfl rfl ?hs ?h1 rfl ?_
  case hs => (first | exact hR.sl)
  case h1 => (first | omega | (simp; omega))
  refine' WO.loadA (vs := _) rfl rfl ?hc ?hl rfl ?_
  case hc => (first | exact RdF.cellsR hR (i := k) (by omega))
  case hl => rfl
  refine WO.alloc rfl rfl rfl (fun b1 hb1 => ?_)
  refine WO.storeA rfl rfl rfl rfl Pick.head rfl rfl ?_
  refine WO.nil ?_
  refine W.sreg ?_
  refine WO.fieldL rfl rfl rfl (WO.load rfl rfl (Cell.own Pick.head rfl) rfl (WO.p rfl rfl ?_))
  refine WO.nil ?_
  refine W.seq ?_
  refine W.sreg ?_
  refine WO.p rfl rfl (WO.p rfl rfl ?_)
  refine WO.nil ?_
  refine W.cond_bl rfl (fun c1 => ?_) (fun c1 => ?_)
  · first
    | (exfalso; omega)
    | (obtain ⟨i, rfl, hi⟩ : ∃ i : Nat, bf = (i : Int) ∧ i < l.length := by unfold In at hb; exact ⟨bf.toNat, by omega, by omega⟩
       have hw := hd.w hi k
       refine W.sreg ?_
       refine WO.p rfl rfl (WO.p rfl rfl (WO.p rfl rfl (WO.p rfl rfl (WO.field rfl rfl rfl ?_))))
       refine WO.indexArrP (i := i) (sz := 8) (fo := 3) (fo' := 3 + 8 * i) rfl rfl rfl rfl (by omega) (by omega) rfl ?_
       refine WO.indexArrP (i := k) (sz := 1) (fo := 3 + 8 * i) (fo' := 3 + (8 * i + k)) rfl rfl rfl rfl (by omega) (by omega) rfl ?_
       refine' WO.load (v := _) rfl rfl ?hc rfl ?_
       case hc => (first | exact hP'.wait hi hk h8 rfl)
       refine WO.p rfl rfl ?_
       refine WO.nil ?_
       refine W.seq ?_
       refine W.sreg ?_
       refine WO.p rfl rfl (WO.p rfl rfl ?_)
       refine WO.nil ?_
       refine W.cond_bl rfl (fun c2 => ?_) (fun c2 => ?_)
       · first
         | (exfalso; omega)
         | (refine W.sreg ?_
            refine WO.p rfl rfl (WO.p rfl rfl ?_)
            refine WO.nil ?_
            refine W.ret ?_
            first | (rw [bgV_18 (by assumption)]; exact fin.ret (Res.two rfl (RV.tmp rfl) (RV.tmp rfl)) rfl) | (rw [bgV_12 (by rw [Int.toNat_natCast]; omega) (by assumption)]; exact fin.ret (Res.two rfl (RV.tmp rfl) (RV.tmp rfl)) rfl) | (rw [bgV_0 (by rw [Int.toNat_natCast]; omega) (by assumption)]; exact fin.ret (Res.two rfl (RV.tmp rfl) (RV.tmp rfl)) rfl) | (rw [bgV_0 (by omega) (by rw [bgA_n (by omega)]; assumption), bgA_n (by omega)]; exact fin.ret (Res.two rfl (RV.tmp rfl) (RV.tmp rfl)) rfl) | (exfalso; omega))
       first
       | (exfalso; omega)
       | (refine W.skip ?_
          refine W.region ?_
          refine WO.p rfl rfl (WO.p rfl rfl (WO.p rfl rfl (WO.ar rfl rfl rfl (by (first | (unfold in64; omega) | (unfold in64; omega))) rfl ?_)))
          refine WO.max2 rfl rfl rfl ?_
          rw [← bgA_i]
          refine WO.p rfl rfl ?_
          refine WO.nil ?_
          refine W.seq ?_
          refine W.sreg ?_
          refine WO.p rfl rfl (WO.fieldL rfl rfl rfl (WO.load rfl rfl (Cell.own Pick.head rfl) rfl (WO.p rfl rfl ?_)))
          refine WO.nil ?_
          refine W.cond_bl rfl (fun c3 => ?_) (fun c3 => ?_)
          · first
            | (exfalso; omega)
            | (refine W.sreg ?_
               refine WO.p rfl rfl (WO.p rfl rfl ?_)
               refine WO.nil ?_
               refine W.ret ?_
               first | (rw [bgV_18 (by assumption)]; exact fin.ret (Res.two rfl (RV.tmp rfl) (RV.tmp rfl)) rfl) | (rw [bgV_12 (by rw [Int.toNat_natCast]; omega) (by assumption)]; exact fin.ret (Res.two rfl (RV.tmp rfl) (RV.tmp rfl)) rfl) | (rw [bgV_0 (by rw [Int.toNat_natCast]; omega) (by assumption)]; exact fin.ret (Res.two rfl (RV.tmp rfl) (RV.tmp rfl)) rfl) | (rw [bgV_0 (by omega) (by rw [bgA_n (by omega)]; assumption), bgA_n (by omega)]; exact fin.ret (Res.two rfl (RV.tmp rfl) (RV.tmp rfl)) rfl) | (exfalso; omega))
          first
          | (exfalso; omega)
          | (refine W.skip ?_
             refine W.sreg ?_
             refine WO.p rfl rfl (WO.p rfl rfl (WO.p rfl rfl ?_))
             refine WO.nil ?_
             refine W.ret ?_
             first | (rw [bgV_18 (by assumption)]; exact fin.ret (Res.two rfl (RV.tmp rfl) (RV.tmp rfl)) rfl) | (rw [bgV_12 (by rw [Int.toNat_natCast]; omega) (by assumption)]; exact fin.ret (Res.two rfl (RV.tmp rfl) (RV.tmp rfl)) rfl) | (rw [bgV_0 (by rw [Int.toNat_natCast]; omega) (by assumption)]; exact fin.ret (Res.two rfl (RV.tmp rfl) (RV.tmp rfl)) rfl) | (rw [bgV_0 (by omega) (by rw [bgA_n (by omega)]; assumption), bgA_n (by omega)]; exact fin.ret (Res.two rfl (RV.tmp rfl) (RV.tmp rfl)) rfl) | (exfalso; omega))))
  first
  | (exfalso; omega)
  | (refine W.skip ?_
     refine W.seq ?_
     refine W.sreg ?_
     refine WO.p rfl rfl (WO.fieldL rfl rfl rfl (WO.load rfl rfl (Cell.own Pick.head rfl) rfl (WO.p rfl rfl ?_)))
     refine WO.nil ?_
     refine W.cond_bl rfl (fun c2 => ?_) (fun c2 => ?_)
     · first
       | (exfalso; omega)
       | (refine W.sreg ?_
          refine WO.p rfl rfl (WO.p rfl rfl ?_)
          refine WO.nil ?_
          refine W.ret ?_
          first | (rw [bgV_18 (by assumption)]; exact fin.ret (Res.two rfl (RV.tmp rfl) (RV.tmp rfl)) rfl) | (rw [bgV_12 (by rw [Int.toNat_natCast]; omega) (by assumption)]; exact fin.ret (Res.two rfl (RV.tmp rfl) (RV.tmp rfl)) rfl) | (rw [bgV_0 (by rw [Int.toNat_natCast]; omega) (by assumption)]; exact fin.ret (Res.two rfl (RV.tmp rfl) (RV.tmp rfl)) rfl) | (rw [bgV_0 (by omega) (by rw [bgA_n (by omega)]; assumption), bgA_n (by omega)]; exact fin.ret (Res.two rfl (RV.tmp rfl) (RV.tmp rfl)) rfl) | (exfalso; omega))
     first
     | (exfalso; omega)
     | (refine W.skip ?_
        refine W.sreg ?_
        refine WO.p rfl rfl (WO.p rfl rfl (WO.p rfl rfl ?_))
        refine WO.nil ?_
        refine W.ret ?_
        first | (rw [bgV_18 (by assumption)]; exact fin.ret (Res.two rfl (RV.tmp rfl) (RV.tmp rfl)) rfl) | (rw [bgV_12 (by rw [Int.toNat_natCast]; omega) (by assumption)]; exact fin.ret (Res.two rfl (RV.tmp rfl) (RV.tmp rfl)) rfl) | (rw [bgV_0 (by rw [Int.toNat_natCast]; omega) (by assumption)]; exact fin.ret (Res.two rfl (RV.tmp rfl) (RV.tmp rfl)) rfl) | (rw [bgV_0 (by omega) (by rw [bgA_n (by omega)]; assumption), bgA_n (by omega)]; exact fin.ret (Res.two rfl (RV.tmp rfl) (RV.tmp rfl)) rfl) | (exfalso; omega)))
theorem plC_at {a b : Int} {v : Value} {l : List Rn} {i j : Nat} (hi : i < l.length) (hj : j < l.length) (h8 : l.length ≤ 8) : lget (plC a b v (gW b l)) (3 + (8 * i + j)) = some (.int .i64 (wOf b l i j)) := by
  rw [lget_eq]
  unfold plC
  rw [show 3 + (8 * i + j) = (8 * i + j) + 1 + 1 + 1 by omega, List.getElem?_cons_succ, List.getElem?_cons_succ, List.getElem?_cons_succ, tabC_get (by omega)]
  unfold gW
  rw [show (8 * i + j) / 8 = i by omega, show (8 * i + j) % 8 = j by omega, if_pos ⟨hi, hj⟩]
theorem ownP {C : Cx Try.prog} {H : List HP} {q k : Nat} {cs : List Value} {t : TypeId} {fr : Nat × Nat} {v : Value} (s : Sub H [pt q (.cells cs.toArray t fr)]) (hu : lget cs k = some v) : Cell C H (prt ⟨q, 0, none⟩ k) v := by
  rw [prt_eq, show (Addr.mk q 0 none).add k = ⟨q, k, none⟩ by unfold Addr.add; simp; exact fun h => h.symm]
  exact ownC s hu
theorem mem_take {o : List Int} {k : Nat} {x : Int} (h : x ∈ o.take k) : ∃ q, q < k ∧ o.getD q 0 = x := by
  obtain ⟨q, hq, e⟩ := List.mem_iff_getElem.1 h
  rw [List.length_take] at hq
  refine ⟨q, by omega, ?_⟩
  rw [List.getElem_take] at e
  rw [List.getD_eq_getElem?_getD, List.getElem?_eq_getElem (by omega), ← e]; rfl
theorem mem_take' {o : List Int} {k q : Nat} (h : q < k) (hq : q < o.length) : o.getD q 0 ∈ o.take k := by
  refine List.mem_iff_getElem.2 ⟨q, by rw [List.length_take]; omega, ?_⟩
  rw [List.getElem_take, List.getD_eq_getElem?_getD, List.getElem?_eq_getElem hq]; rfl
theorem c_Wait (w : World) (v : Value) (a b : Int) (l : List Rn) (i j : Int) (hR : RdF encR 6 w.heap.size w v l) : Ret Try.prog 28 [dayV a b v, .int .i64 i, .int .i64 j].toArray w (wtV a b l i j) := by
  refine Ret.of mixed tyTab Try.func28 rfl rfl ?_
  replace hR : RdF encR 6 (fnCx mixed tyTab Try.f28.ntmps w).B (fnCx mixed tyTab Try.f28.ntmps w).w0 v l := hR
  have ho := hR.sl.oc
  refine W.sreg ?_
  refine WO.boxA rfl rfl (fun b1 hb1 => ?_)
  refine WO.p rfl rfl (WO.p rfl rfl ?_)
  refine WO.nil ?_
  refine W.sreg ?_
  refine WO.loadA rfl rfl (Cells.own Pick.head) rfl rfl ?_
  refine WO.call rfl Try.call45 (fun L w hi => c_newPlanner w v a b l (hR.later hi)) rfl ?_
  rintro _ _ ⟨pv, rfl, rfl⟩
  refine WO.p rfl rfl (WO.p rfl rfl (WO.p rfl rfl (WO.p rfl rfl (WO.p rfl rfl ?_))))
  refine WO.nil ?_
  refine W.seq ?_
  refine W.block ?_
  refine W.sreg ?_
  refine WO.p rfl rfl (WO.p rfl rfl (WO.p rfl rfl ?_))
  refine WO.nil ?_
  refine W.cond_bl rfl (fun c1 => ?_) (fun c1 => ?_)
  · first
    | (exfalso; omega)
    | (refine W.sreg ?_
       refine WO.p rfl rfl (WO.p rfl rfl (WO.p rfl rfl ?_))
       refine WO.nil ?_
       refine W.ret ?_
       first | (rw [wtV_bad (by assumption)]; exact fin.ret (Res.two rfl (RV.tmp rfl) (RV.tmp rfl)) rfl) | (rw [wtV_3 (by omega) (by unfold In at *; omega)]; exact fin.ret (Res.two rfl (RV.tmp rfl) (RV.tmp rfl)) rfl) | (rw [wtV_18 (by omega) (by omega) (by omega) (by omega)]; exact fin.ret (Res.two rfl (RV.tmp rfl) (RV.tmp rfl)) rfl) | (rw [wtV_0 (by omega) (by omega) (by omega) (by omega)]; exact fin.ret (Res.two rfl (RV.tmp rfl) (RV.tmp rfl)) rfl))
  first
  | (exfalso; omega)
  | (have hcd := chkD0.1 (show chkD a b l = 0 by omega)
     refine W.chgE (PtrP.open (by repeat (first | exact Pick.head | apply Pick.tail)) (show chkD a b l = 0 by omega)) ?_
     rintro q rfl
     refine W.sreg ?_
     refine WO.p rfl rfl (WO.p rfl rfl ?_)
     refine WO.callR rfl Try.call57 (fun L w hi => c_has w ⟨q, 0, none⟩ a b v l _ (PlR.own (by repeat (first | exact Pick.head | apply Pick.tail)) hR hi)) rfl ?_
     refine WO.p rfl rfl (WO.p rfl rfl ?_)
     refine WO.guard_nbl rfl rfl (fun c2 => ?_) (fun c2 => ?_)
     · first
       | (exfalso; omega)
       | (refine WO.no rfl rfl (WO.no rfl rfl (WO.no rfl rfl (WO.no rfl rfl (WO.p rfl rfl (WO.p rfl rfl ?_)))))
          refine WO.nil ?_
          refine W.cond_t rfl ?_
          refine W.sreg ?_
          refine WO.p rfl rfl (WO.p rfl rfl ?_)
          refine WO.nil ?_
          refine W.ret ?_
          first | (rw [wtV_bad (by assumption)]; exact fin.ret (Res.two rfl (RV.tmp rfl) (RV.tmp rfl)) rfl) | (rw [wtV_3 (by omega) (by unfold In at *; omega)]; exact fin.ret (Res.two rfl (RV.tmp rfl) (RV.tmp rfl)) rfl) | (rw [wtV_18 (by omega) (by omega) (by omega) (by omega)]; exact fin.ret (Res.two rfl (RV.tmp rfl) (RV.tmp rfl)) rfl) | (rw [wtV_0 (by omega) (by omega) (by omega) (by omega)]; exact fin.ret (Res.two rfl (RV.tmp rfl) (RV.tmp rfl)) rfl))
     first
     | (exfalso; omega)
     | (refine WO.pg rfl rfl rfl (WO.pg rfl rfl rfl (WO.go' rfl ?_))
        refine WO.callR rfl Try.call57 (fun L w hi => c_has w ⟨q, 0, none⟩ a b v l _ (PlR.own (by repeat (first | exact Pick.head | apply Pick.tail)) hR hi)) rfl ?_
        refine WO.pg rfl rfl rfl (WO.p rfl rfl (WO.p rfl rfl ?_))
        refine WO.nil ?_
        refine W.cond_nbl rfl (fun c3 => ?_) (fun c3 => ?_)
        · first
          | (exfalso; omega)
          | (refine W.sreg ?_
             refine WO.p rfl rfl (WO.p rfl rfl ?_)
             refine WO.nil ?_
             refine W.ret ?_
             first | (rw [wtV_bad (by assumption)]; exact fin.ret (Res.two rfl (RV.tmp rfl) (RV.tmp rfl)) rfl) | (rw [wtV_3 (by omega) (by unfold In at *; omega)]; exact fin.ret (Res.two rfl (RV.tmp rfl) (RV.tmp rfl)) rfl) | (rw [wtV_18 (by omega) (by omega) (by omega) (by omega)]; exact fin.ret (Res.two rfl (RV.tmp rfl) (RV.tmp rfl)) rfl) | (rw [wtV_0 (by omega) (by omega) (by omega) (by omega)]; exact fin.ret (Res.two rfl (RV.tmp rfl) (RV.tmp rfl)) rfl))
        first
        | (exfalso; omega)
        | (obtain ⟨i', rfl, hi'⟩ : ∃ n : Nat, i = (n : Int) ∧ n < l.length := by unfold In at *; exact ⟨i.toNat, by omega, by omega⟩
           obtain ⟨j', rfl, hj'⟩ : ∃ n : Nat, j = (n : Int) ∧ n < l.length := by unfold In at *; exact ⟨j.toNat, by omega, by omega⟩
           have hw := hcd.2.w hi' j'
           have hwt : wOf b l i' j' < 0 ↔ wOf b l i' j' = -1 := by omega
           refine W.sreg ?_
           refine WO.p rfl rfl (WO.p rfl rfl (WO.p rfl rfl (WO.p rfl rfl (WO.field rfl rfl rfl ?_))))
           refine WO.indexArrP (i := i') (sz := 8) (fo := 3) (fo' := 3 + 8 * i') rfl rfl rfl rfl (by omega) (by omega) rfl ?_
           refine WO.indexArrP (i := j') (sz := 1) (fo := 3 + 8 * i') (fo' := 3 + (8 * i' + j')) rfl rfl rfl rfl (by omega) (by omega) rfl ?_
           refine' WO.load (v := _) rfl rfl ?hc rfl ?_
           case hc => (first | (refine ownP (q := q) (cs := plC a b v (gW b l)) (t := 75) (fr := (0, 0)) (v := .int .i64 (wOf b l i' j')) ?_ (plC_at hi' hj' (by omega)); exact (by repeat (first | exact Sub.nil | refine Sub.cons (by repeat (first | exact Pick.head | apply Pick.tail)) ?_))))
           refine WO.p rfl rfl (WO.p rfl rfl ?_)
           refine WO.nil ?_
           refine W.cond_bl rfl (fun c4 => ?_) (fun c4 => ?_)
           · first
             | (exfalso; omega)
             | (refine W.sreg ?_
                refine WO.p rfl rfl (WO.p rfl rfl ?_)
                refine WO.nil ?_
                refine W.ret ?_
                first | (rw [wtV_bad (by assumption)]; exact fin.ret (Res.two rfl (RV.tmp rfl) (RV.tmp rfl)) rfl) | (rw [wtV_3 (by omega) (by unfold In at *; omega)]; exact fin.ret (Res.two rfl (RV.tmp rfl) (RV.tmp rfl)) rfl) | (rw [wtV_18 (by omega) (by omega) (by omega) (by omega)]; exact fin.ret (Res.two rfl (RV.tmp rfl) (RV.tmp rfl)) rfl) | (rw [wtV_0 (by omega) (by omega) (by omega) (by omega)]; exact fin.ret (Res.two rfl (RV.tmp rfl) (RV.tmp rfl)) rfl))
           first
           | (exfalso; omega)
           | (refine W.skip ?_
              refine W.sreg ?_
              refine WO.p rfl rfl (WO.p rfl rfl (WO.p rfl rfl (WO.p rfl rfl (WO.field rfl rfl rfl ?_))))
              refine WO.indexArrP (i := i') (sz := 8) (fo := 3) (fo' := 3 + 8 * i') rfl rfl rfl rfl (by omega) (by omega) rfl ?_
              refine WO.indexArrP (i := j') (sz := 1) (fo := 3 + 8 * i') (fo' := 3 + (8 * i' + j')) rfl rfl rfl rfl (by omega) (by omega) rfl ?_
              refine' WO.load (v := _) rfl rfl ?hc rfl ?_
              case hc => (first | (refine ownP (q := q) (cs := plC a b v (gW b l)) (t := 75) (fr := (0, 0)) (v := .int .i64 (wOf b l i' j')) ?_ (plC_at hi' hj' (by omega)); exact (by repeat (first | exact Sub.nil | refine Sub.cons (by repeat (first | exact Pick.head | apply Pick.tail)) ?_))))
              refine WO.p rfl rfl (WO.p rfl rfl ?_)
              refine WO.nil ?_
              refine W.ret ?_
              first | (rw [wtV_bad (by assumption)]; exact fin.ret (Res.two rfl (RV.tmp rfl) (RV.tmp rfl)) rfl) | (rw [wtV_3 (by omega) (by unfold In at *; omega)]; exact fin.ret (Res.two rfl (RV.tmp rfl) (RV.tmp rfl)) rfl) | (rw [wtV_18 (by omega) (by omega) (by omega) (by omega)]; exact fin.ret (Res.two rfl (RV.tmp rfl) (RV.tmp rfl)) rfl) | (rw [wtV_0 (by omega) (by omega) (by omega) (by omega)]; exact fin.ret (Res.two rfl (RV.tmp rfl) (RV.tmp rfl)) rfl)))))
/-- the errors of a day and an order -/
def noE (a b : Int) (l : List Rn) (o : List Int) : Int := if chkD a b l ≠ 0 then chkD a b l else ordE l o
theorem noE_bad {a b : Int} {l : List Rn} {o : List Int} (h : chkD a b l ≠ 0) : noE a b l o = chkD a b l := if_pos h
theorem noE_ok {a b : Int} {l : List Rn} {o : List Int} (h : ¬ chkD a b l ≠ 0) : noE a b l o = ordE l o := if_neg h
theorem c_newOrder (w : World) (v u : Value) (a b : Int) (l : List Rn) (o : List Int) (hR : RdF encR 6 w.heap.size w v l) (hX : RdF encI 1 w.heap.size w u o) : Ct Try.prog 37 [dayV a b v, u].toArray w fun r w' => ∃ Hq, (∃ pv, r = .tuple #[pv, .int .i64 (noE a b l o)] ∧ Hq = [PtrP pv (chkD a b l) (plC a b v (gW b l)) 75]) ∧ Inv w [] Hq w' := by
  refine Ct.ofI (X := Value) (p := fun pv r => r = .tuple #[pv, .int .i64 (noE a b l o)]) (Hx := fun pv => [PtrP pv (chkD a b l) (plC a b v (gW b l)) 75]) mixed tyTab Try.func37 rfl rfl ?_
  replace hR : RdF encR 6 (fnCx mixed tyTab Try.f37.ntmps w).B (fnCx mixed tyTab Try.f37.ntmps w).w0 v l := hR
  replace hX : RdF encI 1 (fnCx mixed tyTab Try.f37.ntmps w).B (fnCx mixed tyTab Try.f37.ntmps w).w0 u o := hX
  have ho := hR.sl.oc
  refine W.sreg ?_
  refine WO.boxA rfl rfl (fun b1 hb1 => ?_)
  refine WO.p rfl rfl (WO.p rfl rfl ?_)
  refine WO.nil ?_
  refine W.sreg ?_
  refine WO.loadA rfl rfl (Cells.own Pick.head) rfl rfl ?_
  refine WO.call rfl Try.call45 (fun L w hi => c_newPlanner w v a b l (hR.later hi)) rfl ?_
  rintro _ _ ⟨pv, rfl, rfl⟩
  refine WO.p rfl rfl (WO.p rfl rfl (WO.p rfl rfl (WO.p rfl rfl (WO.p rfl rfl ?_))))
  refine WO.nil ?_
  refine W.seq ?_
  refine W.sreg ?_
  refine WO.p rfl rfl (WO.p rfl rfl ?_)
  refine WO.nil ?_
  refine W.cond_bl rfl (fun c1 => ?_) (fun c1 => ?_)
  · first
    | (exfalso; omega)
    | (refine W.sreg ?_
       refine WO.p rfl rfl (WO.p rfl rfl (WO.p rfl rfl ?_))
       refine WO.nil ?_
       refine W.ret ?_
       first | (rw [noE_bad (by assumption)]; exact fin.ret (Res.two rfl (RV.tmp rfl) (RV.tmp rfl)) ⟨_, rfl, fun h hs => Sub.sat (.cons .head .nil) (PtrP.no (by assumption) h hs)⟩) | (rw [noE_ok (by assumption)]; exact fin.ret (Res.two rfl (RV.tmp rfl) (RV.tmp rfl)) ⟨_, rfl, fun h hs => Sub.sat (.cons .head .nil) (PtrP.yes (b := q) (by repeat (first | exact Pick.head | apply Pick.tail)) h hs)⟩))
  first
  | (exfalso; omega)
  | (refine W.skip ?_
     have hcd := chkD0.1 (show chkD a b l = 0 by omega)
     refine W.chgE (PtrP.open (by repeat (first | exact Pick.head | apply Pick.tail)) (show chkD a b l = 0 by omega)) ?_
     rintro q rfl
     refine W.sreg ?_
     refine WO.p rfl rfl (WO.p rfl rfl (WO.p rfl rfl ?_))
     refine WO.callR rfl Try.call58 (fun L w hi => c_order w ⟨q, 0, none⟩ a b v u l o (PlR.own (by repeat (first | exact Pick.head | apply Pick.tail)) hR hi) (hX.later hi) (by omega)) rfl ?_
     refine WO.p rfl rfl (WO.p rfl rfl ?_)
     refine WO.nil ?_
     refine W.ret ?_
     first | (rw [noE_bad (by assumption)]; exact fin.ret (Res.two rfl (RV.tmp rfl) (RV.tmp rfl)) ⟨_, rfl, fun h hs => Sub.sat (.cons .head .nil) (PtrP.no (by assumption) h hs)⟩) | (rw [noE_ok (by assumption)]; exact fin.ret (Res.two rfl (RV.tmp rfl) (RV.tmp rfl)) ⟨_, rfl, fun h hs => Sub.sat (.cons .head .nil) (PtrP.yes (b := q) (by repeat (first | exact Pick.head | apply Pick.tail)) h hs)⟩))
theorem ref_Ordered (w : World) (v u : Value) (a b : Int) (l : List Rn) (o : List Int) (hR : RdF encR 6 w.heap.size w v l) (hX : RdF encI 1 w.heap.size w u o) : Ret Try.prog 30 [dayV a b v, u].toArray w (.int .i64 (noE a b l o)) := by
  refine Ret.of mixed tyTab Try.func30 rfl rfl ?_
  replace hR : RdF encR 6 (fnCx mixed tyTab Try.f30.ntmps w).B (fnCx mixed tyTab Try.f30.ntmps w).w0 v l := hR
  replace hX : RdF encI 1 (fnCx mixed tyTab Try.f30.ntmps w).B (fnCx mixed tyTab Try.f30.ntmps w).w0 u o := hX
  have ho := hR.sl.oc
  have hle := hR.sl.le
  have hlx := hX.sl.le
  refine W.sreg ?_
  refine WO.boxA rfl rfl (fun b1 hb1 => ?_)
  refine WO.p rfl rfl ?_
  refine WO.nil ?_
  refine W.seq ?_
  refine W.sreg ?_
  refine WO.loadA rfl rfl (Cells.own Pick.head) rfl rfl ?_
  refine WO.callR rfl Try.call35 (fun L w hi => ref_CheckDay w v a b l (hR.later hi)) rfl ?_
  refine WO.p rfl rfl ?_
  refine WO.nil ?_
  refine W.cond_bl rfl (fun c1 => ?_) (fun c1 => ?_)
  · first
    | (exfalso; omega)
    | (refine W.sreg ?_
       refine WO.loadA rfl rfl (Cells.own Pick.head) rfl rfl ?_
       refine WO.callR rfl Try.call35 (fun L w hi => ref_CheckDay w v a b l (hR.later hi)) rfl ?_
       refine WO.p rfl rfl ?_
       refine WO.nil ?_
       refine W.ret ?_
       refine fin.ret (Res.one rfl (RV.tmp rfl)) (congrArg (Value.int .i64) ?_)
       first | exact (noE_bad (by assumption)).symm | (rw [noE_ok (by assumption)]; first | exact (ordE6 (by omega)).symm | exact (ordE3 (by omega) (fun h => by have q := h _ (getD_mem (show i < o.length by omega) 0); unfold In at q; omega)).symm | exact (ordE11 (by omega) hall (not_nodup (k := k) (by omega) (List.count_pos_iff.2 (by rw [show o.getD k 0 = o.getD j 0 by assumption]; exact mem_take' (by omega) (by omega))))).symm | exact (ordE0.2 ⟨by omega, hall, by rw [show k = o.length by omega, List.take_length] at hnd; exact hnd⟩).symm))
  first
  | (exfalso; omega)
  | (refine W.skip ?_
     refine W.seq ?_
     refine W.sreg ?_
     refine WO.p rfl rfl ?_
     refine' WO.len (n := _) rfl rfl ?hs rfl ?_
     case hs => (first | exact hX.sl)
     refine WO.fieldL rfl rfl rfl (WO.load rfl rfl (Cell.own Pick.head rfl) rfl ?_)
     refine' WO.len (n := _) rfl rfl ?hs rfl ?_
     case hs => (first | exact hR.sl)
     refine WO.p rfl rfl ?_
     refine WO.nil ?_
     refine W.cond_bl rfl (fun c2 => ?_) (fun c2 => ?_)
     · first
       | (exfalso; omega)
       | (refine W.sreg ?_
          refine WO.p rfl rfl ?_
          refine WO.nil ?_
          refine W.ret ?_
          refine fin.ret (Res.one rfl (RV.tmp rfl)) (congrArg (Value.int .i64) ?_)
          first | exact (noE_bad (by assumption)).symm | (rw [noE_ok (by assumption)]; first | exact (ordE6 (by omega)).symm | exact (ordE3 (by omega) (fun h => by have q := h _ (getD_mem (show i < o.length by omega) 0); unfold In at q; omega)).symm | exact (ordE11 (by omega) hall (not_nodup (k := k) (by omega) (List.count_pos_iff.2 (by rw [show o.getD k 0 = o.getD j 0 by assumption]; exact mem_take' (by omega) (by omega))))).symm | exact (ordE0.2 ⟨by omega, hall, by rw [show k = o.length by omega, List.take_length] at hnd; exact hnd⟩).symm))
     first
     | (exfalso; omega)
     | (refine W.skip ?_
        refine W.seq ?_
        refine W.sreg ?_
        refine WO.p rfl rfl ?_
        refine WO.nil ?_
        refine W.block ?_
        refine W.loop (fun (i : Nat) => i ≤ o.length ∧ ∀ x ∈ o.take i, In l x)
          (fun (i : Nat) => [(1, u), (2, .pointer (some ⟨b1, 0, none⟩)), (5, .int .i64 (i : Int))])
          (fun (i : Nat) => [pt b1 (.cells #[.int .i64 a, .int .i64 b, v] 26 (0, 0))])
          (fun (i : Nat) => o.length - i) 0
          (by exact ⟨by omega, by simp⟩) ⟨rfl, rfl, rfl, trivial⟩ (by repeat (first | exact Sub.nil | refine Sub.cons (by repeat (first | exact Pick.head | apply Pick.tail)) ?_)) ?_
        rintro i ⟨hi, hal⟩
        refine W.seq ?_
        refine W.sreg ?_
        refine WO.p rfl rfl (WO.p rfl rfl ?_)
        refine' WO.len (n := _) rfl rfl ?hs rfl ?_
        case hs => (first | exact hX.sl)
        refine WO.p rfl rfl ?_
        refine WO.nil ?_
        refine W.cond_bl rfl (fun c3 => ?_) (fun c3 => ?_)
        · first
          | (exfalso; omega)
          | (refine W.skip ?_
             refine W.seq ?_
             refine W.block ?_
             refine W.seq ?_
             refine W.drawD 13 [.r 0 [], .r 1 [], .r 2 [], .b 3 [], .r 4 [], .r 5 [], .r 6 [], .r 7 [], .r 8 [], .b 9 [], .r 10 [], .b 11 [], .r 12 []] [] (A0 := []) (Sub.refl _) (by kernel_rfl) ?_ ?_
             · exact (ALok.r (ALok.r (ALok.r (ALok.b (ALok.r (ALok.r (ALok.r (ALok.r (ALok.r (ALok.b (ALok.r (ALok.b (ALok.r ALok.nil)))))))))))))
             refine' DT.r rfl rfl rfl ?hq ?_
             case hq =>
               refine WO.p rfl rfl ?_
               exact WO.nil ⟨rfl, rfl⟩
             refine' DT.r rfl rfl rfl ?hq ?_
             case hq =>
               refine WO.p rfl rfl ?_
               exact WO.nil ⟨rfl, rfl⟩
             refine' DT.r rfl rfl rfl ?hq ?_
             case hq =>
               refine' WO.indexAddr (n := _) (i := _) rfl rfl rfl ?hs ?h1 rfl ?_
               case hs => (first | exact hX.sl)
               case h1 => (first | omega | (simp; omega))
               exact WO.nil ⟨rfl, rfl⟩
             refine' DT.b rfl rfl rfl ?hq ?_
             case hq =>
               refine' WO.load (v := _) rfl rfl ?hc rfl ?_
               case hc => (first | (refine hX.cell0 (i := i) (by omega) 0 ?_; rfl))
               exact WO.nil ⟨rfl, rfl⟩
             refine' DT.r rfl rfl rfl ?hq ?_
             case hq =>
               refine WO.p rfl rfl ?_
               exact WO.nil ⟨rfl, rfl⟩
             refine' DT.rB rfl rfl rfl ?hq (fun c4 => ?_) (fun c4 => ?_)
             case hq =>
               refine WO.p rfl rfl ?_
               exact WO.nil ⟨rfl, rfl⟩
             · first
               | (exfalso; omega)
               | (refine' DT.r rfl rfl rfl ?hq ?_
                  case hq =>
                    refine WO.no rfl rfl ?_
                    exact WO.nil ⟨rfl, rfl⟩
                  refine' DT.r rfl rfl rfl ?hq ?_
                  case hq =>
                    refine WO.no rfl rfl ?_
                    exact WO.nil ⟨rfl, rfl⟩
                  refine' DT.r rfl rfl rfl ?hq ?_
                  case hq =>
                    refine WO.no rfl rfl ?_
                    exact WO.nil ⟨rfl, rfl⟩
                  refine' DT.b rfl rfl rfl ?hq ?_
                  case hq =>
                    refine WO.no rfl rfl ?_
                    exact WO.nil ⟨rfl, rfl⟩
                  refine' DT.r rfl rfl rfl ?hq ?_
                  case hq =>
                    refine WO.no rfl rfl ?_
                    exact WO.nil ⟨rfl, rfl⟩
                  refine' DT.b rfl rfl rfl ?hq ?_
                  case hq =>
                    refine WO.no rfl rfl ?_
                    exact WO.nil ⟨rfl, rfl⟩
                  refine' DT.r rfl rfl rfl ?hq ?_
                  case hq =>
                    refine WO.no rfl rfl ?_
                    exact WO.nil ⟨rfl, rfl⟩
                  refine DT.nil [_] rfl ?_
                  refine WO.no rfl rfl (WO.p rfl rfl ?_)
                  refine WO.nil ?_
                  refine W.cond_t rfl ?_
                  refine W.sreg ?_
                  refine WO.p rfl rfl ?_
                  refine WO.nil ?_
                  refine W.ret ?_
                  refine fin.ret (Res.one rfl (RV.tmp rfl)) (congrArg (Value.int .i64) ?_)
                  first | exact (noE_bad (by assumption)).symm | (rw [noE_ok (by assumption)]; first | exact (ordE6 (by omega)).symm | exact (ordE3 (by omega) (fun h => by have q := h _ (getD_mem (show i < o.length by omega) 0); unfold In at q; omega)).symm | exact (ordE11 (by omega) hall (not_nodup (k := k) (by omega) (List.count_pos_iff.2 (by rw [show o.getD k 0 = o.getD j 0 by assumption]; exact mem_take' (by omega) (by omega))))).symm | exact (ordE0.2 ⟨by omega, hall, by rw [show k = o.length by omega, List.take_length] at hnd; exact hnd⟩).symm))
             first
             | (exfalso; omega)
             | (refine' DT.r rfl rfl rfl ?hq ?_
                case hq =>
                  refine WO.pg rfl rfl rfl ?_
                  exact WO.nil ⟨rfl, rfl⟩
                refine' DT.r rfl rfl rfl ?hq ?_
                case hq =>
                  refine WO.pg rfl rfl rfl ?_
                  exact WO.nil ⟨rfl, rfl⟩
                refine' DT.r rfl rfl rfl ?hq ?_
                case hq =>
                  refine WO.go' rfl ?_
                  refine' WO.indexAddr (n := _) (i := _) rfl rfl rfl ?hs ?h1 rfl ?_
                  case hs => (first | exact hX.sl)
                  case h1 => (first | omega | (simp; omega))
                  exact WO.nil ⟨rfl, rfl⟩
                refine' DT.b rfl rfl rfl ?hq ?_
                case hq =>
                  refine WO.go' rfl ?_
                  refine' WO.load (v := _) rfl rfl ?hc rfl ?_
                  case hc => (first | (refine hX.cell0 (i := i) (by omega) 0 ?_; rfl))
                  exact WO.nil ⟨rfl, rfl⟩
                refine' DT.r rfl rfl rfl ?hq ?_
                case hq =>
                  refine WO.go' rfl (WO.fieldL rfl rfl rfl ?_)
                  exact WO.nil ⟨rfl, rfl⟩
                refine' DT.b rfl rfl rfl ?hq ?_
                case hq =>
                  refine WO.go' rfl (WO.load rfl rfl (Cell.own Pick.head rfl) rfl ?_)
                  exact WO.nil ⟨rfl, rfl⟩
                refine' DT.r rfl rfl rfl ?hq ?_
                case hq =>
                  refine WO.go' rfl ?_
                  refine' WO.len (n := _) rfl rfl ?hs rfl ?_
                  case hs => (first | exact hR.sl)
                  exact WO.nil ⟨rfl, rfl⟩
                refine DT.nil [_] rfl ?_
                refine WO.pg rfl rfl rfl (WO.p rfl rfl ?_)
                refine WO.nil ?_
                refine W.cond_bl rfl (fun c5 => ?_) (fun c5 => ?_)
                · first
                  | (exfalso; omega)
                  | (refine W.sreg ?_
                     refine WO.p rfl rfl ?_
                     refine WO.nil ?_
                     refine W.ret ?_
                     refine fin.ret (Res.one rfl (RV.tmp rfl)) (congrArg (Value.int .i64) ?_)
                     first | exact (noE_bad (by assumption)).symm | (rw [noE_ok (by assumption)]; first | exact (ordE6 (by omega)).symm | exact (ordE3 (by omega) (fun h => by have q := h _ (getD_mem (show i < o.length by omega) 0); unfold In at q; omega)).symm | exact (ordE11 (by omega) hall (not_nodup (k := k) (by omega) (List.count_pos_iff.2 (by rw [show o.getD k 0 = o.getD j 0 by assumption]; exact mem_take' (by omega) (by omega))))).symm | exact (ordE0.2 ⟨by omega, hall, by rw [show k = o.length by omega, List.take_length] at hnd; exact hnd⟩).symm))
                first
                | (exfalso; omega)
                | (refine W.skip ?_
                   refine W.region ?_
                   refine WO.p rfl rfl (WO.ar rfl rfl rfl (by (first | (unfold in64; omega) | (unfold in64; omega))) rfl (WO.p rfl rfl ?_))
                   refine WO.nil ?_
                   refine' ⟨i + 1, ?hp, ?hmu, ⟨rfl, rfl, rfl, trivial⟩, ?hS⟩
                   case hS => repeat (first | exact Sub.nil | refine Sub.cons (by repeat (first | exact Pick.head | apply Pick.tail)) ?_)
                   case hp => exact ⟨by omega, all_succ (by omega) 0 hal (by unfold In; omega)⟩
                   case hmu => omega)))
        first
        | (exfalso; omega)
        | (refine W.exit (blk_same ?_)
           refine W.seq ?_
           have hall : ∀ x ∈ o, In l x := by rw [show i = o.length by omega, List.take_length] at hal; exact hal
           refine W.sreg ?_
           refine WO.p rfl rfl ?_
           refine WO.nil ?_
           refine W.block ?_
           refine W.loop (fun (k : Nat) => k ≤ o.length ∧ (o.take k).Nodup)
             (fun (k : Nat) => [(1, u), (6, .int .i64 (k : Int))])
             (fun (k : Nat) => [])
             (fun (k : Nat) => o.length - k) 0
             (by exact ⟨by omega, List.nodup_nil⟩) ⟨rfl, rfl, trivial⟩ (by repeat (first | exact Sub.nil | refine Sub.cons (by repeat (first | exact Pick.head | apply Pick.tail)) ?_)) ?_
           rintro k ⟨hk, hnd⟩
           refine W.seq ?_
           refine W.sreg ?_
           refine WO.p rfl rfl (WO.p rfl rfl ?_)
           refine' WO.len (n := _) rfl rfl ?hs rfl ?_
           case hs => (first | exact hX.sl)
           refine WO.p rfl rfl ?_
           refine WO.nil ?_
           refine W.cond_bl rfl (fun c4 => ?_) (fun c4 => ?_)
           · first
             | (exfalso; omega)
             | (refine W.skip ?_
                refine W.seq ?_
                refine W.block ?_
                refine W.sreg ?_
                refine WO.p rfl rfl ?_
                refine WO.nil ?_
                refine W.block ?_
                refine W.loop (fun (j : Nat) => j ≤ k ∧ ∀ q, q < j → o.getD k 0 ≠ o.getD q 0)
                  (fun (j : Nat) => [(1, u), (6, .int .i64 (k : Int)), (7, .int .i64 (j : Int))])
                  (fun (j : Nat) => [])
                  (fun (j : Nat) => k - j) 0
                  (by exact ⟨by omega, fun q hq => by omega⟩) ⟨rfl, rfl, rfl, trivial⟩ (by repeat (first | exact Sub.nil | refine Sub.cons (by repeat (first | exact Pick.head | apply Pick.tail)) ?_)) ?_
                rintro j ⟨hj, hno⟩
                refine W.seq ?_
                refine W.sreg ?_
                refine WO.p rfl rfl (WO.p rfl rfl (WO.p rfl rfl ?_))
                refine WO.nil ?_
                refine W.cond_bl rfl (fun c5 => ?_) (fun c5 => ?_)
                · first
                  | (exfalso; omega)
                  | (refine W.skip ?_
                     refine W.seq ?_
                     refine W.block ?_
                     refine W.seq ?_
                     refine W.drawD 8 [.r 0 [], .r 1 [], .r 2 [], .b 3 [], .r 4 [], .r 5 [], .r 6 [], .b 7 []] [] (A0 := []) (Sub.refl _) (by kernel_rfl) ?_ ?_
                     · exact (ALok.r (ALok.r (ALok.r (ALok.b (ALok.r (ALok.r (ALok.r (ALok.b ALok.nil))))))))
                     refine' DT.r rfl rfl rfl ?hq ?_
                     case hq =>
                       refine WO.p rfl rfl ?_
                       exact WO.nil ⟨rfl, rfl⟩
                     refine' DT.r rfl rfl rfl ?hq ?_
                     case hq =>
                       refine WO.p rfl rfl ?_
                       exact WO.nil ⟨rfl, rfl⟩
                     refine' DT.r rfl rfl rfl ?hq ?_
                     case hq =>
                       refine' WO.indexAddr (n := _) (i := _) rfl rfl rfl ?hs ?h1 rfl ?_
                       case hs => (first | exact hX.sl)
                       case h1 => (first | omega | (simp; omega))
                       exact WO.nil ⟨rfl, rfl⟩
                     refine' DT.b rfl rfl rfl ?hq ?_
                     case hq =>
                       refine' WO.load (v := _) rfl rfl ?hc rfl ?_
                       case hc => (first | (refine hX.cell0 (i := k) (by omega) 0 ?_; rfl))
                       exact WO.nil ⟨rfl, rfl⟩
                     refine' DT.r rfl rfl rfl ?hq ?_
                     case hq =>
                       refine WO.p rfl rfl ?_
                       exact WO.nil ⟨rfl, rfl⟩
                     refine' DT.r rfl rfl rfl ?hq ?_
                     case hq =>
                       refine WO.p rfl rfl ?_
                       exact WO.nil ⟨rfl, rfl⟩
                     refine' DT.r rfl rfl rfl ?hq ?_
                     case hq =>
                       refine' WO.indexAddr (n := _) (i := _) rfl rfl rfl ?hs ?h1 rfl ?_
                       case hs => (first | exact hX.sl)
                       case h1 => (first | omega | (simp; omega))
                       exact WO.nil ⟨rfl, rfl⟩
                     refine' DT.b rfl rfl rfl ?hq ?_
                     case hq =>
                       refine' WO.load (v := _) rfl rfl ?hc rfl ?_
                       case hc => (first | (refine hX.cell0 (i := j) (by omega) 0 ?_; rfl))
                       exact WO.nil ⟨rfl, rfl⟩
                     refine DT.nil [] rfl ?_
                     refine WO.p rfl rfl ?_
                     refine WO.nil ?_
                     refine W.cond_bl rfl (fun c6 => ?_) (fun c6 => ?_)
                     · first
                       | (exfalso; omega)
                       | (refine W.sreg ?_
                          refine WO.p rfl rfl ?_
                          refine WO.nil ?_
                          refine W.ret ?_
                          refine fin.ret (Res.one rfl (RV.tmp rfl)) (congrArg (Value.int .i64) ?_)
                          first | exact (noE_bad (by assumption)).symm | (rw [noE_ok (by assumption)]; first | exact (ordE6 (by omega)).symm | exact (ordE3 (by omega) (fun h => by have q := h _ (getD_mem (show i < o.length by omega) 0); unfold In at q; omega)).symm | exact (ordE11 (by omega) hall (not_nodup (k := k) (by omega) (List.count_pos_iff.2 (by rw [show o.getD k 0 = o.getD j 0 by assumption]; exact mem_take' (by omega) (by omega))))).symm | exact (ordE0.2 ⟨by omega, hall, by rw [show k = o.length by omega, List.take_length] at hnd; exact hnd⟩).symm))
                     first
                     | (exfalso; omega)
                     | (refine W.skip ?_
                        refine W.region ?_
                        refine WO.p rfl rfl (WO.ar rfl rfl rfl (by (first | (unfold in64; omega) | (unfold in64; omega))) rfl (WO.p rfl rfl ?_))
                        refine WO.nil ?_
                        refine' ⟨j + 1, ?hp, ?hmu, ⟨rfl, rfl, rfl, trivial⟩, ?hS⟩
                        case hS => repeat (first | exact Sub.nil | refine Sub.cons (by repeat (first | exact Pick.head | apply Pick.tail)) ?_)
                        case hp => exact ⟨by omega, fun q hq => by (rcases Nat.lt_or_ge q j with g | g; exact hno q g; (rw [show q = j by omega]; assumption))⟩
                        case hmu => omega))
                first
                | (exfalso; omega)
                | (refine W.exit (blk_same ?_)
                   refine W.region ?_
                   refine WO.p rfl rfl (WO.ar rfl rfl rfl (by (first | (unfold in64; omega) | (unfold in64; omega))) rfl (WO.p rfl rfl ?_))
                   refine WO.nil ?_
                   refine' ⟨k + 1, ?hp, ?hmu, ⟨rfl, rfl, trivial⟩, ?hS⟩
                   case hS => repeat (first | exact Sub.nil | refine Sub.cons (by repeat (first | exact Pick.head | apply Pick.tail)) ?_)
                   case hp => exact ⟨by omega, nodup_succ (by omega) hnd (List.count_eq_zero.2 (fun hm => by obtain ⟨q, hq, e⟩ := mem_take hm; exact hno q (by omega) e.symm))⟩
                   case hmu => omega))
           first
           | (exfalso; omega)
           | (refine W.exit (blk_same ?_)
              refine W.sreg ?_
              refine WO.p rfl rfl ?_
              refine WO.nil ?_
              refine W.ret ?_
              refine fin.ret (Res.one rfl (RV.tmp rfl)) (congrArg (Value.int .i64) ?_)
              first | exact (noE_bad (by assumption)).symm | (rw [noE_ok (by assumption)]; first | exact (ordE6 (by omega)).symm | exact (ordE3 (by omega) (fun h => by have q := h _ (getD_mem (show i < o.length by omega) 0); unfold In at q; omega)).symm | exact (ordE11 (by omega) hall (not_nodup (k := k) (by omega) (List.count_pos_iff.2 (by rw [show o.getD k 0 = o.getD j 0 by assumption]; exact mem_take' (by omega) (by omega))))).symm | exact (ordE0.2 ⟨by omega, hall, by rw [show k = o.length by omega, List.take_length] at hnd; exact hnd⟩).symm)))))
end Go.Proofs.Ytkonhpcldomidaa
