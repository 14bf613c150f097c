/-
  What is proved here: a table of the program's types (cells, fields, elements, zero values) agrees with the program. Conditions: none.
  What is proved here: which spots are valid. Conditions: none; each contract states its own.
  What is proved here: the changes and the bend of a line. Conditions: none; each contract states its own.
  What is proved here: what a line within spots costs. Conditions: none; each contract states its own.
  What is proved here: what a drawer tells. Conditions: none; each contract states its own.
  What is proved here: how a line goes on best. Conditions: none; each contract states its own.
  What is proved here: the states of a spot, in order, and what is paid from all states on. Conditions: none; each contract states its own.
  What is proved here: what is paid from all states on. Conditions: none; each contract states its own.
  What is proved here: the best line of a drawer. Conditions: none; each contract states its own.
-/
import Derived.Test.YtpecakgebhmnfaaM2
import Derived.Test.YtpecakgebhmnfaaChecked
import Derived.KernelRfl
import Derived.Test.YtpecakgebhmnfaaM7
set_option linter.unusedVariables false
set_option linter.unusedSimpArgs false
namespace Go.Proofs.Ytpecakgebhmnfaa
open Go Go.TH
def tyList : List TI := [⟨.none, 0, none⟩,
  ⟨.one, 1, some (.nilFunc)⟩,
  ⟨.int .i64, 1, some (.int .i64 0)⟩,
  ⟨.int .i64, 1, some (.int .i64 0)⟩,
  ⟨.one, 1, some (.bool false)⟩,
  ⟨.int .u8, 1, some (.int .u8 0)⟩,
  ⟨.int .u8, 1, some (.int .u8 0)⟩,
  ⟨.st [(0, 2), (1, 3), (2, 4), (3, 6)], 4, some (.agg #[.int .i64 0, .int .i64 0, .bool false, .int .u8 0])⟩,
  ⟨.st [(0, 2), (1, 3), (2, 4), (3, 6)], 4, some (.agg #[.int .i64 0, .int .i64 0, .bool false, .int .u8 0])⟩,
  ⟨.none, 0, none⟩,
  ⟨.none, 0, none⟩,
  ⟨.none, 0, none⟩,
  ⟨.int .u64, 1, some (.int .u64 0)⟩,
  ⟨.st [(0, 9), (1, 12)], 2, none⟩,
  ⟨.st [(0, 9), (1, 12)], 2, none⟩,
  ⟨.one, 1, some (.pointer none)⟩,
  ⟨.one, 1, some (.pointer none)⟩,
  ⟨.one, 1, some (.pointer none)⟩,
  ⟨.st [(0, 17)], 1, some (.agg #[.pointer none])⟩,
  ⟨.st [(0, 17)], 1, some (.agg #[.pointer none])⟩,
  ⟨.one, 1, some (.nilIface)⟩,
  ⟨.int .i32, 1, some (.int .i32 0)⟩,
  ⟨.sl 51 2 16, 1, some (.slice none 0 0)⟩,
  ⟨.st [(0, 22), (1, 2)], 2, some (.agg #[.slice none 0 0, .int .i64 0])⟩,
  ⟨.st [(0, 22), (1, 2)], 2, some (.agg #[.slice none 0 0, .int .i64 0])⟩,
  ⟨.sl 2 1 8, 1, some (.slice none 0 0)⟩,
  ⟨.one, 1, some (.nilFunc)⟩,
  ⟨.int .i64, 1, some (.int .i64 0)⟩,
  ⟨.none, 0, none⟩,
  ⟨.one, 1, some (.nilFunc)⟩,
  ⟨.none, 0, none⟩,
  ⟨.one, 1, some (.nilFunc)⟩,
  ⟨.one, 1, some (.nilFunc)⟩,
  ⟨.one, 1, some (.nilFunc)⟩,
  ⟨.one, 1, some (.nilFunc)⟩,
  ⟨.none, 0, none⟩,
  ⟨.one, 1, some (.nilFunc)⟩,
  ⟨.one, 1, some (.nilFunc)⟩,
  ⟨.none, 0, none⟩,
  ⟨.one, 1, some (.nilFunc)⟩,
  ⟨.one, 1, some (.nilFunc)⟩,
  ⟨.none, 0, none⟩,
  ⟨.one, 1, some (.nilFunc)⟩,
  ⟨.one, 1, some (.nilFunc)⟩,
  ⟨.one, 1, some (.nilFunc)⟩,
  ⟨.sl 5 1 1, 1, some (.slice none 0 0)⟩,
  ⟨.one, 1, some (.nilFunc)⟩,
  ⟨.one, 1, some (.nilFunc)⟩,
  ⟨.one, 1, some (.nilFunc)⟩,
  ⟨.int .i16, 1, some (.int .i16 0)⟩,
  ⟨.st [(0, 2), (1, 2)], 2, some (.agg #[.int .i64 0, .int .i64 0])⟩,
  ⟨.st [(0, 2), (1, 2)], 2, some (.agg #[.int .i64 0, .int .i64 0])⟩,
  ⟨.sl 25 1 24, 1, some (.slice none 0 0)⟩,
  ⟨.one, 1, some (.nilFunc)⟩,
  ⟨.ar 2 5 1, 2, some (.agg #[.int .u8 0, .int .u8 0])⟩,
  ⟨.int .u32, 1, some (.int .u32 0)⟩,
  ⟨.one, 1, some (.nilFunc)⟩,
  ⟨.one, 1, some (.nilFunc)⟩,
  ⟨.one, 1, some (.nilFunc)⟩,
  ⟨.one, 1, some (.nilFunc)⟩,
  ⟨.one, 1, some (.nilFunc)⟩,
  ⟨.none, 0, none⟩,
  ⟨.one, 1, some (.nilFunc)⟩,
  ⟨.one, 1, some (.nilFunc)⟩,
  ⟨.one, 1, some (.nilFunc)⟩,
  ⟨.one, 1, some (.nilFunc)⟩,
  ⟨.none, 0, none⟩,
  ⟨.one, 1, some (.pointer none)⟩,
  ⟨.one, 1, some (.nilFunc)⟩,
  ⟨.one, 1, some (.nilFunc)⟩,
  ⟨.one, 1, some (.nilFunc)⟩,
  ⟨.sl 77 4 32, 1, some (.slice none 0 0)⟩,
  ⟨.one, 1, some (.nilFunc)⟩,
  ⟨.one, 1, some (.map none)⟩,
  ⟨.st [(0, 3)], 1, some (.agg #[.int .i64 0])⟩,
  ⟨.st [(0, 3)], 1, some (.agg #[.int .i64 0])⟩,
  ⟨.st [(0, 3), (1, 3), (2, 3), (3, 75)], 4, some (.agg #[.int .i64 0, .int .i64 0, .int .i64 0, .int .i64 0])⟩,
  ⟨.st [(0, 3), (1, 3), (2, 3), (3, 75)], 4, some (.agg #[.int .i64 0, .int .i64 0, .int .i64 0, .int .i64 0])⟩,
  ⟨.ar 3 2 1, 3, some (.agg #[.int .i64 0, .int .i64 0, .int .i64 0])⟩,
  ⟨.sl 112 75 600, 1, some (.slice none 0 0)⟩,
  ⟨.st [(0, 24), (2, 2), (3, 2), (4, 79)], 5, some (.agg #[.slice none 0 0, .int .i64 0, .int .i64 0, .int .i64 0, .slice none 0 0])⟩,
  ⟨.st [(0, 24), (2, 2), (3, 2), (4, 79)], 5, some (.agg #[.slice none 0 0, .int .i64 0, .int .i64 0, .int .i64 0, .slice none 0 0])⟩,
  ⟨.one, 1, some (.nilFunc)⟩,
  ⟨.one, 1, some (.nilFunc)⟩,
  ⟨.sl 87 4 32, 1, some (.slice none 0 0)⟩,
  ⟨.one, 1, some (.nilFunc)⟩,
  ⟨.st [(0, 3), (1, 2), (2, 2), (3, 3)], 4, some (.agg #[.int .i64 0, .int .i64 0, .int .i64 0, .int .i64 0])⟩,
  ⟨.st [(0, 3), (1, 2), (2, 2), (3, 3)], 4, some (.agg #[.int .i64 0, .int .i64 0, .int .i64 0, .int .i64 0])⟩,
  ⟨.none, 0, none⟩,
  ⟨.one, 1, some (.nilFunc)⟩,
  ⟨.ar 5 4 1, 5, some (.agg #[.bool false, .bool false, .bool false, .bool false, .bool false])⟩,
  ⟨.sl 4 1 1, 1, some (.slice none 0 0)⟩,
  ⟨.one, 1, some (.nilFunc)⟩,
  ⟨.one, 1, some (.nilFunc)⟩,
  ⟨.one, 1, some (.nilFunc)⟩,
  ⟨.none, 0, none⟩,
  ⟨.one, 1, some (.nilFunc)⟩,
  ⟨.one, 1, some (.nilFunc)⟩,
  ⟨.one, 1, some (.nilFunc)⟩,
  ⟨.one, 1, some (.nilFunc)⟩,
  ⟨.one, 1, some (.nilFunc)⟩,
  ⟨.one, 1, some (.nilFunc)⟩,
  ⟨.one, 1, some (.nilFunc)⟩,
  ⟨.one, 1, some (.nilFunc)⟩,
  ⟨.none, 0, none⟩,
  ⟨.one, 1, some (.nilFunc)⟩,
  ⟨.one, 1, some (.nilFunc)⟩,
  ⟨.one, 1, some (.nilFunc)⟩,
  ⟨.one, 1, some (.nilFunc)⟩,
  ⟨.one, 1, some (.nilFunc)⟩,
  ⟨.ar 5 78 3, 15, some (.agg #[.int .i64 0, .int .i64 0, .int .i64 0, .int .i64 0, .int .i64 0, .int .i64 0, .int .i64 0, .int .i64 0, .int .i64 0, .int .i64 0, .int .i64 0, .int .i64 0, .int .i64 0, .int .i64 0, .int .i64 0])⟩,
  ⟨.ar 5 110 15, 75, some (.agg #[.int .i64 0, .int .i64 0, .int .i64 0, .int .i64 0, .int .i64 0, .int .i64 0, .int .i64 0, .int .i64 0, .int .i64 0, .int .i64 0, .int .i64 0, .int .i64 0, .int .i64 0, .int .i64 0, .int .i64 0, .int .i64 0, .int .i64 0, .int .i64 0, .int .i64 0, .int .i64 0, .int .i64 0, .int .i64 0, .int .i64 0, .int .i64 0, .int .i64 0, .int .i64 0, .int .i64 0, .int .i64 0, .int .i64 0, .int .i64 0, .int .i64 0, .int .i64 0, .int .i64 0, .int .i64 0, .int .i64 0, .int .i64 0, .int .i64 0, .int .i64 0, .int .i64 0, .int .i64 0, .int .i64 0, .int .i64 0, .int .i64 0, .int .i64 0, .int .i64 0, .int .i64 0, .int .i64 0, .int .i64 0, .int .i64 0, .int .i64 0, .int .i64 0, .int .i64 0, .int .i64 0, .int .i64 0, .int .i64 0, .int .i64 0, .int .i64 0, .int .i64 0, .int .i64 0, .int .i64 0, .int .i64 0, .int .i64 0, .int .i64 0, .int .i64 0, .int .i64 0, .int .i64 0, .int .i64 0, .int .i64 0, .int .i64 0, .int .i64 0, .int .i64 0, .int .i64 0, .int .i64 0, .int .i64 0, .int .i64 0])⟩,
  ⟨.ar 5 110 15, 75, some (.agg #[.int .i64 0, .int .i64 0, .int .i64 0, .int .i64 0, .int .i64 0, .int .i64 0, .int .i64 0, .int .i64 0, .int .i64 0, .int .i64 0, .int .i64 0, .int .i64 0, .int .i64 0, .int .i64 0, .int .i64 0, .int .i64 0, .int .i64 0, .int .i64 0, .int .i64 0, .int .i64 0, .int .i64 0, .int .i64 0, .int .i64 0, .int .i64 0, .int .i64 0, .int .i64 0, .int .i64 0, .int .i64 0, .int .i64 0, .int .i64 0, .int .i64 0, .int .i64 0, .int .i64 0, .int .i64 0, .int .i64 0, .int .i64 0, .int .i64 0, .int .i64 0, .int .i64 0, .int .i64 0, .int .i64 0, .int .i64 0, .int .i64 0, .int .i64 0, .int .i64 0, .int .i64 0, .int .i64 0, .int .i64 0, .int .i64 0, .int .i64 0, .int .i64 0, .int .i64 0, .int .i64 0, .int .i64 0, .int .i64 0, .int .i64 0, .int .i64 0, .int .i64 0, .int .i64 0, .int .i64 0, .int .i64 0, .int .i64 0, .int .i64 0, .int .i64 0, .int .i64 0, .int .i64 0, .int .i64 0, .int .i64 0, .int .i64 0, .int .i64 0, .int .i64 0, .int .i64 0, .int .i64 0, .int .i64 0, .int .i64 0])⟩,
  ⟨.one, 1, some (.nilFunc)⟩,
  ⟨.one, 1, some (.nilFunc)⟩,
  ⟨.st [(0, 17), (1, 17), (2, 17), (3, 9)], 4, none⟩,
  ⟨.st [(0, 17), (1, 17), (2, 17), (3, 9)], 4, none⟩,
  ⟨.none, 0, none⟩,
  ⟨.none, 0, none⟩,
  ⟨.none, 0, none⟩,
  ⟨.one, 1, some (.nilFunc)⟩,
  ⟨.int .u8, 1, some (.int .u8 0)⟩,
  ⟨.int .u8, 1, some (.int .u8 0)⟩,
  ⟨.one, 1, some (.nilFunc)⟩,
  ⟨.one, 1, some (.pointer none)⟩,
  ⟨.int .i32, 1, some (.int .i32 0)⟩,
  ⟨.int .i32, 1, some (.int .i32 0)⟩,
  ⟨.st [(0, 12), (1, 12), (2, 55), (3, 121), (4, 5), (5, 5), (6, 122), (7, 123), (8, 124), (9, 125), (10, 126)], 11, some (.agg #[.int .u64 0, .int .u64 0, .int .u32 0, .int .u8 0, .int .u8 0, .int .u8 0, .int .u8 0, .nilFunc, .pointer none, .int .i32 0, .int .i32 0])⟩,
  ⟨.st [(0, 12), (1, 12), (2, 55), (3, 121), (4, 5), (5, 5), (6, 122), (7, 123), (8, 124), (9, 125), (10, 126)], 11, some (.agg #[.int .u64 0, .int .u64 0, .int .u32 0, .int .u8 0, .int .u8 0, .int .u8 0, .int .u8 0, .nilFunc, .pointer none, .int .i32 0, .int .i32 0])⟩,
  ⟨.none, 0, none⟩]
theorem ty_ok : (tyList.zipIdx.all fun (ti, T) => tiChk Try.prog T ti) = true := by kernel_rfl
def tyTab : TTab Try.prog := ⟨tyList, ty_ok⟩
theorem mixed : Try.prog.follows .mixedOrders = true := by kernel_rfl
end Go.Proofs.Ytpecakgebhmnfaa
namespace Go.Proofs.Ytpecakgebhmnfaa
open Go Go.TH
attribute [local irreducible] W WO pt
set_option maxRecDepth 10000
set_option maxHeartbeats 1000000
def OkG (p : Int × Int) : Prop := -1000000 ≤ p.1 ∧ p.1 ≤ p.2 ∧ p.2 ≤ 1000000 ∧ p.2 - p.1 ≤ 4
instance (p : Int × Int) : Decidable (OkG p) := by unfold OkG; infer_instance
def OkS (l : List (Int × Int)) : Prop := ∀ p ∈ l, OkG p
instance (l : List (Int × Int)) : Decidable (OkS l) := by unfold OkS; infer_instance
/-- what CheckSpots answers -/
def chkF (l : List (Int × Int)) (t : Int) : Int := if l.length < 1 ∨ 24 < l.length then 6 else if t < 0 ∨ 1000000 < t then 2 else if OkS l then 0 else 2
theorem chkF0 {l : List (Int × Int)} {t : Int} : chkF l t = 0 ↔ (1 ≤ l.length ∧ l.length ≤ 24) ∧ (0 ≤ t ∧ t ≤ 1000000) ∧ OkS l := by
  unfold chkF
  split
  · exact ⟨fun h => by omega, fun h => by omega⟩
  · split
    · exact ⟨fun h => by omega, fun h => by omega⟩
    · split
      · exact ⟨fun _ => ⟨by omega, by omega, by assumption⟩, fun _ => rfl⟩
      · exact ⟨fun h => by omega, fun h => absurd h.2.2 (by assumption)⟩
theorem RdF.cells2 {C : Cx Try.prog} {H : List HP} {o : Value} {l : List (Int × Int)} (h : RdF encP 2 C.B C.w0 o l) {i : Nat} (h1 : i < l.length) : Cells C H (elt o i 2) [.int .i64 (l.getD i (0, 0)).1, .int .i64 (l.getD i (0, 0)).2] := RdF.cells h h1 (0, 0)
theorem ref_CheckSpots (w : World) (v : Value) (l : List (Int × Int)) (t : Int) (hR : RdF encP 2 w.heap.size w v l) : Ret Try.prog 19 [.agg #[v, .int .i64 t]].toArray w (.int .i64 (chkF l t)) := by
  refine Ret.of mixed tyTab Try.func19 rfl rfl ?_
  replace hR : RdF encP 2 (fnCx mixed tyTab Try.f19.ntmps w).B (fnCx mixed tyTab Try.f19.ntmps w).w0 v l := hR
  have hle := hR.sl.le
  have ho := hR.sl.oc
  refine W.sreg ?_
  refine WO.boxA rfl rfl (fun b1 hb1 => ?_)
  refine WO.p rfl rfl ?_
  refine WO.nil ?_
  refine W.seq ?_
  refine W.sreg ?_
  refine WO.field0 rfl rfl rfl (WO.load rfl rfl (Cell.own Pick.head rfl) rfl ?_)
  refine' WO.len (n := _) rfl rfl ?hs rfl ?_
  case hs => (first | exact hR.sl)
  refine WO.p rfl rfl (WO.p rfl rfl ?_)
  refine WO.guard_bl rfl rfl (fun c1 => ?_) (fun c1 => ?_)
  · first
    | (exfalso; omega)
    | (refine WO.no rfl rfl (WO.no rfl rfl (WO.no rfl rfl (WO.no rfl rfl (WO.p rfl rfl ?_))))
       refine WO.nil ?_
       refine W.cond_t rfl ?_
       refine W.sreg ?_
       refine WO.p rfl rfl ?_
       refine WO.nil ?_
       refine W.ret ?_
       refine fin.ret (Res.one rfl (RV.tmp rfl)) (congrArg (Value.int .i64) ?_)
       first | (unfold chkF; rw [if_pos (by omega)]; done) | (unfold chkF; rw [if_neg (by omega), if_pos (by omega)]; done) | (unfold chkF; rw [if_neg (by omega), if_neg (by omega), if_neg (fun h => by have h1 := h _ (getD_mem (show i < l.length by omega) (0, 0)); unfold OkG at h1; omega)]; done) | (unfold chkF; rw [if_neg (by omega), if_neg (by omega), if_pos (by rw [show i = l.length by omega, List.take_length] at hin; exact hin)]; done))
  · first
    | (exfalso; omega)
    | (refine WO.go' rfl (WO.field0 rfl rfl rfl (WO.go' rfl (WO.load rfl rfl (Cell.own Pick.head rfl) rfl (WO.go' rfl ?_))))
       refine' WO.len (n := _) rfl rfl ?hs rfl ?_
       case hs => (first | exact hR.sl)
       refine WO.pg rfl rfl rfl (WO.p rfl rfl ?_)
       refine WO.nil ?_
       refine W.cond_bl rfl (fun c2 => ?_) (fun c2 => ?_)
       · first
         | (exfalso; omega)
         | (refine W.sreg ?_
            refine WO.p rfl rfl ?_
            refine WO.nil ?_
            refine W.ret ?_
            refine fin.ret (Res.one rfl (RV.tmp rfl)) (congrArg (Value.int .i64) ?_)
            first | (unfold chkF; rw [if_pos (by omega)]; done) | (unfold chkF; rw [if_neg (by omega), if_pos (by omega)]; done) | (unfold chkF; rw [if_neg (by omega), if_neg (by omega), if_neg (fun h => by have h1 := h _ (getD_mem (show i < l.length by omega) (0, 0)); unfold OkG at h1; omega)]; done) | (unfold chkF; rw [if_neg (by omega), if_neg (by omega), if_pos (by rw [show i = l.length by omega, List.take_length] at hin; exact hin)]; done))
       · first
         | (exfalso; omega)
         | (refine W.skip ?_
            refine W.seq ?_
            refine W.sreg ?_
            refine WO.fieldL rfl rfl rfl (WO.load rfl rfl (Cell.own Pick.head rfl) rfl (WO.p rfl rfl (WO.p rfl rfl ?_)))
            refine WO.guard_bl rfl rfl (fun c3 => ?_) (fun c3 => ?_)
            · first
              | (exfalso; omega)
              | (refine WO.no rfl rfl (WO.no rfl rfl (WO.no rfl rfl (WO.p rfl rfl ?_)))
                 refine WO.nil ?_
                 refine W.cond_t rfl ?_
                 refine W.sreg ?_
                 refine WO.p rfl rfl ?_
                 refine WO.nil ?_
                 refine W.ret ?_
                 refine fin.ret (Res.one rfl (RV.tmp rfl)) (congrArg (Value.int .i64) ?_)
                 first | (unfold chkF; rw [if_pos (by omega)]; done) | (unfold chkF; rw [if_neg (by omega), if_pos (by omega)]; done) | (unfold chkF; rw [if_neg (by omega), if_neg (by omega), if_neg (fun h => by have h1 := h _ (getD_mem (show i < l.length by omega) (0, 0)); unfold OkG at h1; omega)]; done) | (unfold chkF; rw [if_neg (by omega), if_neg (by omega), if_pos (by rw [show i = l.length by omega, List.take_length] at hin; exact hin)]; done))
            · first
              | (exfalso; omega)
              | (refine WO.go' rfl (WO.fieldL rfl rfl rfl (WO.go' rfl (WO.load rfl rfl (Cell.own Pick.head rfl) rfl (WO.pg rfl rfl rfl (WO.p rfl rfl ?_)))))
                 refine WO.nil ?_
                 refine W.cond_bl rfl (fun c4 => ?_) (fun c4 => ?_)
                 · first
                   | (exfalso; omega)
                   | (refine W.sreg ?_
                      refine WO.p rfl rfl ?_
                      refine WO.nil ?_
                      refine W.ret ?_
                      refine fin.ret (Res.one rfl (RV.tmp rfl)) (congrArg (Value.int .i64) ?_)
                      first | (unfold chkF; rw [if_pos (by omega)]; done) | (unfold chkF; rw [if_neg (by omega), if_pos (by omega)]; done) | (unfold chkF; rw [if_neg (by omega), if_neg (by omega), if_neg (fun h => by have h1 := h _ (getD_mem (show i < l.length by omega) (0, 0)); unfold OkG at h1; omega)]; done) | (unfold chkF; rw [if_neg (by omega), if_neg (by omega), if_pos (by rw [show i = l.length by omega, List.take_length] at hin; exact hin)]; done))
                 · first
                   | (exfalso; omega)
                   | (refine W.skip ?_
                      refine W.seq ?_
                      refine W.sreg ?_
                      refine WO.p rfl rfl ?_
                      refine WO.nil ?_
                      refine W.block ?_
                      refine W.loop (fun (i : Nat) => i ≤ l.length ∧ OkS (l.take i))
                        (fun (i : Nat) => [(3, .int .i64 (i : Int)), (1, .pointer (some ⟨b1, 0, none⟩))])
                        (fun (i : Nat) => [pt b1 (.cells #[v, .int .i64 t] 24 (0, 0))])
                        (fun (i : Nat) => l.length - i) 0
                        (by exact ⟨by omega, fun x hx => by simp at hx⟩) ⟨rfl, rfl, trivial⟩ (by repeat (first | exact Sub.nil | refine Sub.cons (by repeat (first | exact Pick.head | apply Pick.tail)) ?_)) ?_
                      rintro i ⟨hi, hin⟩
                      refine W.seq ?_
                      refine W.sreg ?_
                      refine WO.p rfl rfl (WO.field0 rfl rfl rfl (WO.load rfl rfl (Cell.own Pick.head rfl) rfl ?_))
                      refine' WO.len (n := _) rfl rfl ?hs rfl ?_
                      case hs => (first | exact hR.sl)
                      refine WO.p rfl rfl ?_
                      refine WO.nil ?_
                      refine W.cond_bl rfl (fun c5 => ?_) (fun c5 => ?_)
                      · first
                        | (exfalso; omega)
                        | (refine W.skip ?_
                           refine W.seq ?_
                           refine W.block ?_
                           refine W.sreg ?_
                           refine WO.field0 rfl rfl rfl (WO.load rfl rfl (Cell.own Pick.head rfl) rfl (WO.p rfl rfl ?_))
                           refine' WO.indexAddr (n := _) (i := _) rfl rfl rfl ?hs ?h1 rfl ?_
                           case hs => (first | exact hR.sl)
                           case h1 => (first | omega | (simp; omega))
                           refine' WO.loadA (vs := _) rfl rfl ?hc ?hl rfl ?_
                           case hc => (first | exact RdF.cells2 hR (i := i) (by omega))
                           case hl => rfl
                           refine WO.alloc rfl rfl rfl (fun b2 hb2 => ?_)
                           refine WO.storeA rfl rfl rfl rfl Pick.head rfl rfl ?_
                           refine WO.nil ?_
                           refine W.sreg ?_
                           refine WO.field0 rfl rfl rfl (WO.load rfl rfl (Cell.own Pick.head rfl) rfl (WO.p rfl rfl (WO.p rfl rfl ?_)))
                           refine WO.guard_bl rfl rfl (fun c6 => ?_) (fun c6 => ?_)
                           · first
                             | (exfalso; omega)
                             | (refine WO.no rfl rfl (WO.no rfl rfl (WO.no rfl rfl (WO.no rfl rfl (WO.no rfl rfl (WO.p rfl rfl (WO.p rfl rfl (WO.no rfl rfl (WO.no rfl rfl (WO.no rfl rfl (WO.p rfl rfl (WO.p rfl rfl ?_)))))))))))
                                refine WO.no rfl rfl (WO.no rfl rfl (WO.no rfl rfl (WO.no rfl rfl (WO.no rfl rfl (WO.no rfl rfl (WO.p rfl rfl ?_))))))
                                refine WO.nil ?_
                                refine W.cond_t rfl ?_
                                refine W.sreg ?_
                                refine WO.p rfl rfl ?_
                                refine WO.nil ?_
                                refine W.ret ?_
                                refine fin.ret (Res.one rfl (RV.tmp rfl)) (congrArg (Value.int .i64) ?_)
                                first | (unfold chkF; rw [if_pos (by omega)]; done) | (unfold chkF; rw [if_neg (by omega), if_pos (by omega)]; done) | (unfold chkF; rw [if_neg (by omega), if_neg (by omega), if_neg (fun h => by have h1 := h _ (getD_mem (show i < l.length by omega) (0, 0)); unfold OkG at h1; omega)]; done) | (unfold chkF; rw [if_neg (by omega), if_neg (by omega), if_pos (by rw [show i = l.length by omega, List.take_length] at hin; exact hin)]; done))
                           · first
                             | (exfalso; omega)
                             | (refine WO.go' rfl (WO.field0 rfl rfl rfl (WO.go' rfl (WO.load rfl rfl (Cell.own Pick.head rfl) rfl (WO.go' rfl (WO.fieldL rfl rfl rfl (WO.go' rfl (WO.load rfl rfl (Cell.own Pick.head rfl) rfl (WO.pg rfl rfl rfl (WO.p rfl rfl (WO.p rfl rfl ?_))))))))))
                                refine WO.guard_bl rfl rfl (fun c7 => ?_) (fun c7 => ?_)
                                · first
                                  | (exfalso; omega)
                                  | (refine WO.no rfl rfl (WO.no rfl rfl (WO.no rfl rfl (WO.p rfl rfl (WO.p rfl rfl (WO.no rfl rfl (WO.no rfl rfl (WO.no rfl rfl (WO.no rfl rfl (WO.no rfl rfl (WO.no rfl rfl (WO.p rfl rfl ?_)))))))))))
                                     refine WO.nil ?_
                                     refine W.cond_t rfl ?_
                                     refine W.sreg ?_
                                     refine WO.p rfl rfl ?_
                                     refine WO.nil ?_
                                     refine W.ret ?_
                                     refine fin.ret (Res.one rfl (RV.tmp rfl)) (congrArg (Value.int .i64) ?_)
                                     first | (unfold chkF; rw [if_pos (by omega)]; done) | (unfold chkF; rw [if_neg (by omega), if_pos (by omega)]; done) | (unfold chkF; rw [if_neg (by omega), if_neg (by omega), if_neg (fun h => by have h1 := h _ (getD_mem (show i < l.length by omega) (0, 0)); unfold OkG at h1; omega)]; done) | (unfold chkF; rw [if_neg (by omega), if_neg (by omega), if_pos (by rw [show i = l.length by omega, List.take_length] at hin; exact hin)]; done))
                                · first
                                  | (exfalso; omega)
                                  | (refine WO.go' rfl (WO.fieldL rfl rfl rfl (WO.go' rfl (WO.load rfl rfl (Cell.own Pick.head rfl) rfl (WO.pg rfl rfl rfl (WO.p rfl rfl (WO.p rfl rfl ?_))))))
                                     refine WO.guard_bl rfl rfl (fun c8 => ?_) (fun c8 => ?_)
                                     · first
                                       | (exfalso; omega)
                                       | (refine WO.no rfl rfl (WO.no rfl rfl (WO.no rfl rfl (WO.no rfl rfl (WO.no rfl rfl (WO.no rfl rfl (WO.p rfl rfl ?_))))))
                                          refine WO.nil ?_
                                          refine W.cond_t rfl ?_
                                          refine W.sreg ?_
                                          refine WO.p rfl rfl ?_
                                          refine WO.nil ?_
                                          refine W.ret ?_
                                          refine fin.ret (Res.one rfl (RV.tmp rfl)) (congrArg (Value.int .i64) ?_)
                                          first | (unfold chkF; rw [if_pos (by omega)]; done) | (unfold chkF; rw [if_neg (by omega), if_pos (by omega)]; done) | (unfold chkF; rw [if_neg (by omega), if_neg (by omega), if_neg (fun h => by have h1 := h _ (getD_mem (show i < l.length by omega) (0, 0)); unfold OkG at h1; omega)]; done) | (unfold chkF; rw [if_neg (by omega), if_neg (by omega), if_pos (by rw [show i = l.length by omega, List.take_length] at hin; exact hin)]; done))
                                     · first
                                       | (exfalso; omega)
                                       | (refine WO.go' rfl (WO.fieldL rfl rfl rfl (WO.go' rfl (WO.load rfl rfl (Cell.own Pick.head rfl) rfl (WO.go' rfl (WO.field0 rfl rfl rfl (WO.go' rfl (WO.load rfl rfl (Cell.own Pick.head rfl) rfl (WO.go' rfl (WO.ar rfl rfl rfl (by (first | (unfold in64; omega) | (unfold in64; omega))) rfl (WO.pg rfl rfl rfl (WO.p rfl rfl ?_)))))))))))
                                          refine WO.nil ?_
                                          refine W.cond_bl rfl (fun c9 => ?_) (fun c9 => ?_)
                                          · first
                                            | (exfalso; omega)
                                            | (refine W.sreg ?_
                                               refine WO.p rfl rfl ?_
                                               refine WO.nil ?_
                                               refine W.ret ?_
                                               refine fin.ret (Res.one rfl (RV.tmp rfl)) (congrArg (Value.int .i64) ?_)
                                               first | (unfold chkF; rw [if_pos (by omega)]; done) | (unfold chkF; rw [if_neg (by omega), if_pos (by omega)]; done) | (unfold chkF; rw [if_neg (by omega), if_neg (by omega), if_neg (fun h => by have h1 := h _ (getD_mem (show i < l.length by omega) (0, 0)); unfold OkG at h1; omega)]; done) | (unfold chkF; rw [if_neg (by omega), if_neg (by omega), if_pos (by rw [show i = l.length by omega, List.take_length] at hin; exact hin)]; done))
                                          · first
                                            | (exfalso; omega)
                                            | (refine W.skip ?_
                                               refine W.region ?_
                                               refine WO.p rfl rfl (WO.ar rfl rfl rfl (by (first | (unfold in64; omega) | (unfold in64; omega))) rfl (WO.p rfl rfl ?_))
                                               refine WO.nil ?_
                                               refine' ⟨i + 1, ?hp, ?hmu, ⟨rfl, rfl, trivial⟩, ?hS⟩
                                               case hS => repeat (first | exact Sub.nil | refine Sub.cons (by repeat (first | exact Pick.head | apply Pick.tail)) ?_)
                                               case hp => exact ⟨by omega, all_succ (by omega) (0, 0) hin (by unfold OkG; omega)⟩
                                               case hmu => omega)))))
                      · first
                        | (exfalso; omega)
                        | (refine W.exit (blk_same ?_)
                           refine W.sreg ?_
                           refine WO.p rfl rfl ?_
                           refine WO.nil ?_
                           refine W.ret ?_
                           refine fin.ret (Res.one rfl (RV.tmp rfl)) (congrArg (Value.int .i64) ?_)
                           first | (unfold chkF; rw [if_pos (by omega)]; done) | (unfold chkF; rw [if_neg (by omega), if_pos (by omega)]; done) | (unfold chkF; rw [if_neg (by omega), if_neg (by omega), if_neg (fun h => by have h1 := h _ (getD_mem (show i < l.length by omega) (0, 0)); unfold OkG at h1; omega)]; done) | (unfold chkF; rw [if_neg (by omega), if_neg (by omega), if_pos (by rw [show i = l.length by omega, List.take_length] at hin; exact hin)]; done))))))
theorem c_within1 (w : World) (x lo hi : Int) (p q : Addr) (h1 : Cap w p (.int .i64 lo)) (h2 : Cap w q (.int .i64 hi)) : Ret Try.prog 53 [.int .i64 x, .pointer (some p), .pointer (some q)].toArray w (.bool (bl (¬ (lo ≤ x ∧ x ≤ hi)))) := by
  refine Ret.of mixed tyTab Try.func53 rfl rfl ?_
  replace h1 : Cap (fnCx mixed tyTab Try.f53.ntmps w).w0 p (.int .i64 lo) := h1
  replace h2 : Cap (fnCx mixed tyTab Try.f53.ntmps w).w0 q (.int .i64 hi) := h2
  refine W.sreg ?_
  refine WO.p rfl rfl ?_
  refine WO.nil ?_
  refine W.sreg ?_
  refine WO.p rfl rfl ?_
  refine' WO.load (v := _) rfl rfl ?hc rfl ?_
  case hc => (first | (refine Cap.cell (v := .int .i64 lo) rfl h1))
  refine WO.p rfl rfl (WO.p rfl rfl ?_)
  refine WO.guard_bl rfl rfl (fun c1 => ?_) (fun c1 => ?_)
  · first
    | (exfalso; omega)
    | (refine WO.no rfl rfl (WO.no rfl rfl (WO.no rfl rfl (WO.p rfl rfl (WO.p rfl rfl ?_))))
       refine WO.nil ?_
       refine W.ret ?_
       refine fin.ret (Res.one rfl (RV.tmp rfl)) (congrArg Value.bool ?_)
       first | exact (bl_t.2 (by omega)).symm | (rw [bl_eq, bl_eq, decide_eq_decide]; omega))
  · first
    | (exfalso; omega)
    | (refine WO.pg rfl rfl rfl (WO.go' rfl ?_)
       refine' WO.load (v := _) rfl rfl ?hc rfl ?_
       case hc => (first | (refine Cap.cell (v := .int .i64 hi) rfl h2))
       refine WO.pg rfl rfl rfl (WO.p rfl rfl (WO.p rfl rfl ?_))
       refine WO.nil ?_
       refine W.ret ?_
       refine fin.ret (Res.one rfl (RV.tmp rfl)) (congrArg Value.bool ?_)
       first | exact (bl_t.2 (by omega)).symm | (rw [bl_eq, bl_eq, decide_eq_decide]; omega))
theorem c_IndexI (w : World) (v : Value) (xs : List Int) (lo hi : Int) (p q : Addr) (hR : RdF encI 1 w.heap.size w v xs) (h1 : Cap w p (.int .i64 lo)) (h2 : Cap w q (.int .i64 hi)) : RetE Try.prog 66 [v, .func (.func 53) #[] #[.pointer (some p), .pointer (some q)]].toArray w (fun r => ∃ n : Int, r = .int .i64 n ∧ (0 ≤ n ↔ ¬ ∀ x ∈ xs, lo ≤ x ∧ x ≤ hi)) := by
  refine RetE.of mixed tyTab Try.func66 rfl rfl ?_
  replace hR : RdF encI 1 (fnCx mixed tyTab Try.f66.ntmps w).B (fnCx mixed tyTab Try.f66.ntmps w).w0 v xs := hR
  replace h1 : Cap (fnCx mixed tyTab Try.f66.ntmps w).w0 p (.int .i64 lo) := h1
  replace h2 : Cap (fnCx mixed tyTab Try.f66.ntmps w).w0 q (.int .i64 hi) := h2
  have hle := hR.sl.le
  refine W.sreg ?_
  refine WO.p rfl rfl ?_
  refine WO.nil ?_
  refine W.seq ?_
  refine W.sreg ?_
  refine WO.p rfl rfl ?_
  refine' WO.len (n := _) rfl rfl ?hs rfl ?_
  case hs => (first | exact hR.sl)
  refine WO.p rfl rfl ?_
  refine WO.nil ?_
  refine W.block ?_
  refine W.loop (fun (i : Nat) => i ≤ xs.length ∧ ∀ x ∈ xs.take i, lo ≤ x ∧ x ≤ hi)
    (fun (i : Nat) => [(8, .int .i64 (i : Int)), (7, .int .i64 (xs.length : Int)), (0, v), (1, .func (.func 53) #[] #[.pointer (some p), .pointer (some q)])])
    (fun (i : Nat) => [])
    (fun (i : Nat) => xs.length - i) 0
    (by exact ⟨by omega, by simp⟩) ⟨rfl, rfl, rfl, rfl, trivial⟩ (by repeat (first | exact Sub.nil | refine Sub.cons (by repeat (first | exact Pick.head | apply Pick.tail)) ?_)) ?_
  rintro i ⟨hi0, hal⟩
  refine W.sreg ?_
  refine WO.p rfl rfl ?_
  refine WO.nil ?_
  refine W.seq ?_
  refine W.cond_bl rfl (fun c1 => ?_) (fun c1 => ?_)
  · first
    | (exfalso; omega)
    | (refine W.skip ?_
       refine W.seq ?_
       refine W.block ?_
       refine W.sreg ?_
       refine WO.p rfl rfl (WO.p rfl rfl ?_)
       refine WO.nil ?_
       refine W.sreg ?_
       refine WO.p rfl rfl (WO.p rfl rfl (WO.p rfl rfl ?_))
       refine' WO.indexAddr (n := _) (i := _) rfl rfl rfl ?hs ?h1 rfl ?_
       case hs => (first | exact hR.sl)
       case h1 => (first | omega | (simp; omega))
       refine' WO.load (v := _) rfl rfl ?hc rfl ?_
       case hc => (first | (refine hR.cell0 ?_ 0 ?_ <;> first | rfl | omega))
       refine WO.callCR (first := []) (captured := [.pointer (some p), .pointer (some q)]) rfl rfl Try.call53 (fun L w hi' => c_within1 w (xs.getD i 0) lo hi p q (h1.old rfl hi') (h2.old rfl hi')) rfl ?_
       refine WO.nil ?_
       refine W.cond_bl rfl (fun c2 => ?_) (fun c2 => ?_)
       · first
         | (exfalso; omega)
         | (refine W.sreg ?_
            refine WO.p rfl rfl (WO.p rfl rfl ?_)
            refine WO.nil ?_
            refine W.ret ?_
            exact fin.ret (Res.one rfl (RV.tmp rfl)) ⟨_, rfl, by first | exact ⟨fun h => by omega, fun h => absurd (all_len (by omega) hal) h⟩ | exact ⟨fun _ => not_all_getD (i := i) (by omega) 0 (by assumption), fun _ => by omega⟩⟩)
       · first
         | (exfalso; omega)
         | (refine W.skip ?_
            refine W.region ?_
            refine WO.ar rfl rfl rfl (by (first | (unfold in64; omega) | (unfold in64; omega))) rfl (WO.p rfl rfl ?_)
            refine WO.nil ?_
            refine' ⟨i + 1, ?hp, ?hmu, ⟨rfl, rfl, rfl, rfl, trivial⟩, ?hS⟩
            case hS => repeat (first | exact Sub.nil | refine Sub.cons (by repeat (first | exact Pick.head | apply Pick.tail)) ?_)
            case hp => exact ⟨by omega, all_succ (by omega) 0 hal (Decidable.not_not.1 (by assumption))⟩
            case hmu => omega))
  · first
    | (exfalso; omega)
    | (refine W.exit (blk_same ?_)
       refine W.sreg ?_
       refine WO.p rfl rfl ?_
       refine WO.nil ?_
       refine W.ret ?_
       exact fin.ret (Res.one rfl (RV.tmp rfl)) ⟨_, rfl, by first | exact ⟨fun h => by omega, fun h => absurd (all_len (by omega) hal) h⟩ | exact ⟨fun _ => not_all_getD (i := i) (by omega) 0 (by assumption), fun _ => by omega⟩⟩)
theorem c_ContI (w : World) (v : Value) (xs : List Int) (lo hi : Int) (p q : Addr) (hR : RdF encI 1 w.heap.size w v xs) (h1 : Cap w p (.int .i64 lo)) (h2 : Cap w q (.int .i64 hi)) : Ret Try.prog 52 [v, .func (.func 53) #[] #[.pointer (some p), .pointer (some q)]].toArray w (.bool (bl (¬ ∀ x ∈ xs, lo ≤ x ∧ x ≤ hi))) := by
  refine Ret.of mixed tyTab Try.func52 rfl rfl ?_
  replace hR : RdF encI 1 (fnCx mixed tyTab Try.f52.ntmps w).B (fnCx mixed tyTab Try.f52.ntmps w).w0 v xs := hR
  replace h1 : Cap (fnCx mixed tyTab Try.f52.ntmps w).w0 p (.int .i64 lo) := h1
  replace h2 : Cap (fnCx mixed tyTab Try.f52.ntmps w).w0 q (.int .i64 hi) := h2
  refine W.sreg ?_
  refine WO.p rfl rfl ?_
  refine WO.nil ?_
  refine W.sreg ?_
  refine WO.p rfl rfl (WO.p rfl rfl ?_)
  refine WO.callE rfl Try.call66 (fun L w hi' => c_IndexI w v xs lo hi p q (hR.later hi') (h1.old rfl hi') (h2.old rfl hi')) rfl ?_
  rintro _ ⟨n, rfl, hn⟩
  refine WO.p rfl rfl (WO.p rfl rfl ?_)
  refine WO.nil ?_
  refine W.ret ?_
  refine fin.ret (Res.one rfl (RV.tmp rfl)) ?_
  refine congrArg Value.bool ?_
  rw [bl_eq, bl_eq]; exact decide_eq_decide.2 hn
theorem c_within (w : World) (v : Value) (xs : List Int) (lo hi : Int) (hR : RdF encI 1 w.heap.size w v xs) : Ret Try.prog 37 [.int .i64 lo, .int .i64 hi, v].toArray w (.bool (bl (∀ x ∈ xs, lo ≤ x ∧ x ≤ hi))) := by
  refine Ret.of mixed tyTab Try.func37 rfl rfl ?_
  replace hR : RdF encI 1 (fnCx mixed tyTab Try.f37.ntmps w).B (fnCx mixed tyTab Try.f37.ntmps w).w0 v xs := hR
  refine W.sreg ?_
  refine WO.box1 rfl (by first | rfl | assumption) rfl (fun b1 hb1 => ?_)
  refine WO.box1 rfl (by first | rfl | assumption) rfl (fun b2 hb2 => ?_)
  refine WO.p rfl rfl ?_
  refine WO.nil ?_
  refine W.sreg ?_
  refine WO.p rfl rfl (WO.p rfl rfl ?_)
  refine WO.callR rfl Try.call52 (fun L w hi' => c_ContI w v xs lo hi _ _ (hR.later hi') (Cap.of (b := b1) (by repeat (first | exact Pick.head | apply Pick.tail)) rfl hi') (Cap.of (b := b2) (by repeat (first | exact Pick.head | apply Pick.tail)) rfl hi')) rfl ?_
  refine WO.p rfl rfl (WO.p rfl rfl ?_)
  refine WO.nil ?_
  refine W.ret ?_
  refine fin.ret (Res.one rfl (RV.tmp rfl)) (congrArg Value.bool ?_)
  rcases Decidable.em (∀ x ∈ xs, lo ≤ x ∧ x ≤ hi) with h | h
  · (rw [bl_t.2 h, bl_f.2 (fun g => g h)]; try rfl)
  · (rw [bl_f.2 h, bl_t.2 h]; try rfl)
theorem all1 {lo hi x : Int} : bl (∀ y ∈ [x], lo ≤ y ∧ y ≤ hi) = bl (lo ≤ x ∧ x ≤ hi) := by rw [bl_eq, bl_eq, decide_eq_decide]; simp
theorem all2 {lo hi x z : Int} : bl (∀ y ∈ [x, z], lo ≤ y ∧ y ≤ hi) = bl (lo ≤ x ∧ x ≤ hi ∧ lo ≤ z ∧ z ≤ hi) := by rw [bl_eq, bl_eq, decide_eq_decide]; simp; omega
theorem nbl {p q : Prop} [Decidable p] [Decidable q] (h : ¬ p ↔ q) : (!bl p) = bl q := by
  rw [bl_eq, bl_eq]
  by_cases g : p
  · simp [g]; exact fun x => h.2 x g
  · simp [g, h.1 g]
theorem c_bad (w : World) (p : Int × Int) : Ret Try.prog 40 [.agg #[.int .i64 p.1, .int .i64 p.2]].toArray w (.bool (bl (¬ OkG p))) := by
  refine Ret.of mixed tyTab Try.func40 rfl rfl ?_
  refine W.sreg ?_
  refine WO.boxA rfl rfl (fun b1 hb1 => ?_)
  refine WO.p rfl rfl ?_
  refine WO.nil ?_
  refine W.sreg ?_
  refine WO.field0 rfl rfl rfl (WO.load rfl rfl (Cell.own Pick.head rfl) rfl (WO.fieldL rfl rfl rfl (WO.load rfl rfl (Cell.own Pick.head rfl) rfl ?_)))
  refine' WO.buildSl (cs := _) rfl rfl rfl rfl ?hf rfl rfl ?hl rfl (fun v2 => ?_)
  case hf => (conv => lhs; simp [-List.getD_eq_getElem?_getD, fillL, vcl, wrl, TTab.pl?.lget']) <;> rfl
  case hl => rfl
  refine WO.callR (r := .bool (bl (-1000000 ≤ p.1 ∧ p.1 ≤ 1000000 ∧ -1000000 ≤ p.2 ∧ p.2 ≤ 1000000))) rfl Try.call37 (fun L w hi => by rw [← all2]; exact c_within w _ [p.1, p.2] _ _ (RdF.of_ow (e := 2) encI_ok (by repeat (first | exact Pick.head | apply Pick.tail)) hi)) rfl ?_
  refine WO.p rfl rfl (WO.p rfl rfl ?_)
  refine WO.guard_nbl rfl rfl (fun c1 => ?_) (fun c1 => ?_)
  · first
    | (exfalso; omega)
    | (refine WO.no rfl rfl (WO.no rfl rfl (WO.no rfl rfl (WO.no rfl rfl (WO.no rfl rfl (WO.no rfl rfl (WO.no rfl rfl (WO.no rfl rfl (WO.p rfl rfl (WO.p rfl rfl ?_)))))))))
       refine WO.nil ?_
       refine W.ret ?_
       refine fin.ret (Res.one rfl (RV.tmp rfl)) (congrArg Value.bool ?_)
       first | exact (bl_t.2 (by unfold OkG; omega)).symm | exact (bl_f.2 (by unfold OkG; omega)).symm | (refine nbl ?_; unfold OkG; omega) | (rw [bl_eq, bl_eq, decide_eq_decide]; unfold OkG; omega))
  · first
    | (exfalso; omega)
    | (refine WO.go' rfl (WO.fieldL rfl rfl rfl (WO.go' rfl (WO.load rfl rfl (Cell.own (Pick.tail (Pick.head)) rfl) rfl (WO.go' rfl (WO.field0 rfl rfl rfl (WO.go' rfl (WO.load rfl rfl (Cell.own (Pick.tail (Pick.head)) rfl) rfl (WO.go' rfl (WO.ar rfl rfl rfl (by (first | (unfold in64; omega) | (unfold in64; omega))) rfl (WO.go' rfl ?_))))))))))
       refine' WO.buildSl (cs := _) rfl rfl rfl rfl ?hf rfl rfl ?hl rfl (fun v3 => ?_)
       case hf => (conv => lhs; simp [-List.getD_eq_getElem?_getD, fillL, vcl, wrl, TTab.pl?.lget']) <;> rfl
       case hl => rfl
       refine WO.go' rfl ?_
       refine WO.callR (r := .bool (bl (0 ≤ p.2 - p.1 ∧ p.2 - p.1 ≤ 4))) rfl Try.call37 (fun L w hi => by rw [← all1]; exact c_within w _ [p.2 - p.1] _ _ (RdF.of_ow (e := 2) encI_ok (by repeat (first | exact Pick.head | apply Pick.tail)) hi)) rfl ?_
       refine WO.pg rfl rfl rfl (WO.p rfl rfl (WO.p rfl rfl ?_))
       refine WO.nil ?_
       refine W.ret ?_
       refine fin.ret (Res.one rfl (RV.tmp rfl)) (congrArg Value.bool ?_)
       first | exact (bl_t.2 (by unfold OkG; omega)).symm | exact (bl_f.2 (by unfold OkG; omega)).symm | (refine nbl ?_; unfold OkG; omega) | (rw [bl_eq, bl_eq, decide_eq_decide]; unfold OkG; omega))
theorem c_IndexP (w : World) (v : Value) (l : List (Int × Int)) (hR : RdF encP 2 w.heap.size w v l) : RetE Try.prog 57 [v, .func (.func 40) #[] #[]].toArray w (fun r => ∃ n : Int, r = .int .i64 n ∧ (0 ≤ n ↔ ¬ OkS l)) := by
  refine RetE.of mixed tyTab Try.func57 rfl rfl ?_
  replace hR : RdF encP 2 (fnCx mixed tyTab Try.f57.ntmps w).B (fnCx mixed tyTab Try.f57.ntmps w).w0 v l := hR
  have hle := hR.sl.le
  refine W.sreg ?_
  refine WO.p rfl rfl ?_
  refine WO.nil ?_
  refine W.seq ?_
  refine W.sreg ?_
  refine WO.p rfl rfl ?_
  refine' WO.len (n := _) rfl rfl ?hs rfl ?_
  case hs => (first | exact hR.sl)
  refine WO.p rfl rfl ?_
  refine WO.nil ?_
  refine W.block ?_
  refine W.loop (fun (i : Nat) => i ≤ l.length ∧ OkS (l.take i))
    (fun (i : Nat) => [(8, .int .i64 (i : Int)), (7, .int .i64 (l.length : Int)), (0, v), (1, .func (.func 40) #[] #[])])
    (fun (i : Nat) => [])
    (fun (i : Nat) => l.length - i) 0
    (by exact ⟨by omega, fun x hx => by simp at hx⟩) ⟨rfl, rfl, rfl, rfl, trivial⟩ (by repeat (first | exact Sub.nil | refine Sub.cons (by repeat (first | exact Pick.head | apply Pick.tail)) ?_)) ?_
  rintro i ⟨hi0, hal⟩
  refine W.sreg ?_
  refine WO.p rfl rfl ?_
  refine WO.nil ?_
  refine W.seq ?_
  refine W.cond_bl rfl (fun c1 => ?_) (fun c1 => ?_)
  · first
    | (exfalso; omega)
    | (refine W.skip ?_
       refine W.seq ?_
       refine W.block ?_
       refine W.sreg ?_
       refine WO.p rfl rfl (WO.p rfl rfl ?_)
       refine WO.nil ?_
       refine W.sreg ?_
       refine WO.p rfl rfl (WO.p rfl rfl (WO.p rfl rfl ?_))
       refine' WO.indexAddr (n := _) (i := _) rfl rfl rfl ?hs ?h1 rfl ?_
       case hs => (first | exact hR.sl)
       case h1 => (first | omega | (simp; omega))
       refine' WO.loadA (vs := _) rfl rfl ?hc ?hl rfl ?_
       case hc => (first | exact RdF.cells2 hR (i := i) (by omega))
       case hl => rfl
       refine WO.callCR (first := []) (captured := []) rfl rfl Try.call40 (fun L w hi' => c_bad w (l.getD i (0, 0))) rfl ?_
       refine WO.nil ?_
       refine W.cond_bl rfl (fun c2 => ?_) (fun c2 => ?_)
       · first
         | (exfalso; omega)
         | (refine W.sreg ?_
            refine WO.p rfl rfl (WO.p rfl rfl ?_)
            refine WO.nil ?_
            refine W.ret ?_
            exact fin.ret (Res.one rfl (RV.tmp rfl)) ⟨_, rfl, by first | exact ⟨fun h => by omega, fun h => absurd (all_len (by omega) hal) h⟩ | exact ⟨fun _ => not_all_getD (i := i) (by omega) (0, 0) (by assumption), fun _ => by omega⟩⟩)
       · first
         | (exfalso; omega)
         | (refine W.skip ?_
            refine W.region ?_
            refine WO.ar rfl rfl rfl (by (first | (unfold in64; omega) | (unfold in64; omega))) rfl (WO.p rfl rfl ?_)
            refine WO.nil ?_
            refine' ⟨i + 1, ?hp, ?hmu, ⟨rfl, rfl, rfl, rfl, trivial⟩, ?hS⟩
            case hS => repeat (first | exact Sub.nil | refine Sub.cons (by repeat (first | exact Pick.head | apply Pick.tail)) ?_)
            case hp => exact ⟨by omega, all_succ (by omega) (0, 0) hal (Decidable.not_not.1 (by assumption))⟩
            case hmu => omega))
  · first
    | (exfalso; omega)
    | (refine W.exit (blk_same ?_)
       refine W.sreg ?_
       refine WO.p rfl rfl ?_
       refine WO.nil ?_
       refine W.ret ?_
       exact fin.ret (Res.one rfl (RV.tmp rfl)) ⟨_, rfl, by first | exact ⟨fun h => by omega, fun h => absurd (all_len (by omega) hal) h⟩ | exact ⟨fun _ => not_all_getD (i := i) (by omega) (0, 0) (by assumption), fun _ => by omega⟩⟩)
theorem c_ContP (w : World) (v : Value) (l : List (Int × Int)) (hR : RdF encP 2 w.heap.size w v l) : Ret Try.prog 41 [v, .func (.func 40) #[] #[]].toArray w (.bool (bl (¬ OkS l))) := by
  refine Ret.of mixed tyTab Try.func41 rfl rfl ?_
  replace hR : RdF encP 2 (fnCx mixed tyTab Try.f41.ntmps w).B (fnCx mixed tyTab Try.f41.ntmps w).w0 v l := hR
  refine W.sreg ?_
  refine WO.p rfl rfl ?_
  refine WO.nil ?_
  refine W.sreg ?_
  refine WO.p rfl rfl (WO.p rfl rfl ?_)
  refine WO.callE rfl Try.call57 (fun L w hi' => c_IndexP w v l (hR.later hi')) rfl ?_
  rintro _ ⟨n, rfl, hn⟩
  refine WO.p rfl rfl (WO.p rfl rfl ?_)
  refine WO.nil ?_
  refine W.ret ?_
  refine fin.ret (Res.one rfl (RV.tmp rfl)) ?_
  refine congrArg Value.bool ?_
  rw [bl_eq, bl_eq]; exact decide_eq_decide.2 hn
theorem c_CheckSpots (w : World) (v : Value) (l : List (Int × Int)) (t : Int) (hR : RdF encP 2 w.heap.size w v l) : Ret Try.prog 18 [.agg #[v, .int .i64 t]].toArray w (.int .i64 (chkF l t)) := by
  refine Ret.of mixed tyTab Try.func18 rfl rfl ?_
  replace hR : RdF encP 2 (fnCx mixed tyTab Try.f18.ntmps w).B (fnCx mixed tyTab Try.f18.ntmps w).w0 v l := hR
  have ho := hR.sl.oc
  refine W.sreg ?_
  refine WO.boxA rfl rfl (fun b1 hb1 => ?_)
  refine WO.p rfl rfl ?_
  refine WO.nil ?_
  refine W.sreg ?_
  refine WO.p rfl rfl ?_
  refine WO.nil ?_
  refine W.seq ?_
  refine W.block ?_
  refine W.sreg ?_
  refine WO.field0 rfl rfl rfl (WO.load rfl rfl (Cell.own Pick.head rfl) rfl ?_)
  refine' WO.len (n := _) rfl rfl ?hs rfl ?_
  case hs => (first | exact hR.sl)
  refine WO.p rfl rfl (WO.p rfl rfl ?_)
  refine WO.guard_bl rfl rfl (fun c1 => ?_) (fun c1 => ?_)
  · first
    | (exfalso; omega)
    | (refine WO.no rfl rfl (WO.no rfl rfl (WO.no rfl rfl (WO.no rfl rfl (WO.p rfl rfl (WO.p rfl rfl ?_)))))
       refine WO.nil ?_
       refine W.cond_t rfl ?_
       refine W.sreg ?_
       refine WO.p rfl rfl ?_
       refine WO.nil ?_
       refine W.ret ?_
       refine fin.ret (Res.one rfl (RV.tmp rfl)) (congrArg (Value.int .i64) ?_)
       first | (unfold chkF; rw [if_pos (by omega)]; done) | (unfold chkF; rw [if_neg (by omega), if_pos (by omega)]; done) | (unfold chkF; rw [if_neg (by omega), if_neg (by omega), if_neg (by assumption)]; done) | (unfold chkF; rw [if_neg (by omega), if_neg (by omega), if_pos (Decidable.not_not.1 (by assumption))]; done))
  · first
    | (exfalso; omega)
    | (refine WO.go' rfl (WO.field0 rfl rfl rfl (WO.go' rfl (WO.load rfl rfl (Cell.own Pick.head rfl) rfl (WO.go' rfl ?_))))
       refine' WO.len (n := _) rfl rfl ?hs rfl ?_
       case hs => (first | exact hR.sl)
       refine WO.pg rfl rfl rfl (WO.p rfl rfl (WO.p rfl rfl ?_))
       refine WO.nil ?_
       refine W.cond_bl rfl (fun c2 => ?_) (fun c2 => ?_)
       · first
         | (exfalso; omega)
         | (refine W.sreg ?_
            refine WO.p rfl rfl ?_
            refine WO.nil ?_
            refine W.ret ?_
            refine fin.ret (Res.one rfl (RV.tmp rfl)) (congrArg (Value.int .i64) ?_)
            first | (unfold chkF; rw [if_pos (by omega)]; done) | (unfold chkF; rw [if_neg (by omega), if_pos (by omega)]; done) | (unfold chkF; rw [if_neg (by omega), if_neg (by omega), if_neg (by assumption)]; done) | (unfold chkF; rw [if_neg (by omega), if_neg (by omega), if_pos (Decidable.not_not.1 (by assumption))]; done))
       · first
         | (exfalso; omega)
         | (refine W.sreg ?_
            refine WO.fieldL rfl rfl rfl (WO.load rfl rfl (Cell.own Pick.head rfl) rfl ?_)
            refine' WO.buildSl (cs := _) rfl rfl rfl rfl ?hf rfl rfl ?hl rfl (fun v2 => ?_)
            case hf => (conv => lhs; simp [-List.getD_eq_getElem?_getD, fillL, vcl, wrl, TTab.pl?.lget']) <;> rfl
            case hl => rfl
            refine WO.callR (r := .bool (bl (0 ≤ t ∧ t ≤ 1000000))) rfl Try.call37 (fun L w hi => by rw [← all1]; exact c_within w _ [t] _ _ (RdF.of_ow (e := 2) encI_ok (by repeat (first | exact Pick.head | apply Pick.tail)) hi)) rfl ?_
            refine WO.p rfl rfl (WO.p rfl rfl ?_)
            refine WO.guard_nbl rfl rfl (fun c3 => ?_) (fun c3 => ?_)
            · first
              | (exfalso; omega)
              | (refine WO.no rfl rfl (WO.no rfl rfl (WO.no rfl rfl (WO.no rfl rfl (WO.p rfl rfl (WO.p rfl rfl ?_)))))
                 refine WO.nil ?_
                 refine W.cond_t rfl ?_
                 refine W.sreg ?_
                 refine WO.p rfl rfl ?_
                 refine WO.nil ?_
                 refine W.ret ?_
                 refine fin.ret (Res.one rfl (RV.tmp rfl)) (congrArg (Value.int .i64) ?_)
                 first | (unfold chkF; rw [if_pos (by omega)]; done) | (unfold chkF; rw [if_neg (by omega), if_pos (by omega)]; done) | (unfold chkF; rw [if_neg (by omega), if_neg (by omega), if_neg (by assumption)]; done) | (unfold chkF; rw [if_neg (by omega), if_neg (by omega), if_pos (Decidable.not_not.1 (by assumption))]; done))
            · first
              | (exfalso; omega)
              | (refine WO.go' rfl (WO.field0 rfl rfl rfl (WO.go' rfl (WO.load rfl rfl (Cell.own (Pick.tail (Pick.head)) rfl) rfl (WO.pg rfl rfl rfl (WO.go' rfl ?_)))))
                 refine WO.callR rfl Try.call41 (fun L w hi' => c_ContP w v l (hR.later hi')) rfl ?_
                 refine WO.p rfl rfl (WO.p rfl rfl ?_)
                 refine WO.nil ?_
                 refine W.cond_bl rfl (fun c4 => ?_) (fun c4 => ?_)
                 · first
                   | (exfalso; omega)
                   | (refine W.sreg ?_
                      refine WO.p rfl rfl ?_
                      refine WO.nil ?_
                      refine W.ret ?_
                      refine fin.ret (Res.one rfl (RV.tmp rfl)) (congrArg (Value.int .i64) ?_)
                      first | (unfold chkF; rw [if_pos (by omega)]; done) | (unfold chkF; rw [if_neg (by omega), if_pos (by omega)]; done) | (unfold chkF; rw [if_neg (by omega), if_neg (by omega), if_neg (by assumption)]; done) | (unfold chkF; rw [if_neg (by omega), if_neg (by omega), if_pos (Decidable.not_not.1 (by assumption))]; done))
                 · first
                   | (exfalso; omega)
                   | (refine W.skip ?_
                      refine W.sreg ?_
                      refine WO.p rfl rfl ?_
                      refine WO.nil ?_
                      refine W.ret ?_
                      refine fin.ret (Res.one rfl (RV.tmp rfl)) (congrArg (Value.int .i64) ?_)
                      first | (unfold chkF; rw [if_pos (by omega)]; done) | (unfold chkF; rw [if_neg (by omega), if_pos (by omega)]; done) | (unfold chkF; rw [if_neg (by omega), if_neg (by omega), if_neg (by assumption)]; done) | (unfold chkF; rw [if_neg (by omega), if_neg (by omega), if_pos (Decidable.not_not.1 (by assumption))]; done)))))
end Go.Proofs.Ytpecakgebhmnfaa
namespace Go.Proofs.Ytpecakgebhmnfaa
open Go Go.TH
attribute [local irreducible] W WO pt
set_option maxRecDepth 10000
set_option maxHeartbeats 1000000
/-- the sign behind a second difference, and the changes that it makes -/
def sg (s : Nat) (d : Int) : Nat := if 0 < d then 1 else if d < 0 then 2 else s
def chg (s : Nat) (d : Int) : Nat := if s ≠ 0 ∧ sg s d ≠ s then 1 else 0
def ab (n : Int) : Int := max n (-n)
theorem sg_le {s : Nat} {d : Int} (h : s ≤ 2) : sg s d ≤ 2 := by unfold sg; split; omega; split <;> omega
theorem chg_le (s : Nat) (d : Int) : chg s d ≤ 1 := by unfold chg; split <;> omega
theorem sg_1 {s : Nat} {d : Int} (h : 0 < d) : sg s d = 1 := if_pos h
theorem sg_2 {s : Nat} {d : Int} (h : d < 0) : sg s d = 2 := by unfold sg; rw [if_neg (by omega), if_pos h]
theorem sg_0 {s : Nat} {d : Int} (h : ¬ d > 0) (h2 : ¬ d < 0) : sg s d = s := by unfold sg; rw [if_neg (by omega), if_neg h2]
theorem nx_eq {s : Nat} {d : Int} {z z' : Nat} (h1 : sg s d = z) (h2 : chg s d = z') : (Value.tuple #[.agg #[.int .i64 (z : Int)], .int .i64 (z' : Int)]) = .tuple #[.agg #[.int .i64 (sg s d : Int)], .int .i64 (chg s d : Int)] := by rw [h1, h2]
/-- the second differences of a line -/
def bds (l : List Int) : List Int := (List.range (l.length - 2)).map fun i => l.getD i 0 - 2 * l.getD (i + 1) 0 + l.getD (i + 2) 0
theorem bds_len (l : List Int) : (bds l).length = l.length - 2 := by simp [bds]
theorem bds_get {l : List Int} {i : Nat} (h : i + 2 < l.length) : (bds l).getD i 0 = l.getD i 0 - 2 * l.getD (i + 1) 0 + l.getD (i + 2) 0 := by
  unfold bds
  rw [List.getD_eq_getElem?_getD, List.getElem?_map, List.getElem?_range (by omega)]
  rfl
def nxt (a : Nat × Nat × Int) (d : Int) : Nat × Nat × Int := (sg a.1 d, a.2.1 + chg a.1 d, a.2.2 + ab d)
def mst (s : Nat) (ds : List Int) : Nat × Nat × Int := ds.foldl nxt (s, 0, 0)
/-- the changes and the bend of a line -/
def chL (l : List Int) : Nat := (mst 0 (bds l)).2.1
def beL (l : List Int) : Int := (mst 0 (bds l)).2.2
theorem mst_succ {s : Nat} {ds : List Int} {k : Nat} (h : k < ds.length) : mst s (ds.take (k + 1)) = nxt (mst s (ds.take k)) (ds.getD k 0) := by
  unfold mst; rw [take_succ_getD h 0, List.foldl_append]; rfl
def OkI (l : List Int) : Prop := ∀ x ∈ l, -1000000 ≤ x ∧ x ≤ 1000000
instance (l : List Int) : Decidable (OkI l) := by unfold OkI; infer_instance
theorem ab_bd {d : Int} (h : -4000000 ≤ d ∧ d ≤ 4000000) : 0 ≤ ab d ∧ ab d ≤ 4000000 := by unfold ab; omega
theorem bd_in {l : List Int} (h : OkI l) {i : Nat} (hi : i + 2 < l.length) : -4000000 ≤ (bds l).getD i 0 ∧ (bds l).getD i 0 ≤ 4000000 := by
  rw [bds_get hi]
  have h1 := h _ (getD_mem (i := i) (by omega) 0)
  have h2 := h _ (getD_mem (i := i + 1) (by omega) 0)
  have h3 := h _ (getD_mem (i := i + 2) (by omega) 0)
  omega
theorem mst_bd {l : List Int} (h : OkI l) : ∀ {k : Nat}, k ≤ l.length - 2 → (mst 0 ((bds l).take k)).1 ≤ 2 ∧ (mst 0 ((bds l).take k)).2.1 ≤ k ∧ 0 ≤ (mst 0 ((bds l).take k)).2.2 ∧ (mst 0 ((bds l).take k)).2.2 ≤ 4000000 * k
  | 0, _ => by simp [mst]
  | k + 1, hk => by
    have ih := mst_bd h (k := k) (by omega)
    rw [mst_succ (by rw [bds_len]; omega)]
    have h1 := ab_bd (bd_in h (i := k) (by omega))
    have h2 := chg_le (mst 0 ((bds l).take k)).1 ((bds l).getD k 0)
    have h3 := sg_le (d := (bds l).getD k 0) ih.1
    unfold nxt
    simp only
    omega
theorem mea_bd {l : List Int} (h : OkI l) : chL l ≤ l.length ∧ 0 ≤ beL l ∧ beL l ≤ 4000000 * l.length := by
  have := mst_bd h (k := l.length - 2) (by omega)
  rw [List.take_of_length_le (by rw [bds_len]; omega)] at this
  unfold chL beL
  omega
theorem isSl_lit {a0 : Option Addr} {n c : Nat} (h : n ≤ 9223372036854775807) (h2 : 0 < n → ∃ b o, a0 = some ⟨b, o, none⟩) : IsSl (.slice a0 n c) n := ⟨h, a0, c, rfl, h2⟩
theorem RdF.cellI2 {C : Cx Try.prog} {H : List HP} {v : Value} {xs : List Int} {i j : Nat} {z : Int} (h : RdF encI 1 C.B C.w0 v xs) (hl : i < xs.length) (hz : z = xs.getD i 0) (hj : j = i) : Cell C H (elt v j 1) (.int .i64 z) := by
  subst hz hj
  exact h.cell0 hl 0 rfl
theorem RdF.cells2z {C : Cx Try.prog} {H : List HP} {o : Value} {l : List (Int × Int)} (h : RdF encP 2 C.B C.w0 o l) {i j : Nat} (h1 : i < l.length) (hj : j = i) : Cells C H (elt o j 2) [.int .i64 (l.getD i (0, 0)).1, .int .i64 (l.getD i (0, 0)).2] := by
  subst hj
  exact RdF.cells h h1 (0, 0)
theorem c_next (w : World) (s : Nat) (d : Int) (hs : s ≤ 2) : Ret Try.prog 54 [.agg #[.int .i64 (s : Int)], .int .i64 d].toArray w (.tuple #[.agg #[.int .i64 (sg s d : Int)], .int .i64 (chg s d : Int)]) := by
  refine Ret.of mixed tyTab Try.func54 rfl rfl ?_
  refine W.sreg ?_
  refine WO.boxA rfl rfl (fun b1 hb1 => ?_)
  refine WO.alloc rfl rfl rfl (fun b2 hb2 => ?_)
  refine WO.p rfl rfl ?_
  refine WO.nil ?_
  refine W.sreg ?_
  refine WO.field0 rfl rfl rfl (WO.load rfl rfl (Cell.own (Pick.tail (Pick.head)) rfl) rfl (WO.p rfl rfl ?_))
  refine WO.nil ?_
  refine W.seq ?_
  refine W.block ?_
  refine W.sreg ?_
  refine WO.p rfl rfl (WO.p rfl rfl (WO.p rfl rfl ?_))
  refine WO.nil ?_
  refine W.cond_bl rfl (fun c1 => ?_) (fun c1 => ?_)
  · first
    | (exfalso; omega)
    | (refine W.region ?_
       refine WO.p rfl rfl ?_
       refine WO.nil ?_
       refine W.seq ?_
       refine W.sreg ?_
       refine WO.field0 rfl rfl rfl (WO.load rfl rfl (Cell.own (Pick.tail (Pick.head)) rfl) rfl (WO.p rfl rfl (WO.p rfl rfl ?_)))
       refine WO.guard_bl rfl rfl (fun c2 => ?_) (fun c2 => ?_)
       · first
         | (exfalso; omega)
         | (refine WO.pg rfl rfl rfl (WO.go' rfl (WO.field0 rfl rfl rfl (WO.go' rfl (WO.load rfl rfl (Cell.own (Pick.tail (Pick.head)) rfl) rfl (WO.pg rfl rfl rfl (WO.p rfl rfl ?_))))))
            refine WO.nil ?_
            refine W.cond_bl rfl (fun c3 => ?_) (fun c3 => ?_)
            · first
              | (exfalso; omega)
              | (refine W.sreg ?_
                 refine WO.p rfl rfl ?_
                 refine' WO.build (cs := _) rfl rfl rfl ?hf rfl ?_
                 case hf => (conv => lhs; simp [-List.getD_eq_getElem?_getD, fillL, vcl, wrl, TTab.pl?.lget']) <;> rfl
                 refine WO.storeA rfl rfl rfl rfl Pick.head rfl rfl (WO.p rfl rfl ?_)
                 refine WO.nil ?_
                 refine W.ret ?_
                 refine fin.ret (Res.two rfl (RV.cell rfl rfl rfl (Cells.own (by repeat (first | exact Pick.head | apply Pick.tail)))) (RV.tmp rfl)) ?_
                 first | have e := sg_1 (s := s) (d := d) (by assumption) | have e := sg_2 (s := s) (d := d) (by assumption) | have e := sg_0 (s := s) (d := d) (by assumption) (by assumption)
                 first | exact nx_eq (z := 1) (z' := 0) e (by unfold chg; rw [e]; split <;> omega) | exact nx_eq (z := 1) (z' := 1) e (by unfold chg; rw [e]; split <;> omega) | exact nx_eq (z := 2) (z' := 0) e (by unfold chg; rw [e]; split <;> omega) | exact nx_eq (z := 2) (z' := 1) e (by unfold chg; rw [e]; split <;> omega) | exact nx_eq (z := s) (z' := 0) e (by unfold chg; rw [e]; split <;> omega))
            · first
              | (exfalso; omega)
              | (refine W.skip ?_
                 refine W.sreg ?_
                 refine WO.p rfl rfl ?_
                 refine' WO.build (cs := _) rfl rfl rfl ?hf rfl ?_
                 case hf => (conv => lhs; simp [-List.getD_eq_getElem?_getD, fillL, vcl, wrl, TTab.pl?.lget']) <;> rfl
                 refine WO.storeA rfl rfl rfl rfl Pick.head rfl rfl (WO.p rfl rfl ?_)
                 refine WO.nil ?_
                 refine W.ret ?_
                 refine fin.ret (Res.two rfl (RV.cell rfl rfl rfl (Cells.own (by repeat (first | exact Pick.head | apply Pick.tail)))) (RV.tmp rfl)) ?_
                 first | have e := sg_1 (s := s) (d := d) (by assumption) | have e := sg_2 (s := s) (d := d) (by assumption) | have e := sg_0 (s := s) (d := d) (by assumption) (by assumption)
                 first | exact nx_eq (z := 1) (z' := 0) e (by unfold chg; rw [e]; split <;> omega) | exact nx_eq (z := 1) (z' := 1) e (by unfold chg; rw [e]; split <;> omega) | exact nx_eq (z := 2) (z' := 0) e (by unfold chg; rw [e]; split <;> omega) | exact nx_eq (z := 2) (z' := 1) e (by unfold chg; rw [e]; split <;> omega) | exact nx_eq (z := s) (z' := 0) e (by unfold chg; rw [e]; split <;> omega)))
       · first
         | (exfalso; omega)
         | (refine WO.no rfl rfl (WO.no rfl rfl (WO.no rfl rfl (WO.no rfl rfl (WO.p rfl rfl ?_))))
            refine WO.nil ?_
            refine W.cond_f rfl ?_
            refine W.skip ?_
            refine W.sreg ?_
            refine WO.p rfl rfl ?_
            refine' WO.build (cs := _) rfl rfl rfl ?hf rfl ?_
            case hf => (conv => lhs; simp [-List.getD_eq_getElem?_getD, fillL, vcl, wrl, TTab.pl?.lget']) <;> rfl
            refine WO.storeA rfl rfl rfl rfl Pick.head rfl rfl (WO.p rfl rfl ?_)
            refine WO.nil ?_
            refine W.ret ?_
            refine fin.ret (Res.two rfl (RV.cell rfl rfl rfl (Cells.own (by repeat (first | exact Pick.head | apply Pick.tail)))) (RV.tmp rfl)) ?_
            first | have e := sg_1 (s := s) (d := d) (by assumption) | have e := sg_2 (s := s) (d := d) (by assumption) | have e := sg_0 (s := s) (d := d) (by assumption) (by assumption)
            first | exact nx_eq (z := 1) (z' := 0) e (by unfold chg; rw [e]; split <;> omega) | exact nx_eq (z := 1) (z' := 1) e (by unfold chg; rw [e]; split <;> omega) | exact nx_eq (z := 2) (z' := 0) e (by unfold chg; rw [e]; split <;> omega) | exact nx_eq (z := 2) (z' := 1) e (by unfold chg; rw [e]; split <;> omega) | exact nx_eq (z := s) (z' := 0) e (by unfold chg; rw [e]; split <;> omega)))
  · first
    | (exfalso; omega)
    | (refine W.sreg ?_
       refine WO.p rfl rfl (WO.p rfl rfl (WO.p rfl rfl ?_))
       refine WO.nil ?_
       refine W.cond_bl rfl (fun c4 => ?_) (fun c4 => ?_)
       · first
         | (exfalso; omega)
         | (refine W.region ?_
            refine WO.p rfl rfl ?_
            refine WO.nil ?_
            refine W.seq ?_
            refine W.sreg ?_
            refine WO.field0 rfl rfl rfl (WO.load rfl rfl (Cell.own (Pick.tail (Pick.head)) rfl) rfl (WO.p rfl rfl (WO.p rfl rfl ?_)))
            refine WO.guard_bl rfl rfl (fun c5 => ?_) (fun c5 => ?_)
            · first
              | (exfalso; omega)
              | (refine WO.pg rfl rfl rfl (WO.go' rfl (WO.field0 rfl rfl rfl (WO.go' rfl (WO.load rfl rfl (Cell.own (Pick.tail (Pick.head)) rfl) rfl (WO.pg rfl rfl rfl (WO.p rfl rfl ?_))))))
                 refine WO.nil ?_
                 refine W.cond_bl rfl (fun c6 => ?_) (fun c6 => ?_)
                 · first
                   | (exfalso; omega)
                   | (refine W.sreg ?_
                      refine WO.p rfl rfl ?_
                      refine' WO.build (cs := _) rfl rfl rfl ?hf rfl ?_
                      case hf => (conv => lhs; simp [-List.getD_eq_getElem?_getD, fillL, vcl, wrl, TTab.pl?.lget']) <;> rfl
                      refine WO.storeA rfl rfl rfl rfl Pick.head rfl rfl (WO.p rfl rfl ?_)
                      refine WO.nil ?_
                      refine W.ret ?_
                      refine fin.ret (Res.two rfl (RV.cell rfl rfl rfl (Cells.own (by repeat (first | exact Pick.head | apply Pick.tail)))) (RV.tmp rfl)) ?_
                      first | have e := sg_1 (s := s) (d := d) (by assumption) | have e := sg_2 (s := s) (d := d) (by assumption) | have e := sg_0 (s := s) (d := d) (by assumption) (by assumption)
                      first | exact nx_eq (z := 1) (z' := 0) e (by unfold chg; rw [e]; split <;> omega) | exact nx_eq (z := 1) (z' := 1) e (by unfold chg; rw [e]; split <;> omega) | exact nx_eq (z := 2) (z' := 0) e (by unfold chg; rw [e]; split <;> omega) | exact nx_eq (z := 2) (z' := 1) e (by unfold chg; rw [e]; split <;> omega) | exact nx_eq (z := s) (z' := 0) e (by unfold chg; rw [e]; split <;> omega))
                 · first
                   | (exfalso; omega)
                   | (refine W.skip ?_
                      refine W.sreg ?_
                      refine WO.p rfl rfl ?_
                      refine' WO.build (cs := _) rfl rfl rfl ?hf rfl ?_
                      case hf => (conv => lhs; simp [-List.getD_eq_getElem?_getD, fillL, vcl, wrl, TTab.pl?.lget']) <;> rfl
                      refine WO.storeA rfl rfl rfl rfl Pick.head rfl rfl (WO.p rfl rfl ?_)
                      refine WO.nil ?_
                      refine W.ret ?_
                      refine fin.ret (Res.two rfl (RV.cell rfl rfl rfl (Cells.own (by repeat (first | exact Pick.head | apply Pick.tail)))) (RV.tmp rfl)) ?_
                      first | have e := sg_1 (s := s) (d := d) (by assumption) | have e := sg_2 (s := s) (d := d) (by assumption) | have e := sg_0 (s := s) (d := d) (by assumption) (by assumption)
                      first | exact nx_eq (z := 1) (z' := 0) e (by unfold chg; rw [e]; split <;> omega) | exact nx_eq (z := 1) (z' := 1) e (by unfold chg; rw [e]; split <;> omega) | exact nx_eq (z := 2) (z' := 0) e (by unfold chg; rw [e]; split <;> omega) | exact nx_eq (z := 2) (z' := 1) e (by unfold chg; rw [e]; split <;> omega) | exact nx_eq (z := s) (z' := 0) e (by unfold chg; rw [e]; split <;> omega)))
            · first
              | (exfalso; omega)
              | (refine WO.no rfl rfl (WO.no rfl rfl (WO.no rfl rfl (WO.no rfl rfl (WO.p rfl rfl ?_))))
                 refine WO.nil ?_
                 refine W.cond_f rfl ?_
                 refine W.skip ?_
                 refine W.sreg ?_
                 refine WO.p rfl rfl ?_
                 refine' WO.build (cs := _) rfl rfl rfl ?hf rfl ?_
                 case hf => (conv => lhs; simp [-List.getD_eq_getElem?_getD, fillL, vcl, wrl, TTab.pl?.lget']) <;> rfl
                 refine WO.storeA rfl rfl rfl rfl Pick.head rfl rfl (WO.p rfl rfl ?_)
                 refine WO.nil ?_
                 refine W.ret ?_
                 refine fin.ret (Res.two rfl (RV.cell rfl rfl rfl (Cells.own (by repeat (first | exact Pick.head | apply Pick.tail)))) (RV.tmp rfl)) ?_
                 first | have e := sg_1 (s := s) (d := d) (by assumption) | have e := sg_2 (s := s) (d := d) (by assumption) | have e := sg_0 (s := s) (d := d) (by assumption) (by assumption)
                 first | exact nx_eq (z := 1) (z' := 0) e (by unfold chg; rw [e]; split <;> omega) | exact nx_eq (z := 1) (z' := 1) e (by unfold chg; rw [e]; split <;> omega) | exact nx_eq (z := 2) (z' := 0) e (by unfold chg; rw [e]; split <;> omega) | exact nx_eq (z := 2) (z' := 1) e (by unfold chg; rw [e]; split <;> omega) | exact nx_eq (z := s) (z' := 0) e (by unfold chg; rw [e]; split <;> omega)))
       · first
         | (exfalso; omega)
         | (refine W.skip ?_
            refine W.seq ?_
            refine W.sreg ?_
            refine WO.field0 rfl rfl rfl (WO.load rfl rfl (Cell.own (Pick.tail (Pick.head)) rfl) rfl (WO.p rfl rfl (WO.p rfl rfl ?_)))
            refine WO.guard_bl rfl rfl (fun c7 => ?_) (fun c7 => ?_)
            · first
              | (exfalso; omega)
              | (refine WO.pg rfl rfl rfl (WO.go' rfl (WO.field0 rfl rfl rfl (WO.go' rfl (WO.load rfl rfl (Cell.own (Pick.tail (Pick.head)) rfl) rfl (WO.pg rfl rfl rfl (WO.p rfl rfl ?_))))))
                 refine WO.nil ?_
                 refine W.cond_bl rfl (fun c8 => ?_) (fun c8 => ?_)
                 · first
                   | (exfalso; omega)
                   | (refine W.sreg ?_
                      refine WO.p rfl rfl ?_
                      refine' WO.build (cs := _) rfl rfl rfl ?hf rfl ?_
                      case hf => (conv => lhs; simp [-List.getD_eq_getElem?_getD, fillL, vcl, wrl, TTab.pl?.lget']) <;> rfl
                      refine WO.storeA rfl rfl rfl rfl Pick.head rfl rfl (WO.p rfl rfl ?_)
                      refine WO.nil ?_
                      refine W.ret ?_
                      refine fin.ret (Res.two rfl (RV.cell rfl rfl rfl (Cells.own (by repeat (first | exact Pick.head | apply Pick.tail)))) (RV.tmp rfl)) ?_
                      first | have e := sg_1 (s := s) (d := d) (by assumption) | have e := sg_2 (s := s) (d := d) (by assumption) | have e := sg_0 (s := s) (d := d) (by assumption) (by assumption)
                      first | exact nx_eq (z := 1) (z' := 0) e (by unfold chg; rw [e]; split <;> omega) | exact nx_eq (z := 1) (z' := 1) e (by unfold chg; rw [e]; split <;> omega) | exact nx_eq (z := 2) (z' := 0) e (by unfold chg; rw [e]; split <;> omega) | exact nx_eq (z := 2) (z' := 1) e (by unfold chg; rw [e]; split <;> omega) | exact nx_eq (z := s) (z' := 0) e (by unfold chg; rw [e]; split <;> omega))
                 · first
                   | (exfalso; omega)
                   | (refine W.skip ?_
                      refine W.sreg ?_
                      refine WO.p rfl rfl ?_
                      refine' WO.build (cs := _) rfl rfl rfl ?hf rfl ?_
                      case hf => (conv => lhs; simp [-List.getD_eq_getElem?_getD, fillL, vcl, wrl, TTab.pl?.lget']) <;> rfl
                      refine WO.storeA rfl rfl rfl rfl Pick.head rfl rfl (WO.p rfl rfl ?_)
                      refine WO.nil ?_
                      refine W.ret ?_
                      refine fin.ret (Res.two rfl (RV.cell rfl rfl rfl (Cells.own (by repeat (first | exact Pick.head | apply Pick.tail)))) (RV.tmp rfl)) ?_
                      first | have e := sg_1 (s := s) (d := d) (by assumption) | have e := sg_2 (s := s) (d := d) (by assumption) | have e := sg_0 (s := s) (d := d) (by assumption) (by assumption)
                      first | exact nx_eq (z := 1) (z' := 0) e (by unfold chg; rw [e]; split <;> omega) | exact nx_eq (z := 1) (z' := 1) e (by unfold chg; rw [e]; split <;> omega) | exact nx_eq (z := 2) (z' := 0) e (by unfold chg; rw [e]; split <;> omega) | exact nx_eq (z := 2) (z' := 1) e (by unfold chg; rw [e]; split <;> omega) | exact nx_eq (z := s) (z' := 0) e (by unfold chg; rw [e]; split <;> omega)))
            · first
              | (exfalso; omega)
              | (refine WO.no rfl rfl (WO.no rfl rfl (WO.no rfl rfl (WO.no rfl rfl (WO.p rfl rfl ?_))))
                 refine WO.nil ?_
                 refine W.cond_f rfl ?_
                 refine W.skip ?_
                 refine W.sreg ?_
                 refine WO.p rfl rfl ?_
                 refine' WO.build (cs := _) rfl rfl rfl ?hf rfl ?_
                 case hf => (conv => lhs; simp [-List.getD_eq_getElem?_getD, fillL, vcl, wrl, TTab.pl?.lget']) <;> rfl
                 refine WO.storeA rfl rfl rfl rfl Pick.head rfl rfl (WO.p rfl rfl ?_)
                 refine WO.nil ?_
                 refine W.ret ?_
                 refine fin.ret (Res.two rfl (RV.cell rfl rfl rfl (Cells.own (by repeat (first | exact Pick.head | apply Pick.tail)))) (RV.tmp rfl)) ?_
                 first | have e := sg_1 (s := s) (d := d) (by assumption) | have e := sg_2 (s := s) (d := d) (by assumption) | have e := sg_0 (s := s) (d := d) (by assumption) (by assumption)
                 first | exact nx_eq (z := 1) (z' := 0) e (by unfold chg; rw [e]; split <;> omega) | exact nx_eq (z := 1) (z' := 1) e (by unfold chg; rw [e]; split <;> omega) | exact nx_eq (z := 2) (z' := 0) e (by unfold chg; rw [e]; split <;> omega) | exact nx_eq (z := 2) (z' := 1) e (by unfold chg; rw [e]; split <;> omega) | exact nx_eq (z := s) (z' := 0) e (by unfold chg; rw [e]; split <;> omega))))
theorem c_measure (w : World) (v : Value) (l : List Int) (hR : RdF encI 1 w.heap.size w v l) (hl : l.length ≤ 4096) (hok : OkI l) : Ret Try.prog 38 [v].toArray w (.tuple #[.int .i64 (chL l : Int), .int .i64 (beL l)]) := by
  refine Ret.of mixed tyTab Try.func38 rfl rfl ?_
  replace hR : RdF encI 1 (fnCx mixed tyTab Try.f38.ntmps w).B (fnCx mixed tyTab Try.f38.ntmps w).w0 v l := hR
  have hle := hR.sl.le
  refine W.sreg ?_
  refine WO.p rfl rfl (WO.p rfl rfl ?_)
  refine WO.nil ?_
  refine W.sreg ?_
  refine WO.p rfl rfl (WO.p rfl rfl ?_)
  refine WO.nil ?_
  refine W.sreg ?_
  refine WO.alloc rfl rfl rfl (fun b1 hb1 => ?_)
  refine WO.nil ?_
  refine W.seq ?_
  refine W.sreg ?_
  refine WO.p rfl rfl ?_
  refine WO.nil ?_
  refine W.block ?_
  refine W.loop4 (fun (i : Nat) (s : Nat) (c : Nat) (b : Int) => 1 ≤ i ∧ i ≤ l.length + 1 ∧ (s, c, b) = mst 0 ((bds l).take (i - 1)))
    (fun (i : Nat) (s : Nat) (c : Nat) (b : Int) => [(7, .int .i64 (i : Int)), (4, .int .i64 (c : Int)), (5, .int .i64 b), (6, .pointer (some ⟨b1, 0, none⟩)), (0, v)])
    (fun (i : Nat) (s : Nat) (c : Nat) (b : Int) => [pt b1 (.cells #[.int .i64 (s : Int)] 75 (0, 0))])
    (fun (i : Nat) (s : Nat) (c : Nat) (b : Int) => l.length - i) 1 0 0 0
    (by exact ⟨by omega, by omega, rfl⟩) ⟨rfl, rfl, rfl, rfl, rfl, trivial⟩ (by repeat (first | exact Sub.nil | refine Sub.cons (by repeat (first | exact Pick.head | apply Pick.tail)) ?_)) ?_
  rintro i s c b ⟨hi1, hi0, hm⟩
  refine W.seq ?_
  refine W.sreg ?_
  refine WO.p rfl rfl (WO.ar rfl rfl rfl (by (first | (unfold in64; omega) | (unfold in64; omega))) rfl (WO.p rfl rfl ?_))
  refine' WO.len (n := _) rfl rfl ?hs rfl ?_
  case hs => (first | exact hR.sl)
  refine WO.p rfl rfl ?_
  refine WO.nil ?_
  refine W.cond_bl rfl (fun c1 => ?_) (fun c1 => ?_)
  · first
    | (exfalso; omega)
    | (refine W.skip ?_
       refine W.seq ?_
       refine W.block ?_
       refine W.seq ?_
       have hbi := bd_in hok (i := i - 1) (by omega)
       have hx1 := hok _ (getD_mem (i := i - 1) (by omega) 0)
       have hx2 := hok _ (getD_mem (i := i) (by omega) 0)
       have hx3 := hok _ (getD_mem (i := i + 1) (by omega) 0)
       have hge := bds_get (l := l) (i := i - 1) (by omega)
       have hmb := mst_bd hok (k := i - 1) (by omega)
       have hmn := mst_succ (s := 0) (ds := bds l) (k := i - 1) (by rw [bds_len]; omega)
       have hc1 := chg_le s (l.getD (i - 1) 0 - 2 * l.getD i 0 + l.getD (i + 1) 0)
       rw [← hm] at hmb hmn
       rw [show i - 1 + 1 = i by omega, show i - 1 + 2 = i + 1 by omega] at hge
       simp only at hmb
       refine W.drawD 16 [.r 0 [], .r 1 [], .r 2 [], .r 3 [], .b 4 [], .r 5 [], .r 6 [], .r 7 [], .b 8 [], .r 9 [], .r 10 [], .r 11 [], .r 12 [], .r 13 [], .r 14 [], .b 15 []] [] (A0 := []) (Sub.refl _) (by kernel_rfl) ?_ ?_
       · exact (ALok.r (ALok.r (ALok.r (ALok.r (ALok.b (ALok.r (ALok.r (ALok.r (ALok.b (ALok.r (ALok.r (ALok.r (ALok.r (ALok.r (ALok.r (ALok.b ALok.nil))))))))))))))))
       refine' DT.r rfl rfl rfl ?hq ?_
       case hq =>
         refine WO.p rfl rfl ?_
         exact WO.nil ⟨rfl, rfl⟩
       refine' DT.r rfl rfl rfl ?hq ?_
       case hq =>
         refine WO.p rfl rfl ?_
         exact WO.nil ⟨rfl, rfl⟩
       refine' DT.r rfl rfl rfl ?hq ?_
       case hq =>
         refine WO.ar rfl rfl rfl (by (first | (unfold in64; omega) | (unfold in64; omega))) rfl ?_
         exact WO.nil ⟨rfl, rfl⟩
       refine' DT.r rfl rfl rfl ?hq ?_
       case hq =>
         refine' WO.indexAddrZ (n := _) rfl rfl rfl ?hs ?h00 ?h1 rfl ?_
         case hs => (first | exact hR.sl)
         case h00 => omega
         case h1 => (first | omega | (simp; omega))
         exact WO.nil ⟨rfl, rfl⟩
       refine' DT.b rfl rfl rfl ?hq ?_
       case hq =>
         refine' WO.load (v := _) rfl rfl ?hc rfl ?_
         case hc => (first | (refine RdF.cellI2 hR (i := i - 1) (by omega) rfl ?_; omega))
         exact WO.nil ⟨rfl, rfl⟩
       refine' DT.r rfl rfl rfl ?hq ?_
       case hq =>
         refine WO.p rfl rfl ?_
         exact WO.nil ⟨rfl, rfl⟩
       refine' DT.r rfl rfl rfl ?hq ?_
       case hq =>
         refine WO.p rfl rfl ?_
         exact WO.nil ⟨rfl, rfl⟩
       refine' DT.r rfl rfl rfl ?hq ?_
       case hq =>
         refine' WO.indexAddr (n := _) (i := _) rfl rfl rfl ?hs ?h1 rfl ?_
         case hs => (first | exact hR.sl)
         case h1 => (first | omega | (simp; omega))
         exact WO.nil ⟨rfl, rfl⟩
       refine' DT.b rfl rfl rfl ?hq ?_
       case hq =>
         refine' WO.load (v := _) rfl rfl ?hc rfl ?_
         case hc => (first | (refine RdF.cellI2 hR (i := i) (by omega) rfl rfl))
         exact WO.nil ⟨rfl, rfl⟩
       refine' DT.r rfl rfl rfl ?hq ?_
       case hq =>
         refine WO.ar rfl rfl rfl (by (first | (unfold in64; omega) | (unfold in64; omega))) rfl ?_
         exact WO.nil ⟨rfl, rfl⟩
       refine' DT.r rfl rfl rfl ?hq ?_
       case hq =>
         refine WO.ar rfl rfl rfl (by (first | (unfold in64; omega) | (unfold in64; omega))) rfl ?_
         exact WO.nil ⟨rfl, rfl⟩
       refine' DT.r rfl rfl rfl ?hq ?_
       case hq =>
         refine WO.p rfl rfl ?_
         exact WO.nil ⟨rfl, rfl⟩
       refine' DT.r rfl rfl rfl ?hq ?_
       case hq =>
         refine WO.p rfl rfl ?_
         exact WO.nil ⟨rfl, rfl⟩
       refine' DT.r rfl rfl rfl ?hq ?_
       case hq =>
         refine WO.ar rfl rfl rfl (by (first | (unfold in64; omega) | (unfold in64; omega))) rfl ?_
         exact WO.nil ⟨rfl, rfl⟩
       refine' DT.r rfl rfl rfl ?hq ?_
       case hq =>
         refine' WO.indexAddrZ (n := _) rfl rfl rfl ?hs ?h00 ?h1 rfl ?_
         case hs => (first | exact hR.sl)
         case h00 => omega
         case h1 => (first | omega | (simp; omega))
         exact WO.nil ⟨rfl, rfl⟩
       refine' DT.b rfl rfl rfl ?hq ?_
       case hq =>
         refine' WO.load (v := _) rfl rfl ?hc rfl ?_
         case hc => (first | (refine RdF.cellI2 hR (i := i + 1) (by omega) rfl ?_; omega))
         exact WO.nil ⟨rfl, rfl⟩
       refine DT.nil [_] rfl ?_
       refine WO.ar rfl rfl rfl (by (first | (unfold in64; omega) | (unfold in64; omega))) rfl (WO.p rfl rfl ?_)
       refine WO.nil ?_
       refine W.sreg ?_
       refine WO.loadA rfl rfl (Cells.own Pick.head) rfl rfl (WO.p rfl rfl (WO.p rfl rfl ?_))
       refine WO.nil ?_
       refine W.sreg ?_
       refine WO.p rfl rfl (WO.p rfl rfl ?_)
       refine WO.callCR (first := [.agg #[.int .i64 (s : Int)]]) (captured := []) rfl rfl Try.call54 (fun L w hi => c_next w s (l.getD (i - 1) 0 - 2 * l.getD i 0 + l.getD (i + 1) 0) (by omega)) rfl ?_
       refine WO.p rfl rfl (WO.p rfl rfl (WO.p rfl rfl ?_))
       refine WO.alloc rfl rfl rfl (fun b2 hb2 => ?_)
       refine WO.storeA rfl rfl rfl rfl Pick.head rfl rfl (WO.p rfl rfl ?_)
       refine WO.nil ?_
       refine W.sreg ?_
       refine WO.loadA rfl rfl (Cells.own Pick.head) rfl rfl (WO.storeA rfl rfl rfl rfl (Pick.tail (Pick.head)) rfl rfl ?_)
       refine WO.nil ?_
       refine W.sreg ?_
       refine WO.p rfl rfl (WO.p rfl rfl (WO.ar rfl rfl rfl (by (first | (unfold in64; omega) | (unfold in64; omega))) rfl (WO.p rfl rfl ?_)))
       refine WO.nil ?_
       refine W.region ?_
       refine WO.p rfl rfl (WO.p rfl rfl (WO.p rfl rfl (WO.neg rfl (by (first | (unfold in64; omega) | (unfold in64; omega))) rfl ?_)))
       refine WO.max2 rfl rfl rfl ?_
       refine WO.ar rfl rfl rfl (by (first | (unfold in64; omega) | (unfold in64; omega))) rfl (WO.p rfl rfl ?_)
       refine WO.nil ?_
       refine W.region ?_
       refine WO.p rfl rfl (WO.ar rfl rfl rfl (by (first | (unfold in64; omega) | (unfold in64; omega))) rfl (WO.p rfl rfl ?_))
       refine WO.nil ?_
       refine' ⟨i + 1, sg s (l.getD (i - 1) 0 - 2 * l.getD i 0 + l.getD (i + 1) 0), c + chg s (l.getD (i - 1) 0 - 2 * l.getD i 0 + l.getD (i + 1) 0), _, ?hp, ?hmu, ⟨rfl, rfl, rfl, rfl, rfl, trivial⟩, ?hS⟩
       case hS => repeat (first | exact Sub.nil | refine Sub.cons (by repeat (first | exact Pick.head | apply Pick.tail)) ?_)
       case hp => exact ⟨by omega, by omega, by rw [show i + 1 - 1 = i - 1 + 1 by omega, hmn, hge]; rfl⟩
       case hmu => omega)
  · first
    | (exfalso; omega)
    | (refine W.exit (blk_same ?_)
       refine W.sreg ?_
       refine WO.p rfl rfl (WO.p rfl rfl (WO.p rfl rfl (WO.p rfl rfl ?_)))
       refine WO.nil ?_
       refine W.ret ?_
       refine fin.ret (Res.two rfl (RV.tmp rfl) (RV.tmp rfl)) ?_
       rw [List.take_of_length_le (by rw [bds_len]; omega)] at hm
       unfold chL beL; rw [← hm])
theorem ref_amount (w : World) (n : Int) (h : -9000000000000000000 ≤ n ∧ n ≤ 9000000000000000000) : Ret Try.prog 56 [.int .i64 n].toArray w (.int .i64 (ab n)) := by
  refine Ret.of mixed tyTab Try.func56 rfl rfl ?_
  refine W.sreg ?_
  refine WO.p rfl rfl ?_
  refine WO.nil ?_
  refine W.sreg ?_
  refine WO.p rfl rfl (WO.p rfl rfl (WO.neg rfl (by (first | (unfold in64; omega) | (unfold in64; omega))) rfl ?_))
  refine WO.max2 rfl rfl rfl ?_
  refine WO.p rfl rfl ?_
  refine WO.nil ?_
  refine W.ret ?_
  exact fin.ret (Res.one rfl (RV.tmp rfl)) rfl
theorem bds_take {l : List Int} {k : Nat} (h : k + 2 < l.length) : (bds l).take (k + 1) = (bds l).take k ++ [l.getD k 0 - 2 * l.getD (k + 1) 0 + l.getD (k + 2) 0] := by
  rw [take_succ_getD (by rw [bds_len]; omega) 0, bds_get h]
theorem ref_Bends (w : World) (v : Value) (l : List Int) (hR : RdF encI 1 w.heap.size w v l) (hok : OkI l) (hl : l.length ≤ 4096) : Ct Try.prog 55 [v].toArray w fun u w' => ∃ Hq, (Hq = [OwE encI 2 1 u (bds l)]) ∧ Inv w [] Hq w' := by
  refine Ct.of mixed tyTab Try.func55 rfl rfl ?_
  replace hR : RdF encI 1 (fnCx mixed tyTab Try.f55.ntmps w).B (fnCx mixed tyTab Try.f55.ntmps w).w0 v l := hR
  have hle := hR.sl.le
  refine W.sreg ?_
  refine WO.p rfl rfl ?_
  refine WO.nil ?_
  refine W.sreg ?_
  refine WO.p rfl rfl ?_
  refine WO.nil ?_
  refine W.seq ?_
  refine W.sreg ?_
  refine WO.p rfl rfl ?_
  refine WO.nil ?_
  refine W.block ?_
  refine W.chg (owNil (enc := encI) (e := 2) (sz := 1)) ?_
  refine W.loop2 (fun (i : Nat) (o : Value) => 1 ≤ i ∧ i ≤ l.length + 1)
    (fun (i : Nat) (o : Value) => [(4, .int .i64 (i : Int)), (3, o), (0, v)])
    (fun (i : Nat) (o : Value) => [OwE encI 2 1 o ((bds l).take (i - 1))])
    (fun (i : Nat) (o : Value) => l.length - i) 1 (.slice none 0 0)
    (by exact ⟨by omega, by omega⟩) ⟨rfl, rfl, rfl, trivial⟩ (by repeat (first | exact Sub.nil | refine Sub.cons (by repeat (first | exact Pick.head | apply Pick.tail)) ?_)) ?_
  rintro i o ⟨hi1, hi0⟩
  refine W.seq ?_
  refine W.sreg ?_
  refine WO.p rfl rfl (WO.ar rfl rfl rfl (by (first | (unfold in64; omega) | (unfold in64; omega))) rfl (WO.p rfl rfl ?_))
  refine' WO.len (n := _) rfl rfl ?hs rfl ?_
  case hs => (first | exact hR.sl)
  refine WO.p rfl rfl ?_
  refine WO.nil ?_
  refine W.cond_bl rfl (fun c1 => ?_) (fun c1 => ?_)
  · first
    | (exfalso; omega)
    | (refine W.skip ?_
       refine W.seq ?_
       refine W.block ?_
       have hx1 := hok _ (getD_mem (i := i - 1) (by omega) 0)
       have hx2 := hok _ (getD_mem (i := i) (by omega) 0)
       have hx3 := hok _ (getD_mem (i := i + 1) (by omega) 0)
       refine W.drawD 19 [.r 0 [], .r 1 [], .r 2 [], .r 3 [], .r 4 [], .b 5 [], .r 6 [], .r 7 [], .r 8 [], .b 9 [], .r 10 [], .r 11 [], .r 12 [], .r 13 [], .r 14 [], .r 15 [], .b 16 [], .r 17 [], .c 18 []] [] (A0 := []) (Sub.refl _) (by kernel_rfl) ?_ ?_
       · exact (ALok.r (ALok.r (ALok.r (ALok.r (ALok.r (ALok.b (ALok.r (ALok.r (ALok.r (ALok.b (ALok.r (ALok.r (ALok.r (ALok.r (ALok.r (ALok.r (ALok.b (ALok.r (ALok.c ALok.nil)))))))))))))))))))
       refine' DT.r rfl rfl rfl ?hq ?_
       case hq =>
         refine WO.p rfl rfl ?_
         exact WO.nil ⟨rfl, rfl⟩
       refine' DT.r rfl rfl rfl ?hq ?_
       case hq =>
         refine WO.p rfl rfl ?_
         exact WO.nil ⟨rfl, rfl⟩
       refine' DT.r rfl rfl rfl ?hq ?_
       case hq =>
         refine WO.p rfl rfl ?_
         exact WO.nil ⟨rfl, rfl⟩
       refine' DT.r rfl rfl rfl ?hq ?_
       case hq =>
         refine WO.ar rfl rfl rfl (by (first | (unfold in64; omega) | (unfold in64; omega))) rfl ?_
         exact WO.nil ⟨rfl, rfl⟩
       refine' DT.r rfl rfl rfl ?hq ?_
       case hq =>
         refine' WO.indexAddrZ (n := _) rfl rfl rfl ?hs ?h00 ?h1 rfl ?_
         case hs => (first | exact hR.sl)
         case h00 => omega
         case h1 => (first | omega | (simp; omega))
         exact WO.nil ⟨rfl, rfl⟩
       refine' DT.b rfl rfl rfl ?hq ?_
       case hq =>
         refine' WO.load (v := _) rfl rfl ?hc rfl ?_
         case hc => (first | (refine RdF.cellI2 hR (i := i - 1) (by omega) rfl ?_; omega))
         exact WO.nil ⟨rfl, rfl⟩
       refine' DT.r rfl rfl rfl ?hq ?_
       case hq =>
         refine WO.p rfl rfl ?_
         exact WO.nil ⟨rfl, rfl⟩
       refine' DT.r rfl rfl rfl ?hq ?_
       case hq =>
         refine WO.p rfl rfl ?_
         exact WO.nil ⟨rfl, rfl⟩
       refine' DT.r rfl rfl rfl ?hq ?_
       case hq =>
         refine' WO.indexAddr (n := _) (i := _) rfl rfl rfl ?hs ?h1 rfl ?_
         case hs => (first | exact hR.sl)
         case h1 => (first | omega | (simp; omega))
         exact WO.nil ⟨rfl, rfl⟩
       refine' DT.b rfl rfl rfl ?hq ?_
       case hq =>
         refine' WO.load (v := _) rfl rfl ?hc rfl ?_
         case hc => (first | (refine RdF.cellI2 hR (i := i) (by omega) rfl rfl))
         exact WO.nil ⟨rfl, rfl⟩
       refine' DT.r rfl rfl rfl ?hq ?_
       case hq =>
         refine WO.ar rfl rfl rfl (by (first | (unfold in64; omega) | (unfold in64; omega))) rfl ?_
         exact WO.nil ⟨rfl, rfl⟩
       refine' DT.r rfl rfl rfl ?hq ?_
       case hq =>
         refine WO.ar rfl rfl rfl (by (first | (unfold in64; omega) | (unfold in64; omega))) rfl ?_
         exact WO.nil ⟨rfl, rfl⟩
       refine' DT.r rfl rfl rfl ?hq ?_
       case hq =>
         refine WO.p rfl rfl ?_
         exact WO.nil ⟨rfl, rfl⟩
       refine' DT.r rfl rfl rfl ?hq ?_
       case hq =>
         refine WO.p rfl rfl ?_
         exact WO.nil ⟨rfl, rfl⟩
       refine' DT.r rfl rfl rfl ?hq ?_
       case hq =>
         refine WO.ar rfl rfl rfl (by (first | (unfold in64; omega) | (unfold in64; omega))) rfl ?_
         exact WO.nil ⟨rfl, rfl⟩
       refine' DT.r rfl rfl rfl ?hq ?_
       case hq =>
         refine' WO.indexAddrZ (n := _) rfl rfl rfl ?hs ?h00 ?h1 rfl ?_
         case hs => (first | exact hR.sl)
         case h00 => omega
         case h1 => (first | omega | (simp; omega))
         exact WO.nil ⟨rfl, rfl⟩
       refine' DT.b rfl rfl rfl ?hq ?_
       case hq =>
         refine' WO.load (v := _) rfl rfl ?hc rfl ?_
         case hc => (first | (refine RdF.cellI2 hR (i := i + 1) (by omega) rfl ?_; omega))
         exact WO.nil ⟨rfl, rfl⟩
       refine' DT.r rfl rfl rfl ?hq ?_
       case hq =>
         refine WO.ar rfl rfl rfl (by (first | (unfold in64; omega) | (unfold in64; omega))) rfl ?_
         exact WO.nil ⟨rfl, rfl⟩
       refine DT.c [_] rfl rfl rfl rfl ?_
       refine' WO.buildSl (cs := _) rfl rfl rfl rfl ?hf rfl rfl ?hl rfl (fun v1 => ?_)
       case hf => (conv => lhs; simp [-List.getD_eq_getElem?_getD, fillL, vcl, wrl, TTab.pl?.lget']) <;> rfl
       case hl => rfl
       refine WO.nil ⟨_, [_], rfl, rfl, (Keep.r (Keep.b (Keep.r (Keep.r (Keep.r (Keep.r (Keep.r (Keep.r (Keep.b (Keep.r (Keep.r (Keep.r (Keep.b (Keep.r (Keep.r (Keep.r (Keep.r (Keep.r Keep.nil)))))))))))))))))), ?_⟩
       refine DT.nil [_, _] rfl ?_
       refine' WO.appendE (enc := encI) (m := 1) (ys := [l.getD (i - 1) 0 - 2 * l.getD i 0 + l.getD (i + 1) 0]) encI_ok rfl rfl rfl rfl rfl (by repeat (first | exact Pick.head | apply Pick.tail)) (isSl_lit (by omega) (fun _ => ⟨_, _, rfl⟩)) (by omega) rfl (OwC.cells .head) (by rw [List.length_take, bds_len]; omega) (by rw [List.length_take, bds_len]; omega) rfl (fun g c => ?_)
       rw [show (bds l).take (i - 1) ++ [l.getD (i - 1) 0 - 2 * l.getD i 0 + l.getD (i + 1) 0] = (bds l).take (i + 1 - 1) by rw [show i + 1 - 1 = i - 1 + 1 by omega, bds_take (by omega), show i - 1 + 1 = i by omega, show i - 1 + 2 = i + 1 by omega]]
       refine WO.p rfl rfl ?_
       refine WO.nil ?_
       refine W.region ?_
       refine WO.p rfl rfl (WO.ar rfl rfl rfl (by (first | (unfold in64; omega) | (unfold in64; omega))) rfl (WO.p rfl rfl ?_))
       refine WO.nil ?_
       refine' ⟨i + 1, _, ?hp, ?hmu, ⟨rfl, rfl, rfl, trivial⟩, ?hS⟩
       case hS => repeat (first | exact Sub.nil | refine Sub.cons (by repeat (first | exact Pick.head | apply Pick.tail)) ?_)
       case hp => exact ⟨by omega, by omega⟩
       case hmu => omega)
  · first
    | (exfalso; omega)
    | (refine W.exit (blk_same ?_)
       refine W.sreg ?_
       refine WO.p rfl rfl (WO.p rfl rfl ?_)
       refine WO.nil ?_
       refine W.ret ?_
       rw [List.take_of_length_le (by rw [bds_len]; omega)]
       exact fin.ret (Res.one rfl (RV.tmp rfl)) rfl)
theorem owE_cellS {C : Cx Try.prog} {H : List HP} {e : Nat} {v : Value} {xs : List Int} {i j : Nat} {x : Int} (s : Sub H [OwE encI e 1 v xs]) (hi : i < xs.length) (hx : x = xs.getD i 0) (hj : j = i) : Cell C H (elt v j 1) (.int .i64 x) := by
  subst hj
  cases s with
  | cons p _ => exact OwE.cell0 encI_ok p hi 0 (by rw [hx]; rfl)
/-- the sign that the last second difference stands for -/
def sOf (d : Int) : Nat := sg 0 d
theorem sOf_step {s : Nat} {d : Int} (h : d ≠ 0) : sOf d = sg s d := by unfold sOf sg; split; rfl; rw [if_pos (by omega), if_pos (by omega)]
theorem chg_on {p d : Int} (h : p > 0 ∧ d < 0 ∨ p < 0 ∧ d > 0) : chg (sOf p) d = 1 := by
  unfold chg sOf sg
  rw [if_pos]
  rcases h with h | h
  · rw [if_pos (by omega), if_neg (by omega), if_pos (by omega)]; omega
  · rw [if_neg (by omega), if_pos (by omega), if_pos (by omega)]; omega
theorem chg_off {p d : Int} (h : ¬ (p > 0 ∧ d < 0 ∨ p < 0 ∧ d > 0)) : chg (sOf p) d = 0 := by
  unfold chg sOf sg
  rw [if_neg]
  intro g
  rcases (show 0 < p ∨ p < 0 ∨ p = 0 by omega) with h1 | h1 | h1
  · rw [if_pos h1] at g; split at g; omega; rw [if_neg (by omega)] at g; omega
  · rw [if_neg (by omega), if_pos h1] at g; rw [if_neg (by omega)] at g; split at g <;> omega
  · rw [if_neg (by omega), if_neg (by omega)] at g; omega
theorem nx_z {p d b : Int} {c : Nat} (h : d = 0) : nxt (sOf p, c, b) d = (sOf p, c, b + ab d) := by
  subst h
  have e : sg (sOf p) 0 = sOf p := sg_0 (by omega) (by omega)
  unfold nxt; simp only [chg, e]; simp
theorem nx_on {p d b : Int} {c : Nat} (h : d ≠ 0) (g : p > 0 ∧ d < 0 ∨ p < 0 ∧ d > 0) : nxt (sOf p, c, b) d = (sOf d, c + 1, b + ab d) := by
  unfold nxt; simp only [chg_on g, sOf_step (s := sOf p) h]
theorem nx_off {p d b : Int} {c : Nat} (h : d ≠ 0) (g : ¬ (p > 0 ∧ d < 0 ∨ p < 0 ∧ d > 0)) : nxt (sOf p, c, b) d = (sOf d, c, b + ab d) := by
  unfold nxt; simp only [chg_off g, sOf_step (s := sOf p) h]; simp
theorem ref_measure (w : World) (v : Value) (l : List Int) (hR : RdF encI 1 w.heap.size w v l) (hok : OkI l) (hl : l.length ≤ 4096) : Ret Try.prog 39 [v].toArray w (.tuple #[.int .i64 (chL l : Int), .int .i64 (beL l)]) := by
  refine Ret.of mixed tyTab Try.func39 rfl rfl ?_
  replace hR : RdF encI 1 (fnCx mixed tyTab Try.f39.ntmps w).B (fnCx mixed tyTab Try.f39.ntmps w).w0 v l := hR
  have hle := hR.sl.le
  have hbl := bds_len l
  refine W.sreg ?_
  refine WO.p rfl rfl (WO.p rfl rfl ?_)
  refine WO.nil ?_
  refine W.sreg ?_
  refine WO.p rfl rfl (WO.p rfl rfl (WO.p rfl rfl ?_))
  refine WO.nil ?_
  refine W.sreg ?_
  refine WO.p rfl rfl ?_
  refine WO.call rfl Try.call55 (fun L w hi => ref_Bends w v l (hR.later hi) hok hl) rfl ?_
  rintro bv _ rfl
  refine WO.p rfl rfl ?_
  refine WO.nil ?_
  refine W.seq ?_
  refine W.sreg ?_
  refine WO.p rfl rfl ?_
  refine WO.nil ?_
  refine W.block ?_
  refine W.fact (OwE.sl (enc := encI) (e := 2) (sz := 1) (xs := bds l) (by repeat (first | exact Pick.head | apply Pick.tail))) (fun hsl => ?_)
  refine W.loop4 (fun (i : Nat) (c : Int) (b : Int) (p : Int) => i ≤ l.length - 2 ∧ 0 ≤ c ∧ (sOf p, c.toNat, b) = mst 0 ((bds l).take i))
    (fun (i : Nat) (c : Int) (b : Int) (p : Int) => [(8, .int .i64 (i : Int)), (4, .int .i64 c), (5, .int .i64 b), (6, .int .i64 p), (7, bv)])
    (fun (i : Nat) (c : Int) (b : Int) (p : Int) => [OwE encI 2 1 bv (bds l)])
    (fun (i : Nat) (c : Int) (b : Int) (p : Int) => l.length - i) 0 0 0 0
    (by exact ⟨by omega, by omega, rfl⟩) ⟨rfl, rfl, rfl, rfl, rfl, trivial⟩ (by repeat (first | exact Sub.nil | refine Sub.cons (by repeat (first | exact Pick.head | apply Pick.tail)) ?_)) ?_
  rintro i c b p ⟨hi0, hc0, hm⟩
  refine W.seq ?_
  refine W.sreg ?_
  refine WO.p rfl rfl (WO.p rfl rfl ?_)
  refine' WO.len (n := _) rfl rfl ?hs rfl ?_
  case hs => (first | refine hsl)
  refine WO.p rfl rfl ?_
  refine WO.nil ?_
  refine W.cond_bl rfl (fun c1 => ?_) (fun c1 => ?_)
  · first
    | (exfalso; omega)
    | (refine W.skip ?_
       refine W.seq ?_
       refine W.block ?_
       have hbi := bd_in hok (i := i) (by omega)
       have hb2 := ab_bd hbi
       have hmb := mst_bd hok (k := i) (by omega)
       have hmn := mst_succ (s := 0) (ds := bds l) (k := i) (by omega)
       rw [← hm] at hmb hmn
       simp only at hmb
       refine W.sreg ?_
       refine WO.p rfl rfl (WO.p rfl rfl (WO.p rfl rfl ?_))
       refine' WO.indexAddr (n := _) (i := _) rfl rfl rfl ?hs ?h1 rfl ?_
       case hs => (first | refine hsl)
       case h1 => (first | omega | (simp; omega))
       refine' WO.load (v := _) rfl rfl ?hc rfl ?_
       case hc => (first | (refine owE_cellS (e := 2) (xs := bds l) (i := i) ?_ (by omega) rfl rfl; exact (by repeat (first | exact Sub.nil | refine Sub.cons (by repeat (first | exact Pick.head | apply Pick.tail)) ?_))))
       refine WO.callR rfl Try.call56 (fun L w hi => ref_amount w ((bds l).getD i 0) (by omega)) rfl ?_
       refine WO.ar rfl rfl rfl (by (first | (unfold in64; omega) | (unfold in64; omega))) rfl (WO.p rfl rfl ?_)
       refine WO.nil ?_
       refine W.seq ?_
       refine W.sreg ?_
       refine WO.p rfl rfl (WO.p rfl rfl ?_)
       refine' WO.indexAddr (n := _) (i := _) rfl rfl rfl ?hs ?h1 rfl ?_
       case hs => (first | refine hsl)
       case h1 => (first | omega | (simp; omega))
       refine' WO.load (v := _) rfl rfl ?hc rfl ?_
       case hc => (first | (refine owE_cellS (e := 2) (xs := bds l) (i := i) ?_ (by omega) rfl rfl; exact (by repeat (first | exact Sub.nil | refine Sub.cons (by repeat (first | exact Pick.head | apply Pick.tail)) ?_))))
       refine WO.p rfl rfl ?_
       refine WO.nil ?_
       refine W.cond_bl rfl (fun c2 => ?_) (fun c2 => ?_)
       · first
         | (exfalso; omega)
         | (refine W.exit (blk_same ?_)
            refine W.region ?_
            refine WO.p rfl rfl (WO.ar rfl rfl rfl (by (first | (unfold in64; omega) | (unfold in64; omega))) rfl (WO.p rfl rfl ?_))
            refine WO.nil ?_
            refine' ⟨i + 1, _, _, _, ?hp, ?hmu, ⟨rfl, rfl, rfl, rfl, rfl, trivial⟩, ?hS⟩
            case hS => repeat (first | exact Sub.nil | refine Sub.cons (by repeat (first | exact Pick.head | apply Pick.tail)) ?_)
            case hp => exact ⟨by omega, by omega, by rw [hmn]; first | exact (nx_z (by assumption)).symm | (rw [show (c + 1).toNat = c.toNat + 1 by omega]; exact (nx_on (by assumption) (by omega)).symm) | exact (nx_off (by assumption) (by omega)).symm⟩
            case hmu => omega)
       · first
         | (exfalso; omega)
         | (refine W.skip ?_
            refine W.seq ?_
            refine W.sreg ?_
            refine WO.p rfl rfl (WO.p rfl rfl (WO.p rfl rfl ?_))
            refine WO.guard_bl rfl rfl (fun c3 => ?_) (fun c3 => ?_)
            · first
              | (exfalso; omega)
              | (refine WO.pg rfl rfl rfl (WO.pg rfl rfl rfl (WO.go' rfl ?_))
                 refine' WO.indexAddr (n := _) (i := _) rfl rfl rfl ?hs ?h1 rfl ?_
                 case hs => (first | refine hsl)
                 case h1 => (first | omega | (simp; omega))
                 refine WO.go' rfl ?_
                 refine' WO.load (v := _) rfl rfl ?hc rfl ?_
                 case hc => (first | (refine owE_cellS (e := 2) (xs := bds l) (i := i) ?_ (by omega) rfl rfl; exact (by repeat (first | exact Sub.nil | refine Sub.cons (by repeat (first | exact Pick.head | apply Pick.tail)) ?_))))
                 refine WO.pg rfl rfl rfl (WO.p rfl rfl (WO.p rfl rfl ?_))
                 refine WO.guard_bl rfl rfl (fun c4 => ?_) (fun c4 => ?_)
                 · first
                   | (exfalso; omega)
                   | (refine WO.no rfl rfl (WO.no rfl rfl (WO.no rfl rfl (WO.no rfl rfl (WO.no rfl rfl (WO.no rfl rfl (WO.no rfl rfl (WO.no rfl rfl (WO.no rfl rfl (WO.p rfl rfl ?_)))))))))
                      refine WO.nil ?_
                      refine W.cond_t rfl ?_
                      refine W.region ?_
                      refine WO.p rfl rfl (WO.ar rfl rfl rfl (by (first | (unfold in64; omega) | (unfold in64; omega))) rfl (WO.p rfl rfl ?_))
                      refine WO.nil ?_
                      refine W.region ?_
                      refine WO.p rfl rfl (WO.p rfl rfl ?_)
                      refine' WO.indexAddr (n := _) (i := _) rfl rfl rfl ?hs ?h1 rfl ?_
                      case hs => (first | refine hsl)
                      case h1 => (first | omega | (simp; omega))
                      refine' WO.load (v := _) rfl rfl ?hc rfl ?_
                      case hc => (first | (refine owE_cellS (e := 2) (xs := bds l) (i := i) ?_ (by omega) rfl rfl; exact (by repeat (first | exact Sub.nil | refine Sub.cons (by repeat (first | exact Pick.head | apply Pick.tail)) ?_))))
                      refine WO.p rfl rfl ?_
                      refine WO.nil ?_
                      refine W.region ?_
                      refine WO.p rfl rfl (WO.ar rfl rfl rfl (by (first | (unfold in64; omega) | (unfold in64; omega))) rfl (WO.p rfl rfl ?_))
                      refine WO.nil ?_
                      refine' ⟨i + 1, _, _, _, ?hp, ?hmu, ⟨rfl, rfl, rfl, rfl, rfl, trivial⟩, ?hS⟩
                      case hS => repeat (first | exact Sub.nil | refine Sub.cons (by repeat (first | exact Pick.head | apply Pick.tail)) ?_)
                      case hp => exact ⟨by omega, by omega, by rw [hmn]; first | exact (nx_z (by assumption)).symm | (rw [show (c + 1).toNat = c.toNat + 1 by omega]; exact (nx_on (by assumption) (by omega)).symm) | exact (nx_off (by assumption) (by omega)).symm⟩
                      case hmu => omega)
                 · first
                   | (exfalso; omega)
                   | (refine WO.pg rfl rfl rfl (WO.pg rfl rfl rfl (WO.pg rfl rfl rfl ?_))
                      refine WO.guard_bl rfl rfl (fun c5 => ?_) (fun c5 => ?_)
                      · first
                        | (exfalso; omega)
                        | (refine WO.pg rfl rfl rfl (WO.pg rfl rfl rfl (WO.go' rfl ?_))
                           refine' WO.indexAddr (n := _) (i := _) rfl rfl rfl ?hs ?h1 rfl ?_
                           case hs => (first | refine hsl)
                           case h1 => (first | omega | (simp; omega))
                           refine WO.go' rfl ?_
                           refine' WO.load (v := _) rfl rfl ?hc rfl ?_
                           case hc => (first | (refine owE_cellS (e := 2) (xs := bds l) (i := i) ?_ (by omega) rfl rfl; exact (by repeat (first | exact Sub.nil | refine Sub.cons (by repeat (first | exact Pick.head | apply Pick.tail)) ?_))))
                           refine WO.pg rfl rfl rfl (WO.pg rfl rfl rfl (WO.p rfl rfl ?_))
                           refine WO.nil ?_
                           refine W.cond_bl rfl (fun c6 => ?_) (fun c6 => ?_)
                           · first
                             | (exfalso; omega)
                             | (refine W.region ?_
                                refine WO.p rfl rfl (WO.ar rfl rfl rfl (by (first | (unfold in64; omega) | (unfold in64; omega))) rfl (WO.p rfl rfl ?_))
                                refine WO.nil ?_
                                refine W.region ?_
                                refine WO.p rfl rfl (WO.p rfl rfl ?_)
                                refine' WO.indexAddr (n := _) (i := _) rfl rfl rfl ?hs ?h1 rfl ?_
                                case hs => (first | refine hsl)
                                case h1 => (first | omega | (simp; omega))
                                refine' WO.load (v := _) rfl rfl ?hc rfl ?_
                                case hc => (first | (refine owE_cellS (e := 2) (xs := bds l) (i := i) ?_ (by omega) rfl rfl; exact (by repeat (first | exact Sub.nil | refine Sub.cons (by repeat (first | exact Pick.head | apply Pick.tail)) ?_))))
                                refine WO.p rfl rfl ?_
                                refine WO.nil ?_
                                refine W.region ?_
                                refine WO.p rfl rfl (WO.ar rfl rfl rfl (by (first | (unfold in64; omega) | (unfold in64; omega))) rfl (WO.p rfl rfl ?_))
                                refine WO.nil ?_
                                refine' ⟨i + 1, _, _, _, ?hp, ?hmu, ⟨rfl, rfl, rfl, rfl, rfl, trivial⟩, ?hS⟩
                                case hS => repeat (first | exact Sub.nil | refine Sub.cons (by repeat (first | exact Pick.head | apply Pick.tail)) ?_)
                                case hp => exact ⟨by omega, by omega, by rw [hmn]; first | exact (nx_z (by assumption)).symm | (rw [show (c + 1).toNat = c.toNat + 1 by omega]; exact (nx_on (by assumption) (by omega)).symm) | exact (nx_off (by assumption) (by omega)).symm⟩
                                case hmu => omega)
                           · first
                             | (exfalso; omega)
                             | (refine W.skip ?_
                                refine W.region ?_
                                refine WO.p rfl rfl (WO.p rfl rfl ?_)
                                refine' WO.indexAddr (n := _) (i := _) rfl rfl rfl ?hs ?h1 rfl ?_
                                case hs => (first | refine hsl)
                                case h1 => (first | omega | (simp; omega))
                                refine' WO.load (v := _) rfl rfl ?hc rfl ?_
                                case hc => (first | (refine owE_cellS (e := 2) (xs := bds l) (i := i) ?_ (by omega) rfl rfl; exact (by repeat (first | exact Sub.nil | refine Sub.cons (by repeat (first | exact Pick.head | apply Pick.tail)) ?_))))
                                refine WO.p rfl rfl ?_
                                refine WO.nil ?_
                                refine W.region ?_
                                refine WO.p rfl rfl (WO.ar rfl rfl rfl (by (first | (unfold in64; omega) | (unfold in64; omega))) rfl (WO.p rfl rfl ?_))
                                refine WO.nil ?_
                                refine' ⟨i + 1, _, _, _, ?hp, ?hmu, ⟨rfl, rfl, rfl, rfl, rfl, trivial⟩, ?hS⟩
                                case hS => repeat (first | exact Sub.nil | refine Sub.cons (by repeat (first | exact Pick.head | apply Pick.tail)) ?_)
                                case hp => exact ⟨by omega, by omega, by rw [hmn]; first | exact (nx_z (by assumption)).symm | (rw [show (c + 1).toNat = c.toNat + 1 by omega]; exact (nx_on (by assumption) (by omega)).symm) | exact (nx_off (by assumption) (by omega)).symm⟩
                                case hmu => omega))
                      · first
                        | (exfalso; omega)
                        | (refine WO.no rfl rfl (WO.no rfl rfl (WO.no rfl rfl (WO.no rfl rfl (WO.no rfl rfl (WO.pg rfl rfl rfl (WO.p rfl rfl ?_))))))
                           refine WO.nil ?_
                           refine W.cond_f rfl ?_
                           refine W.skip ?_
                           refine W.region ?_
                           refine WO.p rfl rfl (WO.p rfl rfl ?_)
                           refine' WO.indexAddr (n := _) (i := _) rfl rfl rfl ?hs ?h1 rfl ?_
                           case hs => (first | refine hsl)
                           case h1 => (first | omega | (simp; omega))
                           refine' WO.load (v := _) rfl rfl ?hc rfl ?_
                           case hc => (first | (refine owE_cellS (e := 2) (xs := bds l) (i := i) ?_ (by omega) rfl rfl; exact (by repeat (first | exact Sub.nil | refine Sub.cons (by repeat (first | exact Pick.head | apply Pick.tail)) ?_))))
                           refine WO.p rfl rfl ?_
                           refine WO.nil ?_
                           refine W.region ?_
                           refine WO.p rfl rfl (WO.ar rfl rfl rfl (by (first | (unfold in64; omega) | (unfold in64; omega))) rfl (WO.p rfl rfl ?_))
                           refine WO.nil ?_
                           refine' ⟨i + 1, _, _, _, ?hp, ?hmu, ⟨rfl, rfl, rfl, rfl, rfl, trivial⟩, ?hS⟩
                           case hS => repeat (first | exact Sub.nil | refine Sub.cons (by repeat (first | exact Pick.head | apply Pick.tail)) ?_)
                           case hp => exact ⟨by omega, by omega, by rw [hmn]; first | exact (nx_z (by assumption)).symm | (rw [show (c + 1).toNat = c.toNat + 1 by omega]; exact (nx_on (by assumption) (by omega)).symm) | exact (nx_off (by assumption) (by omega)).symm⟩
                           case hmu => omega)))
            · first
              | (exfalso; omega)
              | (refine WO.no rfl rfl (WO.no rfl rfl (WO.no rfl rfl (WO.no rfl rfl (WO.no rfl rfl (WO.p rfl rfl (WO.p rfl rfl (WO.pg rfl rfl rfl (WO.pg rfl rfl rfl (WO.pg rfl rfl rfl ?_)))))))))
                 refine WO.guard_bl rfl rfl (fun c7 => ?_) (fun c7 => ?_)
                 · first
                   | (exfalso; omega)
                   | (refine WO.pg rfl rfl rfl (WO.pg rfl rfl rfl (WO.go' rfl ?_))
                      refine' WO.indexAddr (n := _) (i := _) rfl rfl rfl ?hs ?h1 rfl ?_
                      case hs => (first | refine hsl)
                      case h1 => (first | omega | (simp; omega))
                      refine WO.go' rfl ?_
                      refine' WO.load (v := _) rfl rfl ?hc rfl ?_
                      case hc => (first | (refine owE_cellS (e := 2) (xs := bds l) (i := i) ?_ (by omega) rfl rfl; exact (by repeat (first | exact Sub.nil | refine Sub.cons (by repeat (first | exact Pick.head | apply Pick.tail)) ?_))))
                      refine WO.pg rfl rfl rfl (WO.pg rfl rfl rfl (WO.p rfl rfl ?_))
                      refine WO.nil ?_
                      refine W.cond_bl rfl (fun c8 => ?_) (fun c8 => ?_)
                      · first
                        | (exfalso; omega)
                        | (refine W.region ?_
                           refine WO.p rfl rfl (WO.ar rfl rfl rfl (by (first | (unfold in64; omega) | (unfold in64; omega))) rfl (WO.p rfl rfl ?_))
                           refine WO.nil ?_
                           refine W.region ?_
                           refine WO.p rfl rfl (WO.p rfl rfl ?_)
                           refine' WO.indexAddr (n := _) (i := _) rfl rfl rfl ?hs ?h1 rfl ?_
                           case hs => (first | refine hsl)
                           case h1 => (first | omega | (simp; omega))
                           refine' WO.load (v := _) rfl rfl ?hc rfl ?_
                           case hc => (first | (refine owE_cellS (e := 2) (xs := bds l) (i := i) ?_ (by omega) rfl rfl; exact (by repeat (first | exact Sub.nil | refine Sub.cons (by repeat (first | exact Pick.head | apply Pick.tail)) ?_))))
                           refine WO.p rfl rfl ?_
                           refine WO.nil ?_
                           refine W.region ?_
                           refine WO.p rfl rfl (WO.ar rfl rfl rfl (by (first | (unfold in64; omega) | (unfold in64; omega))) rfl (WO.p rfl rfl ?_))
                           refine WO.nil ?_
                           refine' ⟨i + 1, _, _, _, ?hp, ?hmu, ⟨rfl, rfl, rfl, rfl, rfl, trivial⟩, ?hS⟩
                           case hS => repeat (first | exact Sub.nil | refine Sub.cons (by repeat (first | exact Pick.head | apply Pick.tail)) ?_)
                           case hp => exact ⟨by omega, by omega, by rw [hmn]; first | exact (nx_z (by assumption)).symm | (rw [show (c + 1).toNat = c.toNat + 1 by omega]; exact (nx_on (by assumption) (by omega)).symm) | exact (nx_off (by assumption) (by omega)).symm⟩
                           case hmu => omega)
                      · first
                        | (exfalso; omega)
                        | (refine W.skip ?_
                           refine W.region ?_
                           refine WO.p rfl rfl (WO.p rfl rfl ?_)
                           refine' WO.indexAddr (n := _) (i := _) rfl rfl rfl ?hs ?h1 rfl ?_
                           case hs => (first | refine hsl)
                           case h1 => (first | omega | (simp; omega))
                           refine' WO.load (v := _) rfl rfl ?hc rfl ?_
                           case hc => (first | (refine owE_cellS (e := 2) (xs := bds l) (i := i) ?_ (by omega) rfl rfl; exact (by repeat (first | exact Sub.nil | refine Sub.cons (by repeat (first | exact Pick.head | apply Pick.tail)) ?_))))
                           refine WO.p rfl rfl ?_
                           refine WO.nil ?_
                           refine W.region ?_
                           refine WO.p rfl rfl (WO.ar rfl rfl rfl (by (first | (unfold in64; omega) | (unfold in64; omega))) rfl (WO.p rfl rfl ?_))
                           refine WO.nil ?_
                           refine' ⟨i + 1, _, _, _, ?hp, ?hmu, ⟨rfl, rfl, rfl, rfl, rfl, trivial⟩, ?hS⟩
                           case hS => repeat (first | exact Sub.nil | refine Sub.cons (by repeat (first | exact Pick.head | apply Pick.tail)) ?_)
                           case hp => exact ⟨by omega, by omega, by rw [hmn]; first | exact (nx_z (by assumption)).symm | (rw [show (c + 1).toNat = c.toNat + 1 by omega]; exact (nx_on (by assumption) (by omega)).symm) | exact (nx_off (by assumption) (by omega)).symm⟩
                           case hmu => omega))
                 · first
                   | (exfalso; omega)
                   | (refine WO.no rfl rfl (WO.no rfl rfl (WO.no rfl rfl (WO.no rfl rfl (WO.no rfl rfl (WO.pg rfl rfl rfl (WO.p rfl rfl ?_))))))
                      refine WO.nil ?_
                      refine W.cond_f rfl ?_
                      refine W.skip ?_
                      refine W.region ?_
                      refine WO.p rfl rfl (WO.p rfl rfl ?_)
                      refine' WO.indexAddr (n := _) (i := _) rfl rfl rfl ?hs ?h1 rfl ?_
                      case hs => (first | refine hsl)
                      case h1 => (first | omega | (simp; omega))
                      refine' WO.load (v := _) rfl rfl ?hc rfl ?_
                      case hc => (first | (refine owE_cellS (e := 2) (xs := bds l) (i := i) ?_ (by omega) rfl rfl; exact (by repeat (first | exact Sub.nil | refine Sub.cons (by repeat (first | exact Pick.head | apply Pick.tail)) ?_))))
                      refine WO.p rfl rfl ?_
                      refine WO.nil ?_
                      refine W.region ?_
                      refine WO.p rfl rfl (WO.ar rfl rfl rfl (by (first | (unfold in64; omega) | (unfold in64; omega))) rfl (WO.p rfl rfl ?_))
                      refine WO.nil ?_
                      refine' ⟨i + 1, _, _, _, ?hp, ?hmu, ⟨rfl, rfl, rfl, rfl, rfl, trivial⟩, ?hS⟩
                      case hS => repeat (first | exact Sub.nil | refine Sub.cons (by repeat (first | exact Pick.head | apply Pick.tail)) ?_)
                      case hp => exact ⟨by omega, by omega, by rw [hmn]; first | exact (nx_z (by assumption)).symm | (rw [show (c + 1).toNat = c.toNat + 1 by omega]; exact (nx_on (by assumption) (by omega)).symm) | exact (nx_off (by assumption) (by omega)).symm⟩
                      case hmu => omega))))
  · first
    | (exfalso; omega)
    | (refine W.exit (blk_same ?_)
       refine W.sreg ?_
       refine WO.p rfl rfl (WO.p rfl rfl (WO.p rfl rfl (WO.p rfl rfl ?_)))
       refine WO.nil ?_
       refine W.ret ?_
       refine fin.ret (Res.two rfl (RV.tmp rfl) (RV.tmp rfl)) ?_
       rw [List.take_of_length_le (by omega)] at hm
       unfold chL beL; rw [← hm]; simp only; rw [Int.toNat_of_nonneg hc0])
/-- what Measure answers -/
def meaE (l : List Int) : Int := if l.length < 1 ∨ 4096 < l.length then 6 else if OkI l then 0 else 3
def meaV (l : List Int) : Value := if meaE l = 0 then .tuple #[.int .i64 (chL l : Int), .int .i64 (beL l), .int .i64 0] else .tuple #[.int .i64 0, .int .i64 0, .int .i64 (meaE l)]
theorem meaV_many {l : List Int} (h : l.length < 1 ∨ 4096 < l.length) : meaV l = .tuple #[.int .i64 0, .int .i64 0, .int .i64 6] := by
  have e : meaE l = 6 := if_pos h
  unfold meaV; rw [e]; rfl
theorem meaV_range {l : List Int} (h : ¬ (l.length < 1 ∨ 4096 < l.length)) (g : ¬ OkI l) : meaV l = .tuple #[.int .i64 0, .int .i64 0, .int .i64 3] := by
  have e : meaE l = 3 := by unfold meaE; rw [if_neg h, if_neg g]
  unfold meaV; rw [e]; rfl
theorem meaV_ok {l : List Int} (h : ¬ (l.length < 1 ∨ 4096 < l.length)) (g : OkI l) : meaV l = .tuple #[.int .i64 (chL l : Int), .int .i64 (beL l), .int .i64 0] := by
  have e : meaE l = 0 := by unfold meaE; rw [if_neg h, if_pos g]
  unfold meaV; rw [e]; rfl
theorem ref_Measure (w : World) (v : Value) (l : List Int) (hR : RdF encI 1 w.heap.size w v l) : Ret Try.prog 15 [v].toArray w (meaV l) := by
  refine Ret.of mixed tyTab Try.func15 rfl rfl ?_
  replace hR : RdF encI 1 (fnCx mixed tyTab Try.f15.ntmps w).B (fnCx mixed tyTab Try.f15.ntmps w).w0 v l := hR
  have hle := hR.sl.le
  refine W.sreg ?_
  refine WO.p rfl rfl (WO.p rfl rfl (WO.p rfl rfl ?_))
  refine WO.nil ?_
  refine W.seq ?_
  refine W.sreg ?_
  refine WO.p rfl rfl ?_
  refine' WO.len (n := _) rfl rfl ?hs rfl ?_
  case hs => (first | exact hR.sl)
  refine WO.p rfl rfl (WO.p rfl rfl ?_)
  refine WO.guard_bl rfl rfl (fun c1 => ?_) (fun c1 => ?_)
  · first
    | (exfalso; omega)
    | (refine WO.no rfl rfl (WO.no rfl rfl (WO.no rfl rfl (WO.p rfl rfl ?_)))
       refine WO.nil ?_
       refine W.cond_t rfl ?_
       refine W.sreg ?_
       refine WO.p rfl rfl (WO.p rfl rfl (WO.p rfl rfl ?_))
       refine WO.nil ?_
       refine W.ret ?_
       refine fin.ret (Res.three rfl (RV.tmp rfl) (RV.tmp rfl) (RV.tmp rfl)) ?_
       first | exact (meaV_many (by omega)).symm | exact (meaV_range (by omega) (fun h => by have := h _ (getD_mem (show i < l.length by omega) 0); omega)).symm | exact (meaV_ok (by omega) (by rw [show i = l.length by omega, List.take_length] at hin; exact hin)).symm)
  · first
    | (exfalso; omega)
    | (refine WO.pg rfl rfl rfl (WO.go' rfl ?_)
       refine' WO.len (n := _) rfl rfl ?hs rfl ?_
       case hs => (first | exact hR.sl)
       refine WO.pg rfl rfl rfl (WO.p rfl rfl ?_)
       refine WO.nil ?_
       refine W.cond_bl rfl (fun c2 => ?_) (fun c2 => ?_)
       · first
         | (exfalso; omega)
         | (refine W.sreg ?_
            refine WO.p rfl rfl (WO.p rfl rfl (WO.p rfl rfl ?_))
            refine WO.nil ?_
            refine W.ret ?_
            refine fin.ret (Res.three rfl (RV.tmp rfl) (RV.tmp rfl) (RV.tmp rfl)) ?_
            first | exact (meaV_many (by omega)).symm | exact (meaV_range (by omega) (fun h => by have := h _ (getD_mem (show i < l.length by omega) 0); omega)).symm | exact (meaV_ok (by omega) (by rw [show i = l.length by omega, List.take_length] at hin; exact hin)).symm)
       · first
         | (exfalso; omega)
         | (refine W.skip ?_
            refine W.seq ?_
            refine W.sreg ?_
            refine WO.p rfl rfl ?_
            refine WO.nil ?_
            refine W.block ?_
            refine W.loop (fun (i : Nat) => i ≤ l.length ∧ OkI (l.take i))
              (fun (i : Nat) => [(5, .int .i64 (i : Int)), (0, v)])
              (fun (i : Nat) => [])
              (fun (i : Nat) => l.length - i) 0
              (by exact ⟨by omega, fun x hx => by simp at hx⟩) ⟨rfl, rfl, trivial⟩ (by repeat (first | exact Sub.nil | refine Sub.cons (by repeat (first | exact Pick.head | apply Pick.tail)) ?_)) ?_
            rintro i ⟨hi, hin⟩
            refine W.seq ?_
            refine W.sreg ?_
            refine WO.p rfl rfl (WO.p rfl rfl ?_)
            refine' WO.len (n := _) rfl rfl ?hs rfl ?_
            case hs => (first | exact hR.sl)
            refine WO.p rfl rfl ?_
            refine WO.nil ?_
            refine W.cond_bl rfl (fun c3 => ?_) (fun c3 => ?_)
            · first
              | (exfalso; omega)
              | (refine W.skip ?_
                 refine W.seq ?_
                 refine W.block ?_
                 refine W.sreg ?_
                 refine WO.p rfl rfl (WO.p rfl rfl ?_)
                 refine' WO.indexAddr (n := _) (i := _) rfl rfl rfl ?hs ?h1 rfl ?_
                 case hs => (first | exact hR.sl)
                 case h1 => (first | omega | (simp; omega))
                 refine' WO.load (v := _) rfl rfl ?hc rfl ?_
                 case hc => (first | (refine hR.cell0 (i := i) ?_ 0 ?_ <;> first | rfl | omega))
                 refine WO.p rfl rfl (WO.p rfl rfl ?_)
                 refine WO.guard_bl rfl rfl (fun c4 => ?_) (fun c4 => ?_)
                 · first
                   | (exfalso; omega)
                   | (refine WO.no rfl rfl (WO.no rfl rfl (WO.no rfl rfl (WO.no rfl rfl (WO.no rfl rfl (WO.p rfl rfl ?_)))))
                      refine WO.nil ?_
                      refine W.cond_t rfl ?_
                      refine W.sreg ?_
                      refine WO.p rfl rfl (WO.p rfl rfl (WO.p rfl rfl ?_))
                      refine WO.nil ?_
                      refine W.ret ?_
                      refine fin.ret (Res.three rfl (RV.tmp rfl) (RV.tmp rfl) (RV.tmp rfl)) ?_
                      first | exact (meaV_many (by omega)).symm | exact (meaV_range (by omega) (fun h => by have := h _ (getD_mem (show i < l.length by omega) 0); omega)).symm | exact (meaV_ok (by omega) (by rw [show i = l.length by omega, List.take_length] at hin; exact hin)).symm)
                 · first
                   | (exfalso; omega)
                   | (refine WO.pg rfl rfl rfl (WO.pg rfl rfl rfl (WO.go' rfl ?_))
                      refine' WO.indexAddr (n := _) (i := _) rfl rfl rfl ?hs ?h1 rfl ?_
                      case hs => (first | exact hR.sl)
                      case h1 => (first | omega | (simp; omega))
                      refine WO.go' rfl ?_
                      refine' WO.load (v := _) rfl rfl ?hc rfl ?_
                      case hc => (first | (refine hR.cell0 (i := i) ?_ 0 ?_ <;> first | rfl | omega))
                      refine WO.pg rfl rfl rfl (WO.p rfl rfl ?_)
                      refine WO.nil ?_
                      refine W.cond_bl rfl (fun c5 => ?_) (fun c5 => ?_)
                      · first
                        | (exfalso; omega)
                        | (refine W.sreg ?_
                           refine WO.p rfl rfl (WO.p rfl rfl (WO.p rfl rfl ?_))
                           refine WO.nil ?_
                           refine W.ret ?_
                           refine fin.ret (Res.three rfl (RV.tmp rfl) (RV.tmp rfl) (RV.tmp rfl)) ?_
                           first | exact (meaV_many (by omega)).symm | exact (meaV_range (by omega) (fun h => by have := h _ (getD_mem (show i < l.length by omega) 0); omega)).symm | exact (meaV_ok (by omega) (by rw [show i = l.length by omega, List.take_length] at hin; exact hin)).symm)
                      · first
                        | (exfalso; omega)
                        | (refine W.skip ?_
                           refine W.region ?_
                           refine WO.p rfl rfl (WO.ar rfl rfl rfl (by (first | (unfold in64; omega) | (unfold in64; omega))) rfl (WO.p rfl rfl ?_))
                           refine WO.nil ?_
                           refine' ⟨i + 1, ?hp, ?hmu, ⟨rfl, rfl, trivial⟩, ?hS⟩
                           case hS => repeat (first | exact Sub.nil | refine Sub.cons (by repeat (first | exact Pick.head | apply Pick.tail)) ?_)
                           case hp => exact ⟨by omega, all_succ (by omega) 0 hin (by omega)⟩
                           case hmu => omega)))
            · first
              | (exfalso; omega)
              | (refine W.exit (blk_same ?_)
                 refine W.sreg ?_
                 refine WO.p rfl rfl ?_
                 refine WO.callR rfl Try.call39 (fun L w hi => ref_measure w v l (hR.later hi) (by rw [show i = l.length by omega, List.take_length] at hin; exact hin) (by omega)) rfl ?_
                 refine WO.p rfl rfl (WO.p rfl rfl (WO.p rfl rfl (WO.p rfl rfl (WO.p rfl rfl ?_))))
                 refine WO.nil ?_
                 refine W.sreg ?_
                 refine WO.p rfl rfl (WO.p rfl rfl (WO.p rfl rfl (WO.p rfl rfl (WO.p rfl rfl ?_))))
                 refine WO.nil ?_
                 refine W.ret ?_
                 refine fin.ret (Res.three rfl (RV.tmp rfl) (RV.tmp rfl) (RV.tmp rfl)) ?_
                 first | exact (meaV_many (by omega)).symm | exact (meaV_range (by omega) (fun h => by have := h _ (getD_mem (show i < l.length by omega) 0); omega)).symm | exact (meaV_ok (by omega) (by rw [show i = l.length by omega, List.take_length] at hin; exact hin)).symm)))
theorem c_Measure (w : World) (v : Value) (l : List Int) (hR : RdF encI 1 w.heap.size w v l) : Ret Try.prog 14 [v].toArray w (meaV l) := by
  refine Ret.of mixed tyTab Try.func14 rfl rfl ?_
  replace hR : RdF encI 1 (fnCx mixed tyTab Try.f14.ntmps w).B (fnCx mixed tyTab Try.f14.ntmps w).w0 v l := hR
  have hle := hR.sl.le
  refine W.sreg ?_
  refine WO.p rfl rfl (WO.p rfl rfl (WO.p rfl rfl ?_))
  refine WO.nil ?_
  refine W.seq ?_
  refine W.block ?_
  refine W.sreg ?_
  refine WO.p rfl rfl ?_
  refine' WO.len (n := _) rfl rfl ?hs rfl ?_
  case hs => (first | exact hR.sl)
  refine WO.p rfl rfl (WO.p rfl rfl ?_)
  refine WO.guard_bl rfl rfl (fun c1 => ?_) (fun c1 => ?_)
  · first
    | (exfalso; omega)
    | (refine WO.no rfl rfl (WO.no rfl rfl (WO.no rfl rfl (WO.p rfl rfl (WO.p rfl rfl ?_))))
       refine WO.nil ?_
       refine W.cond_t rfl ?_
       refine W.sreg ?_
       refine WO.p rfl rfl (WO.p rfl rfl (WO.p rfl rfl ?_))
       refine WO.nil ?_
       refine W.ret ?_
       refine fin.ret (Res.three rfl (RV.tmp rfl) (RV.tmp rfl) (RV.tmp rfl)) ?_
       first | exact (meaV_many (by omega)).symm | exact (meaV_range (by omega) (by assumption)).symm | exact (meaV_ok (by omega) (by assumption)).symm)
  · first
    | (exfalso; omega)
    | (refine WO.pg rfl rfl rfl (WO.go' rfl ?_)
       refine' WO.len (n := _) rfl rfl ?hs rfl ?_
       case hs => (first | exact hR.sl)
       refine WO.pg rfl rfl rfl (WO.p rfl rfl (WO.p rfl rfl ?_))
       refine WO.nil ?_
       refine W.cond_bl rfl (fun c2 => ?_) (fun c2 => ?_)
       · first
         | (exfalso; omega)
         | (refine W.sreg ?_
            refine WO.p rfl rfl (WO.p rfl rfl (WO.p rfl rfl ?_))
            refine WO.nil ?_
            refine W.ret ?_
            refine fin.ret (Res.three rfl (RV.tmp rfl) (RV.tmp rfl) (RV.tmp rfl)) ?_
            first | exact (meaV_many (by omega)).symm | exact (meaV_range (by omega) (by assumption)).symm | exact (meaV_ok (by omega) (by assumption)).symm)
       · first
         | (exfalso; omega)
         | (refine W.sreg ?_
            refine WO.p rfl rfl ?_
            refine WO.callR rfl Try.call37 (fun L w hi => c_within w v l _ _ (hR.later hi)) rfl ?_
            refine WO.p rfl rfl (WO.p rfl rfl ?_)
            refine WO.nil ?_
            refine W.cond_nbl rfl (fun c3 => ?_) (fun c3 => ?_)
            · first
              | (exfalso; omega)
              | (refine W.sreg ?_
                 refine WO.p rfl rfl (WO.p rfl rfl (WO.p rfl rfl ?_))
                 refine WO.nil ?_
                 refine W.ret ?_
                 refine fin.ret (Res.three rfl (RV.tmp rfl) (RV.tmp rfl) (RV.tmp rfl)) ?_
                 first | exact (meaV_many (by omega)).symm | exact (meaV_range (by omega) (by assumption)).symm | exact (meaV_ok (by omega) (by assumption)).symm)
            · first
              | (exfalso; omega)
              | (refine W.skip ?_
                 refine W.sreg ?_
                 refine WO.p rfl rfl ?_
                 refine WO.callR rfl Try.call38 (fun L w hi => c_measure w v l (hR.later hi) (by omega) (by assumption)) rfl ?_
                 refine WO.p rfl rfl (WO.p rfl rfl (WO.p rfl rfl (WO.p rfl rfl (WO.p rfl rfl ?_))))
                 refine WO.nil ?_
                 refine W.sreg ?_
                 refine WO.p rfl rfl (WO.p rfl rfl (WO.p rfl rfl (WO.p rfl rfl (WO.p rfl rfl ?_))))
                 refine WO.nil ?_
                 refine W.ret ?_
                 refine fin.ret (Res.three rfl (RV.tmp rfl) (RV.tmp rfl) (RV.tmp rfl)) ?_
                 first | exact (meaV_many (by omega)).symm | exact (meaV_range (by omega) (by assumption)).symm | exact (meaV_ok (by omega) (by assumption)).symm)))
end Go.Proofs.Ytpecakgebhmnfaa
namespace Go.Proofs.Ytpecakgebhmnfaa
open Go Go.TH
attribute [local irreducible] W WO pt
set_option maxRecDepth 10000
set_option maxHeartbeats 1000000
/-- is a line within spots? -/
def InTo (l : List (Int × Int)) (x : List Int) (n : Nat) : Prop := ∀ i, i < n → (l.getD i (0, 0)).1 ≤ x.getD i 0 ∧ x.getD i 0 ≤ (l.getD i (0, 0)).2
def InS (l : List (Int × Int)) (x : List Int) : Prop := x.length = l.length ∧ InTo l x l.length
instance (l : List (Int × Int)) (x : List Int) (n : Nat) : Decidable (InTo l x n) := by unfold InTo; infer_instance
instance (l : List (Int × Int)) (x : List Int) : Decidable (InS l x) := by unfold InS; infer_instance
theorem InTo_succ {l : List (Int × Int)} {x : List Int} {n : Nat} (h : InTo l x n) (g : (l.getD n (0, 0)).1 ≤ x.getD n 0 ∧ x.getD n 0 ≤ (l.getD n (0, 0)).2) : InTo l x (n + 1) := fun i hi => by
  rcases Nat.lt_or_ge i n with h1 | h1
  · exact h i h1
  · rw [show i = n by omega]; exact g
theorem InS.ok {l : List (Int × Int)} {x : List Int} (h : InS l x) (hs : OkS l) : OkI x := by
  intro z hz
  obtain ⟨i, hi, rfl⟩ := List.mem_iff_getElem.1 hz
  have h1 := h.2 i (by rw [← h.1]; exact hi)
  have h2 := hs _ (getD_mem (l := l) (i := i) (by rw [← h.1]; exact hi) (0, 0))
  rw [List.getD_eq_getElem?_getD (l := x), List.getElem?_eq_getElem hi] at h1
  simp only [Option.getD_some] at h1
  unfold OkG at h2
  omega
/-- what a line costs -/
def costL (t : Int) (x : List Int) : Int := beL x + t * (chL x : Int)
def ckE (l : List (Int × Int)) (t : Int) (x : List Int) : Int := if chkF l t ≠ 0 then chkF l t else if x.length ≠ l.length then 15 else if InTo l x l.length then 0 else 17
def ckV (l : List (Int × Int)) (t : Int) (x : List Int) : Value := if ckE l t x = 0 then .tuple #[.int .i64 (costL t x), .int .i64 0] else .tuple #[.int .i64 0, .int .i64 (ckE l t x)]
theorem ckE0 {l : List (Int × Int)} {t : Int} {x : List Int} : ckE l t x = 0 ↔ chkF l t = 0 ∧ InS l x := by
  unfold ckE InS
  by_cases h1 : chkF l t = 0
  · by_cases h2 : x.length = l.length
    · by_cases h3 : InTo l x l.length <;> simp [h1, h2, h3]
    · simp [h1, h2]
  · simp [h1]
theorem ckV_bad {l : List (Int × Int)} {t : Int} {x : List Int} (h : chkF l t ≠ 0) : ckV l t x = .tuple #[.int .i64 0, .int .i64 (chkF l t)] := by
  have e : ckE l t x = chkF l t := if_pos h
  unfold ckV; rw [e, if_neg h]
theorem ckV_eq {l : List (Int × Int)} {t : Int} {x : List Int} (h : ¬ chkF l t ≠ 0) (g : x.length ≠ l.length) : ckV l t x = .tuple #[.int .i64 0, .int .i64 15] := by
  have e : ckE l t x = 15 := by unfold ckE; rw [if_neg h, if_pos g]
  unfold ckV; rw [e]; rfl
theorem ckV_in {l : List (Int × Int)} {t : Int} {x : List Int} (h : ¬ chkF l t ≠ 0) (g : x.length = l.length) (k : ¬ InTo l x l.length) : ckV l t x = .tuple #[.int .i64 0, .int .i64 17] := by
  have e : ckE l t x = 17 := by unfold ckE; rw [if_neg h, if_neg (by omega), if_neg k]
  unfold ckV; rw [e]; rfl
theorem ckV_ok {l : List (Int × Int)} {t : Int} {x : List Int} (h : ¬ chkF l t ≠ 0) (g : x.length = l.length) (k : InTo l x l.length) : ckV l t x = .tuple #[.int .i64 (costL t x), .int .i64 0] := by
  unfold ckV; rw [if_pos (ckE0.2 ⟨by omega, g, k⟩)]
theorem turn_bd {t : Int} {n : Nat} (h : 0 ≤ t ∧ t ≤ 1000000) (hn : n ≤ 4096) : 0 ≤ t * (n : Int) ∧ t * (n : Int) ≤ 4096000000 := by
  constructor
  · exact Int.mul_nonneg h.1 (by omega)
  · have := Int.mul_le_mul h.2 (show (n : Int) ≤ 4096 by omega) (by omega) (by omega); omega
theorem ref_Cost (w : World) (o v : Value) (l : List (Int × Int)) (t : Int) (x : List Int) (ho : o.oneCell' = true) (hX : RdF encI 1 w.heap.size w v x) (hok : OkI x) (hl : x.length ≤ 4096) (ht : 0 ≤ t ∧ t ≤ 1000000) : Ret Try.prog 34 [.agg #[o, .int .i64 t], v].toArray w (.int .i64 (costL t x)) := by
  refine Ret.of mixed tyTab Try.func34 rfl rfl ?_
  replace hX : RdF encI 1 (fnCx mixed tyTab Try.f34.ntmps w).B (fnCx mixed tyTab Try.f34.ntmps w).w0 v x := hX
  have hb := mea_bd hok
  have htb := turn_bd ht (n := chL x) (by omega)
  refine W.sreg ?_
  refine WO.boxA rfl rfl (fun b1 hb1 => ?_)
  refine WO.p rfl rfl ?_
  refine WO.nil ?_
  refine W.sreg ?_
  refine WO.p rfl rfl ?_
  refine WO.callR rfl Try.call39 (fun L w hi => ref_measure w v x (hX.later hi) hok hl) rfl ?_
  refine WO.p rfl rfl (WO.p rfl rfl (WO.p rfl rfl (WO.p rfl rfl (WO.p rfl rfl ?_))))
  refine WO.nil ?_
  refine W.sreg ?_
  refine WO.p rfl rfl (WO.fieldL rfl rfl rfl (WO.load rfl rfl (Cell.own Pick.head rfl) rfl (WO.p rfl rfl (WO.ar rfl rfl rfl (by (first | (unfold in64; omega) | (unfold in64; omega))) rfl (WO.ar rfl rfl rfl (by (first | (unfold in64; omega) | (unfold in64; omega))) rfl (WO.p rfl rfl ?_))))))
  refine WO.nil ?_
  refine W.ret ?_
  exact fin.ret (Res.one rfl (RV.tmp rfl)) rfl
theorem ref_Check (w : World) (o v : Value) (l : List (Int × Int)) (t : Int) (x : List Int) (hR : RdF encP 2 w.heap.size w o l) (hX : RdF encI 1 w.heap.size w v x) : Ret Try.prog 17 [.agg #[o, .int .i64 t], v].toArray w (ckV l t x) := by
  refine Ret.of mixed tyTab Try.func17 rfl rfl ?_
  replace hR : RdF encP 2 (fnCx mixed tyTab Try.f17.ntmps w).B (fnCx mixed tyTab Try.f17.ntmps w).w0 o l := hR
  replace hX : RdF encI 1 (fnCx mixed tyTab Try.f17.ntmps w).B (fnCx mixed tyTab Try.f17.ntmps w).w0 v x := hX
  have hle := hX.sl.le
  have ho := hR.sl.oc
  refine W.sreg ?_
  refine WO.boxA rfl rfl (fun b1 hb1 => ?_)
  refine WO.p rfl rfl (WO.p rfl rfl ?_)
  refine WO.nil ?_
  refine W.seq ?_
  refine W.sreg ?_
  refine WO.loadA rfl rfl (Cells.own Pick.head) rfl rfl ?_
  refine WO.callR rfl Try.call19 (fun L w hi => ref_CheckSpots w o l t (hR.later hi)) rfl ?_
  refine WO.p rfl rfl ?_
  refine WO.nil ?_
  refine W.cond_bl rfl (fun c1 => ?_) (fun c1 => ?_)
  · first
    | (exfalso; omega)
    | (refine W.sreg ?_
       refine WO.loadA rfl rfl (Cells.own Pick.head) rfl rfl ?_
       refine WO.callR rfl Try.call19 (fun L w hi => ref_CheckSpots w o l t (hR.later hi)) rfl ?_
       refine WO.p rfl rfl (WO.p rfl rfl ?_)
       refine WO.nil ?_
       refine W.ret ?_
       refine fin.ret (Res.two rfl (RV.tmp rfl) (RV.tmp rfl)) ?_
       first | exact (ckV_bad (by assumption)).symm | exact (ckV_eq (by assumption) (by omega)).symm | exact (ckV_in (by assumption) (by omega) (fun h => by have := h i (by omega); omega)).symm | exact (ckV_ok (by assumption) (by omega) (by rw [show l.length = i by omega]; exact hin)).symm)
  · first
    | (exfalso; omega)
    | (refine W.skip ?_
       refine W.seq ?_
       refine W.sreg ?_
       refine WO.p rfl rfl ?_
       refine' WO.len (n := _) rfl rfl ?hs rfl ?_
       case hs => (first | first | exact hX.sl | exact hR.sl)
       refine WO.field0 rfl rfl rfl (WO.load rfl rfl (Cell.own Pick.head rfl) rfl ?_)
       refine' WO.len (n := _) rfl rfl ?hs rfl ?_
       case hs => (first | first | exact hX.sl | exact hR.sl)
       refine WO.p rfl rfl ?_
       refine WO.nil ?_
       refine W.cond_bl rfl (fun c2 => ?_) (fun c2 => ?_)
       · first
         | (exfalso; omega)
         | (refine W.sreg ?_
            refine WO.p rfl rfl (WO.p rfl rfl ?_)
            refine WO.nil ?_
            refine W.ret ?_
            refine fin.ret (Res.two rfl (RV.tmp rfl) (RV.tmp rfl)) ?_
            first | exact (ckV_bad (by assumption)).symm | exact (ckV_eq (by assumption) (by omega)).symm | exact (ckV_in (by assumption) (by omega) (fun h => by have := h i (by omega); omega)).symm | exact (ckV_ok (by assumption) (by omega) (by rw [show l.length = i by omega]; exact hin)).symm)
       · first
         | (exfalso; omega)
         | (refine W.skip ?_
            refine W.seq ?_
            refine W.sreg ?_
            refine WO.p rfl rfl ?_
            refine WO.nil ?_
            refine W.block ?_
            refine W.loop (fun (i : Nat) => i ≤ x.length ∧ InTo l x i)
              (fun (i : Nat) => [(6, .int .i64 (i : Int)), (2, .pointer (some ⟨b1, 0, none⟩)), (1, v)])
              (fun (i : Nat) => [pt b1 (.cells #[o, .int .i64 t] 24 (0, 0))])
              (fun (i : Nat) => x.length - i) 0
              (by exact ⟨by omega, fun i hi => by omega⟩) ⟨rfl, rfl, rfl, trivial⟩ (by repeat (first | exact Sub.nil | refine Sub.cons (by repeat (first | exact Pick.head | apply Pick.tail)) ?_)) ?_
            rintro i ⟨hi, hin⟩
            refine W.seq ?_
            refine W.sreg ?_
            refine WO.p rfl rfl (WO.p rfl rfl ?_)
            refine' WO.len (n := _) rfl rfl ?hs rfl ?_
            case hs => (first | first | exact hX.sl | exact hR.sl)
            refine WO.p rfl rfl ?_
            refine WO.nil ?_
            refine W.cond_bl rfl (fun c3 => ?_) (fun c3 => ?_)
            · first
              | (exfalso; omega)
              | (refine W.skip ?_
                 refine W.seq ?_
                 refine W.block ?_
                 refine W.seq ?_
                 refine W.drawD 22 [.r 0 [], .r 1 [], .r 2 [], .b 3 [], .r 4 [], .b 5 [], .r 6 [], .r 7 [], .r 8 [], .b 9 [], .r 10 [], .r 11 [], .r 12 [], .r 13 [], .r 14 [], .b 15 [], .r 16 [], .b 17 [], .r 18 [], .r 19 [], .r 20 [], .b 21 []] [] (A0 := []) (Sub.refl _) (by kernel_rfl) ?_ ?_
                 · exact (ALok.r (ALok.r (ALok.r (ALok.b (ALok.r (ALok.b (ALok.r (ALok.r (ALok.r (ALok.b (ALok.r (ALok.r (ALok.r (ALok.r (ALok.r (ALok.b (ALok.r (ALok.b (ALok.r (ALok.r (ALok.r (ALok.b ALok.nil))))))))))))))))))))))
                 refine' DT.r rfl rfl rfl ?hq ?_
                 case hq =>
                   refine WO.p rfl rfl ?_
                   exact WO.nil ⟨rfl, rfl⟩
                 refine' DT.r rfl rfl rfl ?hq ?_
                 case hq =>
                   refine WO.p rfl rfl ?_
                   exact WO.nil ⟨rfl, rfl⟩
                 refine' DT.r rfl rfl rfl ?hq ?_
                 case hq =>
                   refine' WO.indexAddr (n := _) (i := _) rfl rfl rfl ?hs ?h1 rfl ?_
                   case hs => (first | first | exact hX.sl | exact hR.sl)
                   case h1 => (first | omega | (simp; omega))
                   exact WO.nil ⟨rfl, rfl⟩
                 refine' DT.b rfl rfl rfl ?hq ?_
                 case hq =>
                   refine' WO.load (v := _) rfl rfl ?hc rfl ?_
                   case hc => (first | (refine RdF.cellI2 hX (i := i) (by omega) rfl rfl) | (refine hR.cell0 (i := i) ?_ (0, 0) ?_ <;> first | rfl | omega) | (refine hR.cellAt (i := i) ?_ (0, 0) ?_ <;> first | rfl | omega))
                   exact WO.nil ⟨rfl, rfl⟩
                 refine' DT.r rfl rfl rfl ?hq ?_
                 case hq =>
                   refine WO.field0 rfl rfl rfl ?_
                   exact WO.nil ⟨rfl, rfl⟩
                 refine' DT.b rfl rfl rfl ?hq ?_
                 case hq =>
                   refine WO.load rfl rfl (Cell.own Pick.head rfl) rfl ?_
                   exact WO.nil ⟨rfl, rfl⟩
                 refine' DT.r rfl rfl rfl ?hq ?_
                 case hq =>
                   refine WO.p rfl rfl ?_
                   exact WO.nil ⟨rfl, rfl⟩
                 refine' DT.r rfl rfl rfl ?hq ?_
                 case hq =>
                   refine' WO.indexAddr (n := _) (i := _) rfl rfl rfl ?hs ?h1 rfl ?_
                   case hs => (first | first | exact hX.sl | exact hR.sl)
                   case h1 => (first | omega | (simp; omega))
                   exact WO.nil ⟨rfl, rfl⟩
                 refine' DT.r rfl rfl rfl ?hq ?_
                 case hq =>
                   refine WO.field0 rfl rfl rfl ?_
                   exact WO.nil ⟨rfl, rfl⟩
                 refine' DT.b rfl rfl rfl ?hq ?_
                 case hq =>
                   refine' WO.load (v := _) rfl rfl ?hc rfl ?_
                   case hc => (first | (refine RdF.cellI2 hX (i := i) (by omega) rfl rfl) | (refine hR.cell0 (i := i) ?_ (0, 0) ?_ <;> first | rfl | omega) | (refine hR.cellAt (i := i) ?_ (0, 0) ?_ <;> first | rfl | omega))
                   exact WO.nil ⟨rfl, rfl⟩
                 refine' DT.r rfl rfl rfl ?hq ?_
                 case hq =>
                   refine WO.p rfl rfl ?_
                   exact WO.nil ⟨rfl, rfl⟩
                 refine' DT.rB rfl rfl rfl ?hq (fun c4 => ?_) (fun c4 => ?_)
                 case hq =>
                   refine WO.p rfl rfl ?_
                   exact WO.nil ⟨rfl, rfl⟩
                 · first
                   | (exfalso; omega)
                   | (refine' DT.r rfl rfl rfl ?hq ?_
                      case hq =>
                        refine WO.no rfl rfl ?_
                        exact WO.nil ⟨rfl, rfl⟩
                      refine' DT.r rfl rfl rfl ?hq ?_
                      case hq =>
                        refine WO.no rfl rfl ?_
                        exact WO.nil ⟨rfl, rfl⟩
                      refine' DT.r rfl rfl rfl ?hq ?_
                      case hq =>
                        refine WO.no rfl rfl ?_
                        exact WO.nil ⟨rfl, rfl⟩
                      refine' DT.b rfl rfl rfl ?hq ?_
                      case hq =>
                        refine WO.no rfl rfl ?_
                        exact WO.nil ⟨rfl, rfl⟩
                      refine' DT.r rfl rfl rfl ?hq ?_
                      case hq =>
                        refine WO.no rfl rfl ?_
                        exact WO.nil ⟨rfl, rfl⟩
                      refine' DT.b rfl rfl rfl ?hq ?_
                      case hq =>
                        refine WO.no rfl rfl ?_
                        exact WO.nil ⟨rfl, rfl⟩
                      refine' DT.r rfl rfl rfl ?hq ?_
                      case hq =>
                        refine WO.no rfl rfl ?_
                        exact WO.nil ⟨rfl, rfl⟩
                      refine' DT.r rfl rfl rfl ?hq ?_
                      case hq =>
                        refine WO.no rfl rfl ?_
                        exact WO.nil ⟨rfl, rfl⟩
                      refine' DT.r rfl rfl rfl ?hq ?_
                      case hq =>
                        refine WO.no rfl rfl ?_
                        exact WO.nil ⟨rfl, rfl⟩
                      refine' DT.b rfl rfl rfl ?hq ?_
                      case hq =>
                        refine WO.no rfl rfl ?_
                        exact WO.nil ⟨rfl, rfl⟩
                      refine DT.nil [_] rfl ?_
                      refine WO.no rfl rfl (WO.p rfl rfl ?_)
                      refine WO.nil ?_
                      refine W.cond_t rfl ?_
                      refine W.sreg ?_
                      refine WO.p rfl rfl (WO.p rfl rfl ?_)
                      refine WO.nil ?_
                      refine W.ret ?_
                      refine fin.ret (Res.two rfl (RV.tmp rfl) (RV.tmp rfl)) ?_
                      first | exact (ckV_bad (by assumption)).symm | exact (ckV_eq (by assumption) (by omega)).symm | exact (ckV_in (by assumption) (by omega) (fun h => by have := h i (by omega); omega)).symm | exact (ckV_ok (by assumption) (by omega) (by rw [show l.length = i by omega]; exact hin)).symm)
                 · first
                   | (exfalso; omega)
                   | (refine' DT.r rfl rfl rfl ?hq ?_
                      case hq =>
                        refine WO.pg rfl rfl rfl ?_
                        exact WO.nil ⟨rfl, rfl⟩
                      refine' DT.r rfl rfl rfl ?hq ?_
                      case hq =>
                        refine WO.pg rfl rfl rfl ?_
                        exact WO.nil ⟨rfl, rfl⟩
                      refine' DT.r rfl rfl rfl ?hq ?_
                      case hq =>
                        refine WO.go' rfl ?_
                        refine' WO.indexAddr (n := _) (i := _) rfl rfl rfl ?hs ?h1 rfl ?_
                        case hs => (first | first | exact hX.sl | exact hR.sl)
                        case h1 => (first | omega | (simp; omega))
                        exact WO.nil ⟨rfl, rfl⟩
                      refine' DT.b rfl rfl rfl ?hq ?_
                      case hq =>
                        refine WO.go' rfl ?_
                        refine' WO.load (v := _) rfl rfl ?hc rfl ?_
                        case hc => (first | (refine RdF.cellI2 hX (i := i) (by omega) rfl rfl) | (refine hR.cell0 (i := i) ?_ (0, 0) ?_ <;> first | rfl | omega) | (refine hR.cellAt (i := i) ?_ (0, 0) ?_ <;> first | rfl | omega))
                        exact WO.nil ⟨rfl, rfl⟩
                      refine' DT.r rfl rfl rfl ?hq ?_
                      case hq =>
                        refine WO.go' rfl (WO.field0 rfl rfl rfl ?_)
                        exact WO.nil ⟨rfl, rfl⟩
                      refine' DT.b rfl rfl rfl ?hq ?_
                      case hq =>
                        refine WO.go' rfl (WO.load rfl rfl (Cell.own Pick.head rfl) rfl ?_)
                        exact WO.nil ⟨rfl, rfl⟩
                      refine' DT.r rfl rfl rfl ?hq ?_
                      case hq =>
                        refine WO.pg rfl rfl rfl ?_
                        exact WO.nil ⟨rfl, rfl⟩
                      refine' DT.r rfl rfl rfl ?hq ?_
                      case hq =>
                        refine WO.go' rfl ?_
                        refine' WO.indexAddr (n := _) (i := _) rfl rfl rfl ?hs ?h1 rfl ?_
                        case hs => (first | first | exact hX.sl | exact hR.sl)
                        case h1 => (first | omega | (simp; omega))
                        exact WO.nil ⟨rfl, rfl⟩
                      refine' DT.r rfl rfl rfl ?hq ?_
                      case hq =>
                        refine WO.go' rfl (WO.field rfl rfl rfl ?_)
                        exact WO.nil ⟨rfl, rfl⟩
                      refine' DT.b rfl rfl rfl ?hq ?_
                      case hq =>
                        refine WO.go' rfl ?_
                        refine' WO.load (v := _) rfl rfl ?hc rfl ?_
                        case hc => (first | (refine RdF.cellI2 hX (i := i) (by omega) rfl rfl) | (refine hR.cell0 (i := i) ?_ (0, 0) ?_ <;> first | rfl | omega) | (refine hR.cellAt (i := i) ?_ (0, 0) ?_ <;> first | rfl | omega))
                        exact WO.nil ⟨rfl, rfl⟩
                      refine DT.nil [_] rfl ?_
                      refine WO.pg rfl rfl rfl (WO.p rfl rfl ?_)
                      refine WO.nil ?_
                      refine W.cond_bl rfl (fun c5 => ?_) (fun c5 => ?_)
                      · first
                        | (exfalso; omega)
                        | (refine W.sreg ?_
                           refine WO.p rfl rfl (WO.p rfl rfl ?_)
                           refine WO.nil ?_
                           refine W.ret ?_
                           refine fin.ret (Res.two rfl (RV.tmp rfl) (RV.tmp rfl)) ?_
                           first | exact (ckV_bad (by assumption)).symm | exact (ckV_eq (by assumption) (by omega)).symm | exact (ckV_in (by assumption) (by omega) (fun h => by have := h i (by omega); omega)).symm | exact (ckV_ok (by assumption) (by omega) (by rw [show l.length = i by omega]; exact hin)).symm)
                      · first
                        | (exfalso; omega)
                        | (refine W.skip ?_
                           refine W.region ?_
                           refine WO.p rfl rfl (WO.ar rfl rfl rfl (by (first | (unfold in64; omega) | (unfold in64; omega))) rfl (WO.p rfl rfl ?_))
                           refine WO.nil ?_
                           refine' ⟨i + 1, ?hp, ?hmu, ⟨rfl, rfl, rfl, trivial⟩, ?hS⟩
                           case hS => repeat (first | exact Sub.nil | refine Sub.cons (by repeat (first | exact Pick.head | apply Pick.tail)) ?_)
                           case hp => exact ⟨by omega, InTo_succ hin (by omega)⟩
                           case hmu => omega)))
            · first
              | (exfalso; omega)
              | (refine W.exit (blk_same ?_)
                 have hcf := chkF0.1 (show chkF l t = 0 by omega)
                 refine W.sreg ?_
                 refine WO.loadA rfl rfl (Cells.own Pick.head) rfl rfl (WO.p rfl rfl ?_)
                 refine WO.callR rfl Try.call34 (fun L w hi => ref_Cost w o v l t x ho (hX.later hi) (InS.ok (l := l) ⟨by omega, by rw [show l.length = i by omega]; exact hin⟩ hcf.2.2) (by omega) hcf.2.1) rfl ?_
                 refine WO.p rfl rfl (WO.p rfl rfl ?_)
                 refine WO.nil ?_
                 refine W.ret ?_
                 refine fin.ret (Res.two rfl (RV.tmp rfl) (RV.tmp rfl)) ?_
                 first | exact (ckV_bad (by assumption)).symm | exact (ckV_eq (by assumption) (by omega)).symm | exact (ckV_in (by assumption) (by omega) (fun h => by have := h i (by omega); omega)).symm | exact (ckV_ok (by assumption) (by omega) (by rw [show l.length = i by omega]; exact hin)).symm)))
theorem c_Check (w : World) (o v : Value) (l : List (Int × Int)) (t : Int) (x : List Int) (hR : RdF encP 2 w.heap.size w o l) (hX : RdF encI 1 w.heap.size w v x) : Ret Try.prog 16 [.agg #[o, .int .i64 t], v].toArray w (ckV l t x) := by
  refine Ret.of mixed tyTab Try.func16 rfl rfl ?_
  replace hR : RdF encP 2 (fnCx mixed tyTab Try.f16.ntmps w).B (fnCx mixed tyTab Try.f16.ntmps w).w0 o l := hR
  replace hX : RdF encI 1 (fnCx mixed tyTab Try.f16.ntmps w).B (fnCx mixed tyTab Try.f16.ntmps w).w0 v x := hX
  have hle := hX.sl.le
  have ho := hR.sl.oc
  refine W.sreg ?_
  refine WO.boxA rfl rfl (fun b1 hb1 => ?_)
  refine WO.p rfl rfl (WO.p rfl rfl ?_)
  refine WO.nil ?_
  refine W.seq ?_
  refine W.sreg ?_
  refine WO.loadA rfl rfl (Cells.own Pick.head) rfl rfl ?_
  refine WO.callR rfl Try.call18 (fun L w hi => c_CheckSpots w o l t (hR.later hi)) rfl ?_
  refine WO.p rfl rfl ?_
  refine WO.nil ?_
  refine W.sreg ?_
  refine WO.p rfl rfl (WO.p rfl rfl ?_)
  refine WO.nil ?_
  refine W.cond_bl rfl (fun c1 => ?_) (fun c1 => ?_)
  · first
    | (exfalso; omega)
    | (refine W.sreg ?_
       refine WO.p rfl rfl (WO.p rfl rfl (WO.p rfl rfl ?_))
       refine WO.nil ?_
       refine W.ret ?_
       refine fin.ret (Res.two rfl (RV.tmp rfl) (RV.tmp rfl)) ?_
       first | exact (ckV_bad (by assumption)).symm | exact (ckV_eq (by assumption) (by omega)).symm | exact (ckV_in (by assumption) (by omega) (fun h => by have := h i (by omega); omega)).symm | exact (ckV_ok (by assumption) (by omega) (by rw [show l.length = i by omega]; exact hin)).symm)
  · first
    | (exfalso; omega)
    | (refine W.skip ?_
       refine W.seq ?_
       refine W.sreg ?_
       refine WO.p rfl rfl ?_
       refine' WO.len (n := _) rfl rfl ?hs rfl ?_
       case hs => (first | first | exact hX.sl | exact hR.sl)
       refine WO.field0 rfl rfl rfl (WO.load rfl rfl (Cell.own Pick.head rfl) rfl ?_)
       refine' WO.len (n := _) rfl rfl ?hs rfl ?_
       case hs => (first | first | exact hX.sl | exact hR.sl)
       refine WO.p rfl rfl ?_
       refine WO.nil ?_
       refine W.cond_bl rfl (fun c2 => ?_) (fun c2 => ?_)
       · first
         | (exfalso; omega)
         | (refine W.sreg ?_
            refine WO.p rfl rfl (WO.p rfl rfl ?_)
            refine WO.nil ?_
            refine W.ret ?_
            refine fin.ret (Res.two rfl (RV.tmp rfl) (RV.tmp rfl)) ?_
            first | exact (ckV_bad (by assumption)).symm | exact (ckV_eq (by assumption) (by omega)).symm | exact (ckV_in (by assumption) (by omega) (fun h => by have := h i (by omega); omega)).symm | exact (ckV_ok (by assumption) (by omega) (by rw [show l.length = i by omega]; exact hin)).symm)
       · first
         | (exfalso; omega)
         | (refine W.skip ?_
            refine W.seq ?_
            refine W.sreg ?_
            refine WO.field0 rfl rfl rfl (WO.load rfl rfl (Cell.own Pick.head rfl) rfl ?_)
            refine' WO.len (n := _) rfl rfl ?hs rfl ?_
            case hs => (first | first | exact hX.sl | exact hR.sl)
            refine WO.p rfl rfl ?_
            refine WO.nil ?_
            refine W.block ?_
            refine W.loop (fun (i : Nat) => i ≤ x.length ∧ InTo l x i)
              (fun (i : Nat) => [(25, .int .i64 (i : Int)), (24, .int .i64 (l.length : Int)), (23, o), (2, .pointer (some ⟨b1, 0, none⟩)), (1, v)])
              (fun (i : Nat) => [pt b1 (.cells #[o, .int .i64 t] 24 (0, 0))])
              (fun (i : Nat) => x.length - i) 0
              (by exact ⟨by omega, fun i hi => by omega⟩) ⟨rfl, rfl, rfl, rfl, rfl, trivial⟩ (by repeat (first | exact Sub.nil | refine Sub.cons (by repeat (first | exact Pick.head | apply Pick.tail)) ?_)) ?_
            rintro i ⟨hi, hin⟩
            refine W.sreg ?_
            refine WO.p rfl rfl ?_
            refine WO.nil ?_
            refine W.seq ?_
            refine W.cond_bl rfl (fun c3 => ?_) (fun c3 => ?_)
            · first
              | (exfalso; omega)
              | (refine W.skip ?_
                 refine W.seq ?_
                 refine W.block ?_
                 refine W.sreg ?_
                 refine WO.p rfl rfl ?_
                 refine' WO.indexAddr (n := _) (i := _) rfl rfl rfl ?hs ?h1 rfl ?_
                 case hs => (first | first | exact hX.sl | exact hR.sl)
                 case h1 => (first | omega | (simp; omega))
                 refine' WO.loadA (vs := _) rfl rfl ?hc ?hl rfl ?_
                 case hc => (first | exact RdF.cells2 hR (i := i) (by omega))
                 case hl => rfl
                 refine WO.alloc rfl rfl rfl (fun b2 hb2 => ?_)
                 refine WO.p rfl rfl (WO.storeA rfl rfl rfl rfl Pick.head rfl rfl ?_)
                 refine WO.nil ?_
                 refine W.seq ?_
                 refine W.drawD 9 [.r 0 [], .b 1 [], .r 2 [], .b 3 [], .r 4 [], .r 5 [], .r 6 [], .b 7 [], .c 8 []] [] (A0 := []) (Sub.refl _) (by kernel_rfl) ?_ ?_
                 · exact (ALok.r (ALok.b (ALok.r (ALok.b (ALok.r (ALok.r (ALok.r (ALok.b (ALok.c ALok.nil)))))))))
                 refine' DT.r rfl rfl rfl ?hq ?_
                 case hq =>
                   refine WO.field0 rfl rfl rfl ?_
                   exact WO.nil ⟨rfl, rfl⟩
                 refine' DT.b rfl rfl rfl ?hq ?_
                 case hq =>
                   refine WO.load rfl rfl (Cell.own Pick.head rfl) rfl ?_
                   exact WO.nil ⟨rfl, rfl⟩
                 refine' DT.r rfl rfl rfl ?hq ?_
                 case hq =>
                   refine WO.fieldL rfl rfl rfl ?_
                   exact WO.nil ⟨rfl, rfl⟩
                 refine' DT.b rfl rfl rfl ?hq ?_
                 case hq =>
                   refine WO.load rfl rfl (Cell.own Pick.head rfl) rfl ?_
                   exact WO.nil ⟨rfl, rfl⟩
                 refine' DT.r rfl rfl rfl ?hq ?_
                 case hq =>
                   refine WO.p rfl rfl ?_
                   exact WO.nil ⟨rfl, rfl⟩
                 refine' DT.r rfl rfl rfl ?hq ?_
                 case hq =>
                   refine WO.p rfl rfl ?_
                   exact WO.nil ⟨rfl, rfl⟩
                 refine' DT.r rfl rfl rfl ?hq ?_
                 case hq =>
                   refine' WO.indexAddr (n := _) (i := _) rfl rfl rfl ?hs ?h1 rfl ?_
                   case hs => (first | first | exact hX.sl | exact hR.sl)
                   case h1 => (first | omega | (simp; omega))
                   exact WO.nil ⟨rfl, rfl⟩
                 refine' DT.b rfl rfl rfl ?hq ?_
                 case hq =>
                   refine' WO.load (v := _) rfl rfl ?hc rfl ?_
                   case hc => (first | (refine RdF.cellI2 hX (i := i) (by omega) rfl rfl) | (refine hR.cell0 (i := i) ?_ (0, 0) ?_ <;> first | rfl | omega) | (refine hR.cellAt (i := i) ?_ (0, 0) ?_ <;> first | rfl | omega))
                   exact WO.nil ⟨rfl, rfl⟩
                 refine DT.c [_, _] rfl rfl rfl rfl ?_
                 refine' WO.buildSl (cs := _) rfl rfl rfl rfl ?hf rfl rfl ?hl rfl (fun v3 => ?_)
                 case hf => (conv => lhs; simp [-List.getD_eq_getElem?_getD, fillL, vcl, wrl, TTab.pl?.lget']) <;> rfl
                 case hl => rfl
                 refine WO.nil ⟨_, [_], rfl, rfl, (Keep.b (Keep.r (Keep.r (Keep.r (Keep.b (Keep.r (Keep.b (Keep.r Keep.nil)))))))), ?_⟩
                 refine DT.nil [_, _, _] rfl ?_
                 refine WO.callR (r := .bool (bl ((l.getD i (0, 0)).1 ≤ x.getD i 0 ∧ x.getD i 0 ≤ (l.getD i (0, 0)).2))) rfl Try.call37 (fun L w hi => by rw [← all1]; exact c_within w _ [x.getD i 0] _ _ (RdF.of_ow (e := 2) encI_ok (by repeat (first | exact Pick.head | apply Pick.tail)) hi)) rfl ?_
                 refine WO.p rfl rfl ?_
                 refine WO.nil ?_
                 refine W.cond_nbl rfl (fun c4 => ?_) (fun c4 => ?_)
                 · first
                   | (exfalso; omega)
                   | (refine W.sreg ?_
                      refine WO.p rfl rfl (WO.p rfl rfl ?_)
                      refine WO.nil ?_
                      refine W.ret ?_
                      refine fin.ret (Res.two rfl (RV.tmp rfl) (RV.tmp rfl)) ?_
                      first | exact (ckV_bad (by assumption)).symm | exact (ckV_eq (by assumption) (by omega)).symm | exact (ckV_in (by assumption) (by omega) (fun h => by have := h i (by omega); omega)).symm | exact (ckV_ok (by assumption) (by omega) (by rw [show l.length = i by omega]; exact hin)).symm)
                 · first
                   | (exfalso; omega)
                   | (refine W.skip ?_
                      refine W.region ?_
                      refine WO.ar rfl rfl rfl (by (first | (unfold in64; omega) | (unfold in64; omega))) rfl (WO.p rfl rfl ?_)
                      refine WO.nil ?_
                      refine' ⟨i + 1, ?hp, ?hmu, ⟨rfl, rfl, rfl, rfl, rfl, trivial⟩, ?hS⟩
                      case hS => repeat (first | exact Sub.nil | refine Sub.cons (by repeat (first | exact Pick.head | apply Pick.tail)) ?_)
                      case hp => exact ⟨by omega, InTo_succ hin (by assumption)⟩
                      case hmu => omega))
            · first
              | (exfalso; omega)
              | (refine W.exit (blk_same ?_)
                 have hcf := chkF0.1 (show chkF l t = 0 by omega)
                 have hb := mea_bd (InS.ok (l := l) (x := x) ⟨by omega, by rw [show l.length = i by omega]; exact hin⟩ hcf.2.2)
                 have htb := turn_bd hcf.2.1 (n := chL x) (by omega)
                 refine W.sreg ?_
                 refine WO.p rfl rfl ?_
                 refine WO.callR rfl Try.call38 (fun L w hi => c_measure w v x (hX.later hi) (by omega) (InS.ok (l := l) ⟨by omega, by rw [show l.length = i by omega]; exact hin⟩ hcf.2.2)) rfl ?_
                 refine WO.p rfl rfl (WO.p rfl rfl (WO.p rfl rfl (WO.p rfl rfl (WO.p rfl rfl ?_))))
                 refine WO.nil ?_
                 refine W.sreg ?_
                 refine WO.p rfl rfl (WO.fieldL rfl rfl rfl (WO.load rfl rfl (Cell.own Pick.head rfl) rfl (WO.p rfl rfl (WO.ar rfl rfl rfl (by (first | (unfold in64; omega) | (unfold in64; omega))) rfl (WO.ar rfl rfl rfl (by (first | (unfold in64; omega) | (unfold in64; omega))) rfl (WO.p rfl rfl (WO.p rfl rfl ?_)))))))
                 refine WO.nil ?_
                 refine W.ret ?_
                 refine fin.ret (Res.two rfl (RV.tmp rfl) (RV.tmp rfl)) ?_
                 first | exact (ckV_bad (by assumption)).symm | exact (ckV_eq (by assumption) (by omega)).symm | exact (ckV_in (by assumption) (by omega) (fun h => by have := h i (by omega); omega)).symm | exact (ckV_ok (by assumption) (by omega) (by rw [show l.length = i by omega]; exact hin)).symm)))
end Go.Proofs.Ytpecakgebhmnfaa
namespace Go.Proofs.Ytpecakgebhmnfaa
open Go Go.TH
attribute [local irreducible] W WO pt
set_option maxRecDepth 10000
set_option maxHeartbeats 1000000
/-- what is read of a drawer -/
structure DrR (n : Nat) (w : World) (p : Addr) (v : Value) (l : List (Int × Int)) (t B T : Int) (lv : Value) : Prop where
  c : RdC n w p [v, .int .i64 t, .int .i64 B, .int .i64 T, lv]
  r : RdF encP 2 n w v l
/-- a piece that lets a drawer be read -/
def DrS (n0 : Nat) (w0 : World) (S : HP) (p : Addr) (v : Value) (l : List (Int × Int)) (t B T : Int) (lv : Value) : Prop := ∀ (u : World) (M : List Nat) (L H : List HP) (w : World), Inv u M (L ++ S :: H) w → n0 ≤ w.heap.size → (∀ k, k < n0 → w.heap[k]? = w0.heap[k]?) → DrR w.heap.size w p v l t B T lv
section
variable {p : Addr} {v : Value} {l : List (Int × Int)} {t B T : Int} {lv : Value} {S : HP}
theorem DrR.later {C : Cx Try.prog} {H L : List HP} {w : World} (h : DrR C.B C.w0 p v l t B T lv) (hi : Inv C.w0 C.M (L ++ H) w) : DrR w.heap.size w p v l t B T lv := ⟨h.c.later hi, h.r.later hi⟩
theorem DrR.up {n n' : Nat} {w : World} (h : DrR n w p v l t B T lv) (hn : n ≤ n') : DrR n' w p v l t B T lv := ⟨h.c.up hn, h.r.up hn⟩
theorem DrR.agree {n : Nat} {w w' : World} (h : DrR n w p v l t B T lv) (hk : ∀ k, k < n → w'.heap[k]? = w.heap[k]?) : DrR n w' p v l t B T lv := ⟨h.c.agree hk, h.r.agree hk⟩
theorem DrS.old {n0 : Nat} {w0 : World} (h : DrR n0 w0 p v l t B T lv) : DrS n0 w0 S p v l t B T lv := fun _ _ _ _ _ _ h1 h2 => (h.agree h2).up h1
theorem DrS.agree {n0 : Nat} {w0 w1 : World} (h : DrS n0 w0 S p v l t B T lv) (hk : ∀ k, k < n0 → w1.heap[k]? = w0.heap[k]?) : DrS n0 w1 S p v l t B T lv := fun u M L H w hi h1 h2 => h u M L H w hi h1 (fun k hlt => by rw [h2 k hlt, hk k hlt])
theorem DrS.at {C : Cx Try.prog} {H H' L : List HP} {w : World} (h : DrS C.B C.w0 S p v l t B T lv) (pk : Pick S H H') (hi : Inv C.w0 C.M (L ++ H) w) : DrR w.heap.size w p v l t B T lv := h _ _ L H' w (hi.pickL pk) (Nat.le_trans C.hB hi.size) hi.keepB
theorem DrS.sat {n0 : Nat} {w0 : World} {A : HP} {R : List HP} (h : DrS n0 w0 S p v l t B T lv) : DrS n0 w0 (sat (A :: S :: R)) p v l t B T lv := fun u M L H w hi h1 h2 => by
  have h3 : Inv u M (L ++ (A :: S :: R ++ H)) w := Inv.chg (L := L) hi sat_many
  exact h u M (L ++ [A]) (R ++ H) w (by simpa using h3) h1 h2
theorem DrS.cell0 {C : Cx Try.prog} {H : List HP} (h : DrS C.B C.w0 S p v l t B T lv) (sb : Sub H [S]) : Cell C H p v := fun L w hi => by
  cases sb with
  | cons pk _ =>
    have := (h.at pk hi).c.at_ 0 v rfl
    rwa [addr_add_zero] at this
theorem DrS.cellAt {C : Cx Try.prog} {H : List HP} (h : DrS C.B C.w0 S p v l t B T lv) (sb : Sub H [S]) {j : Nat} {u : Value} (hu : lget [v, .int .i64 t, .int .i64 B, .int .i64 T, lv] j = some u) : Cell C H (prt p j) u := fun L w hi => by
  cases sb with
  | cons pk _ =>
    rw [lget_eq] at hu
    rw [prt_eq]
    exact (h.at pk hi).c.at_ j u hu
theorem DrS.lo {C : Cx Try.prog} {H : List HP} (h : DrS C.B C.w0 S p v l t B T lv) (sb : Sub H [S]) {i j : Nat} {z : Int} (hi : i < l.length) (hj : j = i) (hz : z = (l.getD i (0, 0)).1) : Cell C H (elt v j 2) (.int .i64 z) := fun L w hi' => by
  cases sb with
  | cons pk _ =>
    subst hj hz
    have := (h.at pk hi').r.cell j (l.getD j (0, 0)) (getD_some hi _) 0 _ rfl
    rw [addr_add_zero] at this
    rw [elt_eq]; exact this
end
theorem RdF.loZ {C : Cx Try.prog} {H : List HP} {v : Value} {l : List (Int × Int)} (h : RdF encP 2 C.B C.w0 v l) {i j : Nat} (hi : i < l.length) (hj : j = i) : Cell C H (elt v j 2) (.int .i64 (l.getD i (0, 0)).1) := by
  subst hj
  exact h.cell0 hi (0, 0) rfl
/-- how many offsets a spot has -/
def wid (r : Int × Int) : Nat := (r.2 - r.1 + 1).toNat
theorem wid_ok {r : Int × Int} (h : OkG r) : 1 ≤ wid r ∧ wid r ≤ 5 ∧ (wid r : Int) = r.2 - r.1 + 1 := by unfold OkG at h; unfold wid; omega
def stV (i a b s : Nat) : Value := .agg #[.int .i64 (i : Int), .int .i64 (a : Int), .int .i64 (b : Int), .int .i64 (s : Int)]
theorem c_wide (w : World) (p : Addr) (v : Value) (l : List (Int × Int)) (t B T : Int) (lv : Value) (i : Nat) (zi : Int) (hD : DrR w.heap.size w p v l t B T lv) (hz : zi = (i : Int)) (hi : i < l.length) (hg : OkS l) : Ret Try.prog 59 [.pointer (some p), .int .i64 zi].toArray w (.int .i64 (wid (l.getD i (0, 0)) : Int)) := by
  subst hz
  refine Ret.of mixed tyTab Try.func59 rfl rfl ?_
  have hD' : DrR (fnCx mixed tyTab Try.f59.ntmps w).B (fnCx mixed tyTab Try.f59.ntmps w).w0 p v l t B T lv := hD
  have hR := hD'.r
  have hP := hD'.c
  have hgi := hg _ (getD_mem hi (0, 0))
  have hw := wid_ok hgi
  unfold OkG at hgi
  refine W.sreg ?_
  refine WO.p rfl rfl ?_
  refine WO.nil ?_
  refine W.seq ?_
  refine W.drawD 18 [.r 0 [], .r 1 [], .r 2 [], .r 3 [], .b 4 [], .r 5 [], .r 6 [], .r 7 [], .b 8 [], .r 9 [], .r 10 [], .r 11 [], .r 12 [], .b 13 [], .r 14 [], .r 15 [], .r 16 [], .b 17 []] [] (A0 := []) (Sub.refl _) (by kernel_rfl) ?_ ?_
  · exact (ALok.r (ALok.r (ALok.r (ALok.r (ALok.b (ALok.r (ALok.r (ALok.r (ALok.b (ALok.r (ALok.r (ALok.r (ALok.r (ALok.b (ALok.r (ALok.r (ALok.r (ALok.b ALok.nil))))))))))))))))))
  refine' DT.r rfl rfl rfl ?hq ?_
  case hq =>
    refine WO.p rfl rfl ?_
    exact WO.nil ⟨rfl, rfl⟩
  refine' DT.r rfl rfl rfl ?hq ?_
  case hq =>
    refine WO.p rfl rfl ?_
    exact WO.nil ⟨rfl, rfl⟩
  refine' DT.r rfl rfl rfl ?hq ?_
  case hq =>
    refine WO.field0 rfl rfl rfl ?_
    exact WO.nil ⟨rfl, rfl⟩
  refine' DT.r rfl rfl rfl ?hq ?_
  case hq =>
    refine WO.field0 rfl rfl rfl ?_
    exact WO.nil ⟨rfl, rfl⟩
  refine' DT.b rfl rfl rfl ?hq ?_
  case hq =>
    refine' WO.load (v := _) rfl rfl ?hc rfl ?_
    case hc => (first | (refine hP.cell0 ?_ <;> rfl) | (refine hR.cell0 (i := i) ?_ (0, 0) ?_ <;> first | rfl | omega) | (refine hR.cellAt (i := i) ?_ (0, 0) ?_ <;> first | rfl | omega))
    exact WO.nil ⟨rfl, rfl⟩
  refine' DT.r rfl rfl rfl ?hq ?_
  case hq =>
    refine WO.p rfl rfl ?_
    exact WO.nil ⟨rfl, rfl⟩
  refine' DT.r rfl rfl rfl ?hq ?_
  case hq =>
    refine' WO.indexAddr (n := _) (i := _) rfl rfl rfl ?hs ?h1 rfl ?_
    case hs => (first | exact hR.sl)
    case h1 => (first | omega | (simp; omega))
    exact WO.nil ⟨rfl, rfl⟩
  refine' DT.r rfl rfl rfl ?hq ?_
  case hq =>
    refine WO.field rfl rfl rfl ?_
    exact WO.nil ⟨rfl, rfl⟩
  refine' DT.b rfl rfl rfl ?hq ?_
  case hq =>
    refine' WO.load (v := _) rfl rfl ?hc rfl ?_
    case hc => (first | (refine hP.cell0 ?_ <;> rfl) | (refine hR.cell0 (i := i) ?_ (0, 0) ?_ <;> first | rfl | omega) | (refine hR.cellAt (i := i) ?_ (0, 0) ?_ <;> first | rfl | omega))
    exact WO.nil ⟨rfl, rfl⟩
  refine' DT.r rfl rfl rfl ?hq ?_
  case hq =>
    refine WO.p rfl rfl ?_
    exact WO.nil ⟨rfl, rfl⟩
  refine' DT.r rfl rfl rfl ?hq ?_
  case hq =>
    refine WO.p rfl rfl ?_
    exact WO.nil ⟨rfl, rfl⟩
  refine' DT.r rfl rfl rfl ?hq ?_
  case hq =>
    refine WO.field0 rfl rfl rfl ?_
    exact WO.nil ⟨rfl, rfl⟩
  refine' DT.r rfl rfl rfl ?hq ?_
  case hq =>
    refine WO.field0 rfl rfl rfl ?_
    exact WO.nil ⟨rfl, rfl⟩
  refine' DT.b rfl rfl rfl ?hq ?_
  case hq =>
    refine' WO.load (v := _) rfl rfl ?hc rfl ?_
    case hc => (first | (refine hP.cell0 ?_ <;> rfl) | (refine hR.cell0 (i := i) ?_ (0, 0) ?_ <;> first | rfl | omega) | (refine hR.cellAt (i := i) ?_ (0, 0) ?_ <;> first | rfl | omega))
    exact WO.nil ⟨rfl, rfl⟩
  refine' DT.r rfl rfl rfl ?hq ?_
  case hq =>
    refine WO.p rfl rfl ?_
    exact WO.nil ⟨rfl, rfl⟩
  refine' DT.r rfl rfl rfl ?hq ?_
  case hq =>
    refine' WO.indexAddr (n := _) (i := _) rfl rfl rfl ?hs ?h1 rfl ?_
    case hs => (first | exact hR.sl)
    case h1 => (first | omega | (simp; omega))
    exact WO.nil ⟨rfl, rfl⟩
  refine' DT.r rfl rfl rfl ?hq ?_
  case hq =>
    refine WO.field0 rfl rfl rfl ?_
    exact WO.nil ⟨rfl, rfl⟩
  refine' DT.b rfl rfl rfl ?hq ?_
  case hq =>
    refine' WO.load (v := _) rfl rfl ?hc rfl ?_
    case hc => (first | (refine hP.cell0 ?_ <;> rfl) | (refine hR.cell0 (i := i) ?_ (0, 0) ?_ <;> first | rfl | omega) | (refine hR.cellAt (i := i) ?_ (0, 0) ?_ <;> first | rfl | omega))
    exact WO.nil ⟨rfl, rfl⟩
  refine DT.nil [] rfl ?_
  refine WO.ar rfl rfl rfl (by (first | (unfold in64; omega) | (unfold in64; omega))) rfl (WO.ar rfl rfl rfl (by (first | (unfold in64; omega) | (unfold in64; omega))) rfl (WO.p rfl rfl ?_))
  refine WO.nil ?_
  refine W.ret ?_
  exact fin.ret (Res.one rfl (RV.tmp rfl)) (congrArg (Value.int .i64) (by omega))
theorem c_at (w : World) (p : Addr) (v : Value) (l : List (Int × Int)) (t B T : Int) (lv : Value) (g : Nat → Int) (i a b s : Nat) (hD : DrR w.heap.size w p v l t B T lv) (hT : RdT 75 w.heap.size w lv l.length g) (hi : i < l.length) (ha : a < 5) (hb : b < 5) (hs : s < 3) : Ret Try.prog 62 [.pointer (some p), stV i a b s].toArray w (.int .i64 (g (i * 75 + (a * 15 + b * 3 + s)))) := by
  refine Ret.of mixed tyTab Try.func62 rfl rfl ?_
  have hD' : DrR (fnCx mixed tyTab Try.f62.ntmps w).B (fnCx mixed tyTab Try.f62.ntmps w).w0 p v l t B T lv := hD
  have hT' : RdT 75 (fnCx mixed tyTab Try.f62.ntmps w).B (fnCx mixed tyTab Try.f62.ntmps w).w0 lv l.length g := hT
  have hP := hD'.c
  refine W.sreg ?_
  refine WO.boxA rfl rfl (fun b1 hb1 => ?_)
  refine WO.p rfl rfl ?_
  refine WO.nil ?_
  refine W.seq ?_
  refine W.drawD 16 [.r 0 [], .r 1 [], .r 2 [], .b 3 [], .r 4 [], .b 5 [], .r 6 [], .b 7 [], .r 8 [], .b 9 [], .r 10 [], .r 11 [], .b 12 [], .r 13 [], .r 14 [], .r 15 []] [] (A0 := []) (Sub.refl _) (by kernel_rfl) ?_ ?_
  · exact (ALok.r (ALok.r (ALok.r (ALok.b (ALok.r (ALok.b (ALok.r (ALok.b (ALok.r (ALok.b (ALok.r (ALok.r (ALok.b (ALok.r (ALok.r (ALok.r ALok.nil))))))))))))))))
  refine' DT.r rfl rfl rfl ?hq ?_
  case hq =>
    refine WO.p rfl rfl ?_
    exact WO.nil ⟨rfl, rfl⟩
  refine' DT.r rfl rfl rfl ?hq ?_
  case hq =>
    refine WO.p rfl rfl ?_
    exact WO.nil ⟨rfl, rfl⟩
  refine' DT.r rfl rfl rfl ?hq ?_
  case hq =>
    refine WO.field rfl rfl rfl ?_
    exact WO.nil ⟨rfl, rfl⟩
  refine' DT.b rfl rfl rfl ?hq ?_
  case hq =>
    refine' WO.load (v := _) rfl rfl ?hc rfl ?_
    case hc => (first | (refine hP.cellAt ?_ <;> rfl) | exact hT'.cellAt (j := a * 15 + b * 3 + s) hi (by omega))
    exact WO.nil ⟨rfl, rfl⟩
  refine' DT.r rfl rfl rfl ?hq ?_
  case hq =>
    refine WO.field0 rfl rfl rfl ?_
    exact WO.nil ⟨rfl, rfl⟩
  refine' DT.b rfl rfl rfl ?hq ?_
  case hq =>
    refine WO.load rfl rfl (Cell.own Pick.head rfl) rfl ?_
    exact WO.nil ⟨rfl, rfl⟩
  refine' DT.r rfl rfl rfl ?hq ?_
  case hq =>
    refine WO.fieldL rfl rfl rfl ?_
    exact WO.nil ⟨rfl, rfl⟩
  refine' DT.b rfl rfl rfl ?hq ?_
  case hq =>
    refine WO.load rfl rfl (Cell.own Pick.head rfl) rfl ?_
    exact WO.nil ⟨rfl, rfl⟩
  refine' DT.r rfl rfl rfl ?hq ?_
  case hq =>
    refine WO.fieldL rfl rfl rfl ?_
    exact WO.nil ⟨rfl, rfl⟩
  refine' DT.b rfl rfl rfl ?hq ?_
  case hq =>
    refine WO.load rfl rfl (Cell.own Pick.head rfl) rfl ?_
    exact WO.nil ⟨rfl, rfl⟩
  refine' DT.r rfl rfl rfl ?hq ?_
  case hq =>
    refine WO.fieldL rfl rfl rfl ?_
    exact WO.nil ⟨rfl, rfl⟩
  refine' DT.r rfl rfl rfl ?hq ?_
  case hq =>
    refine WO.field0 rfl rfl rfl ?_
    exact WO.nil ⟨rfl, rfl⟩
  refine' DT.b rfl rfl rfl ?hq ?_
  case hq =>
    refine WO.load rfl rfl (Cell.own Pick.head rfl) rfl ?_
    exact WO.nil ⟨rfl, rfl⟩
  refine' DT.r rfl rfl rfl ?hq ?_
  case hq =>
    refine' WO.indexAddr (n := _) (i := _) rfl rfl rfl ?hs ?h1 rfl ?_
    case hs => (first | exact hT'.sl)
    case h1 => (first | omega | (simp; omega))
    exact WO.nil ⟨rfl, rfl⟩
  refine' DT.r rfl rfl rfl ?hq ?_
  case hq =>
    refine WO.indexArr0 (i := a) rfl rfl rfl rfl ha rfl ?_
    exact WO.nil ⟨rfl, rfl⟩
  refine' DT.r rfl rfl rfl ?hq ?_
  case hq =>
    refine WO.indexArrP (i := b) (fo' := a * 15 + b * 3) rfl rfl rfl rfl hb rfl rfl ?_
    exact WO.nil ⟨rfl, rfl⟩
  refine DT.nil [_] rfl ?_
  refine WO.indexArrP (i := s) (fo' := a * 15 + b * 3 + s) rfl rfl rfl rfl hs (by omega) rfl ?_
  refine' WO.load (v := _) rfl rfl ?hc rfl ?_
  case hc => (first | (refine hP.cellAt ?_ <;> rfl) | exact hT'.cellAt (j := a * 15 + b * 3 + s) hi (by omega))
  refine WO.p rfl rfl ?_
  refine WO.nil ?_
  refine W.ret ?_
  exact fin.ret (Res.one rfl (RV.tmp rfl)) rfl
/-- a second difference, and what it costs -/
def dif (l : List (Int × Int)) (i a b c : Nat) : Int := (l.getD (i - 1) (0, 0)).1 + a - 2 * ((l.getD i (0, 0)).1 + b) + ((l.getD (i + 1) (0, 0)).1 + c)
def stp (B T : Int) (s : Nat) (d : Int) : Int := B * ab d + T * (chg s d : Int)
theorem dif_bd {l : List (Int × Int)} (hg : OkS l) {i a b c : Nat} (hi : i + 1 < l.length) (ha : a < 5) (hb : b < 5) (hc : c < 5) : -5000000 ≤ dif l i a b c ∧ dif l i a b c ≤ 5000000 := by
  have h1 := hg _ (getD_mem (i := i - 1) (by omega) (0, 0))
  have h2 := hg _ (getD_mem (i := i) (by omega) (0, 0))
  have h3 := hg _ (getD_mem (i := i + 1) (by omega) (0, 0))
  unfold OkG at h1 h2 h3
  unfold dif
  omega
/-- what is asked of a drawer's costs -/
def OkC (B T : Int) : Prop := (B = 0 ∨ B = 1) ∧ 0 ≤ T ∧ T ≤ 1000000
theorem stp_bd {B T d : Int} (h : OkC B T) (hd : -5000000 ≤ d ∧ d ≤ 5000000) (s : Nat) : (0 ≤ B * ab d ∧ B * ab d ≤ 5000000) ∧ (0 ≤ T * (chg s d : Int) ∧ T * (chg s d : Int) ≤ 1000000) ∧ 0 ≤ stp B T s d ∧ stp B T s d ≤ 6000000 := by
  obtain ⟨h1, h2, h3⟩ := h
  have h4 := chg_le s d
  have h5 : (0 ≤ B * ab d ∧ B * ab d ≤ 5000000) := by
    rcases h1 with rfl | rfl
    · omega
    · unfold ab; omega
  have h6 : (0 ≤ T * (chg s d : Int) ∧ T * (chg s d : Int) ≤ 1000000) := by
    rcases (show chg s d = 0 ∨ chg s d = 1 by omega) with e | e <;> rw [e]
    · omega
    · omega
  unfold stp
  omega
theorem c_on (w : World) (p : Addr) (v : Value) (l : List (Int × Int)) (t B T : Int) (lv : Value) (i a b s c : Nat) (hD : DrR w.heap.size w p v l t B T lv) (hg : OkS l) (hC : OkC B T) (h1 : 1 ≤ i) (hi : i + 1 < l.length) (ha : a < 5) (hb : b < 5) (hs : s < 3) (hc : c < 5) : Ret Try.prog 64 [.pointer (some p), stV i a b s, .int .i64 (c : Int)].toArray w (.tuple #[stV (i + 1) b c (sg s (dif l i a b c)), .int .i64 (stp B T s (dif l i a b c))]) := by
  refine Ret.of mixed tyTab Try.func64 rfl rfl ?_
  have hD' : DrR (fnCx mixed tyTab Try.f64.ntmps w).B (fnCx mixed tyTab Try.f64.ntmps w).w0 p v l t B T lv := hD
  have hR := hD'.r
  have hP := hD'.c
  have hg1 := hg _ (getD_mem (i := i - 1) (by omega) (0, 0))
  have hg2 := hg _ (getD_mem (i := i) (by omega) (0, 0))
  have hg3 := hg _ (getD_mem (i := i + 1) (by omega) (0, 0))
  have hdb := dif_bd hg hi ha hb hc
  have hsb := stp_bd hC hdb s
  unfold OkG at hg1 hg2 hg3
  have hle := hR.sl.le
  refine W.sreg ?_
  refine WO.boxA rfl rfl (fun b1 hb1 => ?_)
  refine WO.alloc rfl rfl rfl (fun b2 hb2 => ?_)
  refine WO.p rfl rfl ?_
  refine WO.nil ?_
  refine W.seq ?_
  refine W.drawD 13 [.r 0 [], .r 1 [], .r 2 [], .r 3 [], .b 4 [], .r 5 [], .b 6 [], .r 7 [], .r 8 [], .r 9 [], .b 10 [], .r 11 [], .b 12 []] [] (A0 := []) (Sub.refl _) (by kernel_rfl) ?_ ?_
  · exact (ALok.r (ALok.r (ALok.r (ALok.r (ALok.b (ALok.r (ALok.b (ALok.r (ALok.r (ALok.r (ALok.b (ALok.r (ALok.b ALok.nil)))))))))))))
  refine' DT.r rfl rfl rfl ?hq ?_
  case hq =>
    refine WO.p rfl rfl ?_
    exact WO.nil ⟨rfl, rfl⟩
  refine' DT.r rfl rfl rfl ?hq ?_
  case hq =>
    refine WO.p rfl rfl ?_
    exact WO.nil ⟨rfl, rfl⟩
  refine' DT.r rfl rfl rfl ?hq ?_
  case hq =>
    refine WO.field0 rfl rfl rfl ?_
    exact WO.nil ⟨rfl, rfl⟩
  refine' DT.r rfl rfl rfl ?hq ?_
  case hq =>
    refine WO.field0 rfl rfl rfl ?_
    exact WO.nil ⟨rfl, rfl⟩
  refine' DT.b rfl rfl rfl ?hq ?_
  case hq =>
    refine' WO.load (v := _) rfl rfl ?hc rfl ?_
    case hc => (first | (refine hP.cell0 ?_ <;> rfl) | (refine hP.cellAt ?_ <;> rfl) | (refine RdF.loZ hR (i := i) (by omega) ?_; omega))
    exact WO.nil ⟨rfl, rfl⟩
  refine' DT.r rfl rfl rfl ?hq ?_
  case hq =>
    refine WO.field0 rfl rfl rfl ?_
    exact WO.nil ⟨rfl, rfl⟩
  refine' DT.b rfl rfl rfl ?hq ?_
  case hq =>
    refine WO.load rfl rfl (Cell.own (Pick.tail (Pick.head)) rfl) rfl ?_
    exact WO.nil ⟨rfl, rfl⟩
  refine' DT.r rfl rfl rfl ?hq ?_
  case hq =>
    refine WO.ar rfl rfl rfl (by (first | (unfold in64; omega) | (unfold in64; omega))) rfl ?_
    exact WO.nil ⟨rfl, rfl⟩
  refine' DT.r rfl rfl rfl ?hq ?_
  case hq =>
    refine' WO.indexAddrZ (n := _) rfl rfl rfl ?hs ?h00 ?h1 rfl ?_
    case hs => (first | exact hR.sl)
    case h00 => omega
    case h1 => (first | omega | (simp; omega))
    exact WO.nil ⟨rfl, rfl⟩
  refine' DT.r rfl rfl rfl ?hq ?_
  case hq =>
    refine WO.field0 rfl rfl rfl ?_
    exact WO.nil ⟨rfl, rfl⟩
  refine' DT.b rfl rfl rfl ?hq ?_
  case hq =>
    refine' WO.load (v := _) rfl rfl ?hc rfl ?_
    case hc => (first | (refine RdF.loZ hR (i := i - 1) (by omega) ?_; omega))
    exact WO.nil ⟨rfl, rfl⟩
  refine' DT.r rfl rfl rfl ?hq ?_
  case hq =>
    refine WO.fieldL rfl rfl rfl ?_
    exact WO.nil ⟨rfl, rfl⟩
  refine' DT.b rfl rfl rfl ?hq ?_
  case hq =>
    refine WO.load rfl rfl (Cell.own (Pick.tail (Pick.head)) rfl) rfl ?_
    exact WO.nil ⟨rfl, rfl⟩
  refine DT.nil [_, _] rfl ?_
  refine WO.ar rfl rfl rfl (by (first | (unfold in64; omega) | (unfold in64; omega))) rfl (WO.p rfl rfl ?_)
  refine WO.nil ?_
  refine W.seq ?_
  refine W.drawD 12 [.r 0 [], .r 1 [], .r 2 [], .r 3 [], .b 4 [], .r 5 [], .b 6 [], .r 7 [], .r 8 [], .b 9 [], .r 10 [], .b 11 []] [] (A0 := []) (Sub.refl _) (by kernel_rfl) ?_ ?_
  · exact (ALok.r (ALok.r (ALok.r (ALok.r (ALok.b (ALok.r (ALok.b (ALok.r (ALok.r (ALok.b (ALok.r (ALok.b ALok.nil))))))))))))
  refine' DT.r rfl rfl rfl ?hq ?_
  case hq =>
    refine WO.p rfl rfl ?_
    exact WO.nil ⟨rfl, rfl⟩
  refine' DT.r rfl rfl rfl ?hq ?_
  case hq =>
    refine WO.p rfl rfl ?_
    exact WO.nil ⟨rfl, rfl⟩
  refine' DT.r rfl rfl rfl ?hq ?_
  case hq =>
    refine WO.field0 rfl rfl rfl ?_
    exact WO.nil ⟨rfl, rfl⟩
  refine' DT.r rfl rfl rfl ?hq ?_
  case hq =>
    refine WO.field0 rfl rfl rfl ?_
    exact WO.nil ⟨rfl, rfl⟩
  refine' DT.b rfl rfl rfl ?hq ?_
  case hq =>
    refine' WO.load (v := _) rfl rfl ?hc rfl ?_
    case hc => (first | (refine hP.cell0 ?_ <;> rfl) | (refine hP.cellAt ?_ <;> rfl) | (refine RdF.loZ hR (i := i) (by omega) ?_; omega))
    exact WO.nil ⟨rfl, rfl⟩
  refine' DT.r rfl rfl rfl ?hq ?_
  case hq =>
    refine WO.field0 rfl rfl rfl ?_
    exact WO.nil ⟨rfl, rfl⟩
  refine' DT.b rfl rfl rfl ?hq ?_
  case hq =>
    refine WO.load rfl rfl (Cell.own (Pick.tail (Pick.head)) rfl) rfl ?_
    exact WO.nil ⟨rfl, rfl⟩
  refine' DT.r rfl rfl rfl ?hq ?_
  case hq =>
    refine' WO.indexAddr (n := _) (i := _) rfl rfl rfl ?hs ?h1 rfl ?_
    case hs => (first | exact hR.sl)
    case h1 => (first | omega | (simp; omega))
    exact WO.nil ⟨rfl, rfl⟩
  refine' DT.r rfl rfl rfl ?hq ?_
  case hq =>
    refine WO.field0 rfl rfl rfl ?_
    exact WO.nil ⟨rfl, rfl⟩
  refine' DT.b rfl rfl rfl ?hq ?_
  case hq =>
    refine' WO.load (v := _) rfl rfl ?hc rfl ?_
    case hc => (first | (refine hP.cell0 ?_ <;> rfl) | (refine hP.cellAt ?_ <;> rfl) | (refine RdF.loZ hR (i := i) (by omega) ?_; omega))
    exact WO.nil ⟨rfl, rfl⟩
  refine' DT.r rfl rfl rfl ?hq ?_
  case hq =>
    refine WO.fieldL rfl rfl rfl ?_
    exact WO.nil ⟨rfl, rfl⟩
  refine' DT.b rfl rfl rfl ?hq ?_
  case hq =>
    refine WO.load rfl rfl (Cell.own (Pick.tail (Pick.head)) rfl) rfl ?_
    exact WO.nil ⟨rfl, rfl⟩
  refine DT.nil [_, _] rfl ?_
  refine WO.ar rfl rfl rfl (by (first | (unfold in64; omega) | (unfold in64; omega))) rfl (WO.p rfl rfl ?_)
  refine WO.nil ?_
  refine W.seq ?_
  refine W.drawD 12 [.r 0 [], .r 1 [], .r 2 [], .r 3 [], .b 4 [], .r 5 [], .b 6 [], .r 7 [], .r 8 [], .r 9 [], .b 10 [], .r 11 []] [] (A0 := []) (Sub.refl _) (by kernel_rfl) ?_ ?_
  · exact (ALok.r (ALok.r (ALok.r (ALok.r (ALok.b (ALok.r (ALok.b (ALok.r (ALok.r (ALok.r (ALok.b (ALok.r ALok.nil))))))))))))
  refine' DT.r rfl rfl rfl ?hq ?_
  case hq =>
    refine WO.p rfl rfl ?_
    exact WO.nil ⟨rfl, rfl⟩
  refine' DT.r rfl rfl rfl ?hq ?_
  case hq =>
    refine WO.p rfl rfl ?_
    exact WO.nil ⟨rfl, rfl⟩
  refine' DT.r rfl rfl rfl ?hq ?_
  case hq =>
    refine WO.field0 rfl rfl rfl ?_
    exact WO.nil ⟨rfl, rfl⟩
  refine' DT.r rfl rfl rfl ?hq ?_
  case hq =>
    refine WO.field0 rfl rfl rfl ?_
    exact WO.nil ⟨rfl, rfl⟩
  refine' DT.b rfl rfl rfl ?hq ?_
  case hq =>
    refine' WO.load (v := _) rfl rfl ?hc rfl ?_
    case hc => (first | (refine hP.cell0 ?_ <;> rfl) | (refine hP.cellAt ?_ <;> rfl) | (refine RdF.loZ hR (i := i) (by omega) ?_; omega))
    exact WO.nil ⟨rfl, rfl⟩
  refine' DT.r rfl rfl rfl ?hq ?_
  case hq =>
    refine WO.field0 rfl rfl rfl ?_
    exact WO.nil ⟨rfl, rfl⟩
  refine' DT.b rfl rfl rfl ?hq ?_
  case hq =>
    refine WO.load rfl rfl (Cell.own (Pick.tail (Pick.head)) rfl) rfl ?_
    exact WO.nil ⟨rfl, rfl⟩
  refine' DT.r rfl rfl rfl ?hq ?_
  case hq =>
    refine WO.ar rfl rfl rfl (by (first | (unfold in64; omega) | (unfold in64; omega))) rfl ?_
    exact WO.nil ⟨rfl, rfl⟩
  refine' DT.r rfl rfl rfl ?hq ?_
  case hq =>
    refine' WO.indexAddrZ (n := _) rfl rfl rfl ?hs ?h00 ?h1 rfl ?_
    case hs => (first | exact hR.sl)
    case h00 => omega
    case h1 => (first | omega | (simp; omega))
    exact WO.nil ⟨rfl, rfl⟩
  refine' DT.r rfl rfl rfl ?hq ?_
  case hq =>
    refine WO.field0 rfl rfl rfl ?_
    exact WO.nil ⟨rfl, rfl⟩
  refine' DT.b rfl rfl rfl ?hq ?_
  case hq =>
    refine' WO.load (v := _) rfl rfl ?hc rfl ?_
    case hc => (first | (refine RdF.loZ hR (i := i + 1) (by omega) ?_; omega))
    exact WO.nil ⟨rfl, rfl⟩
  refine' DT.r rfl rfl rfl ?hq ?_
  case hq =>
    refine WO.p rfl rfl ?_
    exact WO.nil ⟨rfl, rfl⟩
  refine DT.nil [_, _] rfl ?_
  refine WO.ar rfl rfl rfl (by (first | (unfold in64; omega) | (unfold in64; omega))) rfl (WO.p rfl rfl ?_)
  refine WO.nil ?_
  refine W.sreg ?_
  refine WO.p rfl rfl (WO.p rfl rfl (WO.ar rfl rfl rfl (by (first | (unfold in64; omega) | (unfold in64; omega))) rfl (WO.ar rfl rfl rfl (by (first | (unfold in64; omega) | (unfold in64; omega))) rfl (WO.p rfl rfl (WO.ar rfl rfl rfl (by (first | (unfold in64; omega) | (unfold in64; omega))) rfl (WO.p rfl rfl ?_))))))
  refine WO.nil ?_
  unfold dif at hdb
  refine W.sreg ?_
  refine WO.fieldL rfl rfl rfl (WO.loadA rfl rfl (Cells.ownAt (n := 1) (Pick.tail (Pick.head)) rfl) rfl rfl (WO.p rfl rfl ?_))
  refine WO.callR rfl Try.call54 (fun L w hi => c_next w s _ (by omega)) rfl ?_
  refine WO.p rfl rfl (WO.p rfl rfl (WO.p rfl rfl ?_))
  refine WO.alloc rfl rfl rfl (fun b3 hb3 => ?_)
  refine WO.storeA rfl rfl rfl rfl Pick.head rfl rfl (WO.p rfl rfl ?_)
  refine WO.nil ?_
  refine W.seq ?_
  unfold stp dif ab at hsb
  refine W.drawD 25 [.r 0 [], .b 1 [], .r 2 [], .r 3 [], .b 4 [], .r 5 [], .b 6 [], .r 7 [], .r 8 [], .r 9 [], .r 10 [], .b 11 [], .r 12 [], .r 13 [], .r 14 [], .r 15 [], .r 16 [], .r 17 [], .r 18 [], .r 19 [], .b 20 [], .r 21 [], .r 22 [], .r 23 [], .s 24 []] [] (A0 := [_]) (H0 := [_, _]) (.cons (Pick.tail .head) (.cons .head (.cons .head .nil))) (by kernel_rfl) ?_ ?_
  · exact (ALok.r (ALok.b (ALok.r (ALok.r (ALok.b (ALok.r (ALok.b (ALok.r (ALok.r (ALok.r (ALok.r (ALok.b (ALok.r (ALok.r (ALok.r (ALok.r (ALok.r (ALok.r (ALok.r (ALok.r (ALok.b (ALok.r (ALok.r (ALok.r (ALok.s ALok.nil)))))))))))))))))))))))))
  refine' DT.r rfl rfl rfl ?hq ?_
  case hq =>
    refine WO.field0 rfl rfl rfl ?_
    exact WO.nil ⟨rfl, rfl⟩
  refine' DT.b rfl rfl rfl ?hq ?_
  case hq =>
    refine WO.load rfl rfl (Cell.own (Pick.tail (Pick.head)) rfl) rfl ?_
    exact WO.nil ⟨rfl, rfl⟩
  refine' DT.r rfl rfl rfl ?hq ?_
  case hq =>
    refine WO.ar rfl rfl rfl (by (first | (unfold in64; omega) | (unfold in64; omega))) rfl ?_
    exact WO.nil ⟨rfl, rfl⟩
  refine' DT.r rfl rfl rfl ?hq ?_
  case hq =>
    refine WO.fieldL rfl rfl rfl ?_
    exact WO.nil ⟨rfl, rfl⟩
  refine' DT.b rfl rfl rfl ?hq ?_
  case hq =>
    refine WO.load rfl rfl (Cell.own (Pick.tail (Pick.head)) rfl) rfl ?_
    exact WO.nil ⟨rfl, rfl⟩
  refine' DT.r rfl rfl rfl ?hq ?_
  case hq =>
    refine WO.p rfl rfl ?_
    exact WO.nil ⟨rfl, rfl⟩
  refine' DT.b rfl rfl rfl ?hq ?_
  case hq =>
    refine WO.loadA rfl rfl (Cells.own Pick.head) rfl rfl ?_
    exact WO.nil ⟨rfl, rfl⟩
  refine' DT.r rfl rfl rfl ?hq ?_
  case hq =>
    refine' WO.build (cs := _) rfl rfl rfl ?hf rfl ?_
    case hf => (conv => lhs; simp [-List.getD_eq_getElem?_getD, fillL, vcl, wrl, TTab.pl?.lget']) <;> rfl
    exact WO.nil ⟨rfl, rfl⟩
  refine' DT.r rfl rfl rfl ?hq ?_
  case hq =>
    refine WO.p rfl rfl ?_
    exact WO.nil ⟨rfl, rfl⟩
  refine' DT.r rfl rfl rfl ?hq ?_
  case hq =>
    refine WO.p rfl rfl ?_
    exact WO.nil ⟨rfl, rfl⟩
  refine' DT.r rfl rfl rfl ?hq ?_
  case hq =>
    refine WO.field rfl rfl rfl ?_
    exact WO.nil ⟨rfl, rfl⟩
  refine' DT.b rfl rfl rfl ?hq ?_
  case hq =>
    refine' WO.load (v := _) rfl rfl ?hc rfl ?_
    case hc => (first | (refine hP.cell0 ?_ <;> rfl) | (refine hP.cellAt ?_ <;> rfl) | (refine RdF.loZ hR (i := i) (by omega) ?_; omega))
    exact WO.nil ⟨rfl, rfl⟩
  refine' DT.r rfl rfl rfl ?hq ?_
  case hq =>
    refine WO.p rfl rfl ?_
    exact WO.nil ⟨rfl, rfl⟩
  refine' DT.r rfl rfl rfl ?hq ?_
  case hq =>
    refine WO.p rfl rfl ?_
    exact WO.nil ⟨rfl, rfl⟩
  refine' DT.r rfl rfl rfl ?hq ?_
  case hq =>
    refine WO.neg rfl (by (first | (unfold in64; omega) | (unfold in64; omega))) rfl ?_
    exact WO.nil ⟨rfl, rfl⟩
  refine' DT.r rfl rfl rfl ?hq ?_
  case hq =>
    refine WO.max2 rfl rfl rfl ?_
    exact WO.nil ⟨rfl, rfl⟩
  refine' DT.r rfl rfl rfl ?hq ?_
  case hq =>
    refine WO.ar rfl rfl rfl (by (first | (unfold in64; omega) | (unfold in64; omega))) rfl ?_
    exact WO.nil ⟨rfl, rfl⟩
  refine' DT.r rfl rfl rfl ?hq ?_
  case hq =>
    refine WO.p rfl rfl ?_
    exact WO.nil ⟨rfl, rfl⟩
  refine' DT.r rfl rfl rfl ?hq ?_
  case hq =>
    refine WO.p rfl rfl ?_
    exact WO.nil ⟨rfl, rfl⟩
  refine' DT.r rfl rfl rfl ?hq ?_
  case hq =>
    refine WO.field rfl rfl rfl ?_
    exact WO.nil ⟨rfl, rfl⟩
  refine' DT.b rfl rfl rfl ?hq ?_
  case hq =>
    refine' WO.load (v := _) rfl rfl ?hc rfl ?_
    case hc => (first | (refine hP.cell0 ?_ <;> rfl) | (refine hP.cellAt ?_ <;> rfl) | (refine RdF.loZ hR (i := i) (by omega) ?_; omega))
    exact WO.nil ⟨rfl, rfl⟩
  refine' DT.r rfl rfl rfl ?hq ?_
  case hq =>
    refine WO.p rfl rfl ?_
    exact WO.nil ⟨rfl, rfl⟩
  refine' DT.r rfl rfl rfl ?hq ?_
  case hq =>
    refine WO.ar rfl rfl rfl (by (first | (unfold in64; omega) | (unfold in64; omega))) rfl ?_
    exact WO.nil ⟨rfl, rfl⟩
  refine' DT.r rfl rfl rfl ?hq ?_
  case hq =>
    refine WO.ar rfl rfl rfl (by (first | (unfold in64; omega) | (unfold in64; omega))) rfl ?_
    exact WO.nil ⟨rfl, rfl⟩
  refine DT.s [_, _, _] rfl rfl rfl ?_
  refine WO.storeA rfl rfl rfl rfl Pick.head rfl rfl ?_
  refine WO.nil ⟨[_], rfl, rfl, (Keep.r (Keep.r (Keep.r (Keep.b (Keep.r (Keep.r (Keep.r (Keep.r (Keep.r (Keep.r (Keep.r (Keep.r (Keep.b (Keep.r (Keep.r (Keep.r (Keep.r (Keep.b (Keep.r (Keep.b (Keep.r (Keep.r (Keep.b (Keep.r Keep.nil)))))))))))))))))))))))), ?_⟩
  refine DT.nil [_, _, _] rfl ?_
  refine WO.p rfl rfl ?_
  refine WO.nil ?_
  refine W.ret ?_
  exact fin.ret (Res.two rfl (RV.cell rfl rfl rfl (Cells.own (by repeat (first | exact Pick.head | apply Pick.tail)))) (RV.tmp rfl)) rfl
end Go.Proofs.Ytpecakgebhmnfaa
namespace Go.Proofs.Ytpecakgebhmnfaa
open Go Go.TH
attribute [local irreducible] W WO pt
set_option maxRecDepth 10000
set_option maxHeartbeats 1000000
/-- a function value that answers T x at each x below n, and touches nothing -/
def FnN (B : Nat) (wr : World) (f : Nat) (cap : List Value) (n : Nat) (T : Nat → Int) : Prop :=
  ∀ w : World, B ≤ w.heap.size → (∀ k, k < B → w.heap[k]? = wr.heap[k]?) → ∀ x, x < n → Ret Try.prog f (([.int .i64 (x : Int)] : List Value) ++ cap).toArray w (.int .i64 (T x))
theorem FnN.at_ {C : Cx Try.prog} {H : List HP} {L : List HP} {w : World} {f : Nat} {cap : List Value} {n : Nat} {T : Nat → Int} (hB : C.B = C.w0.heap.size) (h : FnN C.w0.heap.size C.w0 f cap n T) (hi : Inv C.w0 C.M (L ++ H) w) {x : Nat} (hx : x < n) : Ret Try.prog f (([] : List Value) ++ [Value.int .i64 (x : Int)] ++ cap).toArray w (.int .i64 (T x)) := by
  rw [List.nil_append]
  exact h w hi.size (by rw [← hB]; exact hi.keepB) x hx
/-- the first place of the least of f 0 to f n, and this -/
def lst (f : Nat → Int) : Nat → Nat × Int
  | 0 => (0, f 0)
  | k + 1 => if f (k + 1) < (lst f k).2 then (k + 1, f (k + 1)) else lst f k
theorem lst_yes {f : Nat → Int} {k : Nat} (h : f (k + 1) < (lst f k).2) : lst f (k + 1) = (k + 1, f (k + 1)) := if_pos h
theorem lst_no {f : Nat → Int} {k : Nat} (h : ¬ f (k + 1) < (lst f k).2) : lst f (k + 1) = lst f k := if_neg h
theorem lst_spec (f : Nat → Int) : ∀ n, (lst f n).1 ≤ n ∧ (lst f n).2 = f (lst f n).1 ∧ (∀ i, i ≤ n → (lst f n).2 ≤ f i) ∧ ∀ i, i < (lst f n).1 → (lst f n).2 < f i
  | 0 => ⟨Nat.le_refl _, rfl, fun i hi => by rw [show i = 0 by omega]; exact Int.le_refl _, fun i hi => by simp [lst] at hi⟩
  | n + 1 => by
    have ih := lst_spec f n
    by_cases h : f (n + 1) < (lst f n).2
    · rw [lst_yes h]
      refine ⟨Nat.le_refl _, rfl, fun i hi => ?_, fun i hi => ?_⟩
      · rcases Nat.lt_or_ge n i with g | g
        · rw [show i = n + 1 by omega]; exact Int.le_refl _
        · have := ih.2.2.1 i g; show f (n + 1) ≤ f i; omega
      · have h1 : i < n + 1 := hi
        have := ih.2.2.1 i (by omega); show f (n + 1) < f i; omega
    · rw [lst_no h]
      refine ⟨by omega, ih.2.1, fun i hi => ?_, ih.2.2.2⟩
      rcases Nat.lt_or_ge n i with g | g
      · rw [show i = n + 1 by omega]; omega
      · exact ih.2.2.1 i g
theorem lst_congr {f g : Nat → Int} : ∀ {n : Nat}, (∀ i, i ≤ n → f i = g i) → lst f n = lst g n
  | 0, h => by unfold lst; rw [h 0 (Nat.le_refl _)]
  | n + 1, h => by
    unfold lst
    rw [lst_congr (n := n) (fun i hi => h i (by omega)), h (n + 1) (Nat.le_refl _)]
theorem c_least (w : World) (n : Nat) (f : Nat) (cap : List Value) (T : Nat → Int) (hn : 1 ≤ n) (hn2 : n ≤ 1000) (hF : FnN w.heap.size w f cap n T) (hcall : ∀ (args : Array Value) (w : World), (callFunc f args).run Try.prog w = .ok (.enter f args) w) :
    Ret Try.prog 60 [.int .i64 (n : Int), .func (.func f) (([] : List Value).toArray) cap.toArray].toArray w (.tuple #[.int .i64 ((lst T (n - 1)).1 : Int), .int .i64 (lst T (n - 1)).2]) := by
  refine Ret.of mixed tyTab Try.func60 rfl rfl ?_
  replace hF : FnN (fnCx mixed tyTab Try.f60.ntmps w).w0.heap.size (fnCx mixed tyTab Try.f60.ntmps w).w0 f cap n T := hF
  refine W.sreg ?_
  refine WO.p rfl rfl (WO.p rfl rfl ?_)
  refine WO.nil ?_
  refine W.sreg ?_
  refine WO.p rfl rfl ?_
  refine WO.callCR (first := []) (captured := cap) rfl rfl hcall (fun L w hi => hF.at_ (x := 0) rfl hi (by omega)) rfl ?_
  refine WO.p rfl rfl (WO.p rfl rfl ?_)
  refine WO.nil ?_
  refine W.seq ?_
  refine W.sreg ?_
  refine WO.p rfl rfl ?_
  refine WO.nil ?_
  refine W.block ?_
  refine W.loop3 (fun (i : Nat) (a : Int) (b : Int) => 1 ≤ i ∧ i ≤ n ∧ a = ((lst T (i - 1)).1 : Int) ∧ b = (lst T (i - 1)).2)
    (fun (i : Nat) (a : Int) (b : Int) => [(8, .int .i64 (i : Int)), (6, .int .i64 a), (7, .int .i64 b), (0, .int .i64 (n : Int)), (1, .func (.func f) (([] : List Value).toArray) cap.toArray)])
    (fun (i : Nat) (a : Int) (b : Int) => [])
    (fun (i : Nat) (a : Int) (b : Int) => n - i) 1 0 (T 0)
    (by exact ⟨by omega, by omega, rfl, rfl⟩) ⟨rfl, rfl, rfl, rfl, rfl, trivial⟩ (by repeat (first | exact Sub.nil | refine Sub.cons (by repeat (first | exact Pick.head | apply Pick.tail)) ?_)) ?_
  rintro i a b ⟨h1, h2, ha, hb⟩
  refine W.seq ?_
  refine W.sreg ?_
  refine WO.p rfl rfl (WO.p rfl rfl (WO.p rfl rfl ?_))
  refine WO.nil ?_
  refine W.cond_bl rfl (fun c1 => ?_) (fun c1 => ?_)
  · first
    | (exfalso; omega)
    | (refine W.skip ?_
       refine W.seq ?_
       refine W.block ?_
       refine W.sreg ?_
       refine WO.p rfl rfl (WO.p rfl rfl ?_)
       refine WO.callCR (first := []) (captured := cap) rfl rfl hcall (fun L w hi => hF.at_ (x := i) rfl hi (by omega)) rfl ?_
       refine WO.p rfl rfl ?_
       refine WO.nil ?_
       refine W.sreg ?_
       refine WO.p rfl rfl (WO.p rfl rfl (WO.p rfl rfl ?_))
       refine WO.nil ?_
       refine W.cond_bl rfl (fun c2 => ?_) (fun c2 => ?_)
       · first
         | (exfalso; omega)
         | (refine W.region ?_
            refine WO.p rfl rfl (WO.p rfl rfl (WO.p rfl rfl (WO.p rfl rfl ?_)))
            refine WO.nil ?_
            refine W.region ?_
            refine WO.p rfl rfl (WO.ar rfl rfl rfl (by (first | (unfold in64; omega) | (unfold in64; omega))) rfl (WO.p rfl rfl ?_))
            refine WO.nil ?_
            refine' ⟨i + 1, _, _, ?hp, ?hmu, ⟨rfl, rfl, rfl, rfl, rfl, trivial⟩, ?hS⟩
            case hS => repeat (first | exact Sub.nil | refine Sub.cons (by repeat (first | exact Pick.head | apply Pick.tail)) ?_)
            case hp => exact ⟨by omega, by omega, by have e : i - 1 + 1 = i := (by omega); rw [show i + 1 - 1 = i - 1 + 1 by omega]; first | (rw [lst_yes (by rw [e, ← hb]; assumption), e]; exact ⟨rfl, rfl⟩) | (rw [lst_no (by rw [e, ← hb]; assumption)]; exact ⟨ha, hb⟩)⟩
            case hmu => omega)
       · first
         | (exfalso; omega)
         | (refine W.skip ?_
            refine W.region ?_
            refine WO.p rfl rfl (WO.ar rfl rfl rfl (by (first | (unfold in64; omega) | (unfold in64; omega))) rfl (WO.p rfl rfl ?_))
            refine WO.nil ?_
            refine' ⟨i + 1, _, _, ?hp, ?hmu, ⟨rfl, rfl, rfl, rfl, rfl, trivial⟩, ?hS⟩
            case hS => repeat (first | exact Sub.nil | refine Sub.cons (by repeat (first | exact Pick.head | apply Pick.tail)) ?_)
            case hp => exact ⟨by omega, by omega, by have e : i - 1 + 1 = i := (by omega); rw [show i + 1 - 1 = i - 1 + 1 by omega]; first | (rw [lst_yes (by rw [e, ← hb]; assumption), e]; exact ⟨rfl, rfl⟩) | (rw [lst_no (by rw [e, ← hb]; assumption)]; exact ⟨ha, hb⟩)⟩
            case hmu => omega))
  · first
    | (exfalso; omega)
    | (refine W.exit (blk_same ?_)
       refine W.sreg ?_
       refine WO.p rfl rfl (WO.p rfl rfl (WO.p rfl rfl (WO.p rfl rfl ?_)))
       refine WO.nil ?_
       refine W.ret ?_
       refine fin.ret (Res.two rfl (RV.tmp rfl) (RV.tmp rfl)) ?_
       rw [show n - 1 = i - 1 by omega, ← ha, ← hb])
/-- what is paid from a state on -/
def gof (B T : Int) : List (Int × Int) → Int → Int → Nat → Int
  | [], _, _, _ => 0
  | r :: rs, x, y, s => (lst (fun c => stp B T s (x - 2 * y + (r.1 + c)) + gof B T rs y (r.1 + c) (sg s (x - 2 * y + (r.1 + c)))) (wid r - 1)).2
def gAt (B T : Int) (l : List (Int × Int)) (i a b s : Nat) : Int := gof B T (l.drop (i + 1)) ((l.getD (i - 1) (0, 0)).1 + a) ((l.getD i (0, 0)).1 + b) s
/-- what going on with an offset costs altogether -/
def gOn (B T : Int) (l : List (Int × Int)) (i a b s c : Nat) : Int := stp B T s (dif l i a b c) + gAt B T l (i + 1) b c (sg s (dif l i a b c))
theorem gAt_last {B T : Int} {l : List (Int × Int)} {i a b s : Nat} (h : l.length ≤ i + 1) : gAt B T l i a b s = 0 := by
  unfold gAt; rw [List.drop_eq_nil_of_le h]; rfl
theorem gAt_succ {B T : Int} {l : List (Int × Int)} {i a b s : Nat} (h : i + 1 < l.length) : gAt B T l i a b s = (lst (gOn B T l i a b s) (wid (l.getD (i + 1) (0, 0)) - 1)).2 := by
  have e : l.drop (i + 1) = l.getD (i + 1) (0, 0) :: l.drop (i + 2) := by
    rw [List.drop_eq_getElem_cons h, List.getD_eq_getElem?_getD, List.getElem?_eq_getElem h]; rfl
  unfold gAt
  rw [e]
  rfl
theorem gof_bd {B T : Int} (hC : OkC B T) : ∀ {rs : List (Int × Int)}, OkS rs → ∀ {x y : Int} {s : Nat}, -1000000 ≤ x ∧ x ≤ 1000000 → -1000000 ≤ y ∧ y ≤ 1000000 → 0 ≤ gof B T rs x y s ∧ gof B T rs x y s ≤ 6000000 * rs.length
  | [], _, _, _, _, _, _ => by simp [gof]
  | r :: rs, hS, x, y, s, hx, hy => by
    have hr : OkG r := hS r (by simp)
    have hw := wid_ok hr
    unfold gof
    generalize hF : (fun c : Nat => stp B T s (x - 2 * y + (r.1 + c)) + gof B T rs y (r.1 + c) (sg s (x - 2 * y + (r.1 + c)))) = F
    have h1 := lst_spec F (wid r - 1)
    rw [h1.2.1]
    generalize (lst F (wid r - 1)).1 = c at h1
    have hc : (c : Int) ≤ 4 := by have := h1.1; omega
    have hcw : (c : Int) ≤ (wid r : Int) - 1 := by have := h1.1; omega
    unfold OkG at hr
    have h2 := gof_bd hC (rs := rs) (fun q hq => hS q (by simp [hq])) (x := y) (y := r.1 + c) (s := sg s (x - 2 * y + (r.1 + c))) hy (by omega)
    have h3 := stp_bd hC (d := x - 2 * y + (r.1 + c)) (by omega) s
    rw [← hF]
    simp only [List.length_cons]
    omega
theorem gAt_bd {B T : Int} (hC : OkC B T) {l : List (Int × Int)} (hg : OkS l) (h24 : l.length ≤ 24) {i a b s : Nat} (hi : i < l.length) (ha : a < wid (l.getD (i - 1) (0, 0))) (hb : b < wid (l.getD i (0, 0))) : 0 ≤ gAt B T l i a b s ∧ gAt B T l i a b s ≤ 144000000 := by
  have h1 := hg _ (getD_mem (i := i - 1) (by omega) (0, 0))
  have h2 := hg _ (getD_mem hi (0, 0))
  have w1 := wid_ok h1
  have w2 := wid_ok h2
  unfold OkG at h1 h2
  have := gof_bd hC (rs := l.drop (i + 1)) (fun q hq => hg q (List.mem_of_mem_drop hq)) (x := (l.getD (i - 1) (0, 0)).1 + a) (y := (l.getD i (0, 0)).1 + b) (s := s) (by omega) (by omega)
  rw [List.length_drop] at this
  unfold gAt
  omega
/-- the table holds what is paid from the states of a spot on -/
def RowOk (B T : Int) (l : List (Int × Int)) (g : Nat → Int) (i : Nat) : Prop := ∀ a b s, a < wid (l.getD (i - 1) (0, 0)) → b < wid (l.getD i (0, 0)) → s < 3 → g (i * 75 + (a * 15 + b * 3 + s)) = gAt B T l i a b s
theorem sg_lt {s : Nat} {d : Int} (h : s < 3) : sg s d < 3 := by have := sg_le (d := d) (show s ≤ 2 by omega); omega
theorem c_go11 (w : World) (q p : Addr) (r : Addr) (v : Value) (l : List (Int × Int)) (t B T : Int) (lv : Value) (g : Nat → Int) (i a b s c : Nat) (hc1 : Cap w q (.pointer (some p))) (hc2 : RdC w.heap.size w r [.int .i64 (i : Int), .int .i64 (a : Int), .int .i64 (b : Int), .int .i64 (s : Int)])
    (hD : DrR w.heap.size w p v l t B T lv) (hT : RdT 75 w.heap.size w lv l.length g) (hg : OkS l) (h24 : l.length ≤ 24) (hC : OkC B T) (h1 : 1 ≤ i) (hi : i + 1 < l.length) (ha : a < wid (l.getD (i - 1) (0, 0))) (hb : b < wid (l.getD i (0, 0))) (hs : s < 3) (hc : c < wid (l.getD (i + 1) (0, 0))) (hrow : RowOk B T l g (i + 1)) :
    Ret Try.prog 67 [.int .i64 (c : Int), .pointer (some q), .pointer (some r)].toArray w (.int .i64 (gOn B T l i a b s c)) := by
  refine Ret.of mixed tyTab Try.func67 rfl rfl ?_
  replace hc1 : Cap (fnCx mixed tyTab Try.f67.ntmps w).w0 q (.pointer (some p)) := hc1
  replace hc2 : RdC (fnCx mixed tyTab Try.f67.ntmps w).B (fnCx mixed tyTab Try.f67.ntmps w).w0 r [.int .i64 (i : Int), .int .i64 (a : Int), .int .i64 (b : Int), .int .i64 (s : Int)] := hc2
  have hD' : DrR (fnCx mixed tyTab Try.f67.ntmps w).B (fnCx mixed tyTab Try.f67.ntmps w).w0 p v l t B T lv := hD
  have hT' : RdT 75 (fnCx mixed tyTab Try.f67.ntmps w).B (fnCx mixed tyTab Try.f67.ntmps w).w0 lv l.length g := hT
  have w1 := wid_ok (hg _ (getD_mem (i := i - 1) (by omega) (0, 0)))
  have w2 := wid_ok (hg _ (getD_mem (i := i) (by omega) (0, 0)))
  have w3 := wid_ok (hg _ (getD_mem (i := i + 1) (by omega) (0, 0)))
  have hdb := dif_bd hg (i := i) (a := a) (b := b) (c := c) hi (by omega) (by omega) (by omega)
  have hsb := (stp_bd hC hdb s).2.2
  have hgb := gAt_bd hC hg h24 (i := i + 1) (a := b) (b := c) (s := sg s (dif l i a b c)) (by omega) hb hc
  have hrc := hrow b c (sg s (dif l i a b c)) hb hc (sg_lt hs)
  refine W.sreg ?_
  refine WO.p rfl rfl ?_
  refine WO.nil ?_
  refine W.sreg ?_
  refine' WO.load (v := _) rfl rfl ?hc rfl ?_
  case hc => (first | (refine Cap.cell (v := .pointer (some p)) rfl hc1))
  refine' WO.loadA (vs := _) rfl rfl ?hc ?hl rfl ?_
  case hc => (first | exact hc2.cells)
  case hl => rfl
  refine WO.p rfl rfl ?_
  refine WO.callR rfl Try.call64 (fun L w hi' => c_on w p v l t B T lv i a b s c (hD'.later hi') hg hC h1 hi (by omega) (by omega) hs (by omega)) rfl ?_
  refine WO.p rfl rfl (WO.p rfl rfl (WO.p rfl rfl ?_))
  refine WO.alloc rfl rfl rfl (fun b1 hb1 => ?_)
  refine WO.storeA rfl rfl rfl rfl Pick.head rfl rfl (WO.p rfl rfl ?_)
  refine WO.nil ?_
  refine W.sreg ?_
  refine WO.p rfl rfl ?_
  refine' WO.load (v := _) rfl rfl ?hc rfl ?_
  case hc => (first | (refine Cap.cell (v := .pointer (some p)) rfl hc1))
  refine WO.loadA rfl rfl (Cells.own Pick.head) rfl rfl ?_
  refine WO.callR (r := .int .i64 (gAt B T l (i + 1) b c (sg s (dif l i a b c)))) rfl Try.call62 (fun L w hi' => by rw [← hrc]; exact c_at w p v l t B T lv g (i + 1) b c (sg s (dif l i a b c)) (hD'.later hi') (hT'.later hi') hi (by omega) (by omega) (sg_lt hs)) rfl ?_
  refine WO.ar rfl rfl rfl (by (first | (unfold in64; omega) | (unfold in64; omega))) rfl (WO.p rfl rfl ?_)
  refine WO.nil ?_
  refine W.ret ?_
  exact fin.ret (Res.one rfl (RV.tmp rfl)) rfl
theorem c_go1 (w : World) (p : Addr) (v : Value) (l : List (Int × Int)) (t B T : Int) (lv : Value) (g : Nat → Int) (i a b s : Nat)
    (hD : DrR w.heap.size w p v l t B T lv) (hT : RdT 75 w.heap.size w lv l.length g) (hg : OkS l) (h24 : l.length ≤ 24) (hC : OkC B T) (h1 : 1 ≤ i) (hi : i + 1 < l.length) (ha : a < wid (l.getD (i - 1) (0, 0))) (hb : b < wid (l.getD i (0, 0))) (hs : s < 3) (hrow : RowOk B T l g (i + 1)) :
    Ret Try.prog 63 [.pointer (some p), stV i a b s].toArray w (.tuple #[.int .i64 ((lst (gOn B T l i a b s) (wid (l.getD (i + 1) (0, 0)) - 1)).1 : Int), .int .i64 (gAt B T l i a b s)]) := by
  refine Ret.of mixed tyTab Try.func63 rfl rfl ?_
  have hD' : DrR (fnCx mixed tyTab Try.f63.ntmps w).B (fnCx mixed tyTab Try.f63.ntmps w).w0 p v l t B T lv := hD
  have hT' : RdT 75 (fnCx mixed tyTab Try.f63.ntmps w).B (fnCx mixed tyTab Try.f63.ntmps w).w0 lv l.length g := hT
  have w3 := wid_ok (hg _ (getD_mem (i := i + 1) (by omega) (0, 0)))
  rw [gAt_succ hi]
  refine W.sreg ?_
  refine WO.box1 rfl (by first | rfl | assumption) rfl (fun b1 hb1 => ?_)
  refine WO.boxA rfl rfl (fun b2 hb2 => ?_)
  refine WO.p rfl rfl (WO.p rfl rfl ?_)
  refine WO.nil ?_
  refine W.sreg ?_
  refine WO.load rfl rfl (Cell.own (Pick.tail (Pick.head)) rfl) rfl (WO.field0 rfl rfl rfl (WO.load rfl rfl (Cell.own Pick.head rfl) rfl (WO.ar rfl rfl rfl (by (first | (unfold in64; omega) | (unfold in64; omega))) rfl ?_)))
  refine WO.callR rfl Try.call59 (fun L w hi' => c_wide w p v l t B T lv (i + 1) _ (hD'.later hi') rfl hi hg) rfl ?_
  refine WO.p rfl rfl ?_
  refine WO.callR rfl Try.call60 (fun L w hi' => c_least w (wid (l.getD (i + 1) (0, 0))) 67 [.pointer (some ⟨b1, 0, none⟩), .pointer (some ⟨b2, 0, none⟩)] (gOn B T l i a b s) (by omega) (by omega) (fun u hu hk x hx => c_go11 u ⟨b1, 0, none⟩ p ⟨b2, 0, none⟩ v l t B T lv g i a b s x ((Cap.of (b := b1) (off := 0) (v := .pointer (some p)) (by repeat (first | exact Pick.head | apply Pick.tail)) rfl hi').upTo hu hk) (((RdC.own (b := b2) (by repeat (first | exact Pick.head | apply Pick.tail)) hi').agree hk).up hu) (((hD'.later hi').agree hk).up hu) (((hT'.later hi').agree hk).up hu) hg h24 hC h1 hi ha hb hs hx hrow) Try.call67) rfl ?_
  refine WO.p rfl rfl (WO.p rfl rfl (WO.p rfl rfl (WO.p rfl rfl ?_)))
  refine WO.nil ?_
  refine W.ret ?_
  exact fin.ret (Res.two rfl (RV.tmp rfl) (RV.tmp rfl)) rfl
end Go.Proofs.Ytpecakgebhmnfaa
namespace Go.Proofs.Ytpecakgebhmnfaa
open Go Go.TH
attribute [local irreducible] W WO pt
set_option maxRecDepth 10000
set_option maxHeartbeats 1000000
theorem c_states (w : World) (p : Addr) (i : Nat) (zi : Int) (hz : zi = (i : Int)) : Ct Try.prog 65 [.pointer (some p), .int .i64 zi].toArray w fun v w' => ∃ Hq, (∃ b1 b2, v = .func (.func 68) #[] #[.pointer (some ⟨b1, 0, none⟩), .pointer (some ⟨b2, 0, none⟩)] ∧
    Hq = [pt b2 (.cells #[.int .i64 (i : Int)] 3 (0, 0)), pt b1 (.cells #[.pointer (some p)] 67 (0, 0))]) ∧ Inv w [] Hq w' := by
  subst hz
  refine Ct.of mixed tyTab Try.func65 rfl rfl ?_
  refine W.sreg ?_
  refine WO.box1 rfl (by first | rfl | assumption) rfl (fun b1 hb1 => ?_)
  refine WO.box1 rfl (by first | rfl | assumption) rfl (fun b2 hb2 => ?_)
  refine WO.p rfl rfl ?_
  refine WO.nil ?_
  refine W.sreg ?_
  refine WO.p rfl rfl (WO.p rfl rfl ?_)
  refine WO.nil ?_
  refine W.ret ?_
  exact fin.ret (Res.one rfl (RV.tmp rfl)) ⟨b1, b2, rfl, rfl⟩
def w1 (l : List (Int × Int)) (i : Nat) : Nat := wid (l.getD (i - 1) (0, 0))
def w2 (l : List (Int × Int)) (i : Nat) : Nat := wid (l.getD i (0, 0))
/-- the states of a spot, in order -/
def stL (l : List (Int × Int)) (i : Nat) : List (Nat × Nat × Nat) := (List.range (w1 l i * w2 l i * 3)).map fun q => (q / 3 / w2 l i, q / 3 % w2 l i, q % 3)
def stsV (l : List (Int × Int)) (i : Nat) : List Value := (stL l i).map fun x => stV i x.1 x.2.1 x.2.2
theorem stL_len (l : List (Int × Int)) (i : Nat) : (stL l i).length = w1 l i * w2 l i * 3 := by simp [stL]
theorem stsV_len (l : List (Int × Int)) (i : Nat) : (stsV l i).length = w1 l i * w2 l i * 3 := by simp [stsV, stL_len]
theorem ix_lt {a b s W1 W2 : Nat} (ha : a < W1) (hb : b < W2) (hs : s < 3) : (a * W2 + b) * 3 + s < W1 * W2 * 3 := by
  have := Nat.mul_le_mul_right W2 (show a + 1 ≤ W1 by omega)
  rw [Nat.add_mul, Nat.one_mul] at this
  omega
theorem stL_get {l : List (Int × Int)} {i a b s : Nat} (ha : a < w1 l i) (hb : b < w2 l i) (hs : s < 3) : (stL l i)[(a * w2 l i + b) * 3 + s]? = some (a, b, s) := by
  unfold stL
  rw [List.getElem?_map, List.getElem?_range (ix_lt ha hb hs)]
  have e1 : ((a * w2 l i + b) * 3 + s) / 3 = a * w2 l i + b := by omega
  have e2 : ((a * w2 l i + b) * 3 + s) % 3 = s := by omega
  have e3 : (a * w2 l i + b) / w2 l i = a := by rw [Nat.mul_comm, Nat.mul_add_div (by omega), Nat.div_eq_of_lt hb]; omega
  have e4 : (a * w2 l i + b) % w2 l i = b := by rw [Nat.mul_comm, Nat.mul_add_mod, Nat.mod_eq_of_lt hb]
  simp only [Option.map_some, e1, e2, e3, e4]
theorem stsV_get {l : List (Int × Int)} {i a b s : Nat} (ha : a < w1 l i) (hb : b < w2 l i) (hs : s < 3) : (stsV l i)[(a * w2 l i + b) * 3 + s]? = some (stV i a b s) := by
  unfold stsV; rw [List.getElem?_map, stL_get ha hb hs]; rfl
theorem stL_some {l : List (Int × Int)} {i q : Nat} {x : Nat × Nat × Nat} (h : (stL l i)[q]? = some x) : x.1 < w1 l i ∧ x.2.1 < w2 l i ∧ x.2.2 < 3 ∧ q = (x.1 * w2 l i + x.2.1) * 3 + x.2.2 := by
  have hq := (List.getElem?_eq_some_iff.1 h).1
  rw [stL_len] at hq
  unfold stL at h
  rw [List.getElem?_map, List.getElem?_range hq] at h
  obtain rfl : (q / 3 / w2 l i, q / 3 % w2 l i, q % 3) = x := by simpa using h
  have h0 : 0 < w2 l i := by
    rcases Nat.eq_zero_or_pos (w2 l i) with e | e
    · rw [e] at hq; omega
    · exact e
  have h1 : q / 3 < w1 l i * w2 l i := by omega
  refine ⟨?_, Nat.mod_lt _ h0, by simp only; omega, ?_⟩
  · exact (Nat.div_lt_iff_lt_mul h0).2 h1
  · have := Nat.div_add_mod (q / 3) (w2 l i)
    rw [Nat.mul_comm] at this
    simp only
    omega
theorem stsV_some {l : List (Int × Int)} {i q : Nat} {x : Value} (h : (stsV l i)[q]? = some x) : ∃ a b s, a < w1 l i ∧ b < w2 l i ∧ s < 3 ∧ q = (a * w2 l i + b) * 3 + s ∧ x = stV i a b s := by
  unfold stsV at h
  rw [List.getElem?_map] at h
  cases hq : (stL l i)[q]? with
  | none => simp [hq] at h
  | some y =>
    simp [hq] at h
    have := stL_some hq
    exact ⟨y.1, y.2.1, y.2.2, this.1, this.2.1, this.2.2.1, this.2.2.2, h.symm⟩
theorem c_states1 (B : Nat) (wr : World) (p : Addr) (v : Value) (l : List (Int × Int)) (t Bc T : Int) (lv : Value) (i : Nat) (hg : OkS l) (h24 : l.length ≤ 24) (h1 : 1 ≤ i) (hil : i < l.length)
    (lp : Nat) (Hc : Nat → List HP) (hy : ∀ k x, (stsV l i)[k]? = some x → YieldOK Try.prog B wr lp #[x] (Hc k) (Hc (k + 1))) (hS : ∀ k, DrS B wr (sat (Hc k)) p v l t Bc T lv) (b1 b2 : Nat) (w : World) (M' : List Nat) (hB : B ≤ w.heap.size) (hk : ∀ k, k < B → w.heap[k]? = wr.heap[k]?) (hM : ∀ b ∈ M', B ≤ b)
    (hi : Inv w M' ([pt b2 (.cells #[.int .i64 (i : Int)] 3 (0, 0)), pt b1 (.cells #[.pointer (some p)] 67 (0, 0))] ++ Hc 0) w) :
    Ct Try.prog 68 ([.func (.yield lp) #[] #[], .pointer (some ⟨b1, 0, none⟩), .pointer (some ⟨b2, 0, none⟩)] : List Value).toArray w fun _ w' => Inv w M' ([pt b2 (.cells #[.int .i64 (i : Int)] 3 (0, 0)), pt b1 (.cells #[.pointer (some p)] 67 (0, 0))] ++ Hc (stsV l i).length) w' := by
  refine Iter.of mixed tyTab hB hM Try.func68 rfl rfl hi ?_
  have hS' : ∀ k, DrS (itCx mixed tyTab Try.f68.ntmps w M' B hB hM).B (itCx mixed tyTab Try.f68.ntmps w M' B hB hM).w0 (sat (Hc k)) p v l t Bc T lv := fun k => (hS k).agree hk
  have q1 := wid_ok (hg _ (getD_mem (i := i - 1) (by omega) (0, 0)))
  have q2 := wid_ok (hg _ (getD_mem (i := i) (by omega) (0, 0)))
  have e1 : wid (l.getD (i - 1) (0, 0)) = w1 l i := rfl
  have e2 : wid (l.getD i (0, 0)) = w2 l i := rfl
  rw [e1] at q1
  rw [e2] at q2
  refine W.sreg ?_
  refine WO.load rfl rfl (Cell.own (Pick.tail (Pick.head)) rfl) rfl (WO.load rfl rfl (Cell.own Pick.head rfl) rfl (WO.ar rfl rfl rfl (by (first | (unfold in64; omega) | (unfold in64; omega))) rfl ?_))
  refine WO.callR (r := .int .i64 (w1 l i : Int)) rfl Try.call59 (fun L w hi' => c_wide w p v l t Bc T lv (i - 1) _ ((hS' _).at (by repeat (first | exact Pick.head | apply Pick.tail)) hi') (by omega) (by omega) hg) rfl ?_
  refine WO.p rfl rfl ?_
  refine WO.nil ?_
  refine W.block ?_
  rw [show Hc 0 = Hc (0 * w2 l i * 3) by rw [Nat.zero_mul, Nat.zero_mul]]
  refine W.loop (fun (a : Nat) => a ≤ w1 l i)
    (fun (a : Nat) => [(11, .int .i64 (a : Int)), (10, .int .i64 (w1 l i : Int)), (0, .func (.yield lp) #[] #[]), (1, .pointer (some ⟨b1, 0, none⟩)), (2, .pointer (some ⟨b2, 0, none⟩))])
    (fun (a : Nat) => [pt b1 (.cells #[.pointer (some p)] 67 (0, 0)), pt b2 (.cells #[.int .i64 (i : Int)] 3 (0, 0)), sat (Hc (a * w2 l i * 3))])
    (fun (a : Nat) => w1 l i - a) 0
    (by exact Nat.zero_le _) ⟨rfl, rfl, rfl, rfl, rfl, trivial⟩ (by repeat (first | exact Sub.nil | refine Sub.cons (by repeat (first | exact Pick.head | apply Pick.tail)) ?_)) ?_
  rintro a ha'
  refine W.sreg ?_
  refine WO.p rfl rfl ?_
  refine WO.nil ?_
  refine W.seq ?_
  refine W.cond_bl rfl (fun c1 => ?_) (fun c1 => ?_)
  · first
    | (exfalso; omega)
    | (refine W.skip ?_
       refine W.seq ?_
       refine W.block ?_
       refine W.sreg ?_
       refine WO.p rfl rfl (WO.p rfl rfl ?_)
       refine WO.nil ?_
       refine W.sreg ?_
       refine WO.load rfl rfl (Cell.own Pick.head rfl) rfl (WO.load rfl rfl (Cell.own (Pick.tail (Pick.head)) rfl) rfl ?_)
       refine WO.callR (r := .int .i64 (w2 l i : Int)) rfl Try.call59 (fun L w hi' => c_wide w p v l t Bc T lv i _ ((hS' _).at (by repeat (first | exact Pick.head | apply Pick.tail)) hi') rfl (by omega) hg) rfl ?_
       refine WO.p rfl rfl ?_
       refine WO.nil ?_
       refine W.block ?_
       refine W.loop (fun (b : Nat) => b ≤ w2 l i)
         (fun (b : Nat) => [(11, .int .i64 (a : Int)), (10, .int .i64 (w1 l i : Int)), (17, .int .i64 (b : Int)), (16, .int .i64 (w2 l i : Int)), (4, .int .i64 (a : Int)), (0, .func (.yield lp) #[] #[]), (1, .pointer (some ⟨b1, 0, none⟩)), (2, .pointer (some ⟨b2, 0, none⟩))])
         (fun (b : Nat) => [pt b1 (.cells #[.pointer (some p)] 67 (0, 0)), pt b2 (.cells #[.int .i64 (i : Int)] 3 (0, 0)), sat (Hc ((a * w2 l i + b) * 3))])
         (fun (b : Nat) => w2 l i - b) 0
         (by exact Nat.zero_le _) ⟨rfl, rfl, rfl, rfl, rfl, rfl, rfl, rfl, trivial⟩ (by repeat (first | exact Sub.nil | refine Sub.cons (by repeat (first | exact Pick.head | apply Pick.tail)) ?_)) ?_
       rintro b hb'
       refine W.sreg ?_
       refine WO.p rfl rfl ?_
       refine WO.nil ?_
       refine W.seq ?_
       refine W.cond_bl rfl (fun c2 => ?_) (fun c2 => ?_)
       · first
         | (exfalso; omega)
         | (refine W.skip ?_
            refine W.seq ?_
            refine W.block ?_
            refine W.sreg ?_
            refine WO.p rfl rfl (WO.p rfl rfl ?_)
            refine WO.nil ?_
            refine W.sreg ?_
            refine WO.p rfl rfl ?_
            refine WO.nil ?_
            refine W.block ?_
            refine W.loop (fun (s : Nat) => s ≤ 3)
              (fun (s : Nat) => [(11, .int .i64 (a : Int)), (10, .int .i64 (w1 l i : Int)), (17, .int .i64 (b : Int)), (16, .int .i64 (w2 l i : Int)), (4, .int .i64 (a : Int)), (5, .int .i64 (b : Int)), (20, .int .i64 (s : Int)), (0, .func (.yield lp) #[] #[]), (1, .pointer (some ⟨b1, 0, none⟩)), (2, .pointer (some ⟨b2, 0, none⟩))])
              (fun (s : Nat) => [pt b1 (.cells #[.pointer (some p)] 67 (0, 0)), pt b2 (.cells #[.int .i64 (i : Int)] 3 (0, 0)), sat (Hc ((a * w2 l i + b) * 3 + s))])
              (fun (s : Nat) => 3 - s) 0
              (by exact Nat.zero_le _) ⟨rfl, rfl, rfl, rfl, rfl, rfl, rfl, rfl, rfl, rfl, trivial⟩ (by repeat (first | exact Sub.nil | refine Sub.cons (by repeat (first | exact Pick.head | apply Pick.tail)) ?_)) ?_
            rintro s hs'
            refine W.sreg ?_
            refine WO.p rfl rfl ?_
            refine WO.nil ?_
            refine W.seq ?_
            refine W.cond_bl rfl (fun c3 => ?_) (fun c3 => ?_)
            · first
              | (exfalso; omega)
              | (refine W.skip ?_
                 refine W.seq ?_
                 refine W.block ?_
                 refine W.sreg ?_
                 refine WO.p rfl rfl (WO.p rfl rfl ?_)
                 refine WO.nil ?_
                 refine W.sreg ?_
                 refine WO.p rfl rfl (WO.load rfl rfl (Cell.own (Pick.tail (Pick.head)) rfl) rfl (WO.p rfl rfl (WO.p rfl rfl (WO.p rfl rfl ?_))))
                 refine' WO.build (cs := _) rfl rfl rfl ?hf rfl ?_
                 case hf => (conv => lhs; simp [-List.getD_eq_getElem?_getD, fillL, vcl, wrl, TTab.pl?.lget']) <;> rfl
                 refine' WO.build (cs := _) rfl rfl rfl ?hf rfl ?_
                 case hf => (conv => lhs; simp [-List.getD_eq_getElem?_getD, fillL, vcl, wrl, TTab.pl?.lget']) <;> rfl
                 refine WO.yield rfl rfl (by repeat (first | exact Pick.head | apply Pick.tail)) ((hy _ _ (stsV_get (a := a) (b := b) (s := s) (by omega) (by omega) (by omega))).one.agree hk) rfl ?_
                 refine WO.p rfl rfl ?_
                 refine WO.nil ?_
                 refine W.cond_f rfl ?_
                 refine W.skip ?_
                 refine W.region ?_
                 refine WO.ar rfl rfl rfl (by (first | (unfold in64; omega) | (unfold in64; omega))) rfl (WO.p rfl rfl ?_)
                 refine WO.nil ?_
                 refine' ⟨s + 1, ?hp, ?hmu, ⟨rfl, rfl, rfl, rfl, rfl, rfl, rfl, rfl, rfl, rfl, trivial⟩, ?hS⟩
                 case hS => repeat (first | exact Sub.nil | refine Sub.cons (by repeat (first | exact Pick.head | apply Pick.tail)) ?_)
                 case hp => omega
                 case hmu => omega)
            · first
              | (exfalso; omega)
              | (refine W.exit (blk_same ?_)
                 obtain rfl : s = 3 := by omega
                 rw [show (a * w2 l i + b) * 3 + 3 = (a * w2 l i + (b + 1)) * 3 by omega]
                 refine W.region ?_
                 refine WO.ar rfl rfl rfl (by (first | (unfold in64; omega) | (unfold in64; omega))) rfl (WO.p rfl rfl ?_)
                 refine WO.nil ?_
                 refine' ⟨b + 1, ?hp, ?hmu, ⟨rfl, rfl, rfl, rfl, rfl, rfl, rfl, rfl, trivial⟩, ?hS⟩
                 case hS => repeat (first | exact Sub.nil | refine Sub.cons (by repeat (first | exact Pick.head | apply Pick.tail)) ?_)
                 case hp => omega
                 case hmu => omega))
       · first
         | (exfalso; omega)
         | (refine W.exit (blk_same ?_)
            obtain rfl : b = w2 l i := by omega
            rw [show (a * w2 l i + w2 l i) * 3 = (a + 1) * w2 l i * 3 by rw [Nat.add_mul a 1, Nat.one_mul]]
            refine W.region ?_
            refine WO.ar rfl rfl rfl (by (first | (unfold in64; omega) | (unfold in64; omega))) rfl (WO.p rfl rfl ?_)
            refine WO.nil ?_
            refine' ⟨a + 1, ?hp, ?hmu, ⟨rfl, rfl, rfl, rfl, rfl, trivial⟩, ?hS⟩
            case hS => repeat (first | exact Sub.nil | refine Sub.cons (by repeat (first | exact Pick.head | apply Pick.tail)) ?_)
            case hp => omega
            case hmu => omega))
  · first
    | (exfalso; omega)
    | (refine W.exit (blk_same ?_)
       obtain rfl : a = w1 l i := by omega
       refine fin.normal (Res.none rfl) ?_
       rw [stsV_len]
       exact .cons (.tail .head) (.cons .head (.cons .head .nil)))
end Go.Proofs.Ytpecakgebhmnfaa
namespace Go.Proofs.Ytpecakgebhmnfaa
open Go Go.TH
attribute [local irreducible] W WO pt
set_option maxRecDepth 10000
set_option maxHeartbeats 1000000
/-- the rows from i on are filled; of row i the first q states -/
def RowsOk (B T : Int) (l : List (Int × Int)) (i : Nat) (g : Nat → Int) : Prop := ∀ k, i < k → k < l.length → RowOk B T l g k
def RowTo (B T : Int) (l : List (Int × Int)) (i q : Nat) (g : Nat → Int) : Prop := RowsOk B T l i g ∧ ∀ a b s, a < w1 l i → b < w2 l i → s < 3 → (a * w2 l i + b) * 3 + s < q → g (i * 75 + (a * 15 + b * 3 + s)) = gAt B T l i a b s
theorem RowTo.zero {B T : Int} {l : List (Int × Int)} {i : Nat} {g : Nat → Int} (h : RowsOk B T l i g) : RowTo B T l i 0 g := ⟨h, fun _ _ _ _ _ _ h => by omega⟩
theorem RowTo.all {B T : Int} {l : List (Int × Int)} {i : Nat} {g : Nat → Int} (h : RowTo B T l i (stsV l i).length g) : RowsOk B T l (i - 1) g := fun k h1 h2 => by
  rcases Nat.lt_or_ge i k with h3 | h3
  · exact h.1 k h3 h2
  · obtain rfl : k = i := by omega
    intro a b s ha hb hs
    exact h.2 a b s ha hb hs (by rw [stsV_len]; exact ix_lt ha hb hs)
theorem cell_ne {i a b s k a' b' s' : Nat} (ha : a < 5) (hb : b < 5) (hs : s < 3) (ha' : a' < 5) (hb' : b' < 5) (hs' : s' < 3) (h : k * 75 + (a' * 15 + b' * 3 + s') = i * 75 + (a * 15 + b * 3 + s)) : k = i ∧ a' = a ∧ b' = b ∧ s' = s := by omega
theorem RowTo.next {B T : Int} {l : List (Int × Int)} {i a b s : Nat} {g : Nat → Int} (hg : OkS l) (hi : i < l.length) (h : RowTo B T l i ((a * w2 l i + b) * 3 + s) g) (ha : a < w1 l i) (hb : b < w2 l i) (hs : s < 3) : RowTo B T l i ((a * w2 l i + b) * 3 + s + 1) (updF g (i * 75 + (a * 15 + b * 3 + s)) (gAt B T l i a b s)) := by
  have q1 := wid_ok (hg _ (getD_mem (i := i - 1) (by omega) (0, 0)))
  have q2 := wid_ok (hg _ (getD_mem (i := i) (by omega) (0, 0)))
  have e1 : w1 l i = wid (l.getD (i - 1) (0, 0)) := rfl
  have e2 : w2 l i = wid (l.getD i (0, 0)) := rfl
  refine ⟨fun k h1 h2 a' b' s' ha' hb' hs' => ?_, fun a' b' s' ha' hb' hs' hq => ?_⟩
  · have p1 := wid_ok (hg _ (getD_mem (i := k - 1) (by omega) (0, 0)))
    have p2 := wid_ok (hg _ (getD_mem (i := k) (by omega) (0, 0)))
    rw [updF_other (fun e => by have := cell_ne (by omega) (by omega) hs (by omega) (by omega) hs' e; omega)]
    exact h.1 k h1 h2 a' b' s' ha' hb' hs'
  · by_cases e : i * 75 + (a' * 15 + b' * 3 + s') = i * 75 + (a * 15 + b * 3 + s)
    · obtain ⟨_, rfl, rfl, rfl⟩ := cell_ne (by omega) (by omega) hs (by omega) (by omega) hs' e
      rw [updF_same]
    · rw [updF_other e]
      refine h.2 a' b' s' ha' hb' hs' ?_
      rcases Nat.lt_or_ge ((a' * w2 l i + b') * 3 + s') ((a * w2 l i + b) * 3 + s) with g | g
      · exact g
      · exfalso
        have e3 : (a' * w2 l i + b') * 3 + s' = (a * w2 l i + b) * 3 + s := by omega
        have x1 := stL_get ha' hb' hs'
        have x2 := stL_get ha hb hs
        rw [e3, x2] at x1
        have x3 : (a, b, s) = (a', b', s') := by simpa using x1
        injection x3 with y1 y2
        injection y2 with y2 y3
        subst y1 y2 y3
        exact e rfl
theorem RowsOk.zero {B T : Int} {l : List (Int × Int)} {g : Nat → Int} (hg : OkS l) (h : ∀ k, g k = 0) : RowsOk B T l (l.length - 2) g := fun k h1 h2 a b s ha hb hs => by
  rw [h, gAt_last (by omega)]
theorem c_fill (B : Nat) (w : World) (S : HP) (p : Addr) (v : Value) (l : List (Int × Int)) (t Bc T : Int) (lv : Value) (hB : B ≤ w.heap.size) (hS : DrS B w S p v l t Bc T lv) (hv : IsSl v l.length) (hg : OkS l) (h24 : l.length ≤ 24) (hn : 1 ≤ l.length) (hC : OkC Bc T) :
    CtH Try.prog 58 [.pointer (some p)] w [S, TabP 112 75 lv l.length (fun _ => 0)] B (fun r Hq => ∃ x : Unit, r = .tuple #[] ∧ Hq = [S, TabX 112 75 lv l.length (RowsOk Bc T l 0)]) := by
  refine CtH.ofI (X := Unit) (p := fun _ r => r = .tuple #[]) (Hx := fun _ => [S, TabX 112 75 lv l.length (RowsOk Bc T l 0)]) mixed tyTab hB Try.func58 rfl rfl (fun M hM => ?_)
  have hS' : DrS (itCx mixed tyTab Try.f58.ntmps w M B hB hM).B (itCx mixed tyTab Try.f58.ntmps w M B hB hM).w0 S p v l t Bc T lv := hS
  have hle := hv.le
  refine W.sreg ?_
  refine WO.box1 rfl (by first | rfl | assumption) rfl (fun b1 hb1 => ?_)
  refine WO.nil ?_
  refine W.sreg ?_
  refine WO.load rfl rfl (Cell.own Pick.head rfl) rfl (WO.p rfl rfl (WO.field0 rfl rfl rfl (WO.field0 rfl rfl rfl ?_)))
  refine' WO.load (v := _) rfl rfl ?hc rfl ?_
  case hc => (first | (refine DrS.cell0 (S := S) (v := v) hS' ?_; exact (by repeat (first | exact Sub.nil | refine Sub.cons (by repeat (first | exact Pick.head | apply Pick.tail)) ?_))))
  refine' WO.len (n := _) rfl rfl ?hs rfl ?_
  case hs => (first | exact hv)
  refine WO.ar rfl rfl rfl (by (first | (unfold in64; omega) | (unfold in64; omega))) rfl ?_
  refine WO.alloc rfl rfl rfl (fun b2 hb2 => ?_)
  refine WO.store1 rfl rfl rfl (by first | rfl | assumption) Pick.head rfl ?_
  refine WO.nil ?_
  refine W.block ?_
  refine W.chg (TabX.shut (p := RowsOk Bc T l (l.length - 2)) (RowsOk.zero hg (fun _ => rfl)) (by repeat (first | exact Pick.head | apply Pick.tail))) ?_
  rw [show RowsOk Bc T l (l.length - 2) = RowsOk Bc T l ((l.length : Int) - 2).toNat by rw [show ((l.length : Int) - 2).toNat = l.length - 2 by omega]]
  refine W.loop2 (fun (z : Int) (q : Nat) => -1 ≤ z ∧ z ≤ (l.length : Int) - 2)
    (fun (z : Int) (q : Nat) => [(2, .pointer (some ⟨q, 0, none⟩)), (1, .pointer (some ⟨b1, 0, none⟩))])
    (fun (z : Int) (q : Nat) => [pt q (.cells #[.int .i64 z] 3 (0, 0)), pt b1 (.cells #[.pointer (some p)] 67 (0, 0)), S, TabX 112 75 lv l.length (RowsOk Bc T l z.toNat)])
    (fun (z : Int) (q : Nat) => z.toNat) ((l.length : Int) - 2) _
    (by exact ⟨by omega, by omega⟩) ⟨rfl, rfl, trivial⟩ (by repeat (first | exact Sub.nil | refine Sub.cons (by repeat (first | exact Pick.head | apply Pick.tail)) ?_)) ?_
  rintro z q ⟨hz1, hz2⟩
  refine W.seq ?_
  refine W.sreg ?_
  refine WO.load rfl rfl (Cell.own Pick.head rfl) rfl (WO.p rfl rfl ?_)
  refine WO.nil ?_
  refine W.cond_bl rfl (fun c1 => ?_) (fun c1 => ?_)
  · first
    | (exfalso; omega)
    | (refine W.skip ?_
       refine W.seq ?_
       refine W.block ?_
       obtain ⟨i, rfl⟩ := Int.eq_ofNat_of_zero_le (show 0 ≤ z by omega)
       refine W.sreg ?_
       refine WO.load rfl rfl (Cell.own (Pick.tail (Pick.head)) rfl) rfl (WO.load rfl rfl (Cell.own Pick.head rfl) rfl ?_)
       refine WO.call rfl Try.call65 (fun L w hi => c_states w p i _ rfl) rfl ?_
       rintro fv _ ⟨e1, e2, rfl, rfl⟩
       refine WO.nil ?_
       refine W.block ?_
       refine W.chg (tabXm (fun g h => RowTo.zero h) (by repeat (first | exact Pick.head | apply Pick.tail))) ?_
       refine W.rangeFuncG [pt e2 (.cells #[.int .i64 (i : Int)] 3 (0, 0)), pt e1 (.cells #[.pointer (some p)] 67 (0, 0))] (fun k => [S, TabX 112 75 lv l.length (RowTo Bc T l i k), pt q (.cells #[.int .i64 (i : Int)] 3 (0, 0)), pt b1 (.cells #[.pointer (some p)] 67 (0, 0))]) (stsV l i) rfl rfl rfl Try.call68 (by repeat (first | exact Sub.nil | refine Sub.cons (by repeat (first | exact Pick.head | apply Pick.tail)) ?_)) ?_ ?_ ?_
       · intro lp Hc hy hHc u1 M' hB' hk hM' hi
         exact c_states1 _ _ p v l t Bc T lv i hg h24 (by omega) (by omega) lp Hc hy (fun k => by obtain ⟨A, e⟩ := hHc k; rw [e]; exact DrS.sat hS') e1 e2 u1 M' hB' hk hM' hi
       · intro lp u1 M' hB' hM' hk k x hx
         have q1 : w1 l i ≤ 5 := (wid_ok (hg _ (getD_mem (i := i - 1) (by omega) (0, 0)))).2.1
         have q2 : w2 l i ≤ 5 := (wid_ok (hg _ (getD_mem (i := i) (by omega) (0, 0)))).2.1
         obtain ⟨a, b, s, ha, hb, hs, rfl, rfl⟩ := stsV_some hx
         have hS2 : DrS (rdCx (itCx mixed tyTab Try.f58.ntmps w M B hB hM) lp u1 M' hB' hM').B (rdCx (itCx mixed tyTab Try.f58.ntmps w M B hB hM) lp u1 M' hB' hM').w0 S p v l t Bc T lv := hS'.agree hk
         refine W.region ?_
         refine WO.alloc rfl rfl rfl (fun b3 hb3 => ?_)
         refine WO.storeA rfl rfl rfl rfl Pick.head rfl rfl ?_
         refine WO.nil ?_
         refine W.block ?_
         refine W.chgE (TabX.open (by repeat (first | exact Pick.head | apply Pick.tail))) (fun g hgr => ?_)
         refine W.fact (TabP.sl (e := 112) (sz := 75) (n := l.length) (v := lv) (g := g) Pick.head) (fun hlv => ?_)
         refine W.sreg ?_
         refine WO.load rfl rfl (Cell.own (Pick.tail (Pick.tail (Pick.tail (Pick.tail (Pick.head))))) rfl) rfl (WO.loadA rfl rfl (Cells.own (Pick.tail (Pick.head))) rfl rfl ?_)
         refine WO.callR rfl Try.call63 (fun L w hi' => c_go1 w p v l t Bc T lv g i a b s (DrS.at (S := S) hS2 (by repeat (first | exact Pick.head | apply Pick.tail)) hi') (RdT.of (by repeat (first | exact Pick.head | apply Pick.tail)) (by omega) hi') hg h24 hC (by omega) (by omega) ha hb hs (hgr.1 (i + 1) (by omega) (by omega))) rfl ?_
         refine WO.p rfl rfl (WO.p rfl rfl (WO.p rfl rfl (WO.p rfl rfl (WO.p rfl rfl ?_))))
         refine WO.nil ?_
         refine W.drawD 16 [.b 0 [], .r 1 [], .r 2 [], .b 3 [], .b 4 [], .r 5 [], .b 6 [], .r 7 [], .b 8 [], .r 9 [], .r 10 [], .b 11 [], .r 12 [], .r 13 [], .r 14 [], .r 15 []] [] (A0 := [_]) (H0 := [_, _, _, _]) (.cons .head (.cons .head (.cons .head (.cons .head (.cons .head .nil))))) (by kernel_rfl) ?_ ?_
         · exact (ALok.b (ALok.r (ALok.r (ALok.b (ALok.b (ALok.r (ALok.b (ALok.r (ALok.b (ALok.r (ALok.r (ALok.b (ALok.r (ALok.r (ALok.r (ALok.r ALok.nil))))))))))))))))
         refine' DT.b rfl rfl rfl ?hq ?_
         case hq =>
           refine WO.load rfl rfl (Cell.own (Pick.tail (Pick.tail (Pick.tail (Pick.head)))) rfl) rfl ?_
           exact WO.nil ⟨rfl, rfl⟩
         refine' DT.r rfl rfl rfl ?hq ?_
         case hq =>
           refine WO.p rfl rfl ?_
           exact WO.nil ⟨rfl, rfl⟩
         refine' DT.r rfl rfl rfl ?hq ?_
         case hq =>
           refine WO.field rfl rfl rfl ?_
           exact WO.nil ⟨rfl, rfl⟩
         refine' DT.b rfl rfl rfl ?hq ?_
         case hq =>
           refine' WO.load (v := _) rfl rfl ?hc rfl ?_
           case hc => (first | (refine DrS.cellAt (S := S) (j := 4) (u := lv) hS2 ?_ rfl; exact (by repeat (first | exact Sub.nil | refine Sub.cons (by repeat (first | exact Pick.head | apply Pick.tail)) ?_))))
           exact WO.nil ⟨rfl, rfl⟩
         refine' DT.b rfl rfl rfl ?hq ?_
         case hq =>
           refine WO.load rfl rfl (Cell.own (Pick.tail (Pick.tail (Pick.head))) rfl) rfl ?_
           exact WO.nil ⟨rfl, rfl⟩
         refine' DT.r rfl rfl rfl ?hq ?_
         case hq =>
           refine WO.fieldL rfl rfl rfl ?_
           exact WO.nil ⟨rfl, rfl⟩
         refine' DT.b rfl rfl rfl ?hq ?_
         case hq =>
           refine WO.load rfl rfl (Cell.own Pick.head rfl) rfl ?_
           exact WO.nil ⟨rfl, rfl⟩
         refine' DT.r rfl rfl rfl ?hq ?_
         case hq =>
           refine WO.fieldL rfl rfl rfl ?_
           exact WO.nil ⟨rfl, rfl⟩
         refine' DT.b rfl rfl rfl ?hq ?_
         case hq =>
           refine WO.load rfl rfl (Cell.own Pick.head rfl) rfl ?_
           exact WO.nil ⟨rfl, rfl⟩
         refine' DT.r rfl rfl rfl ?hq ?_
         case hq =>
           refine WO.fieldL rfl rfl rfl ?_
           exact WO.nil ⟨rfl, rfl⟩
         refine' DT.r rfl rfl rfl ?hq ?_
         case hq =>
           refine WO.field0 rfl rfl rfl ?_
           exact WO.nil ⟨rfl, rfl⟩
         refine' DT.b rfl rfl rfl ?hq ?_
         case hq =>
           refine WO.load rfl rfl (Cell.own Pick.head rfl) rfl ?_
           exact WO.nil ⟨rfl, rfl⟩
         refine' DT.r rfl rfl rfl ?hq ?_
         case hq =>
           refine WO.p rfl rfl ?_
           exact WO.nil ⟨rfl, rfl⟩
         refine' DT.r rfl rfl rfl ?hq ?_
         case hq =>
           refine' WO.indexAddr (n := _) (i := _) rfl rfl rfl ?hs ?h1 rfl ?_
           case hs => (first | exact hlv)
           case h1 => (first | omega | (simp; omega))
           exact WO.nil ⟨rfl, rfl⟩
         refine' DT.r rfl rfl rfl ?hq ?_
         case hq =>
           refine WO.indexArr0 (i := a) rfl rfl rfl rfl (by omega) rfl ?_
           exact WO.nil ⟨rfl, rfl⟩
         refine' DT.r rfl rfl rfl ?hq ?_
         case hq =>
           refine WO.indexArrP (i := b) (fo' := a * 15 + b * 3) rfl rfl rfl rfl (by omega) rfl rfl ?_
           exact WO.nil ⟨rfl, rfl⟩
         refine DT.nil [_, _, _, _, _] rfl ?_
         refine WO.indexArrP (i := s) (fo' := a * 15 + b * 3 + s) rfl rfl rfl rfl (by omega) (by omega) rfl ?_
         refine WO.storeT (i := i) (j := a * 15 + b * 3 + s) rfl rfl rfl (by repeat (first | exact Pick.head | apply Pick.tail)) (by omega) (by omega) ?_
         refine WO.chg (TabX.shut (p := RowTo Bc T l i ((a * w2 l i + b) * 3 + s + 1)) (hgr.next hg (by omega) ha hb hs) (by repeat (first | exact Pick.head | apply Pick.tail))) ?_
         refine WO.nil ?_
         (repeat (first | exact Sub.nil | refine Sub.cons (by repeat (first | exact Pick.head | apply Pick.tail)) ?_))
       refine W.seq ?_
       refine W.chg (tabXm (p := RowTo Bc T l i (stsV l i).length) (p' := RowsOk Bc T l ((i : Int) - 1).toNat) (fun g hx => by rw [show ((i : Int) - 1).toNat = i - 1 by omega]; exact hx.all) (pk := by repeat (first | exact Pick.head | apply Pick.tail))) ?_
       refine W.sreg ?_
       refine WO.load rfl rfl (Cell.own (Pick.tail (Pick.tail (Pick.tail (Pick.tail (Pick.head))))) rfl) rfl ?_
       refine WO.nil ?_
       refine W.region ?_
       refine WO.alloc rfl rfl rfl (fun b4 hb4 => ?_)
       refine WO.store1 rfl rfl rfl (by first | rfl | assumption) Pick.head rfl ?_
       refine WO.nil ?_
       refine W.region ?_
       refine WO.load rfl rfl (Cell.own Pick.head rfl) rfl (WO.ar rfl rfl rfl (by (first | (unfold in64; omega) | (unfold in64; omega))) rfl (WO.store1 rfl rfl rfl (by first | rfl | assumption) Pick.head rfl ?_))
       refine WO.nil ?_
       refine' ⟨_, _, ?hp, ?hmu, ⟨rfl, rfl, trivial⟩, ?hS⟩
       case hS => repeat (first | exact Sub.nil | refine Sub.cons (by repeat (first | exact Pick.head | apply Pick.tail)) ?_)
       case hp => exact ⟨by omega, by omega⟩
       case hmu => omega)
  · first
    | (exfalso; omega)
    | (refine W.exit (blk_same ?_)
       rw [show z.toNat = 0 by omega]
       exact fin.normal (Res.none rfl) ⟨(), rfl, fun h hs => Sub.sat (by repeat (first | exact Sub.nil | refine Sub.cons (by repeat (first | exact Pick.head | apply Pick.tail)) ?_)) hs⟩)
end Go.Proofs.Ytpecakgebhmnfaa
namespace Go.Proofs.Ytpecakgebhmnfaa
open Go Go.TH
attribute [local irreducible] W WO pt
set_option maxRecDepth 10000
set_option maxHeartbeats 1000000
theorem WO.quoN {C : Cx Try.prog} {ops : Array Oper} {K : KP} {rest : List Oper} {d : Nat} {ty : TypeId} {pos : String} {af : Array Edge} {x y : Operand} {T T' : TypeId} {E : Env} {H : List HP} {a b : Nat} (hx : ev E x = some (.int .i64 (a : Int))) (hy : ev E y = some (.int .i64 (b : Int))) (hb : 0 < b) (ha : a ≤ 1000000) (hN : Nat.blt d C.N = true) (h : WO C ops rest K ((d, .int .i64 ((a / b : Nat) : Int)) :: E) H) : WO C ops (⟨some d, .binOp .quo T x y T', ty, pos, af, none⟩ :: rest) K E H := by
  have e : ((a / b : Nat) : Int) = (a : Int).tdiv (b : Int) := Int.ofNat_tdiv a b
  have e2 : a / b ≤ a := Nat.div_le_self a b
  refine WO.quo hx hy (by omega) (by rw [← e]; unfold in64; generalize a / b = q at e2; omega) hN ?_
  rw [← e]; exact h
theorem WO.remN {C : Cx Try.prog} {ops : Array Oper} {K : KP} {rest : List Oper} {d : Nat} {ty : TypeId} {pos : String} {af : Array Edge} {x y : Operand} {T T' : TypeId} {E : Env} {H : List HP} {k : IntKind} {a b : Nat} (hx : ev E x = some (.int k (a : Int))) (hy : ev E y = some (.int k (b : Int))) (hb : 0 < b) (hN : Nat.blt d C.N = true) (h : WO C ops rest K ((d, .int k ((a % b : Nat) : Int)) :: E) H) : WO C ops (⟨some d, .binOp .rem T x y T', ty, pos, af, none⟩ :: rest) K E H := by
  have e : ((a % b : Nat) : Int) = (a : Int).tmod (b : Int) := Int.ofNat_tmod a b
  refine WO.rem hx hy (by omega) hN ?_
  rw [← e]; exact h
theorem WO.mulN {C : Cx Try.prog} {ops : Array Oper} {K : KP} {rest : List Oper} {d : Nat} {ty : TypeId} {pos : String} {af : Array Edge} {x y : Operand} {T T' : TypeId} {E : Env} {H : List HP} {a b : Nat} (hx : ev E x = some (.int .i64 (a : Int))) (hy : ev E y = some (.int .i64 (b : Int))) (ha : a * b ≤ 1000000) (hN : Nat.blt d C.N = true) (h : WO C ops rest K ((d, .int .i64 ((a * b : Nat) : Int)) :: E) H) : WO C ops (⟨some d, .binOp .mul T x y T', ty, pos, af, none⟩ :: rest) K E H := by
  have e : ((a * b : Nat) : Int) = (a : Int) * (b : Int) := Int.natCast_mul a b
  refine WO.ar hx hy rfl (by rw [← e]; unfold in64; generalize a * b = q at ha; omega) hN ?_
  rw [← e]; exact h
theorem WO.mulZ {C : Cx Try.prog} {ops : Array Oper} {K : KP} {rest : List Oper} {d : Nat} {ty : TypeId} {pos : String} {af : Array Edge} {x y : Operand} {T T' : TypeId} {E : Env} {H : List HP} {a b : Nat} {y' : Int} (hx : ev E x = some (.int .i64 (a : Int))) (hy : ev E y = some (.int .i64 y')) (hb : y' = (b : Int)) (ha : a * b ≤ 1000000000) (hN : Nat.blt d C.N = true) (h : WO C ops rest K ((d, .int .i64 ((a * b : Nat) : Int)) :: E) H) : WO C ops (⟨some d, .binOp .mul T x y T', ty, pos, af, none⟩ :: rest) K E H := by
  subst hb
  have e : ((a * b : Nat) : Int) = (a : Int) * (b : Int) := Int.natCast_mul a b
  refine WO.ar hx hy rfl (by rw [← e]; unfold in64; generalize a * b = q at ha; omega) hN ?_
  rw [← e]; exact h
theorem DrS.own {n0 : Nat} {w0 : World} {b ty : Nat} {fr : Nat × Nat} {v : Value} {l : List (Int × Int)} {t B T : Int} {lv : Value} (h : RdF encP 2 n0 w0 v l) : DrS n0 w0 (pt b (.cells #[v, .int .i64 t, .int .i64 B, .int .i64 T, lv] ty fr)) ⟨b, 0, none⟩ v l t B T lv := fun u M L H w hi h1 h2 =>
  ⟨RdC.own (C := itCx mixed tyTab 0 u M 0 (Nat.zero_le _) (fun _ _ => Nat.zero_le _)) (H := pt b (.cells [v, .int .i64 t, .int .i64 B, .int .i64 T, lv].toArray ty fr) :: H) (L := L) Pick.head hi, (h.agree h2).up h1⟩
theorem c_new (w : World) (v : Value) (l : List (Int × Int)) (t B T : Int) (hR : IsSl v l.length) (h24 : l.length ≤ 24) (ho : v.oneCell' = true) : Ct Try.prog 43 [.agg #[v, .int .i64 t], .int .i64 B, .int .i64 T].toArray w fun r w' => ∃ Hq, (∃ (x : Nat × Value), r = .pointer (some ⟨x.1, 0, none⟩) ∧ Hq = [pt x.1 (.cells #[v, .int .i64 t, .int .i64 B, .int .i64 T, x.2] 81 (0, 0)), TabP 112 75 x.2 l.length (fun _ => 0)]) ∧ Inv w [] Hq w' := by
  refine Ct.ofI (X := Nat × Value) (p := fun x r => r = .pointer (some ⟨x.1, 0, none⟩)) (Hx := fun x => [pt x.1 (.cells #[v, .int .i64 t, .int .i64 B, .int .i64 T, x.2] 81 (0, 0)), TabP 112 75 x.2 l.length (fun _ => 0)]) mixed tyTab Try.func43 rfl rfl ?_
  refine W.sreg ?_
  refine WO.boxA rfl rfl (fun b1 hb1 => ?_)
  refine WO.p rfl rfl ?_
  refine WO.nil ?_
  refine W.seq ?_
  refine W.drawD 7 [.b 0 [], .r 1 [], .r 2 [], .r 3 [], .b 4 [], .r 5 [], .c 6 []] [] (A0 := []) (Sub.refl _) (by kernel_rfl) ?_ ?_
  · exact (ALok.b (ALok.r (ALok.r (ALok.r (ALok.b (ALok.r (ALok.c ALok.nil)))))))
  refine' DT.b rfl rfl rfl ?hq ?_
  case hq =>
    refine WO.loadA rfl rfl (Cells.own Pick.head) rfl rfl ?_
    exact WO.nil ⟨rfl, rfl⟩
  refine' DT.r rfl rfl rfl ?hq ?_
  case hq =>
    refine WO.p rfl rfl ?_
    exact WO.nil ⟨rfl, rfl⟩
  refine' DT.r rfl rfl rfl ?hq ?_
  case hq =>
    refine WO.p rfl rfl ?_
    exact WO.nil ⟨rfl, rfl⟩
  refine' DT.r rfl rfl rfl ?hq ?_
  case hq =>
    refine WO.field0 rfl rfl rfl ?_
    exact WO.nil ⟨rfl, rfl⟩
  refine' DT.b rfl rfl rfl ?hq ?_
  case hq =>
    refine WO.load rfl rfl (Cell.own Pick.head rfl) rfl ?_
    exact WO.nil ⟨rfl, rfl⟩
  refine' DT.r rfl rfl rfl ?hq ?_
  case hq =>
    refine' WO.len (n := _) rfl rfl ?hs rfl ?_
    case hs => (first | exact hR)
    exact WO.nil ⟨rfl, rfl⟩
  refine DT.c [_] rfl rfl rfl rfl ?_
  refine WO.makeT (e := 112) (sz := 75) (by' := 600) (by omega) rfl rfl rfl rfl rfl (by omega) (by omega) rfl (fun q => ?_)
  refine WO.nil ⟨_, [_], rfl, rfl, (Keep.r (Keep.b (Keep.r (Keep.r (Keep.r (Keep.b Keep.nil)))))), ?_⟩
  refine DT.nil [_, _] rfl ?_
  refine' WO.build (cs := _) rfl rfl rfl ?hf rfl ?_
  case hf => (conv => lhs; simp [-List.getD_eq_getElem?_getD, fillL, vcl, wrl, TTab.pl?.lget']) <;> rfl
  refine WO.boxA rfl rfl (fun b2 hb2 => ?_)
  refine WO.p rfl rfl ?_
  refine WO.nil ?_
  refine W.ret ?_
  exact fin.ret (Res.one rfl (RV.tmp rfl)) ⟨(_, _), rfl, fun h hs => Sub.sat (by repeat (first | exact Sub.nil | refine Sub.cons (by repeat (first | exact Pick.head | apply Pick.tail)) ?_)) hs⟩
theorem c_best1 (w : World) (q q2 p : Addr) (v : Value) (l : List (Int × Int)) (t B T : Int) (lv : Value) (g : Nat → Int) (k : Nat) (hc1 : Cap w q (.pointer (some p))) (hc2 : Cap w q2 (.int .i64 (w2 l 1 : Int)))
    (hD : DrR w.heap.size w p v l t B T lv) (hT : RdT 75 w.heap.size w lv l.length g) (hg : OkS l) (hl : 2 ≤ l.length) (hk : k < w1 l 1 * w2 l 1) (hrow : RowOk B T l g 1) :
    Ret Try.prog 61 [.int .i64 (k : Int), .pointer (some q), .pointer (some q2)].toArray w (.int .i64 (gAt B T l 1 (k / w2 l 1) (k % w2 l 1) 0)) := by
  refine Ret.of mixed tyTab Try.func61 rfl rfl ?_
  replace hc1 : Cap (fnCx mixed tyTab Try.f61.ntmps w).w0 q (.pointer (some p)) := hc1
  replace hc2 : Cap (fnCx mixed tyTab Try.f61.ntmps w).w0 q2 (.int .i64 (w2 l 1 : Int)) := hc2
  have hD' : DrR (fnCx mixed tyTab Try.f61.ntmps w).B (fnCx mixed tyTab Try.f61.ntmps w).w0 p v l t B T lv := hD
  have hT' : RdT 75 (fnCx mixed tyTab Try.f61.ntmps w).B (fnCx mixed tyTab Try.f61.ntmps w).w0 lv l.length g := hT
  have p1 : w1 l 1 ≤ 5 := (wid_ok (hg _ (getD_mem (i := 0) (by omega) (0, 0)))).2.1
  have p2 : 1 ≤ w2 l 1 ∧ w2 l 1 ≤ 5 := by have := wid_ok (hg _ (getD_mem (i := 1) (by omega) (0, 0))); exact ⟨this.1, this.2.1⟩
  have hk2 : w1 l 1 * w2 l 1 ≤ 25 := Nat.mul_le_mul p1 p2.2
  have ha : k / w2 l 1 < w1 l 1 := Nat.div_lt_of_lt_mul (by rw [Nat.mul_comm]; exact hk)
  have hb : k % w2 l 1 < w2 l 1 := Nat.mod_lt _ (by omega)
  have hr := hrow (k / w2 l 1) (k % w2 l 1) 0 ha hb (by omega)
  refine W.sreg ?_
  refine WO.p rfl rfl ?_
  refine WO.nil ?_
  refine W.seq ?_
  refine W.drawD 9 [.b 0 [], .r 1 [], .b 2 [], .r 3 [], .r 4 [], .b 5 [], .r 6 [], .r 7 [], .r 8 []] [] (A0 := []) (Sub.refl _) (by kernel_rfl) ?_ ?_
  · exact (ALok.b (ALok.r (ALok.b (ALok.r (ALok.r (ALok.b (ALok.r (ALok.r (ALok.r ALok.nil)))))))))
  refine' DT.b rfl rfl rfl ?hq ?_
  case hq =>
    refine' WO.load (v := _) rfl rfl ?hc rfl ?_
    case hc => (first | (refine Cap.cell (v := .pointer (some p)) rfl hc1) | (refine Cap.cell (v := .int .i64 (w2 l 1 : Int)) rfl hc2))
    exact WO.nil ⟨rfl, rfl⟩
  refine' DT.r rfl rfl rfl ?hq ?_
  case hq =>
    refine WO.p rfl rfl ?_
    exact WO.nil ⟨rfl, rfl⟩
  refine' DT.b rfl rfl rfl ?hq ?_
  case hq =>
    refine' WO.load (v := _) rfl rfl ?hc rfl ?_
    case hc => (first | (refine Cap.cell (v := .pointer (some p)) rfl hc1) | (refine Cap.cell (v := .int .i64 (w2 l 1 : Int)) rfl hc2))
    exact WO.nil ⟨rfl, rfl⟩
  refine' DT.r rfl rfl rfl ?hq ?_
  case hq =>
    refine WO.quoN rfl rfl (by omega) (by omega) rfl ?_
    exact WO.nil ⟨rfl, rfl⟩
  refine' DT.r rfl rfl rfl ?hq ?_
  case hq =>
    refine WO.p rfl rfl ?_
    exact WO.nil ⟨rfl, rfl⟩
  refine' DT.b rfl rfl rfl ?hq ?_
  case hq =>
    refine' WO.load (v := _) rfl rfl ?hc rfl ?_
    case hc => (first | (refine Cap.cell (v := .pointer (some p)) rfl hc1) | (refine Cap.cell (v := .int .i64 (w2 l 1 : Int)) rfl hc2))
    exact WO.nil ⟨rfl, rfl⟩
  refine' DT.r rfl rfl rfl ?hq ?_
  case hq =>
    refine WO.remN rfl rfl (by omega) rfl ?_
    exact WO.nil ⟨rfl, rfl⟩
  refine' DT.r rfl rfl rfl ?hq ?_
  case hq =>
    refine' WO.build (cs := _) rfl rfl rfl ?hf rfl ?_
    case hf => (conv => lhs; simp [-List.getD_eq_getElem?_getD, fillL, vcl, wrl, TTab.pl?.lget']) <;> rfl
    exact WO.nil ⟨rfl, rfl⟩
  refine' DT.r rfl rfl rfl ?hq ?_
  case hq =>
    refine' WO.build (cs := _) rfl rfl rfl ?hf rfl ?_
    case hf => (conv => lhs; simp [-List.getD_eq_getElem?_getD, fillL, vcl, wrl, TTab.pl?.lget']) <;> rfl
    exact WO.nil ⟨rfl, rfl⟩
  refine DT.nil [] rfl ?_
  refine WO.callR (r := .int .i64 (gAt B T l 1 (k / w2 l 1) (k % w2 l 1) 0)) rfl Try.call62 (fun L w hi' => by rw [← hr]; exact c_at w p v l t B T lv g 1 (k / w2 l 1) (k % w2 l 1) 0 (hD'.later hi') (hT'.later hi') (by omega) (by omega) (by omega) (by omega)) rfl ?_
  refine WO.p rfl rfl ?_
  refine WO.nil ?_
  refine W.ret ?_
  exact fin.ret (Res.one rfl (RV.tmp rfl)) rfl
/-- how a line goes on -/
def goL (B T : Int) : List (Int × Int) → Int → Int → Nat → List Int
  | [], _, _, _ => []
  | r :: rs, x, y, s => (r.1 + ((lst (fun c => stp B T s (x - 2 * y + (r.1 + c)) + gof B T rs y (r.1 + c) (sg s (x - 2 * y + (r.1 + c)))) (wid r - 1)).1 : Int)) :: goL B T rs y (r.1 + ((lst (fun c => stp B T s (x - 2 * y + (r.1 + c)) + gof B T rs y (r.1 + c) (sg s (x - 2 * y + (r.1 + c)))) (wid r - 1)).1 : Int)) (sg s (x - 2 * y + (r.1 + ((lst (fun c => stp B T s (x - 2 * y + (r.1 + c)) + gof B T rs y (r.1 + c) (sg s (x - 2 * y + (r.1 + c)))) (wid r - 1)).1 : Int))))
/-- the line from a state on -/
def goAt (B T : Int) (l : List (Int × Int)) (i a b s : Nat) : List Int := goL B T (l.drop (i + 1)) ((l.getD (i - 1) (0, 0)).1 + a) ((l.getD i (0, 0)).1 + b) s
/-- the offset that comes next -/
def cAt (B T : Int) (l : List (Int × Int)) (i a b s : Nat) : Nat := (lst (gOn B T l i a b s) (wid (l.getD (i + 1) (0, 0)) - 1)).1
theorem goAt_last {B T : Int} {l : List (Int × Int)} {i a b s : Nat} (h : l.length ≤ i + 1) : goAt B T l i a b s = [] := by
  unfold goAt; rw [List.drop_eq_nil_of_le h]; rfl
theorem goAt_succ {B T : Int} {l : List (Int × Int)} {i a b s : Nat} (h : i + 1 < l.length) : goAt B T l i a b s = ((l.getD (i + 1) (0, 0)).1 + (cAt B T l i a b s : Int)) :: goAt B T l (i + 1) b (cAt B T l i a b s) (sg s (dif l i a b (cAt B T l i a b s))) := by
  have e : l.drop (i + 1) = l.getD (i + 1) (0, 0) :: l.drop (i + 2) := by
    rw [List.drop_eq_getElem_cons h, List.getD_eq_getElem?_getD, List.getElem?_eq_getElem h]; rfl
  unfold goAt
  rw [e]
  rfl
theorem goL_len {B T : Int} : ∀ (rs : List (Int × Int)) (x y : Int) (s : Nat), (goL B T rs x y s).length = rs.length
  | [], _, _, _ => rfl
  | r :: rs, x, y, s => by unfold goL; simp only [List.length_cons]; rw [goL_len rs]
theorem cAt_lt {B T : Int} {l : List (Int × Int)} {i a b s : Nat} (hg : OkS l) (h : i + 1 < l.length) : cAt B T l i a b s < wid (l.getD (i + 1) (0, 0)) := by
  have h1 := (lst_spec (gOn B T l i a b s) (wid (l.getD (i + 1) (0, 0)) - 1)).1
  have h2 := (wid_ok (hg _ (getD_mem (i := i + 1) (by omega) (0, 0)))).1
  unfold cAt; omega
/-- the best first pair -/
def kB (B T : Int) (l : List (Int × Int)) : Nat × Int := lst (fun k => gAt B T l 1 (k / w2 l 1) (k % w2 l 1) 0) (w1 l 1 * w2 l 1 - 1)
/-- the best line, and what it costs -/
def bestL (B T : Int) (l : List (Int × Int)) : List Int := if l.length = 1 then [(l.getD 0 (0, 0)).1] else
  ((l.getD 0 (0, 0)).1 + (((kB B T l).1 / w2 l 1 : Nat) : Int)) :: ((l.getD 1 (0, 0)).1 + (((kB B T l).1 % w2 l 1 : Nat) : Int)) :: goAt B T l 1 ((kB B T l).1 / w2 l 1) ((kB B T l).1 % w2 l 1) 0
def bestC (B T : Int) (l : List (Int × Int)) : Int := if l.length = 1 then 0 else (kB B T l).2
theorem RowsOk.at_ {B T : Int} {l : List (Int × Int)} {g : Nat → Int} (h : RowsOk B T l 0 g) {i : Nat} (h1 : 1 ≤ i) (h2 : i < l.length) : RowOk B T l g i := h i h1 h2
theorem kB_lt {B T : Int} {l : List (Int × Int)} (hg : OkS l) (hl : 2 ≤ l.length) : (kB B T l).1 < w1 l 1 * w2 l 1 ∧ 1 ≤ w2 l 1 ∧ w2 l 1 ≤ 5 ∧ 1 ≤ w1 l 1 ∧ w1 l 1 ≤ 5 := by
  have p1 := wid_ok (hg _ (getD_mem (i := 0) (by omega) (0, 0)))
  have p2 := wid_ok (hg _ (getD_mem (i := 1) (by omega) (0, 0)))
  have q1 : 1 ≤ w1 l 1 := p1.1
  have q2 : 1 ≤ w2 l 1 := p2.1
  have q3 := Nat.mul_le_mul q1 q2
  have := (lst_spec (fun k => gAt B T l 1 (k / w2 l 1) (k % w2 l 1) 0) (w1 l 1 * w2 l 1 - 1)).1
  exact ⟨by unfold kB; omega, q2, p2.2.1, q1, p1.2.1⟩
theorem c_best (B : Nat) (w : World) (S : HP) (p : Addr) (v : Value) (l : List (Int × Int)) (t Bc T : Int) (lv : Value) (hB : B ≤ w.heap.size) (hS : DrS B w S p v l t Bc T lv) (hv : IsSl v l.length) (hg : OkS l) (h24 : l.length ≤ 24) (hn : 1 ≤ l.length) (hC : OkC Bc T) :
    CtH Try.prog 44 [.pointer (some p)] w [S, TabP 112 75 lv l.length (fun _ => 0)] B (fun r Hq => ∃ rv : Value, r = .tuple #[rv, .int .i64 (bestC Bc T l)] ∧ Hq = [OwE encI 2 1 rv (bestL Bc T l)]) := by
  refine CtH.ofI (X := Value) (p := fun rv r => r = .tuple #[rv, .int .i64 (bestC Bc T l)]) (Hx := fun rv => [OwE encI 2 1 rv (bestL Bc T l)]) mixed tyTab hB Try.func44 rfl rfl (fun M hM => ?_)
  have hS' : DrS (itCx mixed tyTab Try.f44.ntmps w M B hB hM).B (itCx mixed tyTab Try.f44.ntmps w M B hB hM).w0 S p v l t Bc T lv := hS
  have hle := hv.le
  have hg0 := hg _ (getD_mem (i := 0) (by omega) (0, 0))
  refine W.sreg ?_
  refine WO.box1 rfl (by first | rfl | assumption) rfl (fun b1 hb1 => ?_)
  refine WO.p rfl rfl (WO.p rfl rfl ?_)
  refine WO.nil ?_
  refine W.sreg ?_
  refine WO.load rfl rfl (Cell.own Pick.head rfl) rfl ?_
  refine WO.callH (Hp := [S, TabP 112 75 lv l.length (fun _ => 0)]) rfl Try.call58 (.cons (by repeat (first | exact Pick.head | apply Pick.tail)) (.cons (by repeat (first | exact Pick.head | apply Pick.tail)) (Sub.refl _))) (fun L w hi hB2 => c_fill _ w S p v l t Bc T lv hB2 (hS'.agree hi.keepB) hv hg h24 hn hC) rfl ?_
  rintro _ _ ⟨_, rfl, rfl⟩
  refine WO.nil ?_
  refine W.chgE (TabX.open (by repeat (first | exact Pick.head | apply Pick.tail))) (fun gg hgr => ?_)
  refine W.sreg ?_
  refine WO.load rfl rfl (Cell.own (Pick.tail (Pick.tail (Pick.head))) rfl) rfl (WO.p rfl rfl (WO.field0 rfl rfl rfl (WO.field0 rfl rfl rfl ?_)))
  refine' WO.load (v := _) rfl rfl ?hc rfl ?_
  case hc => (first | (refine DrS.cell0 (S := S) (v := v) hS' ?_; exact (by repeat (first | exact Sub.nil | refine Sub.cons (by repeat (first | exact Pick.head | apply Pick.tail)) ?_))))
  refine' WO.indexAddr (n := _) (i := 0) rfl rfl rfl ?hs ?h1 rfl ?_
  case hs => (first | exact hv)
  case h1 => (first | omega | (simp; omega))
  refine WO.field0 rfl rfl rfl ?_
  refine' WO.load (v := _) rfl rfl ?hc rfl ?_
  case hc => (first | (refine DrS.lo (S := S) (i := 0) hS' ?_ (by omega) rfl rfl; exact (by repeat (first | exact Sub.nil | refine Sub.cons (by repeat (first | exact Pick.head | apply Pick.tail)) ?_))))
  refine' WO.buildSl (cs := _) rfl rfl rfl rfl ?hf rfl rfl ?hl rfl (fun v2 => ?_)
  case hf => (conv => lhs; simp [-List.getD_eq_getElem?_getD, fillL, vcl, wrl, TTab.pl?.lget']) <;> rfl
  case hl => rfl
  refine WO.p rfl rfl ?_
  refine WO.nil ?_
  refine W.seq ?_
  refine W.sreg ?_
  refine WO.load rfl rfl (Cell.own (Pick.tail (Pick.tail (Pick.tail (Pick.head)))) rfl) rfl (WO.p rfl rfl (WO.field0 rfl rfl rfl (WO.field0 rfl rfl rfl ?_)))
  refine' WO.load (v := _) rfl rfl ?hc rfl ?_
  case hc => (first | (refine DrS.cell0 (S := S) (v := v) hS' ?_; exact (by repeat (first | exact Sub.nil | refine Sub.cons (by repeat (first | exact Pick.head | apply Pick.tail)) ?_))))
  refine' WO.len (n := _) rfl rfl ?hs rfl ?_
  case hs => (first | exact hv)
  refine WO.p rfl rfl ?_
  refine WO.nil ?_
  refine W.cond_bl rfl (fun c1 => ?_) (fun c1 => ?_)
  · first
    | (exfalso; omega)
    | (refine W.sreg ?_
       refine WO.p rfl rfl (WO.p rfl rfl (WO.p rfl rfl ?_))
       refine WO.nil ?_
       refine W.ret ?_
       first | (have e7 : bestL Bc T l = [(l.getD 0 (0, 0)).1] := if_pos (by omega); have e8 : bestC Bc T l = 0 := if_pos (by omega); rw [e7, e8]; exact fin.ret (Res.two rfl (RV.tmp rfl) (RV.tmp rfl)) ⟨_, rfl, fun h hs => Sub.sat (.cons .head .nil) hs⟩) | (rw [goAt_last (i := i) (by omega), List.append_nil] at hpre; rw [← hpre, e6]; exact fin.ret (Res.two rfl (RV.tmp rfl) (RV.tmp rfl)) ⟨_, rfl, fun h hs => Sub.sat (by repeat (first | exact Sub.nil | refine Sub.cons (by repeat (first | exact Pick.head | apply Pick.tail)) ?_)) hs⟩))
  · first
    | (exfalso; omega)
    | (refine W.skip ?_
       have hg1 := hg _ (getD_mem (i := 1) (by omega) (0, 0))
       have hkB := kB_lt (B := Bc) (T := T) hg (by omega)
       have hk2 : w1 l 1 * w2 l 1 ≤ 25 := Nat.mul_le_mul hkB.2.2.2.2 hkB.2.2.1
       have e5 : bestL Bc T l = _ := if_neg (show ¬ l.length = 1 by omega)
       have e6 : bestC Bc T l = _ := if_neg (show ¬ l.length = 1 by omega)
       have hm1 : (kB Bc T l).1 / w2 l 1 < w1 l 1 := Nat.div_lt_of_lt_mul (by rw [Nat.mul_comm]; exact hkB.1)
       have hm2 : (kB Bc T l).1 % w2 l 1 < w2 l 1 := Nat.mod_lt _ (by omega)
       have hz1 : (0 : Int) ≤ (((kB Bc T l).1 / w2 l 1 : Nat) : Int) := Int.natCast_nonneg _
       have hz2 : (0 : Int) ≤ (((kB Bc T l).1 % w2 l 1 : Nat) : Int) := Int.natCast_nonneg _
       unfold OkG at hg0 hg1
       refine W.sreg ?_
       refine WO.load rfl rfl (Cell.own (Pick.tail (Pick.tail (Pick.tail (Pick.head)))) rfl) rfl ?_
       refine WO.callR (r := .int .i64 (w2 l 1 : Int)) rfl Try.call59 (fun L w hi' => c_wide w p v l t Bc T lv 1 _ (hS'.at (by repeat (first | exact Pick.head | apply Pick.tail)) hi') rfl (by omega) hg) rfl ?_
       refine WO.alloc rfl rfl rfl (fun b3 hb3 => ?_)
       refine WO.store1 rfl rfl rfl (by first | rfl | assumption) Pick.head rfl ?_
       refine WO.nil ?_
       refine W.seq ?_
       refine W.drawD 10 [.b 0 [], .b 1 [], .b 2 [], .r 3 [], .r 4 [], .b 5 [], .r 6 [], .r 7 [], .r 8 [], .r 9 []] [] (A0 := []) (Sub.refl _) (by kernel_rfl) ?_ ?_
       · exact (ALok.b (ALok.b (ALok.b (ALok.r (ALok.r (ALok.b (ALok.r (ALok.r (ALok.r (ALok.r ALok.nil))))))))))
       refine' DT.b rfl rfl rfl ?hq ?_
       case hq =>
         refine WO.load rfl rfl (Cell.own (Pick.tail (Pick.tail (Pick.tail (Pick.tail (Pick.head))))) rfl) rfl ?_
         exact WO.nil ⟨rfl, rfl⟩
       refine' DT.b rfl rfl rfl ?hq ?_
       case hq =>
         refine WO.callR (r := .int .i64 (w1 l 1 : Int)) rfl Try.call59 (fun L w hi' => c_wide w p v l t Bc T lv 0 _ (hS'.at (by repeat (first | exact Pick.head | apply Pick.tail)) hi') rfl (by omega) hg) rfl ?_
         exact WO.nil ⟨rfl, rfl⟩
       refine' DT.b rfl rfl rfl ?hq ?_
       case hq =>
         refine WO.load rfl rfl (Cell.own Pick.head rfl) rfl ?_
         exact WO.nil ⟨rfl, rfl⟩
       refine' DT.r rfl rfl rfl ?hq ?_
       case hq =>
         refine WO.mulN rfl rfl (by omega) rfl ?_
         exact WO.nil ⟨rfl, rfl⟩
       refine' DT.r rfl rfl rfl ?hq ?_
       case hq =>
         refine WO.p rfl rfl ?_
         exact WO.nil ⟨rfl, rfl⟩
       refine' DT.b rfl rfl rfl ?hq ?_
       case hq =>
         refine WO.callR (r := .tuple #[.int .i64 ((kB Bc T l).1 : Int), .int .i64 (kB Bc T l).2]) rfl Try.call60 (fun L w hi' => c_least w (w1 l 1 * w2 l 1) 61 [.pointer (some ⟨b1, 0, none⟩), .pointer (some ⟨b3, 0, none⟩)] (fun k => gAt Bc T l 1 (k / w2 l 1) (k % w2 l 1) 0) (by omega) (by omega) (fun u hu hk x hx => c_best1 u ⟨b1, 0, none⟩ ⟨b3, 0, none⟩ p v l t Bc T lv gg x ((Cap.of (b := b1) (off := 0) (v := .pointer (some p)) (by repeat (first | exact Pick.head | apply Pick.tail)) rfl hi').upTo hu hk) ((Cap.of (b := b3) (off := 0) (v := .int .i64 (w2 l 1 : Int)) (by repeat (first | exact Pick.head | apply Pick.tail)) rfl hi').upTo hu hk) (((hS'.at (by repeat (first | exact Pick.head | apply Pick.tail)) hi').agree hk).up hu) (((RdT.of (by repeat (first | exact Pick.head | apply Pick.tail)) (by omega) hi').agree hk).up hu) hg (by omega) hx (hgr.at_ (by omega) (by omega))) Try.call61) rfl ?_
         exact WO.nil ⟨rfl, rfl⟩
       refine' DT.r rfl rfl rfl ?hq ?_
       case hq =>
         refine WO.p rfl rfl ?_
         exact WO.nil ⟨rfl, rfl⟩
       refine' DT.r rfl rfl rfl ?hq ?_
       case hq =>
         refine WO.p rfl rfl ?_
         exact WO.nil ⟨rfl, rfl⟩
       refine' DT.r rfl rfl rfl ?hq ?_
       case hq =>
         refine WO.p rfl rfl ?_
         exact WO.nil ⟨rfl, rfl⟩
       refine' DT.r rfl rfl rfl ?hq ?_
       case hq =>
         refine WO.p rfl rfl ?_
         exact WO.nil ⟨rfl, rfl⟩
       refine DT.nil [_, _, _, _, _] rfl ?_
       refine WO.p rfl rfl ?_
       refine WO.nil ?_
       refine W.seq ?_
       refine W.drawD 9 [.r 0 [], .b 1 [], .r 2 [], .r 3 [], .b 4 [], .r 5 [], .r 6 [], .r 7 [], .a 8 8 (.cells #[.int .i64 0, .int .i64 0, .int .i64 0, .int .i64 0] 77 (0, 0))] [] (A0 := []) (Sub.refl _) (by kernel_rfl) ?_ ?_
       · exact (ALok.r (ALok.b (ALok.r (ALok.r (ALok.b (ALok.r (ALok.r (ALok.r (ALok.cons rfl rfl rfl rfl rfl ALok.nil)))))))))
       refine' DT.r rfl rfl rfl ?hq ?_
       case hq =>
         refine WO.p rfl rfl ?_
         exact WO.nil ⟨rfl, rfl⟩
       refine' DT.b rfl rfl rfl ?hq ?_
       case hq =>
         refine WO.load rfl rfl (Cell.own Pick.head rfl) rfl ?_
         exact WO.nil ⟨rfl, rfl⟩
       refine' DT.r rfl rfl rfl ?hq ?_
       case hq =>
         refine WO.quoN rfl rfl (by omega) (by omega) rfl ?_
         exact WO.nil ⟨rfl, rfl⟩
       refine' DT.r rfl rfl rfl ?hq ?_
       case hq =>
         refine WO.p rfl rfl ?_
         exact WO.nil ⟨rfl, rfl⟩
       refine' DT.b rfl rfl rfl ?hq ?_
       case hq =>
         refine WO.load rfl rfl (Cell.own Pick.head rfl) rfl ?_
         exact WO.nil ⟨rfl, rfl⟩
       refine' DT.r rfl rfl rfl ?hq ?_
       case hq =>
         refine WO.remN rfl rfl (by omega) rfl ?_
         exact WO.nil ⟨rfl, rfl⟩
       refine' DT.r rfl rfl rfl ?hq ?_
       case hq =>
         refine' WO.build (cs := _) rfl rfl rfl ?hf rfl ?_
         case hf => (conv => lhs; simp [-List.getD_eq_getElem?_getD, fillL, vcl, wrl, TTab.pl?.lget']) <;> rfl
         exact WO.nil ⟨rfl, rfl⟩
       refine' DT.r rfl rfl rfl ?hq ?_
       case hq =>
         refine' WO.build (cs := _) rfl rfl rfl ?hf rfl ?_
         case hf => (conv => lhs; simp [-List.getD_eq_getElem?_getD, fillL, vcl, wrl, TTab.pl?.lget']) <;> rfl
         exact WO.nil ⟨rfl, rfl⟩
       refine DT.a (fun b4 => ?_)
       refine DT.nil [_, _, _, _, _, _] rfl ?_
       refine WO.storeA rfl rfl rfl rfl Pick.head rfl rfl ?_
       refine WO.nil ?_
       refine W.seq ?_
       refine W.drawD 5 [.r 0 [], .r 1 [], .f 2 [], .r 3 [], .b 4 []] [] (A0 := [_]) (H0 := [_, _, _, _, _]) (.cons (Pick.tail (Pick.tail .head)) (.cons .head (.cons .head (.cons .head (.cons .head (.cons .head .nil)))))) (by kernel_rfl) ?_ ?_
       · exact (ALok.r (ALok.r (ALok.f (ALok.r (ALok.b ALok.nil)))))
       refine' DT.r rfl rfl rfl ?hq ?_
       case hq =>
         refine WO.p rfl rfl ?_
         exact WO.nil ⟨rfl, rfl⟩
       refine' DT.r rfl rfl rfl ?hq ?_
       case hq =>
         refine' WO.indexAddr (n := _) (i := 0) rfl rfl rfl ?hs ?h1 rfl ?_
         case hs => (first | exact isSl_lit (n := 1) (c := 1) (by omega) (fun _ => ⟨_, _, rfl⟩))
         case h1 => (first | omega | (simp; omega))
         exact WO.nil ⟨rfl, rfl⟩
       refine' DT.f [_, _, _, _, _, _] rfl rfl rfl rfl ?hq ?_
       case hq =>
         refine' WO.load (v := _) rfl rfl ?hc rfl ?_
         case hc => (first | (refine owE_cellS (e := 2) (v := .slice (some ⟨v2, 0, none⟩) 1 1) (xs := [(l.getD 0 (0, 0)).1]) (x := (l.getD 0 (0, 0)).1) (i := 0) ?_ (by simp) rfl rfl; exact (by repeat (first | exact Sub.nil | refine Sub.cons (by repeat (first | exact Pick.head | apply Pick.tail)) ?_))))
         exact WO.nil ⟨rfl, rfl⟩
       refine' DT.r rfl rfl rfl ?hq ?_
       case hq =>
         refine WO.fieldL rfl rfl rfl ?_
         exact WO.nil ⟨rfl, rfl⟩
       refine' DT.b rfl rfl rfl ?hq ?_
       case hq =>
         refine WO.load rfl rfl (Cell.own Pick.head rfl) rfl ?_
         exact WO.nil ⟨rfl, rfl⟩
       refine DT.nil [_, _, _, _, _, _] rfl ?_
       refine WO.ar rfl rfl rfl (by (first | (unfold in64; omega) | (unfold in64; omega))) rfl ?_
       refine' WO.indexAddr (n := _) (i := 0) rfl rfl rfl ?hs ?h1 rfl ?_
       case hs => (first | exact isSl_lit (n := 1) (c := 1) (by omega) (fun _ => ⟨_, _, rfl⟩))
       case h1 => (first | omega | (simp; omega))
       refine WO.storeE (n := (l.getD 0 (0, 0)).1 + (((kB Bc T l).1 / w2 l 1 : Nat) : Int)) (i := 0) (xs := [(l.getD 0 (0, 0)).1]) encI_ok rfl rfl rfl rfl (by repeat (first | exact Pick.head | apply Pick.tail)) (by simp) ?_
       refine WO.nil ?_
       refine W.seq ?_
       refine W.drawD 13 [.r 0 [], .b 1 [], .r 2 [], .r 3 [], .r 4 [], .b 5 [], .r 6 [], .r 7 [], .b 8 [], .r 9 [], .b 10 [], .r 11 [], .c 12 []] [] (A0 := [_]) (H0 := [_, _, _, _, _]) (.cons .head (.cons .head (.cons .head (.cons .head (.cons .head (.cons .head .nil)))))) (by kernel_rfl) ?_ ?_
       · exact (ALok.r (ALok.b (ALok.r (ALok.r (ALok.r (ALok.b (ALok.r (ALok.r (ALok.b (ALok.r (ALok.b (ALok.r (ALok.c ALok.nil)))))))))))))
       refine' DT.r rfl rfl rfl ?hq ?_
       case hq =>
         refine WO.p rfl rfl ?_
         exact WO.nil ⟨rfl, rfl⟩
       refine' DT.b rfl rfl rfl ?hq ?_
       case hq =>
         refine WO.load rfl rfl (Cell.own (Pick.tail (Pick.tail (Pick.tail (Pick.tail (Pick.head))))) rfl) rfl ?_
         exact WO.nil ⟨rfl, rfl⟩
       refine' DT.r rfl rfl rfl ?hq ?_
       case hq =>
         refine WO.p rfl rfl ?_
         exact WO.nil ⟨rfl, rfl⟩
       refine' DT.r rfl rfl rfl ?hq ?_
       case hq =>
         refine WO.field0 rfl rfl rfl ?_
         exact WO.nil ⟨rfl, rfl⟩
       refine' DT.r rfl rfl rfl ?hq ?_
       case hq =>
         refine WO.field0 rfl rfl rfl ?_
         exact WO.nil ⟨rfl, rfl⟩
       refine' DT.b rfl rfl rfl ?hq ?_
       case hq =>
         refine' WO.load (v := _) rfl rfl ?hc rfl ?_
         case hc => (first | (refine DrS.cell0 (S := S) (v := v) hS' ?_; exact (by repeat (first | exact Sub.nil | refine Sub.cons (by repeat (first | exact Pick.head | apply Pick.tail)) ?_))))
         exact WO.nil ⟨rfl, rfl⟩
       refine' DT.r rfl rfl rfl ?hq ?_
       case hq =>
         refine' WO.indexAddr (n := _) (i := 1) rfl rfl rfl ?hs ?h1 rfl ?_
         case hs => (first | exact hv)
         case h1 => (first | omega | (simp; omega))
         exact WO.nil ⟨rfl, rfl⟩
       refine' DT.r rfl rfl rfl ?hq ?_
       case hq =>
         refine WO.field0 rfl rfl rfl ?_
         exact WO.nil ⟨rfl, rfl⟩
       refine' DT.b rfl rfl rfl ?hq ?_
       case hq =>
         refine' WO.load (v := _) rfl rfl ?hc rfl ?_
         case hc => (first | (refine DrS.lo (S := S) (i := 1) hS' ?_ (by omega) rfl rfl; exact (by repeat (first | exact Sub.nil | refine Sub.cons (by repeat (first | exact Pick.head | apply Pick.tail)) ?_))))
         exact WO.nil ⟨rfl, rfl⟩
       refine' DT.r rfl rfl rfl ?hq ?_
       case hq =>
         refine WO.fieldL rfl rfl rfl ?_
         exact WO.nil ⟨rfl, rfl⟩
       refine' DT.b rfl rfl rfl ?hq ?_
       case hq =>
         refine WO.load rfl rfl (Cell.own Pick.head rfl) rfl ?_
         exact WO.nil ⟨rfl, rfl⟩
       refine' DT.r rfl rfl rfl ?hq ?_
       case hq =>
         refine WO.ar rfl rfl rfl (by (first | (unfold in64; omega) | (unfold in64; omega))) rfl ?_
         exact WO.nil ⟨rfl, rfl⟩
       refine DT.c [_, _, _, _, _, _] rfl rfl rfl rfl ?_
       refine' WO.buildSl (cs := _) rfl rfl rfl rfl ?hf rfl rfl ?hl rfl (fun v5 => ?_)
       case hf => (conv => lhs; simp [-List.getD_eq_getElem?_getD, fillL, vcl, wrl, TTab.pl?.lget']) <;> rfl
       case hl => rfl
       refine WO.nil ⟨_, [_, _], rfl, rfl, (Keep.r (Keep.b (Keep.r (Keep.b (Keep.r (Keep.r (Keep.b (Keep.r (Keep.r (Keep.r (Keep.b (Keep.r Keep.nil)))))))))))), ?_⟩
       refine DT.nil [_, _, _, _, _, _, _] rfl ?_
       refine' WO.appendE (enc := encI) (m := 1) (xs := [(l.getD 0 (0, 0)).1 + (((kB Bc T l).1 / w2 l 1 : Nat) : Int)]) (ys := [(l.getD 1 (0, 0)).1 + (((kB Bc T l).1 % w2 l 1 : Nat) : Int)]) encI_ok rfl rfl rfl rfl rfl (by repeat (first | exact Pick.head | apply Pick.tail)) (isSl_lit (by omega) (fun _ => ⟨_, _, rfl⟩)) (by omega) rfl (OwC.cells .head) (by simp) (by simp) rfl (fun g c => ?_)
       refine WO.p rfl rfl ?_
       refine WO.nil ?_
       refine W.seq ?_
       refine W.block ?_
       refine W.loop6 (fun (i : Nat) (a : Nat) (b : Nat) (s : Nat) (o : Value) (pre : List Int) => 1 ≤ i ∧ i < l.length ∧ a < w1 l i ∧ b < w2 l i ∧ s < 3 ∧ pre.length = i + 1 ∧ pre ++ goAt Bc T l i a b s = bestL Bc T l)
         (fun (i : Nat) (a : Nat) (b : Nat) (s : Nat) (o : Value) (pre : List Int) => [(1, .pointer (some ⟨b1, 0, none⟩)), (4, o), (7, .int .i64 (kB Bc T l).2), (8, .pointer (some ⟨b4, 0, none⟩))])
         (fun (i : Nat) (a : Nat) (b : Nat) (s : Nat) (o : Value) (pre : List Int) => [pt b1 (.cells #[.pointer (some p)] 67 (0, 0)), S, TabP 112 75 lv l.length gg, pt b4 (.cells #[.int .i64 (i : Int), .int .i64 (a : Int), .int .i64 (b : Int), .int .i64 (s : Int)] 77 (0, 0)), OwE encI 2 1 o pre])
         (fun (i : Nat) (a : Nat) (b : Nat) (s : Nat) (o : Value) (pre : List Int) => l.length - i) 1 ((kB Bc T l).1 / w2 l 1) ((kB Bc T l).1 % w2 l 1) 0 _ [(l.getD 0 (0, 0)).1 + (((kB Bc T l).1 / w2 l 1 : Nat) : Int), (l.getD 1 (0, 0)).1 + (((kB Bc T l).1 % w2 l 1 : Nat) : Int)]
         (by exact ⟨by omega, by omega, hm1, hm2, by omega, rfl, by rw [e5]; rfl⟩) ⟨rfl, rfl, rfl, rfl, trivial⟩ (by repeat (first | exact Sub.nil | refine Sub.cons (by repeat (first | exact Pick.head | apply Pick.tail)) ?_)) ?_
       rintro i a b s o pre ⟨hi1, hil, ha, hb, hs, hpl, hpre⟩
       refine W.seq ?_
       refine W.seq ?_
       refine W.drawD 9 [.r 0 [], .b 1 [], .r 2 [], .b 3 [], .r 4 [], .r 5 [], .r 6 [], .b 7 [], .r 8 []] [] (A0 := []) (Sub.refl _) (by kernel_rfl) ?_ ?_
       · exact (ALok.r (ALok.b (ALok.r (ALok.b (ALok.r (ALok.r (ALok.r (ALok.b (ALok.r ALok.nil)))))))))
       refine' DT.r rfl rfl rfl ?hq ?_
       case hq =>
         refine WO.field0 rfl rfl rfl ?_
         exact WO.nil ⟨rfl, rfl⟩
       refine' DT.b rfl rfl rfl ?hq ?_
       case hq =>
         refine WO.load rfl rfl (Cell.own (Pick.tail (Pick.tail (Pick.tail (Pick.head)))) rfl) rfl ?_
         exact WO.nil ⟨rfl, rfl⟩
       refine' DT.r rfl rfl rfl ?hq ?_
       case hq =>
         refine WO.ar rfl rfl rfl (by (first | (unfold in64; omega) | (unfold in64; omega))) rfl ?_
         exact WO.nil ⟨rfl, rfl⟩
       refine' DT.b rfl rfl rfl ?hq ?_
       case hq =>
         refine WO.load rfl rfl (Cell.own Pick.head rfl) rfl ?_
         exact WO.nil ⟨rfl, rfl⟩
       refine' DT.r rfl rfl rfl ?hq ?_
       case hq =>
         refine WO.p rfl rfl ?_
         exact WO.nil ⟨rfl, rfl⟩
       refine' DT.r rfl rfl rfl ?hq ?_
       case hq =>
         refine WO.field0 rfl rfl rfl ?_
         exact WO.nil ⟨rfl, rfl⟩
       refine' DT.r rfl rfl rfl ?hq ?_
       case hq =>
         refine WO.field0 rfl rfl rfl ?_
         exact WO.nil ⟨rfl, rfl⟩
       refine' DT.b rfl rfl rfl ?hq ?_
       case hq =>
         refine' WO.load (v := _) rfl rfl ?hc rfl ?_
         case hc => (first | (refine DrS.cell0 (S := S) (v := v) hS' ?_; exact (by repeat (first | exact Sub.nil | refine Sub.cons (by repeat (first | exact Pick.head | apply Pick.tail)) ?_))))
         exact WO.nil ⟨rfl, rfl⟩
       refine' DT.r rfl rfl rfl ?hq ?_
       case hq =>
         refine' WO.len (n := _) rfl rfl ?hs rfl ?_
         case hs => (first | exact hv)
         exact WO.nil ⟨rfl, rfl⟩
       refine DT.nil [_, _, _, _, _] rfl ?_
       refine WO.p rfl rfl ?_
       refine WO.nil ?_
       refine W.cond_bl rfl (fun c2 => ?_) (fun c2 => ?_)
       · first
         | (exfalso; omega)
         | (refine W.skip ?_
            refine W.block ?_
            have ha5 := wid_ok (hg _ (getD_mem (i := i - 1) (by omega) (0, 0)))
            have hb5 := wid_ok (hg _ (getD_mem (i := i) (by omega) (0, 0)))
            have hc5 := wid_ok (hg _ (getD_mem (i := i + 1) (by omega) (0, 0)))
            have hcc := cAt_lt (B := Bc) (T := T) (i := i) (a := a) (b := b) (s := s) hg (by omega)
            have hgi := hg _ (getD_mem (i := i + 1) (by omega) (0, 0))
            unfold OkG at hgi
            have ha' : a < wid (l.getD (i - 1) (0, 0)) := ha
            have hb' : b < wid (l.getD i (0, 0)) := hb
            refine W.sreg ?_
            refine WO.load rfl rfl (Cell.own Pick.head rfl) rfl (WO.loadA rfl rfl (Cells.own (Pick.tail (Pick.tail (Pick.tail (Pick.head))))) rfl rfl ?_)
            refine WO.callR (r := .tuple #[.int .i64 (cAt Bc T l i a b s : Int), .int .i64 (gAt Bc T l i a b s)]) rfl Try.call63 (fun L w hi' => c_go1 w p v l t Bc T lv gg i a b s (hS'.at (by repeat (first | exact Pick.head | apply Pick.tail)) hi') (RdT.of (by repeat (first | exact Pick.head | apply Pick.tail)) (by omega) hi') hg h24 hC hi1 (by omega) ha hb hs (hgr.at_ (by omega) (by omega))) rfl ?_
            refine WO.p rfl rfl (WO.p rfl rfl (WO.p rfl rfl (WO.p rfl rfl (WO.p rfl rfl ?_))))
            refine WO.nil ?_
            refine W.sreg ?_
            refine WO.load rfl rfl (Cell.own Pick.head rfl) rfl (WO.loadA rfl rfl (Cells.own (Pick.tail (Pick.tail (Pick.tail (Pick.head))))) rfl rfl (WO.p rfl rfl ?_))
            refine WO.callR rfl Try.call64 (fun L w hi' => c_on w p v l t Bc T lv i a b s (cAt Bc T l i a b s) (hS'.at (by repeat (first | exact Pick.head | apply Pick.tail)) hi') hg hC hi1 (by omega) (by omega) (by omega) hs (by omega)) rfl ?_
            refine WO.p rfl rfl (WO.p rfl rfl (WO.p rfl rfl (WO.storeA rfl rfl rfl rfl (Pick.tail (Pick.tail (Pick.tail (Pick.head)))) rfl rfl ?_)))
            refine WO.nil ?_
            refine W.drawD 14 [.r 0 [], .b 1 [], .r 2 [], .r 3 [], .r 4 [], .b 5 [], .r 6 [], .b 7 [], .r 8 [], .r 9 [], .b 10 [], .r 11 [], .r 12 [], .c 13 []] [] (A0 := [_]) (H0 := [_, _, _, _]) (.cons (Pick.tail (Pick.tail (Pick.tail (Pick.tail .head)))) (.cons .head (.cons .head (.cons .head (.cons .head .nil))))) (by kernel_rfl) ?_ ?_
            · exact (ALok.r (ALok.b (ALok.r (ALok.r (ALok.r (ALok.b (ALok.r (ALok.b (ALok.r (ALok.r (ALok.b (ALok.r (ALok.r (ALok.c ALok.nil))))))))))))))
            refine' DT.r rfl rfl rfl ?hq ?_
            case hq =>
              refine WO.p rfl rfl ?_
              exact WO.nil ⟨rfl, rfl⟩
            refine' DT.b rfl rfl rfl ?hq ?_
            case hq =>
              refine WO.load rfl rfl (Cell.own (Pick.tail (Pick.head)) rfl) rfl ?_
              exact WO.nil ⟨rfl, rfl⟩
            refine' DT.r rfl rfl rfl ?hq ?_
            case hq =>
              refine WO.p rfl rfl ?_
              exact WO.nil ⟨rfl, rfl⟩
            refine' DT.r rfl rfl rfl ?hq ?_
            case hq =>
              refine WO.field0 rfl rfl rfl ?_
              exact WO.nil ⟨rfl, rfl⟩
            refine' DT.r rfl rfl rfl ?hq ?_
            case hq =>
              refine WO.field0 rfl rfl rfl ?_
              exact WO.nil ⟨rfl, rfl⟩
            refine' DT.b rfl rfl rfl ?hq ?_
            case hq =>
              refine' WO.load (v := _) rfl rfl ?hc rfl ?_
              case hc => (first | (refine DrS.cell0 (S := S) (v := v) hS' ?_; exact (by repeat (first | exact Sub.nil | refine Sub.cons (by repeat (first | exact Pick.head | apply Pick.tail)) ?_))))
              exact WO.nil ⟨rfl, rfl⟩
            refine' DT.r rfl rfl rfl ?hq ?_
            case hq =>
              refine WO.field0 rfl rfl rfl ?_
              exact WO.nil ⟨rfl, rfl⟩
            refine' DT.b rfl rfl rfl ?hq ?_
            case hq =>
              refine WO.load rfl rfl (Cell.own Pick.head rfl) rfl ?_
              exact WO.nil ⟨rfl, rfl⟩
            refine' DT.r rfl rfl rfl ?hq ?_
            case hq =>
              refine' WO.indexAddr (n := _) (i := _) rfl rfl rfl ?hs ?h1 rfl ?_
              case hs => (first | exact hv)
              case h1 => (first | omega | (simp; omega))
              exact WO.nil ⟨rfl, rfl⟩
            refine' DT.r rfl rfl rfl ?hq ?_
            case hq =>
              refine WO.field0 rfl rfl rfl ?_
              exact WO.nil ⟨rfl, rfl⟩
            refine' DT.b rfl rfl rfl ?hq ?_
            case hq =>
              refine' WO.load (v := _) rfl rfl ?hc rfl ?_
              case hc => (first | (refine DrS.lo (S := S) (i := i + 1) hS' ?_ (by omega) ?_ rfl; exact (by repeat (first | exact Sub.nil | refine Sub.cons (by repeat (first | exact Pick.head | apply Pick.tail)) ?_)); omega))
              exact WO.nil ⟨rfl, rfl⟩
            refine' DT.r rfl rfl rfl ?hq ?_
            case hq =>
              refine WO.p rfl rfl ?_
              exact WO.nil ⟨rfl, rfl⟩
            refine' DT.r rfl rfl rfl ?hq ?_
            case hq =>
              refine WO.ar rfl rfl rfl (by (first | (unfold in64; omega) | (unfold in64; omega))) rfl ?_
              exact WO.nil ⟨rfl, rfl⟩
            refine DT.c [_, _, _, _, _] rfl rfl rfl rfl ?_
            refine' WO.buildSl (cs := _) rfl rfl rfl rfl ?hf rfl rfl ?hl rfl (fun v6 => ?_)
            case hf => (conv => lhs; simp [-List.getD_eq_getElem?_getD, fillL, vcl, wrl, TTab.pl?.lget']) <;> rfl
            case hl => rfl
            refine WO.nil ⟨_, [_, _], rfl, rfl, (Keep.r (Keep.r (Keep.b (Keep.r (Keep.r (Keep.b (Keep.r (Keep.b (Keep.r (Keep.r (Keep.r (Keep.b (Keep.r Keep.nil))))))))))))), ?_⟩
            refine DT.nil [_, _, _, _, _, _] rfl ?_
            refine' WO.appendE (enc := encI) (m := 1) (xs := pre) (ys := [(l.getD (i + 1) (0, 0)).1 + (cAt Bc T l i a b s : Int)]) encI_ok rfl rfl rfl rfl rfl (by repeat (first | exact Pick.head | apply Pick.tail)) (isSl_lit (by omega) (fun _ => ⟨_, _, rfl⟩)) (by omega) rfl (OwC.cells .head) (by omega) (by omega) rfl (fun g c => ?_)
            refine WO.p rfl rfl ?_
            refine WO.nil ?_
            refine' ⟨i + 1, b, cAt Bc T l i a b s, sg s (dif l i a b (cAt Bc T l i a b s)), _, _, ?hp, ?hmu, ⟨rfl, rfl, rfl, rfl, trivial⟩, ?hS⟩
            case hS => repeat (first | exact Sub.nil | refine Sub.cons (by repeat (first | exact Pick.head | apply Pick.tail)) ?_)
            case hp => exact ⟨by omega, by omega, hb, hcc, sg_lt hs, by simp; omega, by rw [← hpre, goAt_succ (i := i) (by omega)]; simp⟩
            case hmu => omega)
       · first
         | (exfalso; omega)
         | (refine W.exit (blk_same ?_)
            refine W.sreg ?_
            refine WO.p rfl rfl (WO.p rfl rfl (WO.p rfl rfl (WO.p rfl rfl ?_)))
            refine WO.nil ?_
            refine W.ret ?_
            first | (have e7 : bestL Bc T l = [(l.getD 0 (0, 0)).1] := if_pos (by omega); have e8 : bestC Bc T l = 0 := if_pos (by omega); rw [e7, e8]; exact fin.ret (Res.two rfl (RV.tmp rfl) (RV.tmp rfl)) ⟨_, rfl, fun h hs => Sub.sat (.cons .head .nil) hs⟩) | (rw [goAt_last (i := i) (by omega), List.append_nil] at hpre; rw [← hpre, e6]; exact fin.ret (Res.two rfl (RV.tmp rfl) (RV.tmp rfl)) ⟨_, rfl, fun h hs => Sub.sat (by repeat (first | exact Sub.nil | refine Sub.cons (by repeat (first | exact Pick.head | apply Pick.tail)) ?_)) hs⟩)))
end Go.Proofs.Ytpecakgebhmnfaa
