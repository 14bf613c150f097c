/-
  What is proved here: a table of the program's types (cells, fields, elements, zero values) agrees with the program. Conditions: none.
  What is proved here: which books and rows are valid. Conditions: none; each contract states its own.
  What is proved here: which books and rows are valid, by the document's answer. Conditions: none; each contract states its own.
  What is proved here: rows as arrays, and sums by a row. Conditions: none; each contract states its own.
  What is proved here: which proofs are right. Conditions: none; each contract states its own.
  What is proved here: which proofs are right, by the document's answer. Conditions: none; each contract states its own.
  What is proved here: which twins are right. Conditions: none; each contract states its own.
-/
import Derived.Test.YtelmclmklkiphaaM2
import Derived.Test.YtelmclmklkiphaaChecked
import Derived.KernelRfl
import Derived.Test.YtelmclmklkiphaaM3
set_option linter.unusedVariables false
set_option linter.unusedSimpArgs false
namespace Go.Proofs.Ytelmclmklkiphaa
open Go Go.TH
def tyList : List TI := [⟨.none, 0, none⟩,
  ⟨.one, 1, some (.nilFunc)⟩,
  ⟨.int .i64, 1, some (.int .i64 0)⟩,
  ⟨.int .i64, 1, some (.int .i64 0)⟩,
  ⟨.one, 1, some (.bool false)⟩,
  ⟨.int .u8, 1, some (.int .u8 0)⟩,
  ⟨.int .u8, 1, some (.int .u8 0)⟩,
  ⟨.st [(0, 2), (1, 3), (2, 4), (3, 6)], 4, some (.agg #[.int .i64 0, .int .i64 0, .bool false, .int .u8 0])⟩,
  ⟨.st [(0, 2), (1, 3), (2, 4), (3, 6)], 4, some (.agg #[.int .i64 0, .int .i64 0, .bool false, .int .u8 0])⟩,
  ⟨.none, 0, none⟩,
  ⟨.none, 0, none⟩,
  ⟨.none, 0, none⟩,
  ⟨.int .u64, 1, some (.int .u64 0)⟩,
  ⟨.st [(0, 9), (1, 12)], 2, none⟩,
  ⟨.st [(0, 9), (1, 12)], 2, none⟩,
  ⟨.one, 1, some (.pointer none)⟩,
  ⟨.one, 1, some (.pointer none)⟩,
  ⟨.one, 1, some (.pointer none)⟩,
  ⟨.st [(0, 17)], 1, some (.agg #[.pointer none])⟩,
  ⟨.st [(0, 17)], 1, some (.agg #[.pointer none])⟩,
  ⟨.one, 1, some (.nilIface)⟩,
  ⟨.int .i32, 1, some (.int .i32 0)⟩,
  ⟨.sl 25 1 24, 1, some (.slice none 0 0)⟩,
  ⟨.st [(0, 3), (1, 22)], 2, some (.agg #[.int .i64 0, .slice none 0 0])⟩,
  ⟨.st [(0, 3), (1, 22)], 2, some (.agg #[.int .i64 0, .slice none 0 0])⟩,
  ⟨.sl 2 1 8, 1, some (.slice none 0 0)⟩,
  ⟨.st [(0, 25), (1, 2)], 2, some (.agg #[.slice none 0 0, .int .i64 0])⟩,
  ⟨.st [(0, 25), (1, 2)], 2, some (.agg #[.slice none 0 0, .int .i64 0])⟩,
  ⟨.one, 1, some (.nilFunc)⟩,
  ⟨.one, 1, some (.nilFunc)⟩,
  ⟨.int .i64, 1, some (.int .i64 0)⟩,
  ⟨.one, 1, some (.nilFunc)⟩,
  ⟨.one, 1, some (.nilFunc)⟩,
  ⟨.none, 0, none⟩,
  ⟨.one, 1, some (.nilFunc)⟩,
  ⟨.none, 0, none⟩,
  ⟨.one, 1, some (.nilFunc)⟩,
  ⟨.one, 1, some (.nilFunc)⟩,
  ⟨.one, 1, some (.nilFunc)⟩,
  ⟨.one, 1, some (.nilFunc)⟩,
  ⟨.one, 1, some (.nilFunc)⟩,
  ⟨.one, 1, some (.nilFunc)⟩,
  ⟨.one, 1, some (.nilFunc)⟩,
  ⟨.one, 1, some (.nilFunc)⟩,
  ⟨.none, 0, none⟩,
  ⟨.one, 1, some (.nilFunc)⟩,
  ⟨.one, 1, some (.nilFunc)⟩,
  ⟨.one, 1, some (.nilFunc)⟩,
  ⟨.one, 1, some (.nilFunc)⟩,
  ⟨.one, 1, some (.nilFunc)⟩,
  ⟨.st [(0, 2), (1, 2)], 2, some (.agg #[.int .i64 0, .int .i64 0])⟩,
  ⟨.st [(0, 2), (1, 2)], 2, some (.agg #[.int .i64 0, .int .i64 0])⟩,
  ⟨.none, 0, none⟩,
  ⟨.one, 1, some (.nilFunc)⟩,
  ⟨.one, 1, some (.nilFunc)⟩,
  ⟨.one, 1, some (.nilFunc)⟩,
  ⟨.ar 5 2 1, 5, some (.agg #[.int .i64 0, .int .i64 0, .int .i64 0, .int .i64 0, .int .i64 0])⟩,
  ⟨.ar 5 2 1, 5, some (.agg #[.int .i64 0, .int .i64 0, .int .i64 0, .int .i64 0, .int .i64 0])⟩,
  ⟨.one, 1, some (.nilFunc)⟩,
  ⟨.one, 1, some (.nilFunc)⟩,
  ⟨.one, 1, some (.nilFunc)⟩,
  ⟨.one, 1, some (.nilFunc)⟩,
  ⟨.one, 1, some (.nilFunc)⟩,
  ⟨.one, 1, some (.nilFunc)⟩,
  ⟨.one, 1, some (.pointer none)⟩,
  ⟨.none, 0, none⟩,
  ⟨.one, 1, some (.nilFunc)⟩,
  ⟨.st [(0, 57), (5, 2)], 6, some (.agg #[.int .i64 0, .int .i64 0, .int .i64 0, .int .i64 0, .int .i64 0, .int .i64 0])⟩,
  ⟨.st [(0, 57), (5, 2)], 6, some (.agg #[.int .i64 0, .int .i64 0, .int .i64 0, .int .i64 0, .int .i64 0, .int .i64 0])⟩,
  ⟨.ar 8 2 1, 8, some (.agg #[.int .i64 0, .int .i64 0, .int .i64 0, .int .i64 0, .int .i64 0, .int .i64 0, .int .i64 0, .int .i64 0])⟩,
  ⟨.st [(0, 68), (6, 69), (14, 2)], 15, some (.agg #[.int .i64 0, .int .i64 0, .int .i64 0, .int .i64 0, .int .i64 0, .int .i64 0, .int .i64 0, .int .i64 0, .int .i64 0, .int .i64 0, .int .i64 0, .int .i64 0, .int .i64 0, .int .i64 0, .int .i64 0])⟩,
  ⟨.st [(0, 68), (6, 69), (14, 2)], 15, some (.agg #[.int .i64 0, .int .i64 0, .int .i64 0, .int .i64 0, .int .i64 0, .int .i64 0, .int .i64 0, .int .i64 0, .int .i64 0, .int .i64 0, .int .i64 0, .int .i64 0, .int .i64 0, .int .i64 0, .int .i64 0])⟩,
  ⟨.one, 1, some (.nilFunc)⟩,
  ⟨.one, 1, some (.nilFunc)⟩,
  ⟨.one, 1, some (.nilFunc)⟩,
  ⟨.one, 1, some (.nilFunc)⟩,
  ⟨.one, 1, some (.nilFunc)⟩,
  ⟨.one, 1, some (.nilFunc)⟩,
  ⟨.one, 1, some (.map none)⟩,
  ⟨.st [(0, 3), (1, 78)], 2, some (.agg #[.int .i64 0, .map none])⟩,
  ⟨.st [(0, 3), (1, 78)], 2, some (.agg #[.int .i64 0, .map none])⟩,
  ⟨.one, 1, some (.nilFunc)⟩,
  ⟨.one, 1, some (.nilFunc)⟩,
  ⟨.one, 1, some (.nilFunc)⟩,
  ⟨.one, 1, some (.nilFunc)⟩,
  ⟨.one, 1, some (.nilFunc)⟩,
  ⟨.one, 1, some (.nilFunc)⟩,
  ⟨.one, 1, some (.nilFunc)⟩,
  ⟨.none, 0, none⟩,
  ⟨.none, 0, none⟩,
  ⟨.one, 1, some (.nilFunc)⟩,
  ⟨.one, 1, some (.nilFunc)⟩,
  ⟨.one, 1, some (.nilFunc)⟩,
  ⟨.one, 1, some (.nilFunc)⟩,
  ⟨.one, 1, some (.nilFunc)⟩,
  ⟨.one, 1, some (.nilFunc)⟩,
  ⟨.one, 1, some (.nilFunc)⟩,
  ⟨.st [(0, 17), (1, 17), (2, 17), (3, 9)], 4, none⟩,
  ⟨.st [(0, 17), (1, 17), (2, 17), (3, 9)], 4, none⟩,
  ⟨.none, 0, none⟩,
  ⟨.none, 0, none⟩,
  ⟨.none, 0, none⟩,
  ⟨.int .u32, 1, some (.int .u32 0)⟩,
  ⟨.int .u8, 1, some (.int .u8 0)⟩,
  ⟨.int .u8, 1, some (.int .u8 0)⟩,
  ⟨.one, 1, some (.nilFunc)⟩,
  ⟨.one, 1, some (.pointer none)⟩,
  ⟨.int .i32, 1, some (.int .i32 0)⟩,
  ⟨.int .i32, 1, some (.int .i32 0)⟩,
  ⟨.st [(0, 12), (1, 12), (2, 102), (3, 103), (4, 5), (5, 5), (6, 104), (7, 105), (8, 106), (9, 107), (10, 108)], 11, some (.agg #[.int .u64 0, .int .u64 0, .int .u32 0, .int .u8 0, .int .u8 0, .int .u8 0, .int .u8 0, .nilFunc, .pointer none, .int .i32 0, .int .i32 0])⟩,
  ⟨.st [(0, 12), (1, 12), (2, 102), (3, 103), (4, 5), (5, 5), (6, 104), (7, 105), (8, 106), (9, 107), (10, 108)], 11, some (.agg #[.int .u64 0, .int .u64 0, .int .u32 0, .int .u8 0, .int .u8 0, .int .u8 0, .int .u8 0, .nilFunc, .pointer none, .int .i32 0, .int .i32 0])⟩,
  ⟨.none, 0, none⟩]
theorem ty_ok : (tyList.zipIdx.all fun (ti, T) => tiChk Try.prog T ti) = true := by kernel_rfl
def tyTab : TTab Try.prog := ⟨tyList, ty_ok⟩
theorem mixed : Try.prog.follows .mixedOrders = true := by kernel_rfl
end Go.Proofs.Ytelmclmklkiphaa
namespace Go.Proofs.Ytelmclmklkiphaa
open Go Go.TH
attribute [local irreducible] W WO pt
set_option maxRecDepth 10000
set_option maxHeartbeats 1000000
def bookV (n : Int) (v : Value) : Value := .agg #[.int .i64 n, v]
def WiB (m : Int) (xs : List Int) : Prop := ∀ x ∈ xs, -m ≤ x ∧ x ≤ m
instance (m : Int) (xs : List Int) : Decidable (WiB m xs) := by unfold WiB; infer_instance
theorem WiB.at_ {m : Int} {xs : List Int} (h : WiB m xs) {i : Nat} (hi : i < xs.length) : -m ≤ xs.getD i 0 ∧ xs.getD i 0 ≤ m := h _ (getD_mem hi 0)
/-- the error of a book -/
def chkB (n : Int) (rows : List (List Int)) : Int :=
  if 8 < rows.length then 6 else if n < 1 ∨ 5 < n then 2 else if ¬ ∀ r ∈ rows, (r.length : Int) = n then 15 else if ¬ ∀ r ∈ rows, WiB 4 r then 3 else 0
def OkB (n : Int) (rows : List (List Int)) : Prop := rows.length ≤ 8 ∧ (1 ≤ n ∧ n ≤ 5) ∧ (∀ r ∈ rows, (r.length : Int) = n) ∧ ∀ r ∈ rows, WiB 4 r
theorem chkB0 {n : Int} {rows : List (List Int)} : chkB n rows = 0 ↔ OkB n rows := by
  unfold chkB OkB
  split
  · exact ⟨fun h => by omega, fun h => by omega⟩
  split
  · exact ⟨fun h => by omega, fun h => by omega⟩
  split
  · exact ⟨fun h => by omega, fun h => absurd h.2.2.1 (by assumption)⟩
  split
  · exact ⟨fun h => by omega, fun h => absurd h.2.2.2 (by assumption)⟩
  exact ⟨fun _ => ⟨by omega, by omega, Decidable.not_not.1 (by assumption), Decidable.not_not.1 (by assumption)⟩, fun _ => rfl⟩
/-- the error of a row -/
def chkR (n : Int) (r : List Int) : Int := if (r.length : Int) ≠ n then 15 else if ¬ WiB 4 r then 3 else 0
theorem chkR0 {n : Int} {r : List Int} : chkR n r = 0 ↔ (r.length : Int) = n ∧ WiB 4 r := by
  unfold chkR
  split
  · exact ⟨fun h => by omega, fun h => absurd h.1 (by assumption)⟩
  split
  · exact ⟨fun h => by omega, fun h => absurd h.2 (by assumption)⟩
  exact ⟨fun _ => ⟨Decidable.not_not.1 (by assumption), Decidable.not_not.1 (by assumption)⟩, fun _ => rfl⟩
/-- and of both -/
def chkBR (n : Int) (rows : List (List Int)) (r : List Int) : Int := if chkB n rows ≠ 0 then chkB n rows else chkR n r
theorem chkBR0 {n : Int} {rows : List (List Int)} {r : List Int} : chkBR n rows r = 0 ↔ OkB n rows ∧ (r.length : Int) = n ∧ WiB 4 r := by
  unfold chkBR
  split
  · exact ⟨fun h => by omega, fun h => absurd (chkB0.2 h.1) (by assumption)⟩
  rw [chkR0]
  exact ⟨fun h => ⟨chkB0.1 (Decidable.not_not.1 (by assumption)), h⟩, fun h => h.2⟩
/-! ## The program's tests -/
theorem c_IndexI (w : World) (o : Value) (xs : List Int) (F : Nat) (cp : List Value) (q : Int → Prop) [∀ x, Decidable (q x)] (hR : RdF encI 1 w.heap.size w o xs) (hcall : ∀ (args : Array Value) (w : World), (callFunc F args).run Try.prog w = .ok (.enter F args) w)
    (hq : ∀ x w', (∀ k, k < w.heap.size → w'.heap[k]? = w.heap[k]?) → w.heap.size ≤ w'.heap.size → Ret Try.prog F (Value.int .i64 x :: cp).toArray w' (.bool (bl (q x)))) : RetE Try.prog 59 [o, .func (.func F) #[] cp.toArray].toArray w (fun v => ∃ n : Int, v = .int .i64 n ∧ (0 ≤ n ↔ ¬ ∀ x ∈ xs, ¬ q x)) := by
  refine RetE.of mixed tyTab Try.func59 rfl rfl ?_
  replace hR : RdF encI 1 (fnCx mixed tyTab Try.f59.ntmps w).B (fnCx mixed tyTab Try.f59.ntmps w).w0 o xs := hR
  have hle := hR.sl.le
  refine W.sreg ?_
  refine WO.p rfl rfl ?_
  refine WO.nil ?_
  refine W.seq ?_
  refine W.sreg ?_
  refine WO.p rfl rfl ?_
  refine' WO.len (n := _) rfl rfl ?hs rfl ?_
  case hs => (first | exact hR.sl)
  refine WO.p rfl rfl ?_
  refine WO.nil ?_
  refine W.block ?_
  refine W.loop (fun (i : Nat) => i ≤ xs.length ∧ ∀ x ∈ xs.take i, ¬ q x)
    (fun (i : Nat) => [(8, .int .i64 (i : Int)), (7, .int .i64 (xs.length : Int)), (0, o), (1, .func (.func F) #[] cp.toArray)])
    (fun (i : Nat) => [])
    (fun (i : Nat) => xs.length - i) 0
    (by exact ⟨by omega, by simp⟩) ⟨rfl, rfl, rfl, rfl, trivial⟩ (by repeat (first | exact Sub.nil | refine Sub.cons (by repeat (first | exact Pick.head | apply Pick.tail)) ?_)) ?_
  rintro i ⟨hi, hal⟩
  refine W.sreg ?_
  refine WO.p rfl rfl ?_
  refine WO.nil ?_
  refine W.seq ?_
  refine W.cond_bl rfl (fun c1 => ?_) (fun c1 => ?_)
  · first
    | (exfalso; omega)
    | (refine W.skip ?_
       refine W.seq ?_
       refine W.block ?_
       refine W.sreg ?_
       refine WO.p rfl rfl (WO.p rfl rfl ?_)
       refine WO.nil ?_
       refine W.sreg ?_
       refine WO.p rfl rfl (WO.p rfl rfl (WO.p rfl rfl ?_))
       refine' WO.indexAddr (n := _) (i := _) rfl rfl rfl ?hs ?h1 rfl ?_
       case hs => (first | exact hR.sl)
       case h1 => (first | omega | (simp; omega))
       refine' WO.load (v := _) rfl rfl ?hc rfl ?_
       case hc => (first | (refine hR.cell0 ?_ 0 ?_ <;> first | rfl | omega))
       refine WO.callCR (first := []) (captured := cp) (r := .bool (bl (q (xs.getD i 0)))) rfl rfl hcall (fun L w' hi' => hq _ w' hi'.keepB hi'.size) rfl ?_
       refine WO.nil ?_
       refine W.cond_bl rfl (fun c2 => ?_) (fun c2 => ?_)
       · first
         | (exfalso; omega)
         | (refine W.sreg ?_
            refine WO.p rfl rfl (WO.p rfl rfl ?_)
            refine WO.nil ?_
            refine W.ret ?_
            exact fin.ret (Res.one rfl (RV.tmp rfl)) ⟨_, rfl, by first | exact ⟨fun h => by omega, fun h => absurd (all_len (by omega) hal) h⟩ | exact ⟨fun _ => not_all_getD (i := i) (by omega) 0 (fun g => g (by assumption)), fun _ => by omega⟩⟩)
       first
       | (exfalso; omega)
       | (refine W.skip ?_
          refine W.region ?_
          refine WO.ar rfl rfl rfl (by (first | (unfold in64; omega))) rfl (WO.p rfl rfl ?_)
          refine WO.nil ?_
          refine' ⟨i + 1, ?hp, ?hmu, ⟨rfl, rfl, rfl, rfl, trivial⟩, ?hS⟩
          case hS => repeat (first | exact Sub.nil | refine Sub.cons (by repeat (first | exact Pick.head | apply Pick.tail)) ?_)
          case hp => exact ⟨by omega, all_succ (by omega) 0 hal (by assumption)⟩
          case hmu => omega))
  first
  | (exfalso; omega)
  | (refine W.exit (blk_same ?_)
     refine W.sreg ?_
     refine WO.p rfl rfl ?_
     refine WO.nil ?_
     refine W.ret ?_
     exact fin.ret (Res.one rfl (RV.tmp rfl)) ⟨_, rfl, by first | exact ⟨fun h => by omega, fun h => absurd (all_len (by omega) hal) h⟩ | exact ⟨fun _ => not_all_getD (i := i) (by omega) 0 (fun g => g (by assumption)), fun _ => by omega⟩⟩)
theorem c_ContI (w : World) (o : Value) (xs : List Int) (F : Nat) (cp : List Value) (q : Int → Prop) [∀ x, Decidable (q x)] (hR : RdF encI 1 w.heap.size w o xs) (hcall : ∀ (args : Array Value) (w : World), (callFunc F args).run Try.prog w = .ok (.enter F args) w)
    (hq : ∀ x w', (∀ k, k < w.heap.size → w'.heap[k]? = w.heap[k]?) → w.heap.size ≤ w'.heap.size → Ret Try.prog F (Value.int .i64 x :: cp).toArray w' (.bool (bl (q x)))) : Ret Try.prog 47 [o, .func (.func F) #[] cp.toArray].toArray w (.bool (bl (¬ ∀ x ∈ xs, ¬ q x))) := by
  refine Ret.of mixed tyTab Try.func47 rfl rfl ?_
  replace hR : RdF encI 1 (fnCx mixed tyTab Try.f47.ntmps w).B (fnCx mixed tyTab Try.f47.ntmps w).w0 o xs := hR
  refine W.sreg ?_
  refine WO.p rfl rfl ?_
  refine WO.nil ?_
  refine W.sreg ?_
  refine WO.p rfl rfl (WO.p rfl rfl ?_)
  refine WO.callE rfl Try.call59 (fun L w' hi => c_IndexI w' o xs F cp q (hR.later hi) hcall (fun x w2 h1 h2 => hq x w2 (fun k hk => by rw [h1 k (Nat.lt_of_lt_of_le hk hi.size)]; exact hi.keepB k hk) (Nat.le_trans hi.size h2))) rfl ?_
  rintro _ ⟨n, rfl, hn⟩
  refine WO.p rfl rfl (WO.p rfl rfl ?_)
  refine WO.nil ?_
  refine W.ret ?_
  refine fin.ret (Res.one rfl (RV.tmp rfl)) ?_
  refine congrArg Value.bool ?_
  rw [bl_eq, bl_eq]; exact decide_eq_decide.2 hn
theorem c_IndexR (w : World) (o : Value) (rv : List Value) (rows : List (List Int)) (F : Nat) (cp : List Value) (q : List Int → Prop) [∀ x, Decidable (q x)] (hR : RdR encI 1 w.heap.size w o rv rows) (hcall : ∀ (args : Array Value) (w : World), (callFunc F args).run Try.prog w = .ok (.enter F args) w)
    (hq : ∀ i, i < rows.length → ∀ w', (∀ k, k < w.heap.size → w'.heap[k]? = w.heap[k]?) → w.heap.size ≤ w'.heap.size → Ret Try.prog F (rv.getD i undef :: cp).toArray w' (.bool (bl (q (rows.getD i []))))) : RetE Try.prog 49 [o, .func (.func F) #[] cp.toArray].toArray w (fun v => ∃ n : Int, v = .int .i64 n ∧ (0 ≤ n ↔ ¬ ∀ x ∈ rows, ¬ q x)) := by
  refine RetE.of mixed tyTab Try.func49 rfl rfl ?_
  replace hR : RdR encI 1 (fnCx mixed tyTab Try.f49.ntmps w).B (fnCx mixed tyTab Try.f49.ntmps w).w0 o rv rows := hR
  have hle := hR.sl.le
  refine W.sreg ?_
  refine WO.p rfl rfl ?_
  refine WO.nil ?_
  refine W.seq ?_
  refine W.sreg ?_
  refine WO.p rfl rfl ?_
  refine' WO.len (n := _) rfl rfl ?hs rfl ?_
  case hs => (first | exact hR.sl)
  refine WO.p rfl rfl ?_
  refine WO.nil ?_
  refine W.block ?_
  refine W.loop (fun (i : Nat) => i ≤ rows.length ∧ ∀ x ∈ rows.take i, ¬ q x)
    (fun (i : Nat) => [(8, .int .i64 (i : Int)), (7, .int .i64 (rows.length : Int)), (0, o), (1, .func (.func F) #[] cp.toArray)])
    (fun (i : Nat) => [])
    (fun (i : Nat) => rows.length - i) 0
    (by exact ⟨by omega, by simp⟩) ⟨rfl, rfl, rfl, rfl, trivial⟩ (by repeat (first | exact Sub.nil | refine Sub.cons (by repeat (first | exact Pick.head | apply Pick.tail)) ?_)) ?_
  rintro i ⟨hi, hal⟩
  refine W.sreg ?_
  refine WO.p rfl rfl ?_
  refine WO.nil ?_
  refine W.seq ?_
  refine W.cond_bl rfl (fun c1 => ?_) (fun c1 => ?_)
  · first
    | (exfalso; omega)
    | (refine W.skip ?_
       refine W.seq ?_
       refine W.block ?_
       refine W.sreg ?_
       refine WO.p rfl rfl (WO.p rfl rfl ?_)
       refine WO.nil ?_
       refine W.sreg ?_
       refine WO.p rfl rfl (WO.p rfl rfl (WO.p rfl rfl ?_))
       refine' WO.indexAddr (n := _) (i := _) rfl rfl rfl ?hs ?h1 rfl ?_
       case hs => (first | exact hR.sl)
       case h1 => (first | omega | (simp; omega))
       refine' WO.load (v := _) rfl rfl ?hc rfl ?_
       case hc => (first | (refine hR.cellV ?_; omega))
       refine WO.callCR (first := []) (captured := cp) (r := .bool (bl (q (rows.getD i [])))) rfl rfl hcall (fun L w' hi' => hq i (by omega) w' hi'.keepB hi'.size) rfl ?_
       refine WO.nil ?_
       refine W.cond_bl rfl (fun c2 => ?_) (fun c2 => ?_)
       · first
         | (exfalso; omega)
         | (refine W.sreg ?_
            refine WO.p rfl rfl (WO.p rfl rfl ?_)
            refine WO.nil ?_
            refine W.ret ?_
            exact fin.ret (Res.one rfl (RV.tmp rfl)) ⟨_, rfl, by first | exact ⟨fun h => by omega, fun h => absurd (all_len (by omega) hal) h⟩ | exact ⟨fun _ => not_all_getD (i := i) (by omega) [] (fun g => g (by assumption)), fun _ => by omega⟩⟩)
       first
       | (exfalso; omega)
       | (refine W.skip ?_
          refine W.region ?_
          refine WO.ar rfl rfl rfl (by (first | (unfold in64; omega))) rfl (WO.p rfl rfl ?_)
          refine WO.nil ?_
          refine' ⟨i + 1, ?hp, ?hmu, ⟨rfl, rfl, rfl, rfl, trivial⟩, ?hS⟩
          case hS => repeat (first | exact Sub.nil | refine Sub.cons (by repeat (first | exact Pick.head | apply Pick.tail)) ?_)
          case hp => exact ⟨by omega, all_succ (by omega) [] hal (by assumption)⟩
          case hmu => omega))
  first
  | (exfalso; omega)
  | (refine W.exit (blk_same ?_)
     refine W.sreg ?_
     refine WO.p rfl rfl ?_
     refine WO.nil ?_
     refine W.ret ?_
     exact fin.ret (Res.one rfl (RV.tmp rfl)) ⟨_, rfl, by first | exact ⟨fun h => by omega, fun h => absurd (all_len (by omega) hal) h⟩ | exact ⟨fun _ => not_all_getD (i := i) (by omega) [] (fun g => g (by assumption)), fun _ => by omega⟩⟩)
theorem c_ContR (w : World) (o : Value) (rv : List Value) (rows : List (List Int)) (F : Nat) (cp : List Value) (q : List Int → Prop) [∀ x, Decidable (q x)] (hR : RdR encI 1 w.heap.size w o rv rows) (hcall : ∀ (args : Array Value) (w : World), (callFunc F args).run Try.prog w = .ok (.enter F args) w)
    (hq : ∀ i, i < rows.length → ∀ w', (∀ k, k < w.heap.size → w'.heap[k]? = w.heap[k]?) → w.heap.size ≤ w'.heap.size → Ret Try.prog F (rv.getD i undef :: cp).toArray w' (.bool (bl (q (rows.getD i []))))) : Ret Try.prog 34 [o, .func (.func F) #[] cp.toArray].toArray w (.bool (bl (¬ ∀ x ∈ rows, ¬ q x))) := by
  refine Ret.of mixed tyTab Try.func34 rfl rfl ?_
  replace hR : RdR encI 1 (fnCx mixed tyTab Try.f34.ntmps w).B (fnCx mixed tyTab Try.f34.ntmps w).w0 o rv rows := hR
  refine W.sreg ?_
  refine WO.p rfl rfl ?_
  refine WO.nil ?_
  refine W.sreg ?_
  refine WO.p rfl rfl (WO.p rfl rfl ?_)
  refine WO.callE rfl Try.call49 (fun L w' hi => c_IndexR w' o rv rows F cp q (hR.later hi) hcall (fun i hil w2 h1 h2 => hq i hil w2 (fun k hk => by rw [h1 k (Nat.lt_of_lt_of_le hk hi.size)]; exact hi.keepB k hk) (Nat.le_trans hi.size h2))) rfl ?_
  rintro _ ⟨n, rfl, hn⟩
  refine WO.p rfl rfl (WO.p rfl rfl ?_)
  refine WO.nil ?_
  refine W.ret ?_
  refine fin.ret (Res.one rfl (RV.tmp rfl)) ?_
  refine congrArg Value.bool ?_
  rw [bl_eq, bl_eq]; exact decide_eq_decide.2 hn
theorem Cap.keep {w w' : World} {p : Addr} {v : Value} (h : Cap w p v) (hk : ∀ k, k < w.heap.size → w'.heap[k]? = w.heap[k]?) (hs : w.heap.size ≤ w'.heap.size) : Cap w' p v :=
  ⟨Nat.lt_of_lt_of_le h.lt hs, by rw [cell_agree hk h.lt]; exact h.at_⟩
theorem RdF.keep {α : Type} {enc : α → List Value} {sz : Nat} {w w' : World} {v : Value} {xs : List α} (h : RdF enc sz w.heap.size w v xs) (hk : ∀ k, k < w.heap.size → w'.heap[k]? = w.heap[k]?) (hs : w.heap.size ≤ w'.heap.size) : RdF enc sz w'.heap.size w' v xs := (h.agree hk).up hs
theorem RdR.keep {α : Type} {enc : α → List Value} {sz : Nat} {w w' : World} {v : Value} {rv : List Value} {xss : List (List α)} (h : RdR enc sz w.heap.size w v rv xss) (hk : ∀ k, k < w.heap.size → w'.heap[k]? = w.heap[k]?) (hs : w.heap.size ≤ w'.heap.size) : RdR enc sz w'.heap.size w' v rv xss := (h.agree hk).up hs
theorem c_within1 (w : World) (x m : Int) (p : Addr) (hc : Cap w p (.int .i64 m)) (hm : in64 (-m)) : Ret Try.prog 48 [.int .i64 x, .pointer (some p)].toArray w (.bool (bl (x < -m ∨ m < x))) := by
  refine Ret.of mixed tyTab Try.func48 rfl rfl ?_
  replace hc : Cap (fnCx mixed tyTab Try.f48.ntmps w).w0 p (.int .i64 m) := hc
  refine W.sreg ?_
  refine WO.p rfl rfl ?_
  refine WO.nil ?_
  refine W.sreg ?_
  refine WO.p rfl rfl ?_
  refine' WO.load (v := _) rfl rfl ?hc rfl ?_
  case hc => (first | (refine Cap.cell (v := .int .i64 m) rfl hc))
  refine WO.neg rfl (by (first | (unfold in64; omega) | assumption)) rfl (WO.p rfl rfl (WO.p rfl rfl ?_))
  refine WO.guard_bl rfl rfl (fun c1 => ?_) (fun c1 => ?_)
  · first
    | (exfalso; omega)
    | (refine WO.no rfl rfl (WO.no rfl rfl (WO.no rfl rfl (WO.p rfl rfl (WO.p rfl rfl ?_))))
       refine WO.nil ?_
       refine W.ret ?_
       refine fin.ret (Res.one rfl (RV.tmp rfl)) (congrArg Value.bool ?_)
       first | exact (bl_t.2 (by omega)).symm | exact (bl_f.2 (by omega)).symm | (rw [bl_eq, bl_eq, decide_eq_decide]; omega))
  first
  | (exfalso; omega)
  | (refine WO.pg rfl rfl rfl (WO.go' rfl ?_)
     refine' WO.load (v := _) rfl rfl ?hc rfl ?_
     case hc => (first | (refine Cap.cell (v := .int .i64 m) rfl hc))
     refine WO.pg rfl rfl rfl (WO.p rfl rfl (WO.p rfl rfl ?_))
     refine WO.nil ?_
     refine W.ret ?_
     refine fin.ret (Res.one rfl (RV.tmp rfl)) (congrArg Value.bool ?_)
     first | exact (bl_t.2 (by omega)).symm | exact (bl_f.2 (by omega)).symm | (rw [bl_eq, bl_eq, decide_eq_decide]; omega))
theorem c_within (w : World) (o : Value) (xs : List Int) (m : Int) (hR : RdF encI 1 w.heap.size w o xs) (hm : in64 (-m)) : Ret Try.prog 29 [.int .i64 m, o].toArray w (.bool (bl (WiB m xs))) := by
  refine Ret.of mixed tyTab Try.func29 rfl rfl ?_
  replace hR : RdF encI 1 (fnCx mixed tyTab Try.f29.ntmps w).B (fnCx mixed tyTab Try.f29.ntmps w).w0 o xs := hR
  refine W.sreg ?_
  refine WO.box1 rfl (by first | rfl | assumption) rfl (fun b1 hb1 => ?_)
  refine WO.p rfl rfl ?_
  refine WO.nil ?_
  refine W.sreg ?_
  refine WO.p rfl rfl (WO.p rfl rfl ?_)
  refine WO.callR (r := .bool (bl (¬ ∀ x ∈ xs, ¬ (x < -m ∨ m < x)))) rfl Try.call47 (fun L w' hi => c_ContI w' o xs _ [_] (fun x => x < -m ∨ m < x) (hR.later hi) Try.call48 (fun x w2 h1 h2 => c_within1 w2 x m _ (Cap.keep (Cap.of (by repeat (first | exact Pick.head | apply Pick.tail)) rfl hi) h1 h2) hm)) rfl ?_
  refine WO.p rfl rfl (WO.p rfl rfl ?_)
  refine WO.nil ?_
  refine W.ret ?_
  refine fin.ret (Res.one rfl (RV.tmp rfl)) (congrArg Value.bool ?_)
  rw [bl_eq, bl_eq, ← decide_not, decide_eq_decide]
  unfold WiB
  refine Iff.trans Decidable.not_not (forall_congr' fun x => forall_congr' fun hx => ?_)
  omega
theorem c_book1 (w : World) (o : Value) (xs : List Int) (n : Int) (v : Value) (p : Addr) (hR : RdF encI 1 w.heap.size w o xs) (hc : RdC w.heap.size w p [.int .i64 n, v]) : Ret Try.prog 57 [o, .pointer (some p)].toArray w (.bool (bl ((xs.length : Int) ≠ n))) := by
  refine Ret.of mixed tyTab Try.func57 rfl rfl ?_
  replace hR : RdF encI 1 (fnCx mixed tyTab Try.f57.ntmps w).B (fnCx mixed tyTab Try.f57.ntmps w).w0 o xs := hR
  replace hc : RdC (fnCx mixed tyTab Try.f57.ntmps w).B (fnCx mixed tyTab Try.f57.ntmps w).w0 p [.int .i64 n, v] := hc
  refine W.sreg ?_
  refine WO.p rfl rfl ?_
  refine WO.nil ?_
  refine W.sreg ?_
  refine WO.p rfl rfl ?_
  refine' WO.len (n := _) rfl rfl ?hs rfl ?_
  case hs => (first | exact hR.sl)
  refine WO.field0 rfl rfl rfl ?_
  refine' WO.load (v := _) rfl rfl ?hc rfl ?_
  case hc => (first | (refine hc.cell0 ?_ <;> rfl))
  refine WO.p rfl rfl (WO.p rfl rfl ?_)
  refine WO.nil ?_
  refine W.ret ?_
  exact fin.ret (Res.one rfl (RV.tmp rfl)) rfl
theorem c_book2 (w : World) (o : Value) (xs : List Int) (hR : RdF encI 1 w.heap.size w o xs) : Ret Try.prog 58 [o].toArray w (.bool (bl (¬ WiB 4 xs))) := by
  refine Ret.of mixed tyTab Try.func58 rfl rfl ?_
  replace hR : RdF encI 1 (fnCx mixed tyTab Try.f58.ntmps w).B (fnCx mixed tyTab Try.f58.ntmps w).w0 o xs := hR
  refine W.sreg ?_
  refine WO.p rfl rfl ?_
  refine WO.nil ?_
  refine W.sreg ?_
  refine WO.p rfl rfl ?_
  refine WO.callR rfl Try.call29 (fun L w' hi => c_within w' o xs 4 (hR.later hi) (by unfold in64; omega)) rfl ?_
  refine WO.p rfl rfl (WO.p rfl rfl ?_)
  refine WO.nil ?_
  refine W.ret ?_
  refine fin.ret (Res.one rfl (RV.tmp rfl)) (congrArg Value.bool ?_)
  rw [bl_eq, bl_eq, ← decide_not]
theorem c_CheckBook (w : World) (n : Int) (v : Value) (rv : List Value) (rows : List (List Int)) (hR : RdR encI 1 w.heap.size w v rv rows) : Ret Try.prog 45 [bookV n v].toArray w (.int .i64 (chkB n rows)) := by
  refine Ret.of mixed tyTab Try.func45 rfl rfl ?_
  replace hR : RdR encI 1 (fnCx mixed tyTab Try.f45.ntmps w).B (fnCx mixed tyTab Try.f45.ntmps w).w0 v rv rows := hR
  have hoc := hR.sl.oc
  refine W.sreg ?_
  refine WO.boxA rfl rfl (fun b1 hb1 => ?_)
  refine WO.p rfl rfl ?_
  refine WO.nil ?_
  refine W.seq ?_
  refine W.block ?_
  refine W.sreg ?_
  refine WO.fieldL rfl rfl rfl (WO.load rfl rfl (Cell.own Pick.head rfl) rfl ?_)
  refine' WO.len (n := _) rfl rfl ?hs rfl ?_
  case hs => (first | exact hR.sl)
  refine WO.p rfl rfl (WO.p rfl rfl ?_)
  refine WO.nil ?_
  refine W.cond_bl rfl (fun c1 => ?_) (fun c1 => ?_)
  · first
    | (exfalso; omega)
    | (refine W.sreg ?_
       refine WO.p rfl rfl ?_
       refine WO.nil ?_
       refine W.ret ?_
       refine fin.ret (Res.one rfl (RV.tmp rfl)) (congrArg (Value.int .i64) ?_)
       first | (unfold chkB; rw [if_pos (by omega)]; done) | (unfold chkB; rw [if_neg (by omega), if_pos (by omega)]; done) | (unfold chkB; rw [if_neg (by omega), if_neg (by omega), if_pos (by simp_all)]; done) | (unfold chkB; rw [if_neg (by omega), if_neg (by omega), if_neg (by simp_all), if_pos (by simp_all)]; done) | (unfold chkB; rw [if_neg (by omega), if_neg (by omega), if_neg (by simp_all), if_neg (by simp_all)]; done))
  first
  | (exfalso; omega)
  | (refine W.sreg ?_
     refine WO.field0 rfl rfl rfl (WO.load rfl rfl (Cell.own Pick.head rfl) rfl (WO.p rfl rfl (WO.p rfl rfl ?_)))
     refine WO.guard_bl rfl rfl (fun c2 => ?_) (fun c2 => ?_)
     · first
       | (exfalso; omega)
       | (refine WO.no rfl rfl (WO.no rfl rfl (WO.no rfl rfl (WO.p rfl rfl (WO.p rfl rfl ?_))))
          refine WO.nil ?_
          refine W.cond_t rfl ?_
          refine W.sreg ?_
          refine WO.p rfl rfl ?_
          refine WO.nil ?_
          refine W.ret ?_
          refine fin.ret (Res.one rfl (RV.tmp rfl)) (congrArg (Value.int .i64) ?_)
          first | (unfold chkB; rw [if_pos (by omega)]; done) | (unfold chkB; rw [if_neg (by omega), if_pos (by omega)]; done) | (unfold chkB; rw [if_neg (by omega), if_neg (by omega), if_pos (by simp_all)]; done) | (unfold chkB; rw [if_neg (by omega), if_neg (by omega), if_neg (by simp_all), if_pos (by simp_all)]; done) | (unfold chkB; rw [if_neg (by omega), if_neg (by omega), if_neg (by simp_all), if_neg (by simp_all)]; done))
     first
     | (exfalso; omega)
     | (refine WO.go' rfl (WO.field0 rfl rfl rfl (WO.go' rfl (WO.load rfl rfl (Cell.own Pick.head rfl) rfl (WO.pg rfl rfl rfl (WO.p rfl rfl (WO.p rfl rfl ?_))))))
        refine WO.nil ?_
        refine W.cond_bl rfl (fun c3 => ?_) (fun c3 => ?_)
        · first
          | (exfalso; omega)
          | (refine W.sreg ?_
             refine WO.p rfl rfl ?_
             refine WO.nil ?_
             refine W.ret ?_
             refine fin.ret (Res.one rfl (RV.tmp rfl)) (congrArg (Value.int .i64) ?_)
             first | (unfold chkB; rw [if_pos (by omega)]; done) | (unfold chkB; rw [if_neg (by omega), if_pos (by omega)]; done) | (unfold chkB; rw [if_neg (by omega), if_neg (by omega), if_pos (by simp_all)]; done) | (unfold chkB; rw [if_neg (by omega), if_neg (by omega), if_neg (by simp_all), if_pos (by simp_all)]; done) | (unfold chkB; rw [if_neg (by omega), if_neg (by omega), if_neg (by simp_all), if_neg (by simp_all)]; done))
        first
        | (exfalso; omega)
        | (refine W.sreg ?_
           refine WO.fieldL rfl rfl rfl (WO.load rfl rfl (Cell.own Pick.head rfl) rfl (WO.p rfl rfl ?_))
           refine WO.callR (r := .bool (bl (¬ ∀ r ∈ rows, ¬ ((r.length : Int) ≠ n)))) rfl Try.call34 (fun L w' hi => c_ContR w' v rv rows _ [_] (fun r => (r.length : Int) ≠ n) (hR.later hi) Try.call57 (fun i hil w2 h1 h2 => c_book1 w2 _ _ n v _ (RdF.keep ((hR.row i hil).later hi) h1 h2) ((RdC.own (by repeat (first | exact Pick.head | apply Pick.tail)) hi).agree h1 |>.up h2))) rfl ?_
           refine WO.p rfl rfl ?_
           refine WO.nil ?_
           refine W.cond_bl rfl (fun c4 => ?_) (fun c4 => ?_)
           · first
             | (exfalso; omega)
             | (refine W.sreg ?_
                refine WO.p rfl rfl ?_
                refine WO.nil ?_
                refine W.ret ?_
                refine fin.ret (Res.one rfl (RV.tmp rfl)) (congrArg (Value.int .i64) ?_)
                first | (unfold chkB; rw [if_pos (by omega)]; done) | (unfold chkB; rw [if_neg (by omega), if_pos (by omega)]; done) | (unfold chkB; rw [if_neg (by omega), if_neg (by omega), if_pos (by simp_all)]; done) | (unfold chkB; rw [if_neg (by omega), if_neg (by omega), if_neg (by simp_all), if_pos (by simp_all)]; done) | (unfold chkB; rw [if_neg (by omega), if_neg (by omega), if_neg (by simp_all), if_neg (by simp_all)]; done))
           first
           | (exfalso; omega)
           | (refine W.sreg ?_
              refine WO.fieldL rfl rfl rfl (WO.load rfl rfl (Cell.own Pick.head rfl) rfl ?_)
              refine WO.callR (r := .bool (bl (¬ ∀ r ∈ rows, ¬ ¬ WiB 4 r))) rfl Try.call34 (fun L w' hi => c_ContR w' v rv rows _ [] (fun r => ¬ WiB 4 r) (hR.later hi) Try.call58 (fun i hil w2 h1 h2 => c_book2 w2 _ _ (RdF.keep ((hR.row i hil).later hi) h1 h2))) rfl ?_
              refine WO.p rfl rfl ?_
              refine WO.nil ?_
              refine W.cond_bl rfl (fun c5 => ?_) (fun c5 => ?_)
              · first
                | (exfalso; omega)
                | (refine W.sreg ?_
                   refine WO.p rfl rfl ?_
                   refine WO.nil ?_
                   refine W.ret ?_
                   refine fin.ret (Res.one rfl (RV.tmp rfl)) (congrArg (Value.int .i64) ?_)
                   first | (unfold chkB; rw [if_pos (by omega)]; done) | (unfold chkB; rw [if_neg (by omega), if_pos (by omega)]; done) | (unfold chkB; rw [if_neg (by omega), if_neg (by omega), if_pos (by simp_all)]; done) | (unfold chkB; rw [if_neg (by omega), if_neg (by omega), if_neg (by simp_all), if_pos (by simp_all)]; done) | (unfold chkB; rw [if_neg (by omega), if_neg (by omega), if_neg (by simp_all), if_neg (by simp_all)]; done))
              first
              | (exfalso; omega)
              | (refine W.skip ?_
                 refine W.sreg ?_
                 refine WO.p rfl rfl ?_
                 refine WO.nil ?_
                 refine W.ret ?_
                 refine fin.ret (Res.one rfl (RV.tmp rfl)) (congrArg (Value.int .i64) ?_)
                 first | (unfold chkB; rw [if_pos (by omega)]; done) | (unfold chkB; rw [if_neg (by omega), if_pos (by omega)]; done) | (unfold chkB; rw [if_neg (by omega), if_neg (by omega), if_pos (by simp_all)]; done) | (unfold chkB; rw [if_neg (by omega), if_neg (by omega), if_neg (by simp_all), if_pos (by simp_all)]; done) | (unfold chkB; rw [if_neg (by omega), if_neg (by omega), if_neg (by simp_all), if_neg (by simp_all)]; done))))))
theorem c_isRow (w : World) (n : Int) (v u : Value) (r : List Int) (hv : v.oneCell' = true) (hR : RdF encI 1 w.heap.size w u r) : Ret Try.prog 43 [bookV n v, u].toArray w (.int .i64 (chkR n r)) := by
  refine Ret.of mixed tyTab Try.func43 rfl rfl ?_
  replace hR : RdF encI 1 (fnCx mixed tyTab Try.f43.ntmps w).B (fnCx mixed tyTab Try.f43.ntmps w).w0 u r := hR
  refine W.sreg ?_
  refine WO.boxA rfl rfl (fun b1 hb1 => ?_)
  refine WO.p rfl rfl ?_
  refine WO.nil ?_
  refine W.seq ?_
  refine W.block ?_
  refine W.sreg ?_
  refine WO.p rfl rfl ?_
  refine' WO.len (n := _) rfl rfl ?hs rfl ?_
  case hs => (first | exact hR.sl)
  refine WO.field0 rfl rfl rfl (WO.load rfl rfl (Cell.own Pick.head rfl) rfl (WO.p rfl rfl (WO.p rfl rfl ?_)))
  refine WO.nil ?_
  refine W.cond_bl rfl (fun c1 => ?_) (fun c1 => ?_)
  · first
    | (exfalso; omega)
    | (refine W.sreg ?_
       refine WO.p rfl rfl ?_
       refine WO.nil ?_
       refine W.ret ?_
       refine fin.ret (Res.one rfl (RV.tmp rfl)) (congrArg (Value.int .i64) ?_)
       first | (unfold chkR; rw [if_pos (by omega)]; done) | (unfold chkR; rw [if_neg (by omega), if_pos (by assumption)]; done) | (unfold chkR; rw [if_neg (by omega), if_neg (by simp_all)]; done))
  first
  | (exfalso; omega)
  | (refine W.sreg ?_
     refine WO.p rfl rfl ?_
     refine WO.callR rfl Try.call29 (fun L w' hi => c_within w' u r 4 (hR.later hi) (by unfold in64; omega)) rfl ?_
     refine WO.p rfl rfl (WO.p rfl rfl ?_)
     refine WO.nil ?_
     refine W.cond_nbl rfl (fun c2 => ?_) (fun c2 => ?_)
     · first
       | (exfalso; omega)
       | (refine W.sreg ?_
          refine WO.p rfl rfl ?_
          refine WO.nil ?_
          refine W.ret ?_
          refine fin.ret (Res.one rfl (RV.tmp rfl)) (congrArg (Value.int .i64) ?_)
          first | (unfold chkR; rw [if_pos (by omega)]; done) | (unfold chkR; rw [if_neg (by omega), if_pos (by assumption)]; done) | (unfold chkR; rw [if_neg (by omega), if_neg (by simp_all)]; done))
     first
     | (exfalso; omega)
     | (refine W.skip ?_
        refine W.sreg ?_
        refine WO.p rfl rfl ?_
        refine WO.nil ?_
        refine W.ret ?_
        refine fin.ret (Res.one rfl (RV.tmp rfl)) (congrArg (Value.int .i64) ?_)
        first | (unfold chkR; rw [if_pos (by omega)]; done) | (unfold chkR; rw [if_neg (by omega), if_pos (by assumption)]; done) | (unfold chkR; rw [if_neg (by omega), if_neg (by simp_all)]; done)))
theorem c_checkRow (w : World) (n : Int) (v u : Value) (rv : List Value) (rows : List (List Int)) (r : List Int) (hB : RdR encI 1 w.heap.size w v rv rows) (hR : RdF encI 1 w.heap.size w u r) : Ret Try.prog 28 [bookV n v, u].toArray w (.int .i64 (chkBR n rows r)) := by
  refine Ret.of mixed tyTab Try.func28 rfl rfl ?_
  replace hB : RdR encI 1 (fnCx mixed tyTab Try.f28.ntmps w).B (fnCx mixed tyTab Try.f28.ntmps w).w0 v rv rows := hB
  replace hR : RdF encI 1 (fnCx mixed tyTab Try.f28.ntmps w).B (fnCx mixed tyTab Try.f28.ntmps w).w0 u r := hR
  have hoc := hB.sl.oc
  refine W.sreg ?_
  refine WO.boxA rfl rfl (fun b1 hb1 => ?_)
  refine WO.p rfl rfl ?_
  refine WO.nil ?_
  refine W.seq ?_
  refine W.sreg ?_
  refine WO.loadA rfl rfl (Cells.own Pick.head) rfl rfl ?_
  refine WO.callR rfl Try.call45 (fun L w' hi => c_CheckBook w' n v rv rows (hB.later hi)) rfl ?_
  refine WO.p rfl rfl ?_
  refine WO.nil ?_
  refine W.sreg ?_
  refine WO.p rfl rfl (WO.p rfl rfl ?_)
  refine WO.nil ?_
  refine W.cond_bl rfl (fun c1 => ?_) (fun c1 => ?_)
  · first
    | (exfalso; omega)
    | (refine W.sreg ?_
       refine WO.p rfl rfl (WO.p rfl rfl ?_)
       refine WO.nil ?_
       refine W.ret ?_
       refine fin.ret (Res.one rfl (RV.tmp rfl)) (congrArg (Value.int .i64) ?_)
       first | (unfold chkBR; rw [if_pos (by omega)]; done) | (unfold chkBR; rw [if_neg (by omega)]; done))
  first
  | (exfalso; omega)
  | (refine W.skip ?_
     refine W.sreg ?_
     refine WO.loadA rfl rfl (Cells.own Pick.head) rfl rfl (WO.p rfl rfl ?_)
     refine WO.callR rfl Try.call43 (fun L w' hi => c_isRow w' n v u r hoc (hR.later hi)) rfl ?_
     refine WO.p rfl rfl ?_
     refine WO.nil ?_
     refine W.ret ?_
     refine fin.ret (Res.one rfl (RV.tmp rfl)) (congrArg (Value.int .i64) ?_)
     first | (unfold chkBR; rw [if_pos (by omega)]; done) | (unfold chkBR; rw [if_neg (by omega)]; done))
end Go.Proofs.Ytelmclmklkiphaa
namespace Go.Proofs.Ytelmclmklkiphaa
open Go Go.TH
attribute [local irreducible] W WO pt
set_option maxRecDepth 10000
set_option maxHeartbeats 1000000
theorem bl_cg {p q : Prop} [ip : Decidable p] [iq : Decidable q] (h : p ↔ q) : bl p = bl q := by rw [bl_eq, bl_eq]; exact decide_eq_decide.2 h
theorem WiB.succ {m : Int} {xs : List Int} {i : Nat} (hi : i < xs.length) (h : WiB m (xs.take i)) (h1 : -m ≤ xs.getD i 0) (h2 : xs.getD i 0 ≤ m) : WiB m (xs.take (i + 1)) := all_succ hi 0 h ⟨h1, h2⟩
theorem WiB.not {m : Int} {xs : List Int} {i : Nat} (hi : i < xs.length) (h : xs.getD i 0 < -m ∨ m < xs.getD i 0) : ¬ WiB m xs := fun g => by have := g.at_ hi; omega
theorem take_all {α : Type} {l : List α} {i : Nat} (h : l.length ≤ i) : l.take i = l := List.take_of_length_le h
theorem ref_within (w : World) (o : Value) (xs : List Int) (m : Int) (hR : RdF encI 1 w.heap.size w o xs) (hm : in64 (-m)) : Ret Try.prog 31 [o, .int .i64 m].toArray w (.bool (bl (WiB m xs))) := by
  refine Ret.of mixed tyTab Try.func31 rfl rfl ?_
  replace hR : RdF encI 1 (fnCx mixed tyTab Try.f31.ntmps w).B (fnCx mixed tyTab Try.f31.ntmps w).w0 o xs := hR
  have hle := hR.sl.le
  refine W.sreg ?_
  refine WO.p rfl rfl ?_
  refine WO.nil ?_
  refine W.seq ?_
  refine W.sreg ?_
  refine WO.p rfl rfl ?_
  refine WO.nil ?_
  refine W.block ?_
  refine W.loop (fun (i : Nat) => i ≤ xs.length ∧ WiB m (xs.take i))
    (fun (i : Nat) => [(0, o), (1, .int .i64 m), (5, .int .i64 (i : Int))])
    (fun (i : Nat) => [])
    (fun (i : Nat) => xs.length - i) 0
    (by exact ⟨by omega, fun x hx => by simp at hx⟩) ⟨rfl, rfl, rfl, trivial⟩ (by repeat (first | exact Sub.nil | refine Sub.cons (by repeat (first | exact Pick.head | apply Pick.tail)) ?_)) ?_
  rintro i ⟨hi, hal⟩
  refine W.seq ?_
  refine W.sreg ?_
  refine WO.p rfl rfl (WO.p rfl rfl ?_)
  refine' WO.len (n := _) rfl rfl ?hs rfl ?_
  case hs => (first | exact hR.sl)
  refine WO.p rfl rfl ?_
  refine WO.nil ?_
  refine W.cond_bl rfl (fun c1 => ?_) (fun c1 => ?_)
  · first
    | (exfalso; omega)
    | (refine W.skip ?_
       refine W.seq ?_
       refine W.block ?_
       refine W.sreg ?_
       refine WO.p rfl rfl (WO.p rfl rfl ?_)
       refine' WO.indexAddr (n := _) (i := _) rfl rfl rfl ?hs ?h1 rfl ?_
       case hs => (first | exact hR.sl)
       case h1 => (first | omega | (simp; omega))
       refine' WO.load (v := _) rfl rfl ?hc rfl ?_
       case hc => (first | (refine hR.cell0 ?_ 0 ?_ <;> first | rfl | omega))
       refine WO.p rfl rfl (WO.neg rfl (by (first | assumption)) rfl (WO.p rfl rfl (WO.p rfl rfl ?_)))
       refine WO.guard_bl rfl rfl (fun c2 => ?_) (fun c2 => ?_)
       · first
         | (exfalso; omega)
         | (refine WO.no rfl rfl (WO.no rfl rfl (WO.no rfl rfl (WO.no rfl rfl (WO.no rfl rfl (WO.no rfl rfl (WO.p rfl rfl ?_))))))
            refine WO.nil ?_
            refine W.cond_t rfl ?_
            refine W.sreg ?_
            refine WO.p rfl rfl ?_
            refine WO.nil ?_
            refine W.ret ?_
            refine fin.ret (Res.one rfl (RV.tmp rfl)) (congrArg Value.bool ?_)
            first | exact (bl_f.2 (WiB.not (i := i) (by omega) (by omega))).symm | exact (bl_t.2 (by rw [take_all (by omega)] at hal; exact hal)).symm)
       first
       | (exfalso; omega)
       | (refine WO.pg rfl rfl rfl (WO.pg rfl rfl rfl (WO.go' rfl ?_))
          refine' WO.indexAddr (n := _) (i := _) rfl rfl rfl ?hs ?h1 rfl ?_
          case hs => (first | exact hR.sl)
          case h1 => (first | omega | (simp; omega))
          refine WO.go' rfl ?_
          refine' WO.load (v := _) rfl rfl ?hc rfl ?_
          case hc => (first | (refine hR.cell0 ?_ 0 ?_ <;> first | rfl | omega))
          refine WO.pg rfl rfl rfl (WO.pg rfl rfl rfl (WO.p rfl rfl ?_))
          refine WO.nil ?_
          refine W.cond_bl rfl (fun c3 => ?_) (fun c3 => ?_)
          · first
            | (exfalso; omega)
            | (refine W.sreg ?_
               refine WO.p rfl rfl ?_
               refine WO.nil ?_
               refine W.ret ?_
               refine fin.ret (Res.one rfl (RV.tmp rfl)) (congrArg Value.bool ?_)
               first | exact (bl_f.2 (WiB.not (i := i) (by omega) (by omega))).symm | exact (bl_t.2 (by rw [take_all (by omega)] at hal; exact hal)).symm)
          first
          | (exfalso; omega)
          | (refine W.skip ?_
             refine W.region ?_
             refine WO.p rfl rfl (WO.ar rfl rfl rfl (by (first | (unfold in64; omega))) rfl (WO.p rfl rfl ?_))
             refine WO.nil ?_
             refine' ⟨i + 1, ?hp, ?hmu, ⟨rfl, rfl, rfl, trivial⟩, ?hS⟩
             case hS => repeat (first | exact Sub.nil | refine Sub.cons (by repeat (first | exact Pick.head | apply Pick.tail)) ?_)
             case hp => exact ⟨by omega, hal.succ (by omega) (by omega) (by omega)⟩
             case hmu => omega)))
  first
  | (exfalso; omega)
  | (refine W.exit (blk_same ?_)
     refine W.sreg ?_
     refine WO.p rfl rfl ?_
     refine WO.nil ?_
     refine W.ret ?_
     refine fin.ret (Res.one rfl (RV.tmp rfl)) (congrArg Value.bool ?_)
     first | exact (bl_f.2 (WiB.not (i := i) (by omega) (by omega))).symm | exact (bl_t.2 (by rw [take_all (by omega)] at hal; exact hal)).symm)
theorem len_succ {n : Int} {rows : List (List Int)} {i : Nat} (hi : i < rows.length) (h : ∀ r ∈ rows.take i, (r.length : Int) = n) (h1 : ((rows.getD i []).length : Int) = n) : ∀ r ∈ rows.take (i + 1), (r.length : Int) = n := all_succ hi [] h h1
theorem chkB15 {n : Int} {rows : List (List Int)} (h : ¬ 8 < rows.length) (h1 : ¬ (n < 1 ∨ 5 < n)) {i : Nat} (hi : i < rows.length) (h2 : ((rows.getD i []).length : Int) ≠ n) : chkB n rows = 15 := by
  unfold chkB
  rw [if_neg h, if_neg h1, if_pos (fun g => h2 (g _ (getD_mem hi [])))]
theorem chkB3 {n : Int} {rows : List (List Int)} (h : ¬ 8 < rows.length) (h1 : ¬ (n < 1 ∨ 5 < n)) (h3 : ∀ r ∈ rows, (r.length : Int) = n) {i : Nat} (hi : i < rows.length) (h2 : ¬ WiB 4 (rows.getD i [])) : chkB n rows = 3 := by
  unfold chkB
  rw [if_neg h, if_neg h1, if_neg (fun g => g h3), if_pos (fun g => h2 (g _ (getD_mem hi [])))]
theorem ref_CheckBook (w : World) (n : Int) (v : Value) (rv : List Value) (rows : List (List Int)) (hR : RdR encI 1 w.heap.size w v rv rows) : Ret Try.prog 23 [bookV n v].toArray w (.int .i64 (chkB n rows)) := by
  refine Ret.of mixed tyTab Try.func23 rfl rfl ?_
  replace hR : RdR encI 1 (fnCx mixed tyTab Try.f23.ntmps w).B (fnCx mixed tyTab Try.f23.ntmps w).w0 v rv rows := hR
  have hoc := hR.sl.oc
  refine W.sreg ?_
  refine WO.boxA rfl rfl (fun b1 hb1 => ?_)
  refine WO.p rfl rfl ?_
  refine WO.nil ?_
  refine W.seq ?_
  refine W.sreg ?_
  refine WO.fieldL rfl rfl rfl (WO.load rfl rfl (Cell.own Pick.head rfl) rfl ?_)
  refine' WO.len (n := _) rfl rfl ?hs rfl ?_
  case hs => (first | exact hR.sl | exact (hR.row i (by omega)).sl)
  refine WO.p rfl rfl ?_
  refine WO.nil ?_
  refine W.cond_bl rfl (fun c1 => ?_) (fun c1 => ?_)
  · first
    | (exfalso; omega)
    | (refine W.sreg ?_
       refine WO.p rfl rfl ?_
       refine WO.nil ?_
       refine W.ret ?_
       refine fin.ret (Res.one rfl (RV.tmp rfl)) (congrArg (Value.int .i64) ?_)
       first | (unfold chkB; rw [if_pos (by omega)]; done) | (unfold chkB; rw [if_neg (by omega), if_pos (by omega)]; done) | exact (chkB15 (by omega) (by omega) (i := i) (by omega) (by omega)).symm | exact (chkB3 (by omega) (by omega) hal (i := i) (by omega) (by assumption)).symm | (rw [take_all (by omega)] at hbl; exact (chkB0.2 ⟨by omega, by omega, hal, hbl⟩).symm))
  first
  | (exfalso; omega)
  | (refine W.skip ?_
     refine W.seq ?_
     refine W.sreg ?_
     refine WO.field0 rfl rfl rfl (WO.load rfl rfl (Cell.own Pick.head rfl) rfl (WO.p rfl rfl (WO.p rfl rfl ?_)))
     refine WO.guard_bl rfl rfl (fun c2 => ?_) (fun c2 => ?_)
     · first
       | (exfalso; omega)
       | (refine WO.no rfl rfl (WO.no rfl rfl (WO.no rfl rfl (WO.p rfl rfl ?_)))
          refine WO.nil ?_
          refine W.cond_t rfl ?_
          refine W.sreg ?_
          refine WO.p rfl rfl ?_
          refine WO.nil ?_
          refine W.ret ?_
          refine fin.ret (Res.one rfl (RV.tmp rfl)) (congrArg (Value.int .i64) ?_)
          first | (unfold chkB; rw [if_pos (by omega)]; done) | (unfold chkB; rw [if_neg (by omega), if_pos (by omega)]; done) | exact (chkB15 (by omega) (by omega) (i := i) (by omega) (by omega)).symm | exact (chkB3 (by omega) (by omega) hal (i := i) (by omega) (by assumption)).symm | (rw [take_all (by omega)] at hbl; exact (chkB0.2 ⟨by omega, by omega, hal, hbl⟩).symm))
     first
     | (exfalso; omega)
     | (refine WO.go' rfl (WO.field0 rfl rfl rfl (WO.go' rfl (WO.load rfl rfl (Cell.own Pick.head rfl) rfl (WO.pg rfl rfl rfl (WO.p rfl rfl ?_)))))
        refine WO.nil ?_
        refine W.cond_bl rfl (fun c3 => ?_) (fun c3 => ?_)
        · first
          | (exfalso; omega)
          | (refine W.sreg ?_
             refine WO.p rfl rfl ?_
             refine WO.nil ?_
             refine W.ret ?_
             refine fin.ret (Res.one rfl (RV.tmp rfl)) (congrArg (Value.int .i64) ?_)
             first | (unfold chkB; rw [if_pos (by omega)]; done) | (unfold chkB; rw [if_neg (by omega), if_pos (by omega)]; done) | exact (chkB15 (by omega) (by omega) (i := i) (by omega) (by omega)).symm | exact (chkB3 (by omega) (by omega) hal (i := i) (by omega) (by assumption)).symm | (rw [take_all (by omega)] at hbl; exact (chkB0.2 ⟨by omega, by omega, hal, hbl⟩).symm))
        first
        | (exfalso; omega)
        | (refine W.skip ?_
           refine W.seq ?_
           refine W.sreg ?_
           refine WO.p rfl rfl ?_
           refine WO.nil ?_
           refine W.block ?_
           refine W.loop (fun (i : Nat) => i ≤ rows.length ∧ ∀ r ∈ rows.take i, (r.length : Int) = n)
             (fun (i : Nat) => [(1, .pointer (some ⟨b1, 0, none⟩)), (3, .int .i64 (i : Int))])
             (fun (i : Nat) => [pt b1 (.cells #[.int .i64 n, v] 24 (0, 0))])
             (fun (i : Nat) => rows.length - i) 0
             (by exact ⟨by omega, fun x hx => by simp at hx⟩) ⟨rfl, rfl, trivial⟩ (by repeat (first | exact Sub.nil | refine Sub.cons (by repeat (first | exact Pick.head | apply Pick.tail)) ?_)) ?_
           rintro i ⟨hi, hal⟩
           refine W.seq ?_
           refine W.sreg ?_
           refine WO.p rfl rfl (WO.fieldL rfl rfl rfl (WO.load rfl rfl (Cell.own Pick.head rfl) rfl ?_))
           refine' WO.len (n := _) rfl rfl ?hs rfl ?_
           case hs => (first | exact hR.sl | exact (hR.row i (by omega)).sl)
           refine WO.p rfl rfl ?_
           refine WO.nil ?_
           refine W.cond_bl rfl (fun c4 => ?_) (fun c4 => ?_)
           · first
             | (exfalso; omega)
             | (refine W.skip ?_
                refine W.seq ?_
                refine W.block ?_
                refine W.seq ?_
                refine W.drawD 8 [.r 0 [], .b 1 [], .r 2 [], .r 3 [], .b 4 [], .r 5 [], .r 6 [], .b 7 []] [] (A0 := []) (Sub.refl _) (by kernel_rfl) ?_ ?_
                · exact (ALok.r (ALok.b (ALok.r (ALok.r (ALok.b (ALok.r (ALok.r (ALok.b ALok.nil))))))))
                refine' DT.r rfl rfl rfl ?hq ?_
                case hq =>
                  refine WO.fieldL rfl rfl rfl ?_
                  exact WO.nil ⟨rfl, rfl⟩
                refine' DT.b rfl rfl rfl ?hq ?_
                case hq =>
                  refine WO.load rfl rfl (Cell.own Pick.head rfl) rfl ?_
                  exact WO.nil ⟨rfl, rfl⟩
                refine' DT.r rfl rfl rfl ?hq ?_
                case hq =>
                  refine WO.p rfl rfl ?_
                  exact WO.nil ⟨rfl, rfl⟩
                refine' DT.r rfl rfl rfl ?hq ?_
                case hq =>
                  refine' WO.indexAddr (n := _) (i := _) rfl rfl rfl ?hs ?h1 rfl ?_
                  case hs => (first | exact hR.sl | exact (hR.row i (by omega)).sl)
                  case h1 => (first | omega | (simp; omega))
                  exact WO.nil ⟨rfl, rfl⟩
                refine' DT.b rfl rfl rfl ?hq ?_
                case hq =>
                  refine' WO.load (v := _) rfl rfl ?hc rfl ?_
                  case hc => (first | (refine hR.cellV ?_; omega))
                  exact WO.nil ⟨rfl, rfl⟩
                refine' DT.r rfl rfl rfl ?hq ?_
                case hq =>
                  refine' WO.len (n := _) rfl rfl ?hs rfl ?_
                  case hs => (first | exact hR.sl | exact (hR.row i (by omega)).sl)
                  exact WO.nil ⟨rfl, rfl⟩
                refine' DT.r rfl rfl rfl ?hq ?_
                case hq =>
                  refine WO.field0 rfl rfl rfl ?_
                  exact WO.nil ⟨rfl, rfl⟩
                refine' DT.b rfl rfl rfl ?hq ?_
                case hq =>
                  refine WO.load rfl rfl (Cell.own Pick.head rfl) rfl ?_
                  exact WO.nil ⟨rfl, rfl⟩
                refine DT.nil [_] rfl ?_
                refine WO.p rfl rfl ?_
                refine WO.nil ?_
                refine W.cond_bl rfl (fun c5 => ?_) (fun c5 => ?_)
                · first
                  | (exfalso; omega)
                  | (refine W.sreg ?_
                     refine WO.p rfl rfl ?_
                     refine WO.nil ?_
                     refine W.ret ?_
                     refine fin.ret (Res.one rfl (RV.tmp rfl)) (congrArg (Value.int .i64) ?_)
                     first | (unfold chkB; rw [if_pos (by omega)]; done) | (unfold chkB; rw [if_neg (by omega), if_pos (by omega)]; done) | exact (chkB15 (by omega) (by omega) (i := i) (by omega) (by omega)).symm | exact (chkB3 (by omega) (by omega) hal (i := i) (by omega) (by assumption)).symm | (rw [take_all (by omega)] at hbl; exact (chkB0.2 ⟨by omega, by omega, hal, hbl⟩).symm))
                first
                | (exfalso; omega)
                | (refine W.skip ?_
                   refine W.region ?_
                   refine WO.p rfl rfl (WO.ar rfl rfl rfl (by (first | (unfold in64; omega) | (unfold in64; omega))) rfl (WO.p rfl rfl ?_))
                   refine WO.nil ?_
                   refine' ⟨i + 1, ?hp, ?hmu, ⟨rfl, rfl, trivial⟩, ?hS⟩
                   case hS => repeat (first | exact Sub.nil | refine Sub.cons (by repeat (first | exact Pick.head | apply Pick.tail)) ?_)
                   case hp => exact ⟨by omega, len_succ (by omega) hal (by omega)⟩
                   case hmu => omega))
           first
           | (exfalso; omega)
           | (refine W.exit (blk_same ?_)
              refine W.seq ?_
              rw [take_all (by omega)] at hal
              refine W.sreg ?_
              refine WO.p rfl rfl ?_
              refine WO.nil ?_
              refine W.block ?_
              refine W.loop (fun (i : Nat) => i ≤ rows.length ∧ ∀ r ∈ rows.take i, WiB 4 r)
                (fun (i : Nat) => [(1, .pointer (some ⟨b1, 0, none⟩)), (4, .int .i64 (i : Int))])
                (fun (i : Nat) => [pt b1 (.cells #[.int .i64 n, v] 24 (0, 0))])
                (fun (i : Nat) => rows.length - i) 0
                (by exact ⟨by omega, fun x hx => by simp at hx⟩) ⟨rfl, rfl, trivial⟩ (by repeat (first | exact Sub.nil | refine Sub.cons (by repeat (first | exact Pick.head | apply Pick.tail)) ?_)) ?_
              rintro i ⟨hi, hbl⟩
              refine W.seq ?_
              refine W.sreg ?_
              refine WO.p rfl rfl (WO.fieldL rfl rfl rfl (WO.load rfl rfl (Cell.own Pick.head rfl) rfl ?_))
              refine' WO.len (n := _) rfl rfl ?hs rfl ?_
              case hs => (first | exact hR.sl | exact (hR.row i (by omega)).sl)
              refine WO.p rfl rfl ?_
              refine WO.nil ?_
              refine W.cond_bl rfl (fun c6 => ?_) (fun c6 => ?_)
              · first
                | (exfalso; omega)
                | (refine W.skip ?_
                   refine W.seq ?_
                   refine W.block ?_
                   refine W.sreg ?_
                   refine WO.fieldL rfl rfl rfl (WO.load rfl rfl (Cell.own Pick.head rfl) rfl (WO.p rfl rfl ?_))
                   refine' WO.indexAddr (n := _) (i := _) rfl rfl rfl ?hs ?h1 rfl ?_
                   case hs => (first | exact hR.sl | exact (hR.row i (by omega)).sl)
                   case h1 => (first | omega | (simp; omega))
                   refine' WO.load (v := _) rfl rfl ?hc rfl ?_
                   case hc => (first | (refine hR.cellV ?_; omega))
                   refine WO.callR rfl Try.call31 (fun L w' hi' => ref_within w' _ _ 4 ((hR.row i (by omega)).later hi') (by unfold in64; omega)) rfl ?_
                   refine WO.p rfl rfl ?_
                   refine WO.nil ?_
                   refine W.cond_nbl rfl (fun c7 => ?_) (fun c7 => ?_)
                   · first
                     | (exfalso; omega)
                     | (refine W.sreg ?_
                        refine WO.p rfl rfl ?_
                        refine WO.nil ?_
                        refine W.ret ?_
                        refine fin.ret (Res.one rfl (RV.tmp rfl)) (congrArg (Value.int .i64) ?_)
                        first | (unfold chkB; rw [if_pos (by omega)]; done) | (unfold chkB; rw [if_neg (by omega), if_pos (by omega)]; done) | exact (chkB15 (by omega) (by omega) (i := i) (by omega) (by omega)).symm | exact (chkB3 (by omega) (by omega) hal (i := i) (by omega) (by assumption)).symm | (rw [take_all (by omega)] at hbl; exact (chkB0.2 ⟨by omega, by omega, hal, hbl⟩).symm))
                   first
                   | (exfalso; omega)
                   | (refine W.skip ?_
                      refine W.region ?_
                      refine WO.p rfl rfl (WO.ar rfl rfl rfl (by (first | (unfold in64; omega) | (unfold in64; omega))) rfl (WO.p rfl rfl ?_))
                      refine WO.nil ?_
                      refine' ⟨i + 1, ?hp, ?hmu, ⟨rfl, rfl, trivial⟩, ?hS⟩
                      case hS => repeat (first | exact Sub.nil | refine Sub.cons (by repeat (first | exact Pick.head | apply Pick.tail)) ?_)
                      case hp => exact ⟨by omega, all_succ (by omega) [] hbl (by assumption)⟩
                      case hmu => omega))
              first
              | (exfalso; omega)
              | (refine W.exit (blk_same ?_)
                 refine W.sreg ?_
                 refine WO.p rfl rfl ?_
                 refine WO.nil ?_
                 refine W.ret ?_
                 refine fin.ret (Res.one rfl (RV.tmp rfl)) (congrArg (Value.int .i64) ?_)
                 first | (unfold chkB; rw [if_pos (by omega)]; done) | (unfold chkB; rw [if_neg (by omega), if_pos (by omega)]; done) | exact (chkB15 (by omega) (by omega) (i := i) (by omega) (by omega)).symm | exact (chkB3 (by omega) (by omega) hal (i := i) (by omega) (by assumption)).symm | (rw [take_all (by omega)] at hbl; exact (chkB0.2 ⟨by omega, by omega, hal, hbl⟩).symm))))))
theorem ref_Row (w : World) (n : Int) (v u : Value) (r : List Int) (hv : v.oneCell' = true) (hR : RdF encI 1 w.heap.size w u r) : Ret Try.prog 44 [bookV n v, u].toArray w (.int .i64 (chkR n r)) := by
  refine Ret.of mixed tyTab Try.func44 rfl rfl ?_
  replace hR : RdF encI 1 (fnCx mixed tyTab Try.f44.ntmps w).B (fnCx mixed tyTab Try.f44.ntmps w).w0 u r := hR
  refine W.sreg ?_
  refine WO.boxA rfl rfl (fun b1 hb1 => ?_)
  refine WO.p rfl rfl ?_
  refine WO.nil ?_
  refine W.seq ?_
  refine W.sreg ?_
  refine WO.p rfl rfl ?_
  refine' WO.len (n := _) rfl rfl ?hs rfl ?_
  case hs => (first | exact hR.sl)
  refine WO.field0 rfl rfl rfl (WO.load rfl rfl (Cell.own Pick.head rfl) rfl (WO.p rfl rfl ?_))
  refine WO.nil ?_
  refine W.cond_bl rfl (fun c1 => ?_) (fun c1 => ?_)
  · first
    | (exfalso; omega)
    | (refine W.sreg ?_
       refine WO.p rfl rfl ?_
       refine WO.nil ?_
       refine W.ret ?_
       refine fin.ret (Res.one rfl (RV.tmp rfl)) (congrArg (Value.int .i64) ?_)
       first | (unfold chkR; rw [if_pos (by omega)]; done) | (unfold chkR; rw [if_neg (by omega), if_pos (by assumption)]; done) | (unfold chkR; rw [if_neg (by omega), if_neg (by simp_all)]; done))
  first
  | (exfalso; omega)
  | (refine W.skip ?_
     refine W.seq ?_
     refine W.sreg ?_
     refine WO.p rfl rfl ?_
     refine WO.callR rfl Try.call31 (fun L w' hi => ref_within w' u r 4 (hR.later hi) (by unfold in64; omega)) rfl ?_
     refine WO.p rfl rfl ?_
     refine WO.nil ?_
     refine W.cond_nbl rfl (fun c2 => ?_) (fun c2 => ?_)
     · first
       | (exfalso; omega)
       | (refine W.sreg ?_
          refine WO.p rfl rfl ?_
          refine WO.nil ?_
          refine W.ret ?_
          refine fin.ret (Res.one rfl (RV.tmp rfl)) (congrArg (Value.int .i64) ?_)
          first | (unfold chkR; rw [if_pos (by omega)]; done) | (unfold chkR; rw [if_neg (by omega), if_pos (by assumption)]; done) | (unfold chkR; rw [if_neg (by omega), if_neg (by simp_all)]; done))
     first
     | (exfalso; omega)
     | (refine W.skip ?_
        refine W.sreg ?_
        refine WO.p rfl rfl ?_
        refine WO.nil ?_
        refine W.ret ?_
        refine fin.ret (Res.one rfl (RV.tmp rfl)) (congrArg (Value.int .i64) ?_)
        first | (unfold chkR; rw [if_pos (by omega)]; done) | (unfold chkR; rw [if_neg (by omega), if_pos (by assumption)]; done) | (unfold chkR; rw [if_neg (by omega), if_neg (by simp_all)]; done)))
theorem ref_both (w : World) (n : Int) (v u : Value) (rv : List Value) (rows : List (List Int)) (r : List Int) (hB : RdR encI 1 w.heap.size w v rv rows) (hR : RdF encI 1 w.heap.size w u r) : Ret Try.prog 30 [bookV n v, u].toArray w (.int .i64 (chkBR n rows r)) := by
  refine Ret.of mixed tyTab Try.func30 rfl rfl ?_
  replace hB : RdR encI 1 (fnCx mixed tyTab Try.f30.ntmps w).B (fnCx mixed tyTab Try.f30.ntmps w).w0 v rv rows := hB
  replace hR : RdF encI 1 (fnCx mixed tyTab Try.f30.ntmps w).B (fnCx mixed tyTab Try.f30.ntmps w).w0 u r := hR
  have hoc := hB.sl.oc
  refine W.sreg ?_
  refine WO.boxA rfl rfl (fun b1 hb1 => ?_)
  refine WO.p rfl rfl ?_
  refine WO.nil ?_
  refine W.seq ?_
  refine W.sreg ?_
  refine WO.loadA rfl rfl (Cells.own Pick.head) rfl rfl ?_
  refine WO.callR rfl Try.call23 (fun L w' hi => ref_CheckBook w' n v rv rows (hB.later hi)) rfl ?_
  refine WO.p rfl rfl ?_
  refine WO.nil ?_
  refine W.cond_bl rfl (fun c1 => ?_) (fun c1 => ?_)
  · first
    | (exfalso; omega)
    | (refine W.sreg ?_
       refine WO.loadA rfl rfl (Cells.own Pick.head) rfl rfl ?_
       refine WO.callR rfl Try.call23 (fun L w' hi => ref_CheckBook w' n v rv rows (hB.later hi)) rfl ?_
       refine WO.p rfl rfl ?_
       refine WO.nil ?_
       refine W.ret ?_
       refine fin.ret (Res.one rfl (RV.tmp rfl)) (congrArg (Value.int .i64) ?_)
       first | (unfold chkBR; rw [if_pos (by omega)]; done) | (unfold chkBR; rw [if_neg (by omega)]; done))
  first
  | (exfalso; omega)
  | (refine W.skip ?_
     refine W.sreg ?_
     refine WO.loadA rfl rfl (Cells.own Pick.head) rfl rfl (WO.p rfl rfl ?_)
     refine WO.callR rfl Try.call44 (fun L w' hi => ref_Row w' n v u r hoc (hR.later hi)) rfl ?_
     refine WO.p rfl rfl ?_
     refine WO.nil ?_
     refine W.ret ?_
     refine fin.ret (Res.one rfl (RV.tmp rfl)) (congrArg (Value.int .i64) ?_)
     first | (unfold chkBR; rw [if_pos (by omega)]; done) | (unfold chkBR; rw [if_neg (by omega)]; done))
/-- one of some rows has more than ten numbers -/
def wideP (rows : List (List Int)) : Prop := ¬ ∀ r ∈ rows, r.length ≤ 10
instance (rows : List (List Int)) : Decidable (wideP rows) := by unfold wideP; infer_instance
theorem wide_t {rows : List (List Int)} {i : Nat} (hi : i < rows.length) (h : 10 < (rows.getD i []).length) : wideP rows := fun g => by have := g _ (getD_mem hi []); omega
theorem wide_f {rows : List (List Int)} (h : ∀ r ∈ rows, r.length ≤ 10) : ¬ wideP rows := fun g => g h
theorem law_wide (w : World) (v : Value) (rv : List Value) (rows : List (List Int)) (hR : RdR encI 1 w.heap.size w v rv rows) : Ret Try.prog 17 [v].toArray w (.bool (bl (wideP rows))) := by
  refine Ret.of mixed tyTab Try.func17 rfl rfl ?_
  replace hR : RdR encI 1 (fnCx mixed tyTab Try.f17.ntmps w).B (fnCx mixed tyTab Try.f17.ntmps w).w0 v rv rows := hR
  have hle := hR.sl.le
  refine W.sreg ?_
  refine WO.p rfl rfl ?_
  refine WO.nil ?_
  refine W.seq ?_
  refine W.sreg ?_
  refine WO.p rfl rfl ?_
  refine WO.nil ?_
  refine W.block ?_
  refine W.loop (fun (i : Nat) => i ≤ rows.length ∧ ∀ r ∈ rows.take i, r.length ≤ 10)
    (fun (i : Nat) => [(0, v), (3, .int .i64 (i : Int))])
    (fun (i : Nat) => [])
    (fun (i : Nat) => rows.length - i) 0
    (by exact ⟨by omega, fun x hx => by simp at hx⟩) ⟨rfl, rfl, trivial⟩ (by repeat (first | exact Sub.nil | refine Sub.cons (by repeat (first | exact Pick.head | apply Pick.tail)) ?_)) ?_
  rintro i ⟨hi, hal⟩
  refine W.seq ?_
  refine W.sreg ?_
  refine WO.p rfl rfl (WO.p rfl rfl ?_)
  refine' WO.len (n := _) rfl rfl ?hs rfl ?_
  case hs => (first | exact hR.sl | exact (hR.row i (by omega)).sl)
  refine WO.p rfl rfl ?_
  refine WO.nil ?_
  refine W.cond_bl rfl (fun c1 => ?_) (fun c1 => ?_)
  · first
    | (exfalso; omega)
    | (refine W.skip ?_
       refine W.seq ?_
       refine W.block ?_
       refine W.sreg ?_
       refine WO.p rfl rfl (WO.p rfl rfl ?_)
       refine' WO.indexAddr (n := _) (i := _) rfl rfl rfl ?hs ?h1 rfl ?_
       case hs => (first | exact hR.sl | exact (hR.row i (by omega)).sl)
       case h1 => (first | omega | (simp; omega))
       refine' WO.load (v := _) rfl rfl ?hc rfl ?_
       case hc => (first | (refine hR.cellV ?_; omega))
       refine' WO.len (n := _) rfl rfl ?hs rfl ?_
       case hs => (first | exact hR.sl | exact (hR.row i (by omega)).sl)
       refine WO.p rfl rfl ?_
       refine WO.nil ?_
       refine W.cond_bl rfl (fun c2 => ?_) (fun c2 => ?_)
       · first
         | (exfalso; omega)
         | (refine W.sreg ?_
            refine WO.p rfl rfl ?_
            refine WO.nil ?_
            refine W.ret ?_
            refine fin.ret (Res.one rfl (RV.tmp rfl)) (congrArg Value.bool ?_)
            first | exact (bl_t.2 (wide_t (i := i) (by omega) (by omega))).symm | exact (bl_f.2 (wide_f (by rw [take_all (by omega)] at hal; exact hal))).symm)
       first
       | (exfalso; omega)
       | (refine W.skip ?_
          refine W.region ?_
          refine WO.p rfl rfl (WO.ar rfl rfl rfl (by (first | (unfold in64; omega) | (unfold in64; omega))) rfl (WO.p rfl rfl ?_))
          refine WO.nil ?_
          refine' ⟨i + 1, ?hp, ?hmu, ⟨rfl, rfl, trivial⟩, ?hS⟩
          case hS => repeat (first | exact Sub.nil | refine Sub.cons (by repeat (first | exact Pick.head | apply Pick.tail)) ?_)
          case hp => exact ⟨by omega, all_succ (by omega) [] hal (by omega)⟩
          case hmu => omega))
  first
  | (exfalso; omega)
  | (refine W.exit (blk_same ?_)
     refine W.sreg ?_
     refine WO.p rfl rfl ?_
     refine WO.nil ?_
     refine W.ret ?_
     refine fin.ret (Res.one rfl (RV.tmp rfl)) (congrArg Value.bool ?_)
     first | exact (bl_t.2 (wide_t (i := i) (by omega) (by omega))).symm | exact (bl_f.2 (wide_f (by rw [take_all (by omega)] at hal; exact hal))).symm)
def greatP (rows : List (List Int)) : Prop := 12 < rows.length ∨ wideP rows
instance (rows : List (List Int)) : Decidable (greatP rows) := by unfold greatP; infer_instance
theorem law_great (w : World) (n : Int) (v : Value) (rv : List Value) (rows : List (List Int)) (hR : RdR encI 1 w.heap.size w v rv rows) : Ret Try.prog 7 [bookV n v].toArray w (.bool (bl (greatP rows))) := by
  refine Ret.of mixed tyTab Try.func7 rfl rfl ?_
  replace hR : RdR encI 1 (fnCx mixed tyTab Try.f7.ntmps w).B (fnCx mixed tyTab Try.f7.ntmps w).w0 v rv rows := hR
  have hoc := hR.sl.oc
  refine W.sreg ?_
  refine WO.boxA rfl rfl (fun b1 hb1 => ?_)
  refine WO.p rfl rfl ?_
  refine WO.nil ?_
  refine W.sreg ?_
  refine WO.fieldL rfl rfl rfl (WO.load rfl rfl (Cell.own Pick.head rfl) rfl ?_)
  refine' WO.len (n := _) rfl rfl ?hs rfl ?_
  case hs => (first | exact hR.sl)
  refine WO.p rfl rfl (WO.p rfl rfl ?_)
  refine WO.guard_bl rfl rfl (fun c1 => ?_) (fun c1 => ?_)
  · first
    | (exfalso; omega)
    | (refine WO.no rfl rfl (WO.no rfl rfl (WO.no rfl rfl (WO.p rfl rfl (WO.p rfl rfl ?_))))
       refine WO.nil ?_
       refine W.ret ?_
       refine fin.ret (Res.one rfl (RV.tmp rfl)) (congrArg Value.bool ?_)
       first | exact (bl_t.2 (Or.inl (by omega))).symm | exact bl_cg ⟨fun h => Or.inr h, fun h => h.resolve_left (by omega)⟩)
  first
  | (exfalso; omega)
  | (refine WO.go' rfl (WO.fieldL rfl rfl rfl (WO.go' rfl (WO.load rfl rfl (Cell.own Pick.head rfl) rfl (WO.go' rfl ?_))))
     refine WO.callR rfl Try.call17 (fun L w' hi => law_wide w' v rv rows (hR.later hi)) rfl ?_
     refine WO.p rfl rfl (WO.p rfl rfl ?_)
     refine WO.nil ?_
     refine W.ret ?_
     refine fin.ret (Res.one rfl (RV.tmp rfl)) (congrArg Value.bool ?_)
     first | exact (bl_t.2 (Or.inl (by omega))).symm | exact bl_cg ⟨fun h => Or.inr h, fun h => h.resolve_left (by omega)⟩)
def fineP (n : Int) (rows : List (List Int)) (r : List Int) : Prop := ¬ greatP rows ∧ chkB n rows = 0 ∧ chkR n r = 0
instance (n : Int) (rows : List (List Int)) (r : List Int) : Decidable (fineP n rows r) := by unfold fineP; infer_instance
theorem law_fine (w : World) (n : Int) (v u : Value) (rv : List Value) (rows : List (List Int)) (r : List Int) (hB : RdR encI 1 w.heap.size w v rv rows) (hR : RdF encI 1 w.heap.size w u r) : Ret Try.prog 20 [bookV n v, u].toArray w (.bool (bl (fineP n rows r))) := by
  refine Ret.of mixed tyTab Try.func20 rfl rfl ?_
  replace hB : RdR encI 1 (fnCx mixed tyTab Try.f20.ntmps w).B (fnCx mixed tyTab Try.f20.ntmps w).w0 v rv rows := hB
  replace hR : RdF encI 1 (fnCx mixed tyTab Try.f20.ntmps w).B (fnCx mixed tyTab Try.f20.ntmps w).w0 u r := hR
  have hoc := hB.sl.oc
  refine W.sreg ?_
  refine WO.boxA rfl rfl (fun b1 hb1 => ?_)
  refine WO.p rfl rfl ?_
  refine WO.nil ?_
  refine W.sreg ?_
  refine WO.loadA rfl rfl (Cells.own Pick.head) rfl rfl ?_
  refine WO.callR rfl Try.call7 (fun L w' hi => law_great w' n v rv rows (hB.later hi)) rfl ?_
  refine WO.p rfl rfl (WO.p rfl rfl ?_)
  refine WO.guard_nbl rfl rfl (fun c1 => ?_) (fun c1 => ?_)
  · first
    | (exfalso; omega)
    | (refine WO.go' rfl (WO.loadA rfl rfl (Cells.own Pick.head) rfl rfl (WO.go' rfl ?_))
       refine WO.callR rfl Try.call23 (fun L w' hi => ref_CheckBook w' n v rv rows (hB.later hi)) rfl ?_
       refine WO.pg rfl rfl rfl (WO.p rfl rfl (WO.p rfl rfl ?_))
       refine WO.guard_bl rfl rfl (fun c2 => ?_) (fun c2 => ?_)
       · first
         | (exfalso; omega)
         | (refine WO.go' rfl (WO.loadA rfl rfl (Cells.own Pick.head) rfl rfl (WO.pg rfl rfl rfl (WO.go' rfl ?_)))
            refine WO.callR rfl Try.call44 (fun L w' hi => ref_Row w' n v u r hoc (hR.later hi)) rfl ?_
            refine WO.pg rfl rfl rfl (WO.p rfl rfl (WO.p rfl rfl ?_))
            refine WO.nil ?_
            refine W.ret ?_
            refine fin.ret (Res.one rfl (RV.tmp rfl)) (congrArg Value.bool ?_)
            first | exact (bl_f.2 (fun g => g.1 (by assumption))).symm | exact (bl_f.2 (fun g => by have := g.2.1; omega)).symm | exact bl_cg ⟨fun h => ⟨by assumption, by omega, h⟩, fun h => h.2.2⟩)
       first
       | (exfalso; omega)
       | (refine WO.no rfl rfl (WO.no rfl rfl (WO.no rfl rfl (WO.no rfl rfl (WO.p rfl rfl (WO.p rfl rfl ?_)))))
          refine WO.nil ?_
          refine W.ret ?_
          refine fin.ret (Res.one rfl (RV.tmp rfl)) (congrArg Value.bool ?_)
          first | exact (bl_f.2 (fun g => g.1 (by assumption))).symm | exact (bl_f.2 (fun g => by have := g.2.1; omega)).symm | exact bl_cg ⟨fun h => ⟨by assumption, by omega, h⟩, fun h => h.2.2⟩))
  first
  | (exfalso; omega)
  | (refine WO.no rfl rfl (WO.no rfl rfl (WO.no rfl rfl (WO.p rfl rfl (WO.p rfl rfl (WO.no rfl rfl (WO.no rfl rfl (WO.no rfl rfl (WO.no rfl rfl (WO.p rfl rfl (WO.p rfl rfl ?_))))))))))
     refine WO.nil ?_
     refine W.ret ?_
     refine fin.ret (Res.one rfl (RV.tmp rfl)) (congrArg Value.bool ?_)
     first | exact (bl_f.2 (fun g => g.1 (by assumption))).symm | exact (bl_f.2 (fun g => by have := g.2.1; omega)).symm | exact bl_cg ⟨fun h => ⟨by assumption, by omega, h⟩, fun h => h.2.2⟩)
end Go.Proofs.Ytelmclmklkiphaa
namespace Go.Proofs.Ytelmclmklkiphaa
open Go Go.TH
attribute [local irreducible] W WO pt
set_option maxRecDepth 10000
set_option maxHeartbeats 1000000
theorem mul_bd {a b A B : Int} (ha : -A ≤ a ∧ a ≤ A) (hb : -B ≤ b ∧ b ≤ B) : -(A * B) ≤ a * b ∧ a * b ≤ A * B := by
  have h1 : a.natAbs * b.natAbs ≤ A.natAbs * B.natAbs := Nat.mul_le_mul (by omega) (by omega)
  have h2 : (a * b).natAbs = a.natAbs * b.natAbs := Int.natAbs_mul a b
  have h3 : (A * B).natAbs = A.natAbs * B.natAbs := Int.natAbs_mul A B
  have h4 : 0 ≤ A * B := Int.mul_nonneg (by omega) (by omega)
  omega
/-- the sum of the first products -/
def dotN (g h : Nat → Int) : Nat → Int
  | 0 => 0
  | n + 1 => dotN g h n + g n * h n
theorem dotN_bd {g h : Nat → Int} {A B : Int} : ∀ {n : Nat}, (∀ i, i < n → -A ≤ g i ∧ g i ≤ A) → (∀ i, i < n → -B ≤ h i ∧ h i ≤ B) → -((n : Int) * (A * B)) ≤ dotN g h n ∧ dotN g h n ≤ (n : Int) * (A * B)
  | 0, _, _ => by simp [dotN]
  | n + 1, hg, hh => by
    have h1 := dotN_bd (n := n) (fun i hi => hg i (by omega)) (fun i hi => hh i (by omega))
    have h2 := mul_bd (hg n (by omega)) (hh n (by omega))
    have h3 : ((n + 1 : Nat) : Int) * (A * B) = (n : Int) * (A * B) + A * B := by rw [Int.natCast_add, Int.add_mul]; simp
    rw [h3]
    show -_ ≤ dotN g h n + g n * h n ∧ dotN g h n + g n * h n ≤ _
    omega
theorem dotN_cg {g g' h h' : Nat → Int} : ∀ {n : Nat}, (∀ i, i < n → g i = g' i) → (∀ i, i < n → h i = h' i) → dotN g h n = dotN g' h' n
  | 0, _, _ => rfl
  | n + 1, hg, hh => by
    show dotN g h n + g n * h n = dotN g' h' n + g' n * h' n
    rw [dotN_cg (fun i hi => hg i (by omega)) (fun i hi => hh i (by omega)), hg n (by omega), hh n (by omega)]
/-- a row, with zeros behind it -/
def fnL (l : List Int) (k : Nat) : Int := l.getD k 0
def r5 (g : Nat → Int) : List Value := [.int .i64 (g 0), .int .i64 (g 1), .int .i64 (g 2), .int .i64 (g 3), .int .i64 (g 4)]
def rowV (g : Nat → Int) : Value := .agg (r5 g).toArray
theorem r5_get {g : Nat → Int} {k : Nat} (h : k < 5) : lget (r5 g) k = some (.int .i64 (g k)) := by
  match k, h with
  | 0, _ => rfl
  | 1, _ => rfl
  | 2, _ => rfl
  | 3, _ => rfl
  | 4, _ => rfl
def updV (X : Nat → Int) (k : Nat) (v : Int) (j : Nat) : Int := if j = k then v else X j
theorem r5_set {g : Nat → Int} {k : Nat} {v : Int} (h : k < 5) : (r5 g).set k (.int .i64 v) = r5 (updV g k v) := by
  match k, h with
  | 0, _ => rfl
  | 1, _ => rfl
  | 2, _ => rfl
  | 3, _ => rfl
  | 4, _ => rfl
theorem r5_pad {l : List Int} (h : l.length ≤ 5) : l.map (Value.int .i64) ++ ((r5 (fun _ => 0)).drop l.length) = r5 (fnL l) := by
  match l, h with
  | [], _ => rfl
  | [a], _ => rfl
  | [a, b], _ => rfl
  | [a, b, c], _ => rfl
  | [a, b, c, d], _ => rfl
  | [a, b, c, d, e], _ => rfl
  | a :: b :: c :: d :: e :: f :: r, h => simp at h
theorem encI_flat (l : List Int) : l.flatMap encI = l.map (Value.int .i64) := by
  induction l with
  | nil => rfl
  | cons a r ih => rw [List.flatMap_cons, ih, List.map_cons, encI, List.singleton_append]
section
variable {P : Program} {C : Cx P} {E : Env} {H : List HP}
variable {ops : Array Oper} {K : KP} {rest : List Oper} {d : Nat} {ty : TypeId} {pos : String} {af : Array Edge} {x y : Operand} {T : TypeId}
/-- copy into the beginning of a variable of one's own -/
theorem WO.copyPt {b n n' m e t by' : Nat} {u : Value} {cs ws : List Value} {H' : List HP} (hT : C.tt.sl? T = some (e, 1, by')) (hx : ev E x = some (.slice (some ⟨b, 0, none⟩) n n')) (hy : ev E y = some u) (p : Pick (pt b (.cells cs.toArray t (0, 0))) H H') (hS : IsSl u m) (hnm : m ≤ n) (hm : 0 < m) (hcs : n ≤ cs.length)
    (hc : Cells C H (base u) ws) (hl : ws.length = m) (h1 : ∀ c ∈ ws, c.oneCell' = true) (hN : Nat.blt d C.N = true)
    (h : WO C ops rest K ((d, .int .i64 (m : Int)) :: E) (pt b (.cells (ws ++ cs.drop m).toArray t (0, 0)) :: H')) : WO C ops (⟨some d, .call ⟨.builtin .copy, #[x, y], #[T, T]⟩, ty, pos, af, none⟩ :: rest) K E H := by
  refine WO.step rfl rfl hN (XO.run (by simp) fun L a w hf hi => ?_)
  obtain ⟨_, ao, c, rfl, hao⟩ := hS
  obtain ⟨gg, oo, rfl⟩ := hao hm
  have hST := SlT.of hT
  have hv := hi.pickL p
  have hlook := ((hv.perm List.perm_middle).look .head).1
  have hmin : ws.length = Nat.min m n := by rw [hl]; exact (Nat.min_eq_left hnm).symm
  have hrun := run_copy_row (P := P) w T T ty e b 0 n n' ⟨gg, oo, none⟩ m c cs.toArray t ws hST.u hST.size hlook hmin
    (fun j v' hj => by have := hc j v' hj L w hi; simpa [base] using this) (by simp [hl]; omega) h1
  have hcur : ((cs.toArray.toList.take 0 ++ ws ++ cs.toArray.toList.drop (0 + ws.length)).toArray) = (ws ++ cs.drop m).toArray := by simp [hl]
  rw [hcur] at hrun
  refine ⟨_, w.setRow b (ws ++ cs.drop m).toArray, pt b (.cells (ws ++ cs.drop m).toArray t (0, 0)) :: H', .inl ?_, h, ?_⟩
  · simp only [execOp, resolve, hf.eval hx, hf.eval hy]
    simp [hf.eval hx, hf.eval hy, Deferred.ofValue, invoke, builtin, hrun, goInt, hl]
  have h2 := Inv.set (b := b) (o := .cells cs.toArray t (0, 0)) (o' := .cells (ws ++ cs.drop m).toArray t (0, 0)) (w' := w.setRow b (ws ++ cs.drop m).toArray) hv (Pick.mem) rfl rfl rfl (by simp [World.setRow]) (TH.setRow_same hlook) (fun k hk => TH.setRow_other hk)
  exact h2.perm (List.perm_middle (l₁ := L) (l₂ := H')).symm
end
theorem RdF.base {C : Cx Try.prog} {H : List HP} {o : Value} {xs : List Int} (h : RdF encI 1 C.B C.w0 o xs) : Cells C H (base o) (xs.map (Value.int .i64)) := by
  rw [← encI_flat]
  exact RdF.flat encI_ok h
theorem c_newRow (w : World) (o : Value) (xs : List Int) (hR : RdF encI 1 w.heap.size w o xs) (h0 : 0 < xs.length) (h5 : xs.length ≤ 5) : Ret Try.prog 32 [o].toArray w (rowV (fnL xs)) := by
  refine Ret.of mixed tyTab Try.func32 rfl rfl ?_
  replace hR : RdF encI 1 (fnCx mixed tyTab Try.f32.ntmps w).B (fnCx mixed tyTab Try.f32.ntmps w).w0 o xs := hR
  refine W.sreg ?_
  refine WO.alloc rfl rfl rfl (fun b1 hb1 => ?_)
  refine WO.nil ?_
  refine W.sreg ?_
  refine WO.alloc rfl rfl rfl (fun b2 hb2 => ?_)
  refine WO.nil ?_
  refine W.sreg ?_
  refine WO.sliceArr rfl rfl rfl ?_
  refine WO.p rfl rfl ?_
  refine WO.copyPt (m := xs.length) (cs := r5 (fun _ => 0)) (ws := xs.map (Value.int .i64)) rfl rfl rfl (by repeat (first | exact Pick.head | apply Pick.tail)) hR.sl (by omega) h0 (by simp [r5]) (RdF.base hR) (by simp) (fun c hc => by obtain ⟨z, _, rfl⟩ := List.mem_map.1 hc; rfl) rfl ?_
  rw [r5_pad h5]
  refine WO.nil ?_
  refine W.sreg ?_
  refine WO.loadA rfl rfl (Cells.own Pick.head) rfl rfl (WO.storeA rfl rfl rfl rfl (Pick.tail (Pick.head)) rfl rfl ?_)
  refine WO.nil ?_
  refine W.ret ?_
  exact fin.ret (Res.one rfl (RV.cell rfl rfl rfl (Cells.own (by repeat (first | exact Pick.head | apply Pick.tail))))) rfl
theorem c_sum (w : World) (g : Nat → Int) (o : Value) (xs : List Int) (hR : RdF encI 1 w.heap.size w o xs) (h5 : xs.length ≤ 5) (hg : ∀ i, i < 5 → -4 ≤ g i ∧ g i ≤ 4) (hx : WiB 1099511627776 xs) : Ret Try.prog 33 [rowV g, o].toArray w (.int .i64 (dotN g (fnL xs) xs.length)) := by
  refine Ret.of mixed tyTab Try.func33 rfl rfl ?_
  replace hR : RdF encI 1 (fnCx mixed tyTab Try.f33.ntmps w).B (fnCx mixed tyTab Try.f33.ntmps w).w0 o xs := hR
  refine W.sreg ?_
  refine WO.boxA rfl rfl (fun b1 hb1 => ?_)
  refine WO.p rfl rfl ?_
  refine WO.nil ?_
  refine W.sreg ?_
  refine WO.p rfl rfl ?_
  refine WO.nil ?_
  refine W.seq ?_
  refine W.sreg ?_
  refine WO.p rfl rfl ?_
  refine' WO.len (n := _) rfl rfl ?hs rfl ?_
  case hs => (first | exact hR.sl)
  refine WO.p rfl rfl ?_
  refine WO.nil ?_
  refine W.block ?_
  refine W.loop (fun (i : Nat) => i ≤ xs.length)
    (fun (i : Nat) => [(2, .pointer (some ⟨b1, 0, none⟩)), (5, .int .i64 (dotN g (fnL xs) i)), (8, o), (9, .int .i64 (xs.length : Int)), (10, .int .i64 (i : Int))])
    (fun (i : Nat) => [pt b1 (.cells (r5 g).toArray 57 (0, 0))])
    (fun (i : Nat) => xs.length - i) 0
    (by omega) ⟨rfl, rfl, rfl, rfl, rfl, trivial⟩ (by repeat (first | exact Sub.nil | refine Sub.cons (by repeat (first | exact Pick.head | apply Pick.tail)) ?_)) ?_
  rintro i hi
  refine W.sreg ?_
  refine WO.p rfl rfl ?_
  refine WO.nil ?_
  refine W.seq ?_
  refine W.cond_bl rfl (fun c1 => ?_) (fun c1 => ?_)
  · first
    | (exfalso; omega)
    | (refine W.skip ?_
       refine W.seq ?_
       refine W.block ?_
       have hgi := hg i (by omega)
       have hxi := hx.at_ (i := i) (by omega)
       have hm := mul_bd hgi hxi
       have hd := dotN_bd (n := i) (fun j hj => hg j (by omega)) (fun j hj => hx.at_ (i := j) (by omega))
       have hi5 : (i : Int) * (4 * 1099511627776) ≤ 4 * (4 * 1099511627776) := Int.mul_le_mul_of_nonneg_right (by omega) (by omega)
       change -((i : Int) * (4 * 1099511627776)) ≤ dotN g (fnL xs) i ∧ dotN g (fnL xs) i ≤ (i : Int) * (4 * 1099511627776) at hd
       refine W.sreg ?_
       refine WO.p rfl rfl ?_
       refine' WO.indexAddr (n := _) (i := _) rfl rfl rfl ?hs ?h1 rfl ?_
       case hs => (first | exact hR.sl)
       case h1 => (first | omega | (simp; omega))
       refine' WO.load (v := _) rfl rfl ?hc rfl ?_
       case hc => (first | (refine hR.cell0 ?_ 0 ?_ <;> first | rfl | omega))
       refine WO.p rfl rfl (WO.p rfl rfl ?_)
       refine WO.nil ?_
       refine W.region ?_
       refine WO.p rfl rfl (WO.p rfl rfl ?_)
       refine WO.indexArrE (i := i) (o' := i) rfl rfl rfl rfl (by omega) (by omega) rfl ?_
       refine' WO.load (v := _) rfl rfl ?hc rfl ?_
       case hc => (first | (refine Cell.own (by repeat (first | exact Pick.head | apply Pick.tail)) ?_; exact r5_get (g := g) (k := i) (by omega)))
       refine WO.p rfl rfl (WO.ar rfl rfl rfl (by (first | (unfold fnL at *; unfold in64; omega))) rfl (WO.ar rfl rfl rfl (by (first | (unfold fnL at *; unfold in64; omega))) rfl (WO.p rfl rfl ?_)))
       refine WO.nil ?_
       refine W.region ?_
       refine WO.ar rfl rfl rfl (by (first | (unfold in64; omega))) rfl (WO.p rfl rfl ?_)
       refine WO.nil ?_
       refine' ⟨i + 1, ?hp, ?hmu, ⟨rfl, rfl, rfl, rfl, rfl, trivial⟩, ?hS⟩
       case hS => repeat (first | exact Sub.nil | refine Sub.cons (by repeat (first | exact Pick.head | apply Pick.tail)) ?_)
       case hp => omega
       case hmu => omega)
  first
  | (exfalso; omega)
  | (refine W.exit (blk_same ?_)
     refine W.sreg ?_
     refine WO.p rfl rfl (WO.p rfl rfl ?_)
     refine WO.nil ?_
     refine W.ret ?_
     obtain rfl : i = xs.length := by omega
     exact fin.ret (Res.one rfl (RV.tmp rfl)) rfl)
theorem ref_Sum (w : World) (o u : Value) (r xs : List Int) (hR : RdF encI 1 w.heap.size w o r) (hX : RdF encI 1 w.heap.size w u xs) (hl : r.length = xs.length) (h5 : xs.length ≤ 5) (hg : WiB 4 r) (hx : WiB 1099511627776 xs) : Ret Try.prog 36 [o, u].toArray w (.int .i64 (dotN (fnL r) (fnL xs) xs.length)) := by
  refine Ret.of mixed tyTab Try.func36 rfl rfl ?_
  replace hR : RdF encI 1 (fnCx mixed tyTab Try.f36.ntmps w).B (fnCx mixed tyTab Try.f36.ntmps w).w0 o r := hR
  replace hX : RdF encI 1 (fnCx mixed tyTab Try.f36.ntmps w).B (fnCx mixed tyTab Try.f36.ntmps w).w0 u xs := hX
  refine W.sreg ?_
  refine WO.p rfl rfl ?_
  refine WO.nil ?_
  refine W.sreg ?_
  refine WO.p rfl rfl ?_
  refine WO.nil ?_
  refine W.seq ?_
  refine W.sreg ?_
  refine WO.p rfl rfl ?_
  refine WO.nil ?_
  refine W.block ?_
  refine W.loop (fun (i : Nat) => i ≤ xs.length)
    (fun (i : Nat) => [(0, o), (1, u), (5, .int .i64 (dotN (fnL r) (fnL xs) i)), (6, .int .i64 (i : Int))])
    (fun (i : Nat) => [])
    (fun (i : Nat) => xs.length - i) 0
    (by omega) ⟨rfl, rfl, rfl, rfl, trivial⟩ (by repeat (first | exact Sub.nil | refine Sub.cons (by repeat (first | exact Pick.head | apply Pick.tail)) ?_)) ?_
  rintro i hi
  refine W.seq ?_
  refine W.sreg ?_
  refine WO.p rfl rfl (WO.p rfl rfl ?_)
  refine' WO.len (n := _) rfl rfl ?hs rfl ?_
  case hs => (first | exact hR.sl | exact hX.sl)
  refine WO.p rfl rfl ?_
  refine WO.nil ?_
  refine W.cond_bl rfl (fun c1 => ?_) (fun c1 => ?_)
  · first
    | (exfalso; omega)
    | (refine W.skip ?_
       refine W.seq ?_
       refine W.block ?_
       have hgi := hg.at_ (i := i) (by omega)
       have hxi := hx.at_ (i := i) (by omega)
       have hm := mul_bd hgi hxi
       have hd := dotN_bd (n := i) (fun j hj => hg.at_ (i := j) (by omega)) (fun j hj => hx.at_ (i := j) (by omega))
       have hi5 : (i : Int) * (4 * 1099511627776) ≤ 4 * (4 * 1099511627776) := Int.mul_le_mul_of_nonneg_right (by omega) (by omega)
       change -((i : Int) * (4 * 1099511627776)) ≤ dotN (fnL r) (fnL xs) i ∧ dotN (fnL r) (fnL xs) i ≤ (i : Int) * (4 * 1099511627776) at hd
       refine W.drawD 10 [.r 0 [], .r 1 [], .r 2 [], .r 3 [], .b 4 [], .r 5 [], .r 6 [], .r 7 [], .b 8 [], .r 9 []] [] (A0 := []) (Sub.refl _) (by kernel_rfl) ?_ ?_
       · exact (ALok.r (ALok.r (ALok.r (ALok.r (ALok.b (ALok.r (ALok.r (ALok.r (ALok.b (ALok.r ALok.nil))))))))))
       refine' DT.r rfl rfl rfl ?hq ?_
       case hq =>
         refine WO.p rfl rfl ?_
         exact WO.nil ⟨rfl, rfl⟩
       refine' DT.r rfl rfl rfl ?hq ?_
       case hq =>
         refine WO.p rfl rfl ?_
         exact WO.nil ⟨rfl, rfl⟩
       refine' DT.r rfl rfl rfl ?hq ?_
       case hq =>
         refine WO.p rfl rfl ?_
         exact WO.nil ⟨rfl, rfl⟩
       refine' DT.r rfl rfl rfl ?hq ?_
       case hq =>
         refine' WO.indexAddr (n := _) (i := _) rfl rfl rfl ?hs ?h1 rfl ?_
         case hs => (first | exact hR.sl | exact hX.sl)
         case h1 => (first | omega | (simp; omega))
         exact WO.nil ⟨rfl, rfl⟩
       refine' DT.b rfl rfl rfl ?hq ?_
       case hq =>
         refine' WO.load (v := _) rfl rfl ?hc rfl ?_
         case hc => (first | (refine hR.cell0 ?_ 0 ?_ <;> first | rfl | omega))
         exact WO.nil ⟨rfl, rfl⟩
       refine' DT.r rfl rfl rfl ?hq ?_
       case hq =>
         refine WO.p rfl rfl ?_
         exact WO.nil ⟨rfl, rfl⟩
       refine' DT.r rfl rfl rfl ?hq ?_
       case hq =>
         refine WO.p rfl rfl ?_
         exact WO.nil ⟨rfl, rfl⟩
       refine' DT.r rfl rfl rfl ?hq ?_
       case hq =>
         refine' WO.indexAddr (n := _) (i := _) rfl rfl rfl ?hs ?h1 rfl ?_
         case hs => (first | exact hR.sl | exact hX.sl)
         case h1 => (first | omega | (simp; omega))
         exact WO.nil ⟨rfl, rfl⟩
       refine' DT.b rfl rfl rfl ?hq ?_
       case hq =>
         refine' WO.load (v := _) rfl rfl ?hc rfl ?_
         case hc => (first | (refine hX.cell0 ?_ 0 ?_ <;> first | rfl | omega))
         exact WO.nil ⟨rfl, rfl⟩
       refine' DT.r rfl rfl rfl ?hq ?_
       case hq =>
         refine WO.ar rfl rfl rfl (by (first | (unfold fnL at *; unfold in64; omega))) rfl ?_
         exact WO.nil ⟨rfl, rfl⟩
       refine DT.nil [] rfl ?_
       refine WO.ar rfl rfl rfl (by (first | (unfold fnL at *; unfold in64; omega))) rfl (WO.p rfl rfl ?_)
       refine WO.nil ?_
       refine W.region ?_
       refine WO.p rfl rfl (WO.ar rfl rfl rfl (by (first | (unfold in64; omega))) rfl (WO.p rfl rfl ?_))
       refine WO.nil ?_
       refine' ⟨i + 1, ?hp, ?hmu, ⟨rfl, rfl, rfl, rfl, trivial⟩, ?hS⟩
       case hS => repeat (first | exact Sub.nil | refine Sub.cons (by repeat (first | exact Pick.head | apply Pick.tail)) ?_)
       case hp => omega
       case hmu => omega)
  first
  | (exfalso; omega)
  | (refine W.exit (blk_same ?_)
     refine W.sreg ?_
     refine WO.p rfl rfl (WO.p rfl rfl ?_)
     refine WO.nil ?_
     refine W.ret ?_
     obtain rfl : i = xs.length := by omega
     exact fin.ret (Res.one rfl (RV.tmp rfl)) rfl)
end Go.Proofs.Ytelmclmklkiphaa
namespace Go.Proofs.Ytelmclmklkiphaa
open Go Go.TH
attribute [local irreducible] W WO pt
set_option maxRecDepth 10000
set_option maxHeartbeats 1000000
theorem dotN_comm (g h : Nat → Int) : ∀ n, dotN g h n = dotN h g n
  | 0 => rfl
  | n + 1 => by
    show dotN g h n + g n * h n = dotN h g n + h n * g n
    rw [dotN_comm g h n, Int.mul_comm]
/-- the k-th numbers of the rows -/
def colN (rows : List (List Int)) (k i : Nat) : Int := fnL (rows.getD i []) k
/-- what is left at place k -/
def lefN (rows : List (List Int)) (r q : List Int) (t : Int) (k : Nat) : Int := (-t) * fnL r k + dotN (fnL q) (colN rows k) rows.length
def RtP (rows : List (List Int)) (r q : List Int) (t : Int) : Prop := ∀ k, k < r.length → lefN rows r q t k = 0
instance (rows : List (List Int)) (r q : List Int) (t : Int) : Decidable (RtP rows r q t) := by unfold RtP; infer_instance
/-- the error of a proof -/
def cpE (n : Int) (rows : List (List Int)) (r q : List Int) (t : Int) : Int :=
  if chkBR n rows r ≠ 0 then chkBR n rows r else if q.length ≠ rows.length then 15 else if ¬ WiB 1099511627776 q ∨ t < 1 ∨ 1099511627776 < t then 3 else if ¬ RtP rows r q t then 14 else 0
theorem cpE0 {n : Int} {rows : List (List Int)} {r q : List Int} {t : Int} : cpE n rows r q t = 0 ↔ chkBR n rows r = 0 ∧ q.length = rows.length ∧ WiB 1099511627776 q ∧ (1 ≤ t ∧ t ≤ 1099511627776) ∧ RtP rows r q t := by
  unfold cpE
  split
  · exact ⟨fun h => by omega, fun h => by omega⟩
  split
  · exact ⟨fun h => by omega, fun h => by omega⟩
  split
  · rename_i h
    exact ⟨fun h => by omega, fun g => by rcases h with h | h; exact absurd g.2.2.1 h; omega⟩
  split
  · exact ⟨fun h => by omega, fun g => absurd g.2.2.2.2 (by assumption)⟩
  rename_i h1 h2 h3 h4
  exact ⟨fun _ => ⟨by omega, by omega, Decidable.not_not.1 (fun g => h3 (.inl g)), ⟨by omega, by omega⟩, Decidable.not_not.1 h4⟩, fun _ => rfl⟩
section
variable {n : Int} {rows : List (List Int)} {r q : List Int} {t : Int}
theorem cpE_1 (h : chkBR n rows r ≠ 0) : cpE n rows r q t = chkBR n rows r := by unfold cpE; rw [if_pos h]
theorem cpE_15 (h : chkBR n rows r = 0) (h1 : q.length ≠ rows.length) : cpE n rows r q t = 15 := by unfold cpE; rw [if_neg (by omega), if_pos h1]
theorem cpE_3 (h : chkBR n rows r = 0) (h1 : q.length = rows.length) (h2 : ¬ WiB 1099511627776 q ∨ t < 1 ∨ 1099511627776 < t) : cpE n rows r q t = 3 := by unfold cpE; rw [if_neg (by omega), if_neg (by omega), if_pos h2]
theorem cpE_14 (h : chkBR n rows r = 0) (h1 : q.length = rows.length) (h2 : WiB 1099511627776 q) (h3 : 1 ≤ t) (h4 : t ≤ 1099511627776) (h5 : ¬ RtP rows r q t) : cpE n rows r q t = 14 := by
  unfold cpE; rw [if_neg (by omega), if_neg (by omega), if_neg (fun g => by rcases g with g | g; exact g h2; omega), if_pos h5]
end
theorem OkB.at_ {n : Int} {rows : List (List Int)} (h : OkB n rows) {i k : Nat} (hi : i < rows.length) (hk : (k : Int) < n) : -4 ≤ colN rows k i ∧ colN rows k i ≤ 4 := by
  have hl := h.2.2.1 _ (getD_mem hi [])
  exact (h.2.2.2 _ (getD_mem hi [])).at_ (by omega)
theorem OkB.len {n : Int} {rows : List (List Int)} (h : OkB n rows) {i : Nat} (hi : i < rows.length) : ((rows.getD i []).length : Int) = n := h.2.2.1 _ (getD_mem hi [])
theorem dot_bd8 {g h : Nat → Int} {A B : Int} {n : Nat} (hn : n ≤ 8) (hA : 0 ≤ A) (hB : 0 ≤ B) (h1 : ∀ i, i < n → -A ≤ g i ∧ g i ≤ A) (h2 : ∀ i, i < n → -B ≤ h i ∧ h i ≤ B) : -(8 * (A * B)) ≤ dotN g h n ∧ dotN g h n ≤ 8 * (A * B) := by
  have h3 := dotN_bd h1 h2
  have h4 : (n : Int) * (A * B) ≤ 8 * (A * B) := Int.mul_le_mul_of_nonneg_right (by omega) (Int.mul_nonneg hA hB)
  omega
section
variable {P : Program} {C : Cx P} {E : Env} {H : List HP}
variable {ops : Array Oper} {K : KP} {rest : List Oper} {ty : TypeId} {pos : String} {af : Array Edge} {x y : Operand} {T : TypeId}
theorem WO.storeK {b k t : Nat} {cs cs' : List Value} {v : Value} {H' : List HP} (hx : ev E x = some (.pointer (some ⟨b, k, none⟩))) (hy : ev E y = some v) (hT : C.tt.one? T = true) (h1 : v.oneCell' = true) (hk : k < cs.length) (hs : cs.set k v = cs') (p : Pick (pt b (.cells cs.toArray t (0, 0))) H H')
    (h : WO C ops rest K E (pt b (.cells cs'.toArray t (0, 0)) :: H')) : WO C ops (⟨none, .store T x y, ty, pos, af, none⟩ :: rest) K E H := by
  subst hs
  exact WO.store1 hx hy hT h1 p (Nat.blt_eq.mpr hk) h
end
/-- what is left at the places before k -/
def lefB (rows : List (List Int)) (r q : List Int) (t : Int) (k j : Nat) : Int := if j < k then lefN rows r q t j else 0
theorem lefB_0 (rows : List (List Int)) (r q : List Int) (t : Int) : lefB rows r q t 0 = fun _ => 0 := by funext j; unfold lefB; rw [if_neg (by omega)]
theorem lefB_succ (rows : List (List Int)) (r q : List Int) (t : Int) (k : Nat) : updV (lefB rows r q t k) k (lefN rows r q t k) = lefB rows r q t (k + 1) := by
  funext j
  unfold updV lefB
  by_cases h : j = k
  · subst h; rw [if_pos rfl, if_pos (by omega)]
  rw [if_neg h]
  by_cases g : j < k
  · rw [if_pos g, if_pos (by omega)]
  rw [if_neg g, if_neg (by omega)]
theorem upd_upd (X : Nat → Int) (k : Nat) (u v : Int) : updV (updV X k u) k v = updV X k v := by funext j; unfold updV; split <;> rfl
theorem upd_at (X : Nat → Int) (k : Nat) (u : Int) : updV X k u k = u := if_pos rfl
def zr5 (g : Nat → Int) : Prop := g 0 = 0 ∧ g 1 = 0 ∧ g 2 = 0 ∧ g 3 = 0 ∧ g 4 = 0
instance (g : Nat → Int) : Decidable (zr5 g) := by unfold zr5; infer_instance
theorem run57 (d : Nat) (w : World) (g : Nat → Int) : (Op.equalIn (d + 1 + 1) 57 (rowV g) (rowV fun _ => 0)).run Try.prog w = .ok (bl (zr5 g)) w := by
  obtain ⟨i, hi⟩ : ∃ i, Try.prog.info? 2 = some i := ⟨_, rfl⟩
  have hc : Try.prog.cellsOf 2 = 1 := rfl
  unfold rowV r5 zr5
  rw [run_equalIn_array _ (d + 1) (t := 57) (e := 2) (n := 5) _ _ rfl hi, hc]
  simp [Op.eqItems, go_sem, List.range, List.range.loop, Try.underlying2, bl_eq]
  by_cases h0 : g 0 = 0
  · by_cases h1 : g 1 = 0
    · by_cases h2 : g 2 = 0
      · by_cases h3 : g 3 = 0
        · by_cases h4 : g 4 = 0 <;> simp [h0, h1, h2, h3, h4, bl_eq]
        simp [h0, h1, h2, h3, bl_eq]
      simp [h0, h1, h2, bl_eq]
    simp [h0, h1, bl_eq]
  simp [h0, bl_eq]
theorem eq57 (g : Nat → Int) : EqT Try.prog .eql 57 (rowV g) (rowV fun _ => 0) (.bool (bl (zr5 g))) := by
  intro x y w
  have h := run57 9998 w g
  unfold rowV at *
  simp [go_sem, Try.eqGuardType57, Try.underlying57, h]
theorem neq57 (g : Nat → Int) : EqT Try.prog .neq 57 (rowV g) (rowV fun _ => 0) (.bool (bl (¬ zr5 g))) := by
  intro x y w
  have h := run57 9998 w g
  unfold rowV at *
  simp [go_sem, Try.eqGuardType57, Try.underlying57, h, bl_eq]
theorem lef_in {n : Int} {rows : List (List Int)} {r q : List Int} {t : Int} (h : OkB n rows) (hr : (r.length : Int) = n) (hw : WiB 4 r) (hq : q.length = rows.length) (hqw : WiB 1099511627776 q) (ht : 1 ≤ t ∧ t ≤ 1099511627776) {k i : Nat} (hk : k < r.length) (hi : i ≤ rows.length) :
    (-4398046511104 ≤ (-t) * fnL r k ∧ (-t) * fnL r k ≤ 4398046511104) ∧ (-35184372088832 ≤ dotN (fnL q) (colN rows k) i ∧ dotN (fnL q) (colN rows k) i ≤ 35184372088832) := by
  have h1 := mul_bd (a := -t) (A := 1099511627776) (by omega) (hw.at_ hk)
  have h2 := dot_bd8 (n := i) (g := fnL q) (h := colN rows k) (A := 1099511627776) (B := 4) (by have := h.1; omega) (by omega) (by omega) (fun j hj => hqw.at_ (by omega)) (fun j hj => h.at_ (by omega) (by omega))
  unfold fnL at *
  omega
theorem colF {n : Int} {rows : List (List Int)} (_ : OkB n rows) (k i : Nat) : colN rows k i = (rows.getD i []).getD k 0 := rfl
theorem zr_lef {rows : List (List Int)} {r q : List Int} {t : Int} (h5 : r.length ≤ 5) : zr5 (lefB rows r q t r.length) ↔ RtP rows r q t := by
  have e : ∀ j, lefB rows r q t r.length j = 0 ↔ (j < r.length → lefN rows r q t j = 0) := fun j => by
    unfold lefB
    split
    · exact ⟨fun h _ => h, fun h => h (by assumption)⟩
    exact ⟨fun _ h => absurd h (by assumption), fun _ => rfl⟩
  unfold zr5
  rw [e, e, e, e, e]
  constructor
  · rintro ⟨a0, a1, a2, a3, a4⟩ k hk
    match k, (show k < 5 by omega) with
    | 0, _ => exact a0 hk
    | 1, _ => exact a1 hk
    | 2, _ => exact a2 hk
    | 3, _ => exact a3 hk
    | 4, _ => exact a4 hk
  exact fun h => ⟨h 0, h 1, h 2, h 3, h 4⟩
theorem c_CheckProof (w : World) (n : Int) (v u o : Value) (rv : List Value) (rows : List (List Int)) (r q : List Int) (t : Int) (hB : RdR encI 1 w.heap.size w v rv rows) (hR : RdF encI 1 w.heap.size w u r) (hQ : RdF encI 1 w.heap.size w o q) : Ret Try.prog 9 [bookV n v, u, .agg #[o, .int .i64 t]].toArray w (.int .i64 (cpE n rows r q t)) := by
  refine Ret.of mixed tyTab Try.func9 rfl rfl ?_
  replace hB : RdR encI 1 (fnCx mixed tyTab Try.f9.ntmps w).B (fnCx mixed tyTab Try.f9.ntmps w).w0 v rv rows := hB
  replace hR : RdF encI 1 (fnCx mixed tyTab Try.f9.ntmps w).B (fnCx mixed tyTab Try.f9.ntmps w).w0 u r := hR
  replace hQ : RdF encI 1 (fnCx mixed tyTab Try.f9.ntmps w).B (fnCx mixed tyTab Try.f9.ntmps w).w0 o q := hQ
  have hoc := hB.sl.oc
  have hoq := hQ.sl.oc
  refine W.sreg ?_
  refine WO.boxA rfl rfl (fun b1 hb1 => ?_)
  refine WO.boxA rfl rfl (fun b2 hb2 => ?_)
  refine WO.p rfl rfl ?_
  refine WO.nil ?_
  refine W.seq ?_
  refine W.sreg ?_
  refine WO.loadA rfl rfl (Cells.own (Pick.tail (Pick.head))) rfl rfl (WO.p rfl rfl ?_)
  refine WO.callR rfl Try.call28 (fun L w' hi => c_checkRow w' n v u rv rows r (hB.later hi) (hR.later hi)) rfl ?_
  refine WO.p rfl rfl ?_
  refine WO.nil ?_
  refine W.sreg ?_
  refine WO.p rfl rfl (WO.p rfl rfl ?_)
  refine WO.nil ?_
  refine W.cond_bl rfl (fun c1 => ?_) (fun c1 => ?_)
  · first
    | (exfalso; omega)
    | (refine W.sreg ?_
       refine WO.p rfl rfl (WO.p rfl rfl ?_)
       refine WO.nil ?_
       refine W.ret ?_
       refine fin.ret (Res.one rfl (RV.tmp rfl)) (congrArg (Value.int .i64) ?_)
       first | exact (cpE_1 (by omega)).symm | exact (cpE_15 (by omega) (by omega)).symm | exact (cpE_3 (by omega) (by omega) (Or.inl (by assumption))).symm | exact (cpE_3 (by omega) (by omega) (Or.inr (by omega))).symm | exact (cpE_14 (by omega) (by omega) (by assumption) (by omega) (by omega) (fun g => absurd ((zr_lef (by omega)).2 g) (by assumption))).symm | exact (cpE0.2 ⟨by omega, by omega, by assumption, by omega, (zr_lef (by omega)).1 (Decidable.not_not.1 (by assumption))⟩).symm)
  first
  | (exfalso; omega)
  | (refine W.skip ?_
     refine W.seq ?_
     refine W.block ?_
     refine W.sreg ?_
     refine WO.field0 rfl rfl rfl (WO.load rfl rfl (Cell.own Pick.head rfl) rfl ?_)
     refine' WO.len (n := _) rfl rfl ?hs rfl ?_
     case hs => (first | exact hB.sl | exact hR.sl | exact hQ.sl | exact (hB.row i (by omega)).sl)
     refine WO.fieldL rfl rfl rfl (WO.load rfl rfl (Cell.own (Pick.tail (Pick.head)) rfl) rfl ?_)
     refine' WO.len (n := _) rfl rfl ?hs rfl ?_
     case hs => (first | exact hB.sl | exact hR.sl | exact hQ.sl | exact (hB.row i (by omega)).sl)
     refine WO.p rfl rfl (WO.p rfl rfl ?_)
     refine WO.nil ?_
     refine W.cond_bl rfl (fun c2 => ?_) (fun c2 => ?_)
     · first
       | (exfalso; omega)
       | (refine W.sreg ?_
          refine WO.p rfl rfl ?_
          refine WO.nil ?_
          refine W.ret ?_
          refine fin.ret (Res.one rfl (RV.tmp rfl)) (congrArg (Value.int .i64) ?_)
          first | exact (cpE_1 (by omega)).symm | exact (cpE_15 (by omega) (by omega)).symm | exact (cpE_3 (by omega) (by omega) (Or.inl (by assumption))).symm | exact (cpE_3 (by omega) (by omega) (Or.inr (by omega))).symm | exact (cpE_14 (by omega) (by omega) (by assumption) (by omega) (by omega) (fun g => absurd ((zr_lef (by omega)).2 g) (by assumption))).symm | exact (cpE0.2 ⟨by omega, by omega, by assumption, by omega, (zr_lef (by omega)).1 (Decidable.not_not.1 (by assumption))⟩).symm)
     first
     | (exfalso; omega)
     | (refine W.sreg ?_
        refine WO.field0 rfl rfl rfl (WO.load rfl rfl (Cell.own Pick.head rfl) rfl ?_)
        refine WO.callR rfl Try.call29 (fun L w' hi => c_within w' o q _ (hQ.later hi) (by unfold in64; omega)) rfl ?_
        refine WO.p rfl rfl (WO.p rfl rfl ?_)
        refine WO.guard_nbl rfl rfl (fun c3 => ?_) (fun c3 => ?_)
        · first
          | (exfalso; omega)
          | (refine WO.no rfl rfl (WO.no rfl rfl (WO.no rfl rfl (WO.p rfl rfl (WO.p rfl rfl (WO.no rfl rfl (WO.no rfl rfl (WO.no rfl rfl (WO.p rfl rfl (WO.p rfl rfl ?_)))))))))
             refine WO.nil ?_
             refine W.cond_t rfl ?_
             refine W.sreg ?_
             refine WO.p rfl rfl ?_
             refine WO.nil ?_
             refine W.ret ?_
             refine fin.ret (Res.one rfl (RV.tmp rfl)) (congrArg (Value.int .i64) ?_)
             first | exact (cpE_1 (by omega)).symm | exact (cpE_15 (by omega) (by omega)).symm | exact (cpE_3 (by omega) (by omega) (Or.inl (by assumption))).symm | exact (cpE_3 (by omega) (by omega) (Or.inr (by omega))).symm | exact (cpE_14 (by omega) (by omega) (by assumption) (by omega) (by omega) (fun g => absurd ((zr_lef (by omega)).2 g) (by assumption))).symm | exact (cpE0.2 ⟨by omega, by omega, by assumption, by omega, (zr_lef (by omega)).1 (Decidable.not_not.1 (by assumption))⟩).symm)
        first
        | (exfalso; omega)
        | (refine WO.go' rfl (WO.fieldL rfl rfl rfl (WO.go' rfl (WO.load rfl rfl (Cell.own Pick.head rfl) rfl (WO.pg rfl rfl rfl (WO.p rfl rfl (WO.p rfl rfl ?_))))))
           refine WO.guard_bl rfl rfl (fun c4 => ?_) (fun c4 => ?_)
           · first
             | (exfalso; omega)
             | (refine WO.no rfl rfl (WO.no rfl rfl (WO.no rfl rfl (WO.p rfl rfl (WO.p rfl rfl ?_))))
                refine WO.nil ?_
                refine W.cond_t rfl ?_
                refine W.sreg ?_
                refine WO.p rfl rfl ?_
                refine WO.nil ?_
                refine W.ret ?_
                refine fin.ret (Res.one rfl (RV.tmp rfl)) (congrArg (Value.int .i64) ?_)
                first | exact (cpE_1 (by omega)).symm | exact (cpE_15 (by omega) (by omega)).symm | exact (cpE_3 (by omega) (by omega) (Or.inl (by assumption))).symm | exact (cpE_3 (by omega) (by omega) (Or.inr (by omega))).symm | exact (cpE_14 (by omega) (by omega) (by assumption) (by omega) (by omega) (fun g => absurd ((zr_lef (by omega)).2 g) (by assumption))).symm | exact (cpE0.2 ⟨by omega, by omega, by assumption, by omega, (zr_lef (by omega)).1 (Decidable.not_not.1 (by assumption))⟩).symm)
           first
           | (exfalso; omega)
           | (refine WO.go' rfl (WO.fieldL rfl rfl rfl (WO.go' rfl (WO.load rfl rfl (Cell.own Pick.head rfl) rfl (WO.pg rfl rfl rfl (WO.p rfl rfl (WO.p rfl rfl ?_))))))
              refine WO.nil ?_
              refine W.cond_bl rfl (fun c5 => ?_) (fun c5 => ?_)
              · first
                | (exfalso; omega)
                | (refine W.sreg ?_
                   refine WO.p rfl rfl ?_
                   refine WO.nil ?_
                   refine W.ret ?_
                   refine fin.ret (Res.one rfl (RV.tmp rfl)) (congrArg (Value.int .i64) ?_)
                   first | exact (cpE_1 (by omega)).symm | exact (cpE_15 (by omega) (by omega)).symm | exact (cpE_3 (by omega) (by omega) (Or.inl (by assumption))).symm | exact (cpE_3 (by omega) (by omega) (Or.inr (by omega))).symm | exact (cpE_14 (by omega) (by omega) (by assumption) (by omega) (by omega) (fun g => absurd ((zr_lef (by omega)).2 g) (by assumption))).symm | exact (cpE0.2 ⟨by omega, by omega, by assumption, by omega, (zr_lef (by omega)).1 (Decidable.not_not.1 (by assumption))⟩).symm)
              first
              | (exfalso; omega)
              | (refine W.skip ?_
                 obtain ⟨hok, hrl, hrw⟩ := chkBR0.1 (show chkBR n rows r = 0 by omega)
                 have hrn := hok.1
                 have hr5 := hok.2.1
                 refine W.sreg ?_
                 refine WO.alloc rfl rfl rfl (fun b3 hb3 => ?_)
                 refine WO.nil ?_
                 refine W.seq ?_
                 refine W.sreg ?_
                 refine WO.p rfl rfl ?_
                 refine' WO.len (n := _) rfl rfl ?hs rfl ?_
                 case hs => (first | exact hB.sl | exact hR.sl | exact hQ.sl | exact (hB.row i (by omega)).sl)
                 refine WO.p rfl rfl ?_
                 refine WO.nil ?_
                 refine W.block ?_
                 rw [show (#[Value.int .i64 0, .int .i64 0, .int .i64 0, .int .i64 0, .int .i64 0] : Array Value) = (r5 (lefB rows r q t 0)).toArray by rw [lefB_0]; rfl]
                 refine W.loop (fun (k : Nat) => k ≤ r.length)
                   (fun (k : Nat) => [(3, .pointer (some ⟨b1, 0, none⟩)), (5, .pointer (some ⟨b2, 0, none⟩)), (8, .pointer (some ⟨b3, 0, none⟩)), (42, u), (43, .int .i64 (r.length : Int)), (44, .int .i64 (k : Int))])
                   (fun (k : Nat) => [pt b1 (.cells #[.int .i64 n, v] 24 (0, 0)), pt b2 (.cells #[o, .int .i64 t] 27 (0, 0)), pt b3 (.cells (r5 (lefB rows r q t k)).toArray 57 (0, 0))])
                   (fun (k : Nat) => r.length - k) 0
                   (by omega) ⟨rfl, rfl, rfl, rfl, rfl, rfl, trivial⟩ (by repeat (first | exact Sub.nil | refine Sub.cons (by repeat (first | exact Pick.head | apply Pick.tail)) ?_)) ?_
                 rintro k hk
                 refine W.sreg ?_
                 refine WO.p rfl rfl ?_
                 refine WO.nil ?_
                 refine W.seq ?_
                 refine W.cond_bl rfl (fun c6 => ?_) (fun c6 => ?_)
                 · first
                   | (exfalso; omega)
                   | (refine W.skip ?_
                      refine W.seq ?_
                      refine W.block ?_
                      refine W.sreg ?_
                      refine WO.p rfl rfl ?_
                      refine' WO.indexAddr (n := _) (i := _) rfl rfl rfl ?hs ?h1 rfl ?_
                      case hs => (first | exact hB.sl | exact hR.sl | exact hQ.sl | exact (hB.row i (by omega)).sl)
                      case h1 => (first | omega | (simp; omega))
                      refine' WO.load (v := _) rfl rfl ?hc rfl ?_
                      case hc => (first | (refine hR.cell0 (i := k) (by omega) 0 ?_; rfl))
                      refine WO.p rfl rfl (WO.p rfl rfl ?_)
                      refine WO.nil ?_
                      have hlb := fun i hi => lef_in (k := k) (i := i) hok hrl hrw (show q.length = rows.length by omega) (show WiB 1099511627776 q by assumption) (show 1 ≤ t ∧ t ≤ 1099511627776 by omega) (by omega) hi
                      have hl0 := hlb 0 (by omega)
                      refine W.sreg ?_
                      refine WO.p rfl rfl (WO.fieldL rfl rfl rfl (WO.load rfl rfl (Cell.own (Pick.tail (Pick.head)) rfl) rfl (WO.neg rfl (by (first | (unfold in64; omega))) rfl (WO.p rfl rfl (WO.ar rfl rfl rfl (by (first | (unfold fnL at hl0; unfold in64; omega))) rfl ?_)))))
                      refine WO.indexArrE (i := k) (o' := k) rfl rfl rfl rfl (by omega) (by omega) rfl ?_
                      refine WO.storeK (cs := r5 (lefB rows r q t k)) (cs' := r5 (updV (lefB rows r q t k) k ((-t) * fnL r k + dotN (fnL q) (colN rows k) 0))) rfl rfl rfl rfl (by show k < 5; omega) (by rw [r5_set (by omega), dotN, Int.add_zero]; rfl) (by repeat (first | exact Pick.head | apply Pick.tail)) ?_
                      refine WO.nil ?_
                      refine W.sreg ?_
                      refine WO.fieldL rfl rfl rfl (WO.load rfl rfl (Cell.own (Pick.tail (Pick.head)) rfl) rfl ?_)
                      refine' WO.len (n := _) rfl rfl ?hs rfl ?_
                      case hs => (first | exact hB.sl | exact hR.sl | exact hQ.sl | exact (hB.row i (by omega)).sl)
                      refine WO.p rfl rfl ?_
                      refine WO.nil ?_
                      refine W.block ?_
                      refine W.loop (fun (i : Nat) => i ≤ rows.length)
                        (fun (i : Nat) => [(3, .pointer (some ⟨b1, 0, none⟩)), (5, .pointer (some ⟨b2, 0, none⟩)), (8, .pointer (some ⟨b3, 0, none⟩)), (9, .int .i64 (k : Int)), (42, u), (43, .int .i64 (r.length : Int)), (44, .int .i64 (k : Int)), (57, v), (58, .int .i64 (rows.length : Int)), (59, .int .i64 (i : Int))])
                        (fun (i : Nat) => [pt b1 (.cells #[.int .i64 n, v] 24 (0, 0)), pt b2 (.cells #[o, .int .i64 t] 27 (0, 0)), pt b3 (.cells (r5 (updV (lefB rows r q t k) k ((-t) * fnL r k + dotN (fnL q) (colN rows k) i))).toArray 57 (0, 0))])
                        (fun (i : Nat) => rows.length - i) 0
                        (by omega) ⟨rfl, rfl, rfl, rfl, rfl, rfl, rfl, rfl, rfl, rfl, trivial⟩ (by repeat (first | exact Sub.nil | refine Sub.cons (by repeat (first | exact Pick.head | apply Pick.tail)) ?_)) ?_
                      rintro i hi
                      refine W.sreg ?_
                      refine WO.p rfl rfl ?_
                      refine WO.nil ?_
                      refine W.seq ?_
                      refine W.cond_bl rfl (fun c7 => ?_) (fun c7 => ?_)
                      · first
                        | (exfalso; omega)
                        | (refine W.skip ?_
                           refine W.seq ?_
                           refine W.block ?_
                           refine W.sreg ?_
                           refine WO.p rfl rfl ?_
                           refine' WO.indexAddr (n := _) (i := _) rfl rfl rfl ?hs ?h1 rfl ?_
                           case hs => (first | exact hB.sl | exact hR.sl | exact hQ.sl | exact (hB.row i (by omega)).sl)
                           case h1 => (first | omega | (simp; omega))
                           refine' WO.load (v := _) rfl rfl ?hc rfl ?_
                           case hc => (first | (refine hB.cellV (i := i) ?_; omega))
                           refine WO.p rfl rfl (WO.p rfl rfl ?_)
                           refine WO.nil ?_
                           have hli := hlb i (by omega)
                           have hli2 := hlb (i + 1) (by omega)
                           have hil := hok.len (i := i) (by omega)
                           refine W.drawD 13 [.r 0 [], .r 1 [], .f 2 [], .r 3 [], .b 4 [], .r 5 [], .r 6 [], .b 7 [], .r 8 [], .r 9 [], .r 10 [], .b 11 [], .r 12 []] [] (A0 := [_]) (H0 := [_, _]) (.cons (Pick.tail (Pick.tail .head)) (.cons .head (.cons .head .nil))) (by kernel_rfl) ?_ ?_
                           · exact (ALok.r (ALok.r (ALok.f (ALok.r (ALok.b (ALok.r (ALok.r (ALok.b (ALok.r (ALok.r (ALok.r (ALok.b (ALok.r ALok.nil)))))))))))))
                           refine' DT.r rfl rfl rfl ?hq ?_
                           case hq =>
                             refine WO.p rfl rfl ?_
                             exact WO.nil ⟨rfl, rfl⟩
                           refine' DT.r rfl rfl rfl ?hq ?_
                           case hq =>
                             refine WO.indexArrE (i := k) (o' := k) rfl rfl rfl rfl (by omega) (by omega) rfl ?_
                             exact WO.nil ⟨rfl, rfl⟩
                           refine' DT.f [_, _, _] rfl rfl rfl rfl ?hq ?_
                           case hq =>
                             refine' WO.load (v := _) rfl rfl ?hc rfl ?_
                             case hc => (first | (refine Cell.own (by repeat (first | exact Pick.head | apply Pick.tail)) ?_; rw [r5_get (by omega), upd_at]))
                             exact WO.nil ⟨rfl, rfl⟩
                           refine' DT.r rfl rfl rfl ?hq ?_
                           case hq =>
                             refine WO.field0 rfl rfl rfl ?_
                             exact WO.nil ⟨rfl, rfl⟩
                           refine' DT.b rfl rfl rfl ?hq ?_
                           case hq =>
                             refine WO.load rfl rfl (Cell.own (Pick.tail (Pick.head)) rfl) rfl ?_
                             exact WO.nil ⟨rfl, rfl⟩
                           refine' DT.r rfl rfl rfl ?hq ?_
                           case hq =>
                             refine WO.p rfl rfl ?_
                             exact WO.nil ⟨rfl, rfl⟩
                           refine' DT.r rfl rfl rfl ?hq ?_
                           case hq =>
                             refine' WO.indexAddr (n := _) (i := _) rfl rfl rfl ?hs ?h1 rfl ?_
                             case hs => (first | exact hB.sl | exact hR.sl | exact hQ.sl | exact (hB.row i (by omega)).sl)
                             case h1 => (first | omega | (simp; omega))
                             exact WO.nil ⟨rfl, rfl⟩
                           refine' DT.b rfl rfl rfl ?hq ?_
                           case hq =>
                             refine' WO.load (v := _) rfl rfl ?hc rfl ?_
                             case hc => (first | (refine hQ.cell0 (i := i) (by omega) 0 ?_; rfl))
                             exact WO.nil ⟨rfl, rfl⟩
                           refine' DT.r rfl rfl rfl ?hq ?_
                           case hq =>
                             refine WO.p rfl rfl ?_
                             exact WO.nil ⟨rfl, rfl⟩
                           refine' DT.r rfl rfl rfl ?hq ?_
                           case hq =>
                             refine WO.p rfl rfl ?_
                             exact WO.nil ⟨rfl, rfl⟩
                           refine' DT.r rfl rfl rfl ?hq ?_
                           case hq =>
                             refine' WO.indexAddr (n := _) (i := _) rfl rfl rfl ?hs ?h1 rfl ?_
                             case hs => (first | exact hB.sl | exact hR.sl | exact hQ.sl | exact (hB.row i (by omega)).sl)
                             case h1 => (first | omega | (simp; omega))
                             exact WO.nil ⟨rfl, rfl⟩
                           refine' DT.b rfl rfl rfl ?hq ?_
                           case hq =>
                             refine' WO.load (v := _) rfl rfl ?hc rfl ?_
                             case hc => (first | (refine (hB.row i (by omega)).cell0 (i := k) (by omega) 0 ?_; rfl))
                             exact WO.nil ⟨rfl, rfl⟩
                           refine' DT.r rfl rfl rfl ?hq ?_
                           case hq =>
                             refine WO.ar rfl rfl rfl (by (first | (unfold dotN at hli2; rw [colF hok] at hli2; unfold fnL at *; unfold in64; omega))) rfl ?_
                             exact WO.nil ⟨rfl, rfl⟩
                           refine DT.nil [_, _, _] rfl ?_
                           refine WO.ar rfl rfl rfl (by (first | (unfold dotN at hli2; rw [colF hok] at hli2; unfold fnL at *; unfold in64; omega))) rfl ?_
                           refine WO.indexArrE (i := k) (o' := k) rfl rfl rfl rfl (by omega) (by omega) rfl ?_
                           refine WO.storeK (cs := r5 (updV (lefB rows r q t k) k ((-t) * fnL r k + dotN (fnL q) (colN rows k) i))) (cs' := r5 (updV (lefB rows r q t k) k ((-t) * fnL r k + dotN (fnL q) (colN rows k) (i + 1)))) rfl rfl rfl rfl (by show k < 5; omega) (by rw [r5_set (by omega), upd_upd, dotN, ← Int.add_assoc]; rfl) (by repeat (first | exact Pick.head | apply Pick.tail)) ?_
                           refine WO.nil ?_
                           refine W.region ?_
                           refine WO.ar rfl rfl rfl (by (first | (unfold in64; omega))) rfl (WO.p rfl rfl ?_)
                           refine WO.nil ?_
                           refine' ⟨i + 1, ?hp, ?hmu, ⟨rfl, rfl, rfl, rfl, rfl, rfl, rfl, rfl, rfl, rfl, trivial⟩, ?hS⟩
                           case hS => repeat (first | exact Sub.nil | refine Sub.cons (by repeat (first | exact Pick.head | apply Pick.tail)) ?_)
                           case hp => omega
                           case hmu => omega)
                      first
                      | (exfalso; omega)
                      | (refine W.exit (blk_same ?_)
                         obtain rfl : i = rows.length := by omega
                         rw [show (-t) * fnL r k + dotN (fnL q) (colN rows k) rows.length = lefN rows r q t k from rfl, lefB_succ]
                         refine W.region ?_
                         refine WO.ar rfl rfl rfl (by (first | (unfold in64; omega))) rfl (WO.p rfl rfl ?_)
                         refine WO.nil ?_
                         refine' ⟨k + 1, ?hp, ?hmu, ⟨rfl, rfl, rfl, rfl, rfl, rfl, trivial⟩, ?hS⟩
                         case hS => repeat (first | exact Sub.nil | refine Sub.cons (by repeat (first | exact Pick.head | apply Pick.tail)) ?_)
                         case hp => omega
                         case hmu => omega))
                 first
                 | (exfalso; omega)
                 | (refine W.exit (blk_same ?_)
                    refine W.seq ?_
                    obtain rfl : k = r.length := by omega
                    refine W.sreg ?_
                    refine WO.loadA rfl rfl (Cells.own (Pick.tail (Pick.tail (Pick.head)))) rfl rfl ?_
                    refine' WO.build (cs := _) rfl rfl rfl ?hf rfl ?_
                    case hf => (conv => lhs; simp [-List.getD_eq_getElem?_getD, fillL, vcl, wrl, TTab.pl?.lget']) <;> rfl
                    refine WO.eqT rfl rfl (neq57 _) rfl ?_
                    refine WO.nil ?_
                    refine W.cond_bl rfl (fun c8 => ?_) (fun c8 => ?_)
                    · first
                      | (exfalso; omega)
                      | (refine W.sreg ?_
                         refine WO.p rfl rfl ?_
                         refine WO.nil ?_
                         refine W.ret ?_
                         refine fin.ret (Res.one rfl (RV.tmp rfl)) (congrArg (Value.int .i64) ?_)
                         first | exact (cpE_1 (by omega)).symm | exact (cpE_15 (by omega) (by omega)).symm | exact (cpE_3 (by omega) (by omega) (Or.inl (by assumption))).symm | exact (cpE_3 (by omega) (by omega) (Or.inr (by omega))).symm | exact (cpE_14 (by omega) (by omega) (by assumption) (by omega) (by omega) (fun g => absurd ((zr_lef (by omega)).2 g) (by assumption))).symm | exact (cpE0.2 ⟨by omega, by omega, by assumption, by omega, (zr_lef (by omega)).1 (Decidable.not_not.1 (by assumption))⟩).symm)
                    first
                    | (exfalso; omega)
                    | (refine W.skip ?_
                       refine W.sreg ?_
                       refine WO.p rfl rfl ?_
                       refine WO.nil ?_
                       refine W.ret ?_
                       refine fin.ret (Res.one rfl (RV.tmp rfl)) (congrArg (Value.int .i64) ?_)
                       first | exact (cpE_1 (by omega)).symm | exact (cpE_15 (by omega) (by omega)).symm | exact (cpE_3 (by omega) (by omega) (Or.inl (by assumption))).symm | exact (cpE_3 (by omega) (by omega) (Or.inr (by omega))).symm | exact (cpE_14 (by omega) (by omega) (by assumption) (by omega) (by omega) (fun g => absurd ((zr_lef (by omega)).2 g) (by assumption))).symm | exact (cpE0.2 ⟨by omega, by omega, by assumption, by omega, (zr_lef (by omega)).1 (Decidable.not_not.1 (by assumption))⟩).symm)))))))
end Go.Proofs.Ytelmclmklkiphaa
namespace Go.Proofs.Ytelmclmklkiphaa
open Go Go.TH
attribute [local irreducible] W WO pt
set_option maxRecDepth 10000
set_option maxHeartbeats 1000000
theorem rt_iff {rows : List (List Int)} {r q : List Int} {t : Int} {k : Nat} : lefN rows r q t k = 0 ↔ dotN (colN rows k) (fnL q) rows.length = t * r.getD k 0 := by
  unfold lefN
  rw [dotN_comm, Int.neg_mul]
  show -(t * r.getD k 0) + _ = 0 ↔ _
  omega
theorem ref_CheckProof (w : World) (n : Int) (v u o : Value) (rv : List Value) (rows : List (List Int)) (r q : List Int) (t : Int) (hB : RdR encI 1 w.heap.size w v rv rows) (hR : RdF encI 1 w.heap.size w u r) (hQ : RdF encI 1 w.heap.size w o q) : Ret Try.prog 10 [bookV n v, u, .agg #[o, .int .i64 t]].toArray w (.int .i64 (cpE n rows r q t)) := by
  refine Ret.of mixed tyTab Try.func10 rfl rfl ?_
  replace hB : RdR encI 1 (fnCx mixed tyTab Try.f10.ntmps w).B (fnCx mixed tyTab Try.f10.ntmps w).w0 v rv rows := hB
  replace hR : RdF encI 1 (fnCx mixed tyTab Try.f10.ntmps w).B (fnCx mixed tyTab Try.f10.ntmps w).w0 u r := hR
  replace hQ : RdF encI 1 (fnCx mixed tyTab Try.f10.ntmps w).B (fnCx mixed tyTab Try.f10.ntmps w).w0 o q := hQ
  have hoc := hB.sl.oc
  have hoq := hQ.sl.oc
  refine W.sreg ?_
  refine WO.boxA rfl rfl (fun b1 hb1 => ?_)
  refine WO.boxA rfl rfl (fun b2 hb2 => ?_)
  refine WO.p rfl rfl ?_
  refine WO.nil ?_
  refine W.seq ?_
  refine W.sreg ?_
  refine WO.loadA rfl rfl (Cells.own (Pick.tail (Pick.head))) rfl rfl (WO.p rfl rfl ?_)
  refine WO.callR rfl Try.call30 (fun L w' hi => ref_both w' n v u rv rows r (hB.later hi) (hR.later hi)) rfl ?_
  refine WO.p rfl rfl ?_
  refine WO.nil ?_
  refine W.cond_bl rfl (fun c1 => ?_) (fun c1 => ?_)
  · first
    | (exfalso; omega)
    | (refine W.sreg ?_
       refine WO.loadA rfl rfl (Cells.own (Pick.tail (Pick.head))) rfl rfl (WO.p rfl rfl ?_)
       refine WO.callR rfl Try.call30 (fun L w' hi => ref_both w' n v u rv rows r (hB.later hi) (hR.later hi)) rfl ?_
       refine WO.p rfl rfl ?_
       refine WO.nil ?_
       refine W.ret ?_
       refine fin.ret (Res.one rfl (RV.tmp rfl)) (congrArg (Value.int .i64) ?_)
       first | exact (cpE_1 (by omega)).symm | exact (cpE_15 (by omega) (by omega)).symm | exact (cpE_3 (by omega) (by omega) (Or.inl (by assumption))).symm | exact (cpE_3 (by omega) (by omega) (Or.inr (by omega))).symm | exact (cpE_14 (by omega) (by omega) (by assumption) (by omega) (by omega) (fun g => absurd (rt_iff.1 (g k (by omega))) (by omega))).symm | (obtain rfl : k = r.length := (by omega); exact (cpE0.2 ⟨by omega, by omega, by assumption, by omega, hal⟩).symm))
  first
  | (exfalso; omega)
  | (refine W.skip ?_
     refine W.seq ?_
     refine W.sreg ?_
     refine WO.field0 rfl rfl rfl (WO.load rfl rfl (Cell.own Pick.head rfl) rfl ?_)
     refine' WO.len (n := _) rfl rfl ?hs rfl ?_
     case hs => (first | exact hB.sl | exact hR.sl | exact hQ.sl | exact (hB.row i (by omega)).sl)
     refine WO.fieldL rfl rfl rfl (WO.load rfl rfl (Cell.own (Pick.tail (Pick.head)) rfl) rfl ?_)
     refine' WO.len (n := _) rfl rfl ?hs rfl ?_
     case hs => (first | exact hB.sl | exact hR.sl | exact hQ.sl | exact (hB.row i (by omega)).sl)
     refine WO.p rfl rfl ?_
     refine WO.nil ?_
     refine W.cond_bl rfl (fun c2 => ?_) (fun c2 => ?_)
     · first
       | (exfalso; omega)
       | (refine W.sreg ?_
          refine WO.p rfl rfl ?_
          refine WO.nil ?_
          refine W.ret ?_
          refine fin.ret (Res.one rfl (RV.tmp rfl)) (congrArg (Value.int .i64) ?_)
          first | exact (cpE_1 (by omega)).symm | exact (cpE_15 (by omega) (by omega)).symm | exact (cpE_3 (by omega) (by omega) (Or.inl (by assumption))).symm | exact (cpE_3 (by omega) (by omega) (Or.inr (by omega))).symm | exact (cpE_14 (by omega) (by omega) (by assumption) (by omega) (by omega) (fun g => absurd (rt_iff.1 (g k (by omega))) (by omega))).symm | (obtain rfl : k = r.length := (by omega); exact (cpE0.2 ⟨by omega, by omega, by assumption, by omega, hal⟩).symm))
     first
     | (exfalso; omega)
     | (refine W.skip ?_
        refine W.seq ?_
        refine W.sreg ?_
        refine WO.field0 rfl rfl rfl (WO.load rfl rfl (Cell.own Pick.head rfl) rfl ?_)
        refine WO.callR rfl Try.call31 (fun L w' hi => ref_within w' o q _ (hQ.later hi) (by unfold in64; omega)) rfl ?_
        refine WO.p rfl rfl (WO.p rfl rfl ?_)
        refine WO.guard_nbl rfl rfl (fun c3 => ?_) (fun c3 => ?_)
        · first
          | (exfalso; omega)
          | (refine WO.no rfl rfl (WO.no rfl rfl (WO.no rfl rfl (WO.p rfl rfl (WO.p rfl rfl (WO.no rfl rfl (WO.no rfl rfl (WO.no rfl rfl (WO.p rfl rfl ?_))))))))
             refine WO.nil ?_
             refine W.cond_t rfl ?_
             refine W.sreg ?_
             refine WO.p rfl rfl ?_
             refine WO.nil ?_
             refine W.ret ?_
             refine fin.ret (Res.one rfl (RV.tmp rfl)) (congrArg (Value.int .i64) ?_)
             first | exact (cpE_1 (by omega)).symm | exact (cpE_15 (by omega) (by omega)).symm | exact (cpE_3 (by omega) (by omega) (Or.inl (by assumption))).symm | exact (cpE_3 (by omega) (by omega) (Or.inr (by omega))).symm | exact (cpE_14 (by omega) (by omega) (by assumption) (by omega) (by omega) (fun g => absurd (rt_iff.1 (g k (by omega))) (by omega))).symm | (obtain rfl : k = r.length := (by omega); exact (cpE0.2 ⟨by omega, by omega, by assumption, by omega, hal⟩).symm))
        first
        | (exfalso; omega)
        | (refine WO.go' rfl (WO.fieldL rfl rfl rfl (WO.go' rfl (WO.load rfl rfl (Cell.own Pick.head rfl) rfl (WO.pg rfl rfl rfl (WO.p rfl rfl (WO.p rfl rfl ?_))))))
           refine WO.guard_bl rfl rfl (fun c4 => ?_) (fun c4 => ?_)
           · first
             | (exfalso; omega)
             | (refine WO.no rfl rfl (WO.no rfl rfl (WO.no rfl rfl (WO.p rfl rfl ?_)))
                refine WO.nil ?_
                refine W.cond_t rfl ?_
                refine W.sreg ?_
                refine WO.p rfl rfl ?_
                refine WO.nil ?_
                refine W.ret ?_
                refine fin.ret (Res.one rfl (RV.tmp rfl)) (congrArg (Value.int .i64) ?_)
                first | exact (cpE_1 (by omega)).symm | exact (cpE_15 (by omega) (by omega)).symm | exact (cpE_3 (by omega) (by omega) (Or.inl (by assumption))).symm | exact (cpE_3 (by omega) (by omega) (Or.inr (by omega))).symm | exact (cpE_14 (by omega) (by omega) (by assumption) (by omega) (by omega) (fun g => absurd (rt_iff.1 (g k (by omega))) (by omega))).symm | (obtain rfl : k = r.length := (by omega); exact (cpE0.2 ⟨by omega, by omega, by assumption, by omega, hal⟩).symm))
           first
           | (exfalso; omega)
           | (refine WO.go' rfl (WO.fieldL rfl rfl rfl (WO.go' rfl (WO.load rfl rfl (Cell.own Pick.head rfl) rfl (WO.pg rfl rfl rfl (WO.p rfl rfl ?_)))))
              refine WO.nil ?_
              refine W.cond_bl rfl (fun c5 => ?_) (fun c5 => ?_)
              · first
                | (exfalso; omega)
                | (refine W.sreg ?_
                   refine WO.p rfl rfl ?_
                   refine WO.nil ?_
                   refine W.ret ?_
                   refine fin.ret (Res.one rfl (RV.tmp rfl)) (congrArg (Value.int .i64) ?_)
                   first | exact (cpE_1 (by omega)).symm | exact (cpE_15 (by omega) (by omega)).symm | exact (cpE_3 (by omega) (by omega) (Or.inl (by assumption))).symm | exact (cpE_3 (by omega) (by omega) (Or.inr (by omega))).symm | exact (cpE_14 (by omega) (by omega) (by assumption) (by omega) (by omega) (fun g => absurd (rt_iff.1 (g k (by omega))) (by omega))).symm | (obtain rfl : k = r.length := (by omega); exact (cpE0.2 ⟨by omega, by omega, by assumption, by omega, hal⟩).symm))
              first
              | (exfalso; omega)
              | (refine W.skip ?_
                 refine W.seq ?_
                 obtain ⟨hok, hrl, hrw⟩ := chkBR0.1 (show chkBR n rows r = 0 by omega)
                 have hrn := hok.1
                 have hr5 := hok.2.1
                 refine W.sreg ?_
                 refine WO.p rfl rfl ?_
                 refine WO.nil ?_
                 refine W.block ?_
                 refine W.loop (fun (k : Nat) => k ≤ r.length ∧ ∀ j, j < k → lefN rows r q t j = 0)
                   (fun (k : Nat) => [(1, u), (3, .pointer (some ⟨b1, 0, none⟩)), (5, .pointer (some ⟨b2, 0, none⟩)), (7, .int .i64 (k : Int))])
                   (fun (k : Nat) => [pt b1 (.cells #[.int .i64 n, v] 24 (0, 0)), pt b2 (.cells #[o, .int .i64 t] 27 (0, 0))])
                   (fun (k : Nat) => r.length - k) 0
                   (by exact ⟨by omega, fun j hj => by omega⟩) ⟨rfl, rfl, rfl, rfl, trivial⟩ (by repeat (first | exact Sub.nil | refine Sub.cons (by repeat (first | exact Pick.head | apply Pick.tail)) ?_)) ?_
                 rintro k ⟨hk, hal⟩
                 refine W.seq ?_
                 refine W.sreg ?_
                 refine WO.p rfl rfl (WO.field0 rfl rfl rfl (WO.load rfl rfl (Cell.own Pick.head rfl) rfl (WO.p rfl rfl ?_)))
                 refine WO.nil ?_
                 refine W.cond_bl rfl (fun c6 => ?_) (fun c6 => ?_)
                 · first
                   | (exfalso; omega)
                   | (refine W.skip ?_
                      refine W.seq ?_
                      refine W.block ?_
                      have hlb := fun i hi => lef_in (k := k) (i := i) hok hrl hrw (show q.length = rows.length by omega) (show WiB 1099511627776 q by assumption) (show 1 ≤ t ∧ t ≤ 1099511627776 by omega) (by omega) hi
                      refine W.sreg ?_
                      refine WO.p rfl rfl ?_
                      refine WO.nil ?_
                      refine W.seq ?_
                      refine W.sreg ?_
                      refine WO.p rfl rfl ?_
                      refine WO.nil ?_
                      refine W.block ?_
                      refine W.loop (fun (i : Nat) => i ≤ rows.length)
                        (fun (i : Nat) => [(1, u), (3, .pointer (some ⟨b1, 0, none⟩)), (5, .pointer (some ⟨b2, 0, none⟩)), (7, .int .i64 (k : Int)), (8, .int .i64 (dotN (colN rows k) (fnL q) i)), (9, .int .i64 (i : Int))])
                        (fun (i : Nat) => [pt b1 (.cells #[.int .i64 n, v] 24 (0, 0)), pt b2 (.cells #[o, .int .i64 t] 27 (0, 0))])
                        (fun (i : Nat) => rows.length - i) 0
                        (by omega) ⟨rfl, rfl, rfl, rfl, rfl, rfl, trivial⟩ (by repeat (first | exact Sub.nil | refine Sub.cons (by repeat (first | exact Pick.head | apply Pick.tail)) ?_)) ?_
                      rintro i hi
                      refine W.seq ?_
                      refine W.sreg ?_
                      refine WO.p rfl rfl (WO.fieldL rfl rfl rfl (WO.load rfl rfl (Cell.own Pick.head rfl) rfl ?_))
                      refine' WO.len (n := _) rfl rfl ?hs rfl ?_
                      case hs => (first | exact hB.sl | exact hR.sl | exact hQ.sl | exact (hB.row i (by omega)).sl)
                      refine WO.p rfl rfl ?_
                      refine WO.nil ?_
                      refine W.cond_bl rfl (fun c7 => ?_) (fun c7 => ?_)
                      · first
                        | (exfalso; omega)
                        | (refine W.skip ?_
                           refine W.seq ?_
                           refine W.block ?_
                           have hli := hlb i (by omega)
                           have hli2 := hlb (i + 1) (by omega)
                           have hil := hok.len (i := i) (by omega)
                           rw [dotN_comm] at hli hli2
                           refine W.drawD 15 [.r 0 [], .r 1 [], .b 2 [], .r 3 [], .r 4 [], .b 5 [], .r 6 [], .r 7 [], .b 8 [], .r 9 [], .b 10 [], .r 11 [], .r 12 [], .b 13 [], .r 14 []] [] (A0 := []) (Sub.refl _) (by kernel_rfl) ?_ ?_
                           · exact (ALok.r (ALok.r (ALok.b (ALok.r (ALok.r (ALok.b (ALok.r (ALok.r (ALok.b (ALok.r (ALok.b (ALok.r (ALok.r (ALok.b (ALok.r ALok.nil)))))))))))))))
                           refine' DT.r rfl rfl rfl ?hq ?_
                           case hq =>
                             refine WO.p rfl rfl ?_
                             exact WO.nil ⟨rfl, rfl⟩
                           refine' DT.r rfl rfl rfl ?hq ?_
                           case hq =>
                             refine WO.fieldL rfl rfl rfl ?_
                             exact WO.nil ⟨rfl, rfl⟩
                           refine' DT.b rfl rfl rfl ?hq ?_
                           case hq =>
                             refine WO.load rfl rfl (Cell.own Pick.head rfl) rfl ?_
                             exact WO.nil ⟨rfl, rfl⟩
                           refine' DT.r rfl rfl rfl ?hq ?_
                           case hq =>
                             refine WO.p rfl rfl ?_
                             exact WO.nil ⟨rfl, rfl⟩
                           refine' DT.r rfl rfl rfl ?hq ?_
                           case hq =>
                             refine' WO.indexAddr (n := _) (i := _) rfl rfl rfl ?hs ?h1 rfl ?_
                             case hs => (first | exact hB.sl | exact hR.sl | exact hQ.sl | exact (hB.row i (by omega)).sl)
                             case h1 => (first | omega | (simp; omega))
                             exact WO.nil ⟨rfl, rfl⟩
                           refine' DT.b rfl rfl rfl ?hq ?_
                           case hq =>
                             refine' WO.load (v := _) rfl rfl ?hc rfl ?_
                             case hc => (first | (refine hB.cellV (i := i) ?_; omega))
                             exact WO.nil ⟨rfl, rfl⟩
                           refine' DT.r rfl rfl rfl ?hq ?_
                           case hq =>
                             refine WO.p rfl rfl ?_
                             exact WO.nil ⟨rfl, rfl⟩
                           refine' DT.r rfl rfl rfl ?hq ?_
                           case hq =>
                             refine' WO.indexAddr (n := _) (i := _) rfl rfl rfl ?hs ?h1 rfl ?_
                             case hs => (first | exact hB.sl | exact hR.sl | exact hQ.sl | exact (hB.row i (by omega)).sl)
                             case h1 => (first | omega | (simp; omega))
                             exact WO.nil ⟨rfl, rfl⟩
                           refine' DT.b rfl rfl rfl ?hq ?_
                           case hq =>
                             refine' WO.load (v := _) rfl rfl ?hc rfl ?_
                             case hc => (first | (refine (hB.row i (by omega)).cell0 (i := k) (by omega) 0 ?_; rfl))
                             exact WO.nil ⟨rfl, rfl⟩
                           refine' DT.r rfl rfl rfl ?hq ?_
                           case hq =>
                             refine WO.field0 rfl rfl rfl ?_
                             exact WO.nil ⟨rfl, rfl⟩
                           refine' DT.b rfl rfl rfl ?hq ?_
                           case hq =>
                             refine WO.load rfl rfl (Cell.own (Pick.tail (Pick.head)) rfl) rfl ?_
                             exact WO.nil ⟨rfl, rfl⟩
                           refine' DT.r rfl rfl rfl ?hq ?_
                           case hq =>
                             refine WO.p rfl rfl ?_
                             exact WO.nil ⟨rfl, rfl⟩
                           refine' DT.r rfl rfl rfl ?hq ?_
                           case hq =>
                             refine' WO.indexAddr (n := _) (i := _) rfl rfl rfl ?hs ?h1 rfl ?_
                             case hs => (first | exact hB.sl | exact hR.sl | exact hQ.sl | exact (hB.row i (by omega)).sl)
                             case h1 => (first | omega | (simp; omega))
                             exact WO.nil ⟨rfl, rfl⟩
                           refine' DT.b rfl rfl rfl ?hq ?_
                           case hq =>
                             refine' WO.load (v := _) rfl rfl ?hc rfl ?_
                             case hc => (first | (refine hQ.cell0 (i := i) (by omega) 0 ?_; rfl))
                             exact WO.nil ⟨rfl, rfl⟩
                           refine' DT.r rfl rfl rfl ?hq ?_
                           case hq =>
                             refine WO.ar rfl rfl rfl (by (first | (unfold dotN at hli2; rw [colF hok] at hli2; unfold fnL at *; unfold in64; omega))) rfl ?_
                             exact WO.nil ⟨rfl, rfl⟩
                           refine DT.nil [_, _] rfl ?_
                           refine WO.ar rfl rfl rfl (by (first | (unfold dotN at hli2; rw [colF hok] at hli2; unfold fnL at *; unfold in64; omega))) rfl (WO.p rfl rfl ?_)
                           refine WO.nil ?_
                           refine W.region ?_
                           refine WO.p rfl rfl (WO.ar rfl rfl rfl (by (first | (unfold in64; omega))) rfl (WO.p rfl rfl ?_))
                           refine WO.nil ?_
                           refine' ⟨i + 1, ?hp, ?hmu, ⟨rfl, rfl, rfl, rfl, rfl, rfl, trivial⟩, ?hS⟩
                           case hS => repeat (first | exact Sub.nil | refine Sub.cons (by repeat (first | exact Pick.head | apply Pick.tail)) ?_)
                           case hp => omega
                           case hmu => omega)
                      first
                      | (exfalso; omega)
                      | (refine W.exit (blk_same ?_)
                         refine W.seq ?_
                         obtain rfl : i = rows.length := by omega
                         have hl0 := hlb 0 (by omega)
                         rw [Int.neg_mul] at hl0
                         refine W.drawD 8 [.r 0 [], .r 1 [], .b 2 [], .r 3 [], .r 4 [], .r 5 [], .b 6 [], .r 7 []] [] (A0 := []) (Sub.refl _) (by kernel_rfl) ?_ ?_
                         · exact (ALok.r (ALok.r (ALok.b (ALok.r (ALok.r (ALok.r (ALok.b (ALok.r ALok.nil))))))))
                         refine' DT.r rfl rfl rfl ?hq ?_
                         case hq =>
                           refine WO.p rfl rfl ?_
                           exact WO.nil ⟨rfl, rfl⟩
                         refine' DT.r rfl rfl rfl ?hq ?_
                         case hq =>
                           refine WO.fieldL rfl rfl rfl ?_
                           exact WO.nil ⟨rfl, rfl⟩
                         refine' DT.b rfl rfl rfl ?hq ?_
                         case hq =>
                           refine WO.load rfl rfl (Cell.own (Pick.tail (Pick.head)) rfl) rfl ?_
                           exact WO.nil ⟨rfl, rfl⟩
                         refine' DT.r rfl rfl rfl ?hq ?_
                         case hq =>
                           refine WO.p rfl rfl ?_
                           exact WO.nil ⟨rfl, rfl⟩
                         refine' DT.r rfl rfl rfl ?hq ?_
                         case hq =>
                           refine WO.p rfl rfl ?_
                           exact WO.nil ⟨rfl, rfl⟩
                         refine' DT.r rfl rfl rfl ?hq ?_
                         case hq =>
                           refine' WO.indexAddr (n := _) (i := _) rfl rfl rfl ?hs ?h1 rfl ?_
                           case hs => (first | exact hB.sl | exact hR.sl | exact hQ.sl | exact (hB.row i (by omega)).sl)
                           case h1 => (first | omega | (simp; omega))
                           exact WO.nil ⟨rfl, rfl⟩
                         refine' DT.b rfl rfl rfl ?hq ?_
                         case hq =>
                           refine' WO.load (v := _) rfl rfl ?hc rfl ?_
                           case hc => (first | (refine hR.cell0 (i := k) (by omega) 0 ?_; rfl))
                           exact WO.nil ⟨rfl, rfl⟩
                         refine' DT.r rfl rfl rfl ?hq ?_
                         case hq =>
                           refine WO.ar rfl rfl rfl (by (first | (unfold fnL at hl0; unfold in64; omega))) rfl ?_
                           exact WO.nil ⟨rfl, rfl⟩
                         refine DT.nil [_, _] rfl ?_
                         refine WO.p rfl rfl ?_
                         refine WO.nil ?_
                         refine W.cond_bl rfl (fun c8 => ?_) (fun c8 => ?_)
                         · first
                           | (exfalso; omega)
                           | (refine W.sreg ?_
                              refine WO.p rfl rfl ?_
                              refine WO.nil ?_
                              refine W.ret ?_
                              refine fin.ret (Res.one rfl (RV.tmp rfl)) (congrArg (Value.int .i64) ?_)
                              first | exact (cpE_1 (by omega)).symm | exact (cpE_15 (by omega) (by omega)).symm | exact (cpE_3 (by omega) (by omega) (Or.inl (by assumption))).symm | exact (cpE_3 (by omega) (by omega) (Or.inr (by omega))).symm | exact (cpE_14 (by omega) (by omega) (by assumption) (by omega) (by omega) (fun g => absurd (rt_iff.1 (g k (by omega))) (by omega))).symm | (obtain rfl : k = r.length := (by omega); exact (cpE0.2 ⟨by omega, by omega, by assumption, by omega, hal⟩).symm))
                         first
                         | (exfalso; omega)
                         | (refine W.skip ?_
                            refine W.region ?_
                            refine WO.p rfl rfl (WO.ar rfl rfl rfl (by (first | (unfold in64; omega))) rfl (WO.p rfl rfl ?_))
                            refine WO.nil ?_
                            refine' ⟨k + 1, ?hp, ?hmu, ⟨rfl, rfl, rfl, rfl, trivial⟩, ?hS⟩
                            case hS => repeat (first | exact Sub.nil | refine Sub.cons (by repeat (first | exact Pick.head | apply Pick.tail)) ?_)
                            case hp => exact ⟨by omega, fun j hj => by (rcases Nat.lt_or_ge j k with g | g; exact hal j g; obtain rfl : j = k := (by omega); exact rt_iff.2 (by omega))⟩
                            case hmu => omega)))
                 first
                 | (exfalso; omega)
                 | (refine W.exit (blk_same ?_)
                    refine W.sreg ?_
                    refine WO.p rfl rfl ?_
                    refine WO.nil ?_
                    refine W.ret ?_
                    refine fin.ret (Res.one rfl (RV.tmp rfl)) (congrArg (Value.int .i64) ?_)
                    first | exact (cpE_1 (by omega)).symm | exact (cpE_15 (by omega) (by omega)).symm | exact (cpE_3 (by omega) (by omega) (Or.inl (by assumption))).symm | exact (cpE_3 (by omega) (by omega) (Or.inr (by omega))).symm | exact (cpE_14 (by omega) (by omega) (by assumption) (by omega) (by omega) (fun g => absurd (rt_iff.1 (g k (by omega))) (by omega))).symm | (obtain rfl : k = r.length := (by omega); exact (cpE0.2 ⟨by omega, by omega, by assumption, by omega, hal⟩).symm)))))))
end Go.Proofs.Ytelmclmklkiphaa
namespace Go.Proofs.Ytelmclmklkiphaa
open Go Go.TH
attribute [local irreducible] W WO pt
set_option maxRecDepth 10000
set_option maxHeartbeats 1000000
def dotL (a z : List Int) : Int := dotN (fnL a) (fnL z) z.length
def TwP (rows : List (List Int)) (r z : List Int) : Prop := (∀ a ∈ rows, dotL a z = 0) ∧ dotL r z ≠ 0
instance (rows : List (List Int)) (r z : List Int) : Decidable (TwP rows r z) := by unfold TwP; infer_instance
/-- the error of a twin -/
def ctwE (n : Int) (rows : List (List Int)) (r z : List Int) : Int :=
  if chkBR n rows r ≠ 0 then chkBR n rows r else if (z.length : Int) ≠ n then 15 else if ¬ WiB 1099511627776 z then 3 else if ¬ TwP rows r z then 14 else 0
section
variable {n : Int} {rows : List (List Int)} {r z : List Int}
theorem ctwE0 : ctwE n rows r z = 0 ↔ chkBR n rows r = 0 ∧ (z.length : Int) = n ∧ WiB 1099511627776 z ∧ TwP rows r z := by
  unfold ctwE
  split
  · exact ⟨fun h => by omega, fun h => by omega⟩
  split
  · exact ⟨fun h => by omega, fun h => by omega⟩
  split
  · exact ⟨fun h => by omega, fun g => absurd g.2.2.1 (by assumption)⟩
  split
  · exact ⟨fun h => by omega, fun g => absurd g.2.2.2 (by assumption)⟩
  rename_i h1 h2 h3 h4
  exact ⟨fun _ => ⟨by omega, by omega, Decidable.not_not.1 h3, Decidable.not_not.1 h4⟩, fun _ => rfl⟩
theorem ctw_1 (h : chkBR n rows r ≠ 0) : ctwE n rows r z = chkBR n rows r := by unfold ctwE; rw [if_pos h]
theorem ctw_15 (h : chkBR n rows r = 0) (h1 : (z.length : Int) ≠ n) : ctwE n rows r z = 15 := by unfold ctwE; rw [if_neg (by omega), if_pos h1]
theorem ctw_3 (h : chkBR n rows r = 0) (h1 : (z.length : Int) = n) (h2 : ¬ WiB 1099511627776 z) : ctwE n rows r z = 3 := by unfold ctwE; rw [if_neg (by omega), if_neg (by omega), if_pos h2]
theorem ctw_14 (h : chkBR n rows r = 0) (h1 : (z.length : Int) = n) (h2 : WiB 1099511627776 z) (h3 : ¬ TwP rows r z) : ctwE n rows r z = 14 := by
  unfold ctwE; rw [if_neg (by omega), if_neg (by omega), if_neg (fun g => g h2), if_pos h3]
end
theorem fnL_in {l : List Int} (h : WiB 4 l) (i : Nat) : -4 ≤ fnL l i ∧ fnL l i ≤ 4 := by
  unfold fnL
  rcases Nat.lt_or_ge i l.length with g | g
  · exact h.at_ g
  rw [List.getD_eq_getElem?_getD, List.getElem?_eq_none g]; decide
theorem OkB.len0 {n : Int} {rows : List (List Int)} (h : OkB n rows) {a : List Int} (ha : a ∈ rows) : 0 < a.length ∧ a.length ≤ 5 := by
  have h1 := h.2.2.1 a ha
  have h2 := h.2.1
  omega
theorem c_twin1 (w : World) (o u : Value) (p : Addr) (a z : List Int) (hA : RdF encI 1 w.heap.size w o a) (hZ : RdF encI 1 w.heap.size w u z) (hc : Cap w p u) (h0 : 0 < a.length) (h5 : a.length ≤ 5) (hz5 : z.length ≤ 5) (ha : WiB 4 a) (hz : WiB 1099511627776 z) : Ret Try.prog 35 [o, .pointer (some p)].toArray w (.bool (bl (dotL a z ≠ 0))) := by
  refine Ret.of mixed tyTab Try.func35 rfl rfl ?_
  replace hA : RdF encI 1 (fnCx mixed tyTab Try.f35.ntmps w).B (fnCx mixed tyTab Try.f35.ntmps w).w0 o a := hA
  replace hZ : RdF encI 1 (fnCx mixed tyTab Try.f35.ntmps w).B (fnCx mixed tyTab Try.f35.ntmps w).w0 u z := hZ
  replace hc : Cap (fnCx mixed tyTab Try.f35.ntmps w).w0 p u := hc
  refine W.sreg ?_
  refine WO.p rfl rfl ?_
  refine WO.nil ?_
  refine W.seq ?_
  refine W.drawD 3 [.r 0 [], .b 1 [], .b 2 []] [] (A0 := []) (Sub.refl _) (by kernel_rfl) ?_ ?_
  · exact (ALok.r (ALok.b (ALok.b ALok.nil)))
  refine' DT.r rfl rfl rfl ?hq ?_
  case hq =>
    refine WO.p rfl rfl ?_
    exact WO.nil ⟨rfl, rfl⟩
  refine' DT.b rfl rfl rfl ?hq ?_
  case hq =>
    refine WO.callR rfl Try.call32 (fun L w' hi => c_newRow w' o a (hA.later hi) h0 h5) rfl ?_
    exact WO.nil ⟨rfl, rfl⟩
  refine' DT.b rfl rfl rfl ?hq ?_
  case hq =>
    refine' WO.load (v := _) rfl rfl ?hc rfl ?_
    case hc => (first | (refine Cap.cell (v := u) rfl hc))
    exact WO.nil ⟨rfl, rfl⟩
  refine DT.nil [] rfl ?_
  refine WO.callR rfl Try.call33 (fun L w' hi => c_sum w' _ u z (hZ.later hi) hz5 (fun i _ => fnL_in ha i) hz) rfl ?_
  refine WO.p rfl rfl (WO.p rfl rfl ?_)
  refine WO.nil ?_
  refine W.ret ?_
  exact fin.ret (Res.one rfl (RV.tmp rfl)) rfl
theorem c_CheckTwin (w : World) (n : Int) (v u o : Value) (rv : List Value) (rows : List (List Int)) (r z : List Int) (hB : RdR encI 1 w.heap.size w v rv rows) (hR : RdF encI 1 w.heap.size w u r) (hZ : RdF encI 1 w.heap.size w o z) : Ret Try.prog 11 [bookV n v, u, o].toArray w (.int .i64 (ctwE n rows r z)) := by
  refine Ret.of mixed tyTab Try.func11 rfl rfl ?_
  replace hB : RdR encI 1 (fnCx mixed tyTab Try.f11.ntmps w).B (fnCx mixed tyTab Try.f11.ntmps w).w0 v rv rows := hB
  replace hR : RdF encI 1 (fnCx mixed tyTab Try.f11.ntmps w).B (fnCx mixed tyTab Try.f11.ntmps w).w0 u r := hR
  replace hZ : RdF encI 1 (fnCx mixed tyTab Try.f11.ntmps w).B (fnCx mixed tyTab Try.f11.ntmps w).w0 o z := hZ
  have hoc := hB.sl.oc
  have hoz := hZ.sl.oc
  refine W.sreg ?_
  refine WO.boxA rfl rfl (fun b1 hb1 => ?_)
  refine WO.box1 rfl (by first | rfl | assumption) rfl (fun b2 hb2 => ?_)
  refine WO.p rfl rfl ?_
  refine WO.nil ?_
  refine W.seq ?_
  refine W.sreg ?_
  refine WO.loadA rfl rfl (Cells.own (Pick.tail (Pick.head))) rfl rfl (WO.p rfl rfl ?_)
  refine WO.callR rfl Try.call28 (fun L w' hi => c_checkRow w' n v u rv rows r (hB.later hi) (hR.later hi)) rfl ?_
  refine WO.p rfl rfl ?_
  refine WO.nil ?_
  refine W.sreg ?_
  refine WO.p rfl rfl (WO.p rfl rfl ?_)
  refine WO.nil ?_
  refine W.cond_bl rfl (fun c1 => ?_) (fun c1 => ?_)
  · first
    | (exfalso; omega)
    | (refine W.sreg ?_
       refine WO.p rfl rfl (WO.p rfl rfl ?_)
       refine WO.nil ?_
       refine W.ret ?_
       refine fin.ret (Res.one rfl (RV.tmp rfl)) (congrArg (Value.int .i64) ?_)
       first | exact (ctw_1 (by omega)).symm | exact (ctw_15 (by omega) (by omega)).symm | exact (ctw_3 (by omega) (by omega) (by assumption)).symm | exact (ctw_14 (by omega) hzl hzw (fun g => g.2 (by assumption))).symm | exact (ctw_14 (by omega) hzl hzw (fun g => absurd (fun a ha => Decidable.not_not.2 (g.1 a ha)) (by assumption))).symm | exact (ctwE0.2 ⟨by omega, hzl, hzw, fun a ha => Decidable.not_not.1 ((Decidable.not_not.1 (show ¬ ¬ ∀ a ∈ rows, ¬ (dotL a z ≠ 0) by assumption)) a ha), by assumption⟩).symm)
  first
  | (exfalso; omega)
  | (refine W.skip ?_
     refine W.seq ?_
     refine W.block ?_
     refine W.sreg ?_
     refine WO.load rfl rfl (Cell.own Pick.head rfl) rfl ?_
     refine' WO.len (n := _) rfl rfl ?hs rfl ?_
     case hs => (first | exact hB.sl | exact hZ.sl)
     refine WO.field0 rfl rfl rfl (WO.load rfl rfl (Cell.own (Pick.tail (Pick.head)) rfl) rfl (WO.p rfl rfl (WO.p rfl rfl ?_)))
     refine WO.nil ?_
     refine W.cond_bl rfl (fun c2 => ?_) (fun c2 => ?_)
     · first
       | (exfalso; omega)
       | (refine W.sreg ?_
          refine WO.p rfl rfl ?_
          refine WO.nil ?_
          refine W.ret ?_
          refine fin.ret (Res.one rfl (RV.tmp rfl)) (congrArg (Value.int .i64) ?_)
          first | exact (ctw_1 (by omega)).symm | exact (ctw_15 (by omega) (by omega)).symm | exact (ctw_3 (by omega) (by omega) (by assumption)).symm | exact (ctw_14 (by omega) hzl hzw (fun g => g.2 (by assumption))).symm | exact (ctw_14 (by omega) hzl hzw (fun g => absurd (fun a ha => Decidable.not_not.2 (g.1 a ha)) (by assumption))).symm | exact (ctwE0.2 ⟨by omega, hzl, hzw, fun a ha => Decidable.not_not.1 ((Decidable.not_not.1 (show ¬ ¬ ∀ a ∈ rows, ¬ (dotL a z ≠ 0) by assumption)) a ha), by assumption⟩).symm)
     first
     | (exfalso; omega)
     | (refine W.sreg ?_
        refine WO.load rfl rfl (Cell.own Pick.head rfl) rfl ?_
        refine WO.callR rfl Try.call29 (fun L w' hi => c_within w' o z _ (hZ.later hi) (by unfold in64; omega)) rfl ?_
        refine WO.p rfl rfl (WO.p rfl rfl ?_)
        refine WO.nil ?_
        refine W.cond_nbl rfl (fun c3 => ?_) (fun c3 => ?_)
        · first
          | (exfalso; omega)
          | (refine W.sreg ?_
             refine WO.p rfl rfl ?_
             refine WO.nil ?_
             refine W.ret ?_
             refine fin.ret (Res.one rfl (RV.tmp rfl)) (congrArg (Value.int .i64) ?_)
             first | exact (ctw_1 (by omega)).symm | exact (ctw_15 (by omega) (by omega)).symm | exact (ctw_3 (by omega) (by omega) (by assumption)).symm | exact (ctw_14 (by omega) hzl hzw (fun g => g.2 (by assumption))).symm | exact (ctw_14 (by omega) hzl hzw (fun g => absurd (fun a ha => Decidable.not_not.2 (g.1 a ha)) (by assumption))).symm | exact (ctwE0.2 ⟨by omega, hzl, hzw, fun a ha => Decidable.not_not.1 ((Decidable.not_not.1 (show ¬ ¬ ∀ a ∈ rows, ¬ (dotL a z ≠ 0) by assumption)) a ha), by assumption⟩).symm)
        first
        | (exfalso; omega)
        | (refine W.seq ?_
           obtain ⟨hok, hrl, hrw⟩ := chkBR0.1 (show chkBR n rows r = 0 by omega)
           have hn5 := hok.2.1
           have hzl : (z.length : Int) = n := by omega
           have hzw : WiB 1099511627776 z := by assumption
           refine W.drawD 9 [.r 0 [], .b 1 [], .b 2 [], .b 3 [], .r 4 [], .r 5 [], .r 6 [], .b 7 [], .r 8 []] [] (A0 := []) (Sub.refl _) (by kernel_rfl) ?_ ?_
           · exact (ALok.r (ALok.b (ALok.b (ALok.b (ALok.r (ALok.r (ALok.r (ALok.b (ALok.r ALok.nil)))))))))
           refine' DT.r rfl rfl rfl ?hq ?_
           case hq =>
             refine WO.p rfl rfl ?_
             exact WO.nil ⟨rfl, rfl⟩
           refine' DT.b rfl rfl rfl ?hq ?_
           case hq =>
             refine WO.callR rfl Try.call32 (fun L w' hi => c_newRow w' u r (hR.later hi) (by omega) (by omega)) rfl ?_
             exact WO.nil ⟨rfl, rfl⟩
           refine' DT.b rfl rfl rfl ?hq ?_
           case hq =>
             refine WO.load rfl rfl (Cell.own Pick.head rfl) rfl ?_
             exact WO.nil ⟨rfl, rfl⟩
           refine' DT.b rfl rfl rfl ?hq ?_
           case hq =>
             refine WO.callR (r := .int .i64 (dotL r z)) rfl Try.call33 (fun L w' hi => c_sum w' _ o z (hZ.later hi) (by omega) (fun i _ => fnL_in hrw i) hzw) rfl ?_
             exact WO.nil ⟨rfl, rfl⟩
           refine' DT.r rfl rfl rfl ?hq ?_
           case hq =>
             refine WO.p rfl rfl ?_
             exact WO.nil ⟨rfl, rfl⟩
           refine' DT.rB rfl rfl rfl ?hq (fun c4 => ?_) (fun c4 => ?_)
           case hq =>
             refine WO.p rfl rfl ?_
             exact WO.nil ⟨rfl, rfl⟩
           · first
             | (exfalso; omega)
             | (refine' DT.r rfl rfl rfl ?hq ?_
                case hq =>
                  refine WO.no rfl rfl ?_
                  exact WO.nil ⟨rfl, rfl⟩
                refine' DT.b rfl rfl rfl ?hq ?_
                case hq =>
                  refine WO.no rfl rfl ?_
                  exact WO.nil ⟨rfl, rfl⟩
                refine' DT.r rfl rfl rfl ?hq ?_
                case hq =>
                  refine WO.no rfl rfl ?_
                  exact WO.nil ⟨rfl, rfl⟩
                refine DT.nil [_, _] rfl ?_
                refine WO.no rfl rfl (WO.p rfl rfl (WO.p rfl rfl ?_))
                refine WO.nil ?_
                refine W.cond_t rfl ?_
                refine W.sreg ?_
                refine WO.p rfl rfl ?_
                refine WO.nil ?_
                refine W.ret ?_
                refine fin.ret (Res.one rfl (RV.tmp rfl)) (congrArg (Value.int .i64) ?_)
                first | exact (ctw_1 (by omega)).symm | exact (ctw_15 (by omega) (by omega)).symm | exact (ctw_3 (by omega) (by omega) (by assumption)).symm | exact (ctw_14 (by omega) hzl hzw (fun g => g.2 (by assumption))).symm | exact (ctw_14 (by omega) hzl hzw (fun g => absurd (fun a ha => Decidable.not_not.2 (g.1 a ha)) (by assumption))).symm | exact (ctwE0.2 ⟨by omega, hzl, hzw, fun a ha => Decidable.not_not.1 ((Decidable.not_not.1 (show ¬ ¬ ∀ a ∈ rows, ¬ (dotL a z ≠ 0) by assumption)) a ha), by assumption⟩).symm)
           first
           | (exfalso; omega)
           | (refine' DT.r rfl rfl rfl ?hq ?_
              case hq =>
                refine WO.go' rfl (WO.fieldL rfl rfl rfl ?_)
                exact WO.nil ⟨rfl, rfl⟩
              refine' DT.b rfl rfl rfl ?hq ?_
              case hq =>
                refine WO.go' rfl (WO.load rfl rfl (Cell.own (Pick.tail (Pick.head)) rfl) rfl ?_)
                exact WO.nil ⟨rfl, rfl⟩
              refine' DT.r rfl rfl rfl ?hq ?_
              case hq =>
                refine WO.pg rfl rfl rfl ?_
                exact WO.nil ⟨rfl, rfl⟩
              refine DT.nil [_, _] rfl ?_
              refine WO.go' rfl ?_
              refine WO.callR (r := .bool (bl (¬ ∀ a ∈ rows, ¬ (dotL a z ≠ 0)))) rfl Try.call34 (fun L w' hi => c_ContR w' v rv rows _ [_] (fun a => dotL a z ≠ 0) (hB.later hi) Try.call35 (fun i hil w2 h1 h2 => c_twin1 w2 _ o _ _ z (RdF.keep ((hB.row i hil).later hi) h1 h2) (RdF.keep (hZ.later hi) h1 h2) (Cap.keep (Cap.of (by repeat (first | exact Pick.head | apply Pick.tail)) rfl hi) h1 h2) (hok.len0 (getD_mem hil [])).1 (hok.len0 (getD_mem hil [])).2 (by omega) (hok.2.2.2 _ (getD_mem hil [])) hzw)) rfl ?_
              refine WO.p rfl rfl (WO.p rfl rfl ?_)
              refine WO.nil ?_
              refine W.cond_bl rfl (fun c5 => ?_) (fun c5 => ?_)
              · first
                | (exfalso; omega)
                | (refine W.sreg ?_
                   refine WO.p rfl rfl ?_
                   refine WO.nil ?_
                   refine W.ret ?_
                   refine fin.ret (Res.one rfl (RV.tmp rfl)) (congrArg (Value.int .i64) ?_)
                   first | exact (ctw_1 (by omega)).symm | exact (ctw_15 (by omega) (by omega)).symm | exact (ctw_3 (by omega) (by omega) (by assumption)).symm | exact (ctw_14 (by omega) hzl hzw (fun g => g.2 (by assumption))).symm | exact (ctw_14 (by omega) hzl hzw (fun g => absurd (fun a ha => Decidable.not_not.2 (g.1 a ha)) (by assumption))).symm | exact (ctwE0.2 ⟨by omega, hzl, hzw, fun a ha => Decidable.not_not.1 ((Decidable.not_not.1 (show ¬ ¬ ∀ a ∈ rows, ¬ (dotL a z ≠ 0) by assumption)) a ha), by assumption⟩).symm)
              first
              | (exfalso; omega)
              | (refine W.skip ?_
                 refine W.sreg ?_
                 refine WO.p rfl rfl ?_
                 refine WO.nil ?_
                 refine W.ret ?_
                 refine fin.ret (Res.one rfl (RV.tmp rfl)) (congrArg (Value.int .i64) ?_)
                 first | exact (ctw_1 (by omega)).symm | exact (ctw_15 (by omega) (by omega)).symm | exact (ctw_3 (by omega) (by omega) (by assumption)).symm | exact (ctw_14 (by omega) hzl hzw (fun g => g.2 (by assumption))).symm | exact (ctw_14 (by omega) hzl hzw (fun g => absurd (fun a ha => Decidable.not_not.2 (g.1 a ha)) (by assumption))).symm | exact (ctwE0.2 ⟨by omega, hzl, hzw, fun a ha => Decidable.not_not.1 ((Decidable.not_not.1 (show ¬ ¬ ∀ a ∈ rows, ¬ (dotL a z ≠ 0) by assumption)) a ha), by assumption⟩).symm)))))
theorem ref_CheckTwin (w : World) (n : Int) (v u o : Value) (rv : List Value) (rows : List (List Int)) (r z : List Int) (hB : RdR encI 1 w.heap.size w v rv rows) (hR : RdF encI 1 w.heap.size w u r) (hZ : RdF encI 1 w.heap.size w o z) : Ret Try.prog 12 [bookV n v, u, o].toArray w (.int .i64 (ctwE n rows r z)) := by
  refine Ret.of mixed tyTab Try.func12 rfl rfl ?_
  replace hB : RdR encI 1 (fnCx mixed tyTab Try.f12.ntmps w).B (fnCx mixed tyTab Try.f12.ntmps w).w0 v rv rows := hB
  replace hR : RdF encI 1 (fnCx mixed tyTab Try.f12.ntmps w).B (fnCx mixed tyTab Try.f12.ntmps w).w0 u r := hR
  replace hZ : RdF encI 1 (fnCx mixed tyTab Try.f12.ntmps w).B (fnCx mixed tyTab Try.f12.ntmps w).w0 o z := hZ
  have hoc := hB.sl.oc
  have hoz := hZ.sl.oc
  refine W.sreg ?_
  refine WO.boxA rfl rfl (fun b1 hb1 => ?_)
  refine WO.p rfl rfl ?_
  refine WO.nil ?_
  refine W.seq ?_
  refine W.sreg ?_
  refine WO.loadA rfl rfl (Cells.own Pick.head) rfl rfl (WO.p rfl rfl ?_)
  refine WO.callR rfl Try.call30 (fun L w' hi => ref_both w' n v u rv rows r (hB.later hi) (hR.later hi)) rfl ?_
  refine WO.p rfl rfl ?_
  refine WO.nil ?_
  refine W.cond_bl rfl (fun c1 => ?_) (fun c1 => ?_)
  · first
    | (exfalso; omega)
    | (refine W.sreg ?_
       refine WO.loadA rfl rfl (Cells.own Pick.head) rfl rfl (WO.p rfl rfl ?_)
       refine WO.callR rfl Try.call30 (fun L w' hi => ref_both w' n v u rv rows r (hB.later hi) (hR.later hi)) rfl ?_
       refine WO.p rfl rfl ?_
       refine WO.nil ?_
       refine W.ret ?_
       refine fin.ret (Res.one rfl (RV.tmp rfl)) (congrArg (Value.int .i64) ?_)
       first | exact (ctw_1 (by omega)).symm | exact (ctw_15 (by omega) (by omega)).symm | exact (ctw_3 (by omega) (by omega) (by assumption)).symm | exact (ctw_14 (by omega) hzl hzw (fun g => g.2 (by assumption))).symm | exact (ctw_14 (by omega) hzl hzw (fun g => absurd (g.1 _ (getD_mem (i := i) (by omega) [])) (by assumption))).symm | exact (ctwE0.2 ⟨by omega, hzl, hzw, hal, by assumption⟩).symm)
  first
  | (exfalso; omega)
  | (refine W.skip ?_
     refine W.seq ?_
     refine W.sreg ?_
     refine WO.p rfl rfl ?_
     refine' WO.len (n := _) rfl rfl ?hs rfl ?_
     case hs => (first | exact hB.sl | exact hZ.sl)
     refine WO.field0 rfl rfl rfl (WO.load rfl rfl (Cell.own Pick.head rfl) rfl (WO.p rfl rfl ?_))
     refine WO.nil ?_
     refine W.cond_bl rfl (fun c2 => ?_) (fun c2 => ?_)
     · first
       | (exfalso; omega)
       | (refine W.sreg ?_
          refine WO.p rfl rfl ?_
          refine WO.nil ?_
          refine W.ret ?_
          refine fin.ret (Res.one rfl (RV.tmp rfl)) (congrArg (Value.int .i64) ?_)
          first | exact (ctw_1 (by omega)).symm | exact (ctw_15 (by omega) (by omega)).symm | exact (ctw_3 (by omega) (by omega) (by assumption)).symm | exact (ctw_14 (by omega) hzl hzw (fun g => g.2 (by assumption))).symm | exact (ctw_14 (by omega) hzl hzw (fun g => absurd (g.1 _ (getD_mem (i := i) (by omega) [])) (by assumption))).symm | exact (ctwE0.2 ⟨by omega, hzl, hzw, hal, by assumption⟩).symm)
     first
     | (exfalso; omega)
     | (refine W.skip ?_
        refine W.seq ?_
        refine W.sreg ?_
        refine WO.p rfl rfl ?_
        refine WO.callR rfl Try.call31 (fun L w' hi => ref_within w' o z _ (hZ.later hi) (by unfold in64; omega)) rfl ?_
        refine WO.p rfl rfl ?_
        refine WO.nil ?_
        refine W.cond_nbl rfl (fun c3 => ?_) (fun c3 => ?_)
        · first
          | (exfalso; omega)
          | (refine W.sreg ?_
             refine WO.p rfl rfl ?_
             refine WO.nil ?_
             refine W.ret ?_
             refine fin.ret (Res.one rfl (RV.tmp rfl)) (congrArg (Value.int .i64) ?_)
             first | exact (ctw_1 (by omega)).symm | exact (ctw_15 (by omega) (by omega)).symm | exact (ctw_3 (by omega) (by omega) (by assumption)).symm | exact (ctw_14 (by omega) hzl hzw (fun g => g.2 (by assumption))).symm | exact (ctw_14 (by omega) hzl hzw (fun g => absurd (g.1 _ (getD_mem (i := i) (by omega) [])) (by assumption))).symm | exact (ctwE0.2 ⟨by omega, hzl, hzw, hal, by assumption⟩).symm)
        first
        | (exfalso; omega)
        | (refine W.skip ?_
           refine W.seq ?_
           obtain ⟨hok, hrl, hrw⟩ := chkBR0.1 (show chkBR n rows r = 0 by omega)
           have hn5 := hok.2.1
           have hn8 := hok.1
           have hzl : (z.length : Int) = n := by omega
           have hzw : WiB 1099511627776 z := by assumption
           refine W.sreg ?_
           refine WO.p rfl rfl ?_
           refine WO.nil ?_
           refine W.block ?_
           refine W.loop (fun (i : Nat) => i ≤ rows.length ∧ ∀ a ∈ rows.take i, dotL a z = 0)
             (fun (i : Nat) => [(1, u), (2, o), (3, .pointer (some ⟨b1, 0, none⟩)), (7, .int .i64 (i : Int))])
             (fun (i : Nat) => [pt b1 (.cells #[.int .i64 n, v] 24 (0, 0))])
             (fun (i : Nat) => rows.length - i) 0
             (by exact ⟨by omega, fun x hx => by simp at hx⟩) ⟨rfl, rfl, rfl, rfl, trivial⟩ (by repeat (first | exact Sub.nil | refine Sub.cons (by repeat (first | exact Pick.head | apply Pick.tail)) ?_)) ?_
           rintro i ⟨hi, hal⟩
           refine W.seq ?_
           refine W.sreg ?_
           refine WO.p rfl rfl (WO.fieldL rfl rfl rfl (WO.load rfl rfl (Cell.own Pick.head rfl) rfl ?_))
           refine' WO.len (n := _) rfl rfl ?hs rfl ?_
           case hs => (first | exact hB.sl | exact hZ.sl)
           refine WO.p rfl rfl ?_
           refine WO.nil ?_
           refine W.cond_bl rfl (fun c4 => ?_) (fun c4 => ?_)
           · first
             | (exfalso; omega)
             | (refine W.skip ?_
                refine W.seq ?_
                refine W.block ?_
                refine W.sreg ?_
                refine WO.fieldL rfl rfl rfl (WO.load rfl rfl (Cell.own Pick.head rfl) rfl (WO.p rfl rfl ?_))
                refine' WO.indexAddr (n := _) (i := _) rfl rfl rfl ?hs ?h1 rfl ?_
                case hs => (first | exact hB.sl | exact hZ.sl)
                case h1 => (first | omega | (simp; omega))
                refine' WO.load (v := _) rfl rfl ?hc rfl ?_
                case hc => (first | (refine hB.cellV (i := i) ?_; omega))
                refine WO.p rfl rfl ?_
                refine WO.callR (r := .int .i64 (dotL (rows.getD i []) z)) rfl Try.call36 (fun L w' hi' => ref_Sum w' _ o _ z ((hB.row i (by omega)).later hi') (hZ.later hi') (by have := hok.len (i := i) (by omega); omega) (by omega) (hok.2.2.2 _ (getD_mem (by omega) [])) hzw) rfl ?_
                refine WO.p rfl rfl ?_
                refine WO.nil ?_
                refine W.cond_bl rfl (fun c5 => ?_) (fun c5 => ?_)
                · first
                  | (exfalso; omega)
                  | (refine W.sreg ?_
                     refine WO.p rfl rfl ?_
                     refine WO.nil ?_
                     refine W.ret ?_
                     refine fin.ret (Res.one rfl (RV.tmp rfl)) (congrArg (Value.int .i64) ?_)
                     first | exact (ctw_1 (by omega)).symm | exact (ctw_15 (by omega) (by omega)).symm | exact (ctw_3 (by omega) (by omega) (by assumption)).symm | exact (ctw_14 (by omega) hzl hzw (fun g => g.2 (by assumption))).symm | exact (ctw_14 (by omega) hzl hzw (fun g => absurd (g.1 _ (getD_mem (i := i) (by omega) [])) (by assumption))).symm | exact (ctwE0.2 ⟨by omega, hzl, hzw, hal, by assumption⟩).symm)
                first
                | (exfalso; omega)
                | (refine W.skip ?_
                   refine W.region ?_
                   refine WO.p rfl rfl (WO.ar rfl rfl rfl (by (first | (unfold in64; omega) | (unfold in64; omega))) rfl (WO.p rfl rfl ?_))
                   refine WO.nil ?_
                   refine' ⟨i + 1, ?hp, ?hmu, ⟨rfl, rfl, rfl, rfl, trivial⟩, ?hS⟩
                   case hS => repeat (first | exact Sub.nil | refine Sub.cons (by repeat (first | exact Pick.head | apply Pick.tail)) ?_)
                   case hp => exact ⟨by omega, all_succ (by omega) [] hal (Decidable.not_not.1 (by assumption))⟩
                   case hmu => omega))
           first
           | (exfalso; omega)
           | (refine W.exit (blk_same ?_)
              refine W.seq ?_
              rw [take_all (by omega)] at hal
              refine W.sreg ?_
              refine WO.p rfl rfl (WO.p rfl rfl ?_)
              refine WO.callR (r := .int .i64 (dotL r z)) rfl Try.call36 (fun L w' hi' => ref_Sum w' u o r z (hR.later hi') (hZ.later hi') (by omega) (by omega) hrw hzw) rfl ?_
              refine WO.p rfl rfl ?_
              refine WO.nil ?_
              refine W.cond_bl rfl (fun c6 => ?_) (fun c6 => ?_)
              · first
                | (exfalso; omega)
                | (refine W.sreg ?_
                   refine WO.p rfl rfl ?_
                   refine WO.nil ?_
                   refine W.ret ?_
                   refine fin.ret (Res.one rfl (RV.tmp rfl)) (congrArg (Value.int .i64) ?_)
                   first | exact (ctw_1 (by omega)).symm | exact (ctw_15 (by omega) (by omega)).symm | exact (ctw_3 (by omega) (by omega) (by assumption)).symm | exact (ctw_14 (by omega) hzl hzw (fun g => g.2 (by assumption))).symm | exact (ctw_14 (by omega) hzl hzw (fun g => absurd (g.1 _ (getD_mem (i := i) (by omega) [])) (by assumption))).symm | exact (ctwE0.2 ⟨by omega, hzl, hzw, hal, by assumption⟩).symm)
              first
              | (exfalso; omega)
              | (refine W.skip ?_
                 refine W.sreg ?_
                 refine WO.p rfl rfl ?_
                 refine WO.nil ?_
                 refine W.ret ?_
                 refine fin.ret (Res.one rfl (RV.tmp rfl)) (congrArg (Value.int .i64) ?_)
                 first | exact (ctw_1 (by omega)).symm | exact (ctw_15 (by omega) (by omega)).symm | exact (ctw_3 (by omega) (by omega) (by assumption)).symm | exact (ctw_14 (by omega) hzl hzw (fun g => g.2 (by assumption))).symm | exact (ctw_14 (by omega) hzl hzw (fun g => absurd (g.1 _ (getD_mem (i := i) (by omega) [])) (by assumption))).symm | exact (ctwE0.2 ⟨by omega, hzl, hzw, hal, by assumption⟩).symm)))))
end Go.Proofs.Ytelmclmklkiphaa
