/-
  What is proved here: the program's places: a function that yields. Conditions: none; each contract states its own.
-/
import Derived.Test.YtgihklgpehfbpaaB16
import Derived.Test.YtgihklgpehfbpaaKp
namespace Go.Proofs.Ytgihklgpehfbpaa
open Go Go.TH
attribute [local irreducible] W WO pt
set_option maxRecDepth 10000
set_option maxHeartbeats 1000000
theorem c_weight (w : World) (i n : Nat) (hi : i < n) (hn : n ≤ 1000) : Ret Try.prog 66 [.agg #[.int .i64 1, .int .i64 2], .int .i64 (i : Int), .int .i64 (n : Int)].toArray w (.int .i64 (wgt i n)) := by
  refine Ret.of mixed tyTab Try.func66 rfl rfl ?_
  refine W.sreg ?_
  refine WO.boxA rfl rfl (fun b1 hb1 => ?_)
  refine WO.p rfl rfl ?_
  refine WO.nil ?_
  refine W.seq ?_
  refine W.sreg ?_
  refine WO.p rfl rfl (WO.p rfl rfl (WO.p rfl rfl ?_))
  refine WO.guard_bl rfl rfl (fun c1 => ?_) (fun c1 => ?_)
  · first
    | (exfalso; omega)
    | (refine WO.pg rfl rfl rfl (WO.pg rfl rfl rfl (WO.go' rfl (WO.ar rfl rfl rfl (by (first | (unfold in64; omega))) rfl (WO.pg rfl rfl rfl (WO.p rfl rfl ?_)))))
       refine WO.nil ?_
       refine W.cond_bl rfl (fun c2 => ?_) (fun c2 => ?_)
       · first
         | (exfalso; omega)
         | (refine W.sreg ?_
            refine WO.indexArrL (o' := 1) rfl rfl rfl (by decide) rfl rfl ?_
            refine WO.load rfl rfl (Cell.own Pick.head rfl) rfl (WO.p rfl rfl ?_)
            refine WO.nil ?_
            refine W.ret ?_
            refine fin.ret (Res.one rfl (RV.tmp rfl)) ?_
            refine congrArg (Value.int .i64) ?_
            unfold wgt; first | rw [if_pos (by omega)] | rw [if_neg (by omega)])
       · first
         | (exfalso; omega)
         | (refine W.skip ?_
            refine W.sreg ?_
            refine WO.indexArrL (o' := 0) rfl rfl rfl (by decide) rfl rfl ?_
            refine WO.load rfl rfl (Cell.own Pick.head rfl) rfl (WO.p rfl rfl ?_)
            refine WO.nil ?_
            refine W.ret ?_
            refine fin.ret (Res.one rfl (RV.tmp rfl)) ?_
            refine congrArg (Value.int .i64) ?_
            unfold wgt; first | rw [if_pos (by omega)] | rw [if_neg (by omega)]))
  · first
    | (exfalso; omega)
    | (refine WO.no rfl rfl (WO.no rfl rfl (WO.no rfl rfl (WO.no rfl rfl (WO.p rfl rfl ?_))))
       refine WO.nil ?_
       refine W.cond_f rfl ?_
       refine W.skip ?_
       refine W.sreg ?_
       refine WO.indexArrL (o' := 0) rfl rfl rfl (by decide) rfl rfl ?_
       refine WO.load rfl rfl (Cell.own Pick.head rfl) rfl (WO.p rfl rfl ?_)
       refine WO.nil ?_
       refine W.ret ?_
       refine fin.ret (Res.one rfl (RV.tmp rfl)) ?_
       refine congrArg (Value.int .i64) ?_
       unfold wgt; first | rw [if_pos (by omega)] | rw [if_neg (by omega)])
theorem c_places (w : World) (p : Addr) : Ct Try.prog 56 [.pointer (some p)].toArray w fun v w' => ∃ Hq, (∃ b1 b2, v = .func (.func 67) #[] #[.pointer (some ⟨b1, 0, none⟩), .pointer (some ⟨b2, 0, none⟩)] ∧
    Hq = [pt b2 (.cells #[.func (.func 66) #[.agg #[.int .i64 1, .int .i64 2]] #[]] 95 (0, 0)), pt b1 (.cells #[.pointer (some p)] 71 (0, 0))]) ∧ Inv w [] Hq w' := by
  refine Ct.of mixed tyTab Try.func56 rfl rfl ?_
  refine W.sreg ?_
  refine WO.box1 rfl (by first | rfl | assumption) rfl (fun b1 hb1 => ?_)
  refine WO.p rfl rfl ?_
  refine WO.nil ?_
  refine W.sreg ?_
  refine' WO.build (cs := _) rfl rfl rfl ?hf rfl ?_
  case hf => (conv => lhs; simp [-List.getD_eq_getElem?_getD, fillL, vcl, wrl, TTab.pl?.lget']) <;> rfl
  refine WO.p rfl rfl ?_
  refine WO.alloc rfl rfl rfl (fun b2 hb2 => ?_)
  refine WO.store1 rfl rfl rfl (by first | rfl | assumption) Pick.head rfl ?_
  refine WO.nil ?_
  refine W.sreg ?_
  refine WO.p rfl rfl (WO.p rfl rfl ?_)
  refine WO.nil ?_
  refine W.ret ?_
  exact fin.ret (Res.one rfl (RV.tmp rfl)) ⟨b1, b2, rfl, rfl⟩
/-- the places of a hull, in order -/
def plcTo (rows : List (List (Int × Int))) (i : Nat) : List (Nat × Nat) := (List.range i).flatMap fun i => (List.range (rows.getD i []).length).map fun k => (i, k)
def plc (rows : List (List (Int × Int))) : List (Nat × Nat) := plcTo rows rows.length
theorem plcTo_succ (rows : List (List (Int × Int))) (i : Nat) : plcTo rows (i + 1) = plcTo rows i ++ (List.range (rows.getD i []).length).map fun k => (i, k) := by
  unfold plcTo; rw [List.range_succ, List.flatMap_append]; simp
theorem plcTo_len (rows : List (List (Int × Int))) (i : Nat) : (plcTo rows (i + 1)).length = (plcTo rows i).length + (rows.getD i []).length := by rw [plcTo_succ]; simp
theorem plcTo_get (rows : List (List (Int × Int))) {i k : Nat} : ∀ {n : Nat}, i < n → k < (rows.getD i []).length → (plcTo rows n)[(plcTo rows i).length + k]? = some (i, k)
  | 0, h, _ => by omega
  | n + 1, h, hk => by
    rw [plcTo_succ]
    rcases Nat.lt_or_ge i n with h1 | h1
    · have := plcTo_get rows (n := n) h1 hk
      rw [List.getElem?_append_left (List.getElem?_eq_some_iff.1 this).1]; exact this
    · obtain rfl : i = n := by omega
      rw [List.getElem?_append_right (by omega), Nat.add_sub_cancel_left, List.getElem?_map, List.getElem?_range hk]
      rfl
def placeV (n m i k : Nat) : Value := .agg #[.int .i64 (i : Int), .int .i64 (k : Int), .int .i64 (wgt i n * wgt k m), .int .i64 (wgt i n), .bool (bl ((k : Int) = (m : Int) - 1))]
def plcV (rows : List (List (Int × Int))) : List Value := (plc rows).map fun q => placeV rows.length (rows.getD q.1 []).length q.1 q.2
theorem plcV_get {rows : List (List (Int × Int))} {i k : Nat} (hi : i < rows.length) (hk : k < (rows.getD i []).length) : (plcV rows)[(plcTo rows i).length + k]? = some (placeV rows.length (rows.getD i []).length i k) := by
  unfold plcV plc; rw [List.getElem?_map, plcTo_get rows hi hk]; rfl
theorem c_places1 (B : Nat) (wr : World) (p : Addr) (sp st : Int) (o : Value) (rv : List Value) (rows : List (List (Int × Int))) (X : HP) (hR : RdR encP 2 B wr o rv rows) (hv : HV sp st rows)
    (l : Nat) (Hc : Nat → List HP) (hy : ∀ k x, (plcV rows)[k]? = some x → YieldOK Try.prog B wr l #[x] (Hc k) (Hc (k + 1))) (b1 b2 : Nat) (w : World) (M' : List Nat) (hB : B ≤ w.heap.size) (hk : ∀ k, k < B → w.heap[k]? = wr.heap[k]?) (hM : ∀ b ∈ M', B ≤ b)
    (hPX : ∀ H : List HP, Sub H [X] → Cell (itCx mixed tyTab Try.f67.ntmps w M' B hB hM) H (prt p 2) o)
    (hi : Inv w M' ([pt b2 (.cells #[.func (.func 66) #[.agg #[.int .i64 1, .int .i64 2]] #[]] 95 (0, 0)), pt b1 (.cells #[.pointer (some p)] 71 (0, 0)), X] ++ Hc 0) w) :
    Ct Try.prog 67 ([.func (.yield l) #[] #[], .pointer (some ⟨b1, 0, none⟩), .pointer (some ⟨b2, 0, none⟩)] : List Value).toArray w fun _ w' => Inv w M' ([pt b2 (.cells #[.func (.func 66) #[.agg #[.int .i64 1, .int .i64 2]] #[]] 95 (0, 0)), pt b1 (.cells #[.pointer (some p)] 71 (0, 0)), X] ++ Hc (plcV rows).length) w' := by
  refine Iter.of mixed tyTab hB hM Try.func67 rfl rfl hi ?_
  replace hR : RdR encP 2 (itCx mixed tyTab Try.f67.ntmps w M' B hB hM).B (itCx mixed tyTab Try.f67.ntmps w M' B hB hM).w0 o rv rows := hR.agree hk
  have hle := hR.sl.le
  have hn := hv.n
  have hm := hv.m
  refine W.sreg ?_
  refine WO.load rfl rfl (Cell.own (Pick.tail (Pick.head)) rfl) rfl (WO.p rfl rfl (WO.field0 rfl rfl rfl (WO.field rfl rfl rfl ?_)))
  refine' WO.load (v := _) rfl rfl ?hc rfl ?_
  case hc => (first | (refine hPX _ ?_; repeat (first | exact Sub.nil | refine Sub.cons (by repeat (first | exact Pick.head | apply Pick.tail)) ?_)) | (refine hR.cellV ?_; omega))
  refine' WO.len (n := _) rfl rfl ?hs rfl ?_
  case hs => (first | exact hR.sl | (refine (hR.row _ ?_).sl; omega))
  refine WO.p rfl rfl ?_
  refine WO.nil ?_
  refine W.block ?_
  refine W.loop (fun (i : Nat) => i ≤ rows.length)
    (fun (i : Nat) => [(14, .int .i64 (i : Int)), (13, .int .i64 (rows.length : Int)), (12, o), (0, .func (.yield l) #[] #[]), (1, .pointer (some ⟨b1, 0, none⟩)), (2, .pointer (some ⟨b2, 0, none⟩))])
    (fun (i : Nat) => [pt b1 (.cells #[.pointer (some p)] 71 (0, 0)), pt b2 (.cells #[.func (.func 66) #[.agg #[.int .i64 1, .int .i64 2]] #[]] 95 (0, 0)), X, sat (Hc (plcTo rows i).length)])
    (fun (i : Nat) => rows.length - i) 0
    (by exact Nat.zero_le _) ⟨rfl, rfl, rfl, rfl, rfl, rfl, trivial⟩ (by repeat (first | exact Sub.nil | refine Sub.cons (by repeat (first | exact Pick.head | apply Pick.tail)) ?_)) ?_
  rintro i hi'
  refine W.sreg ?_
  refine WO.p rfl rfl ?_
  refine WO.nil ?_
  refine W.seq ?_
  refine W.cond_bl rfl (fun c1 => ?_) (fun c1 => ?_)
  · first
    | (exfalso; omega)
    | (refine W.skip ?_
       refine W.seq ?_
       refine W.block ?_
       refine W.sreg ?_
       refine WO.p rfl rfl ?_
       refine' WO.indexAddr (n := _) (i := _) rfl rfl rfl ?hs ?h1 rfl ?_
       case hs => (first | exact hR.sl | (refine (hR.row _ ?_).sl; omega))
       case h1 => (first | omega | (simp; omega))
       refine' WO.load (v := _) rfl rfl ?hc rfl ?_
       case hc => (first | (refine hPX _ ?_; repeat (first | exact Sub.nil | refine Sub.cons (by repeat (first | exact Pick.head | apply Pick.tail)) ?_)) | (refine hR.cellV ?_; omega))
       refine WO.p rfl rfl (WO.p rfl rfl ?_)
       refine WO.nil ?_
       refine W.sreg ?_
       refine WO.p rfl rfl ?_
       refine' WO.len (n := _) rfl rfl ?hs rfl ?_
       case hs => (first | exact hR.sl | (refine (hR.row _ ?_).sl; omega))
       refine WO.p rfl rfl ?_
       refine WO.nil ?_
       refine W.block ?_
       refine W.loop (fun (k : Nat) => k ≤ (rows.getD i []).length)
         (fun (k : Nat) => [(14, .int .i64 (i : Int)), (13, .int .i64 (rows.length : Int)), (12, o), (21, .int .i64 (k : Int)), (20, .int .i64 ((rows.getD i []).length : Int)), (19, rv.getD i undef), (4, .int .i64 (i : Int)), (5, rv.getD i undef), (0, .func (.yield l) #[] #[]), (1, .pointer (some ⟨b1, 0, none⟩)), (2, .pointer (some ⟨b2, 0, none⟩))])
         (fun (k : Nat) => [pt b1 (.cells #[.pointer (some p)] 71 (0, 0)), pt b2 (.cells #[.func (.func 66) #[.agg #[.int .i64 1, .int .i64 2]] #[]] 95 (0, 0)), X, sat (Hc ((plcTo rows i).length + k))])
         (fun (k : Nat) => (rows.getD i []).length - k) 0
         (by exact Nat.zero_le _) ⟨rfl, rfl, rfl, rfl, rfl, rfl, rfl, rfl, rfl, rfl, rfl, trivial⟩ (by repeat (first | exact Sub.nil | refine Sub.cons (by repeat (first | exact Pick.head | apply Pick.tail)) ?_)) ?_
       rintro k hk'
       have hlk := hv.eq i (by omega)
       refine W.sreg ?_
       refine WO.p rfl rfl ?_
       refine WO.nil ?_
       refine W.seq ?_
       refine W.cond_bl rfl (fun c2 => ?_) (fun c2 => ?_)
       · first
         | (exfalso; omega)
         | (refine W.skip ?_
            refine W.seq ?_
            refine W.block ?_
            refine W.sreg ?_
            refine WO.p rfl rfl (WO.p rfl rfl ?_)
            refine WO.nil ?_
            refine W.seq ?_
            refine W.drawD 8 [.b 0 [], .r 1 [], .b 2 [], .r 3 [], .r 4 [], .r 5 [], .b 6 [], .r 7 []] [] (A0 := []) (Sub.refl _) (by kernel_rfl) ?_ ?_
            · exact (ALok.b (ALok.r (ALok.b (ALok.r (ALok.r (ALok.r (ALok.b (ALok.r ALok.nil))))))))
            refine' DT.b rfl rfl rfl ?hq ?_
            case hq =>
              refine WO.load rfl rfl (Cell.own (Pick.tail (Pick.head)) rfl) rfl ?_
              exact WO.nil ⟨rfl, rfl⟩
            refine' DT.r rfl rfl rfl ?hq ?_
            case hq =>
              refine WO.p rfl rfl ?_
              exact WO.nil ⟨rfl, rfl⟩
            refine' DT.b rfl rfl rfl ?hq ?_
            case hq =>
              refine WO.load rfl rfl (Cell.own Pick.head rfl) rfl ?_
              exact WO.nil ⟨rfl, rfl⟩
            refine' DT.r rfl rfl rfl ?hq ?_
            case hq =>
              refine WO.p rfl rfl ?_
              exact WO.nil ⟨rfl, rfl⟩
            refine' DT.r rfl rfl rfl ?hq ?_
            case hq =>
              refine WO.field0 rfl rfl rfl ?_
              exact WO.nil ⟨rfl, rfl⟩
            refine' DT.r rfl rfl rfl ?hq ?_
            case hq =>
              refine WO.field rfl rfl rfl ?_
              exact WO.nil ⟨rfl, rfl⟩
            refine' DT.b rfl rfl rfl ?hq ?_
            case hq =>
              refine' WO.load (v := _) rfl rfl ?hc rfl ?_
              case hc => (first | (refine hPX _ ?_; repeat (first | exact Sub.nil | refine Sub.cons (by repeat (first | exact Pick.head | apply Pick.tail)) ?_)) | (refine hR.cellV ?_; omega))
              exact WO.nil ⟨rfl, rfl⟩
            refine' DT.r rfl rfl rfl ?hq ?_
            case hq =>
              refine' WO.len (n := _) rfl rfl ?hs rfl ?_
              case hs => (first | exact hR.sl | (refine (hR.row _ ?_).sl; omega))
              exact WO.nil ⟨rfl, rfl⟩
            refine DT.nil [_, _, _, _] rfl ?_
            refine WO.callCR (first := [.agg #[.int .i64 1, .int .i64 2]]) (captured := []) rfl rfl Try.call66 (fun L w hi => c_weight w i rows.length (by omega) (by omega)) rfl ?_
            refine WO.p rfl rfl ?_
            refine WO.nil ?_
            refine W.sreg ?_
            refine WO.p rfl rfl (WO.p rfl rfl (WO.p rfl rfl (WO.p rfl rfl (WO.load rfl rfl (Cell.own (Pick.tail (Pick.head)) rfl) rfl (WO.p rfl rfl (WO.p rfl rfl ?_))))))
            refine' WO.len (n := _) rfl rfl ?hs rfl ?_
            case hs => (first | exact hR.sl | (refine (hR.row _ ?_).sl; omega))
            refine WO.callCR (first := [.agg #[.int .i64 1, .int .i64 2]]) (captured := []) rfl rfl Try.call66 (fun L w hi => c_weight w k (rows.getD i []).length (by omega) (by omega)) rfl ?_
            refine WO.ar rfl rfl rfl (by (first | (unfold in64; omega) | (unfold in64; omega) | exact in64B (mulB (wgtB _ _) (wgtB _ _)) (by decide))) rfl (WO.p rfl rfl (WO.p rfl rfl (WO.p rfl rfl ?_)))
            refine' WO.len (n := _) rfl rfl ?hs rfl ?_
            case hs => (first | exact hR.sl | (refine (hR.row _ ?_).sl; omega))
            refine WO.ar rfl rfl rfl (by (first | (unfold in64; omega) | (unfold in64; omega) | exact in64B (mulB (wgtB _ _) (wgtB _ _)) (by decide))) rfl (WO.p rfl rfl ?_)
            refine' WO.build (cs := _) rfl rfl rfl ?hf rfl ?_
            case hf => (conv => lhs; simp [-List.getD_eq_getElem?_getD, fillL, vcl, wrl, TTab.pl?.lget']) <;> rfl
            refine WO.yield rfl rfl (by repeat (first | exact Pick.head | apply Pick.tail)) ((hy _ _ (plcV_get (by omega) (by omega))).one.agree hk) rfl ?_
            refine WO.p rfl rfl ?_
            refine WO.nil ?_
            refine W.cond_f rfl ?_
            refine W.skip ?_
            refine W.region ?_
            refine WO.ar rfl rfl rfl (by (first | (unfold in64; omega) | (unfold in64; omega) | exact in64B (mulB (wgtB _ _) (wgtB _ _)) (by decide))) rfl (WO.p rfl rfl ?_)
            refine WO.nil ?_
            refine' ⟨k + 1, ?hp, ?hmu, ⟨rfl, rfl, rfl, rfl, rfl, rfl, rfl, rfl, rfl, rfl, rfl, trivial⟩, ?hS⟩
            case hS => repeat (first | exact Sub.nil | refine Sub.cons (by repeat (first | exact Pick.head | apply Pick.tail)) ?_)
            case hp => omega
            case hmu => omega)
       · first
         | (exfalso; omega)
         | (refine W.exit (blk_same ?_)
            obtain rfl : k = (rows.getD i []).length := by omega
            rw [← plcTo_len]
            refine W.region ?_
            refine WO.ar rfl rfl rfl (by (first | (unfold in64; omega) | (unfold in64; omega) | exact in64B (mulB (wgtB _ _) (wgtB _ _)) (by decide))) rfl (WO.p rfl rfl ?_)
            refine WO.nil ?_
            refine' ⟨i + 1, ?hp, ?hmu, ⟨rfl, rfl, rfl, rfl, rfl, rfl, trivial⟩, ?hS⟩
            case hS => repeat (first | exact Sub.nil | refine Sub.cons (by repeat (first | exact Pick.head | apply Pick.tail)) ?_)
            case hp => omega
            case hmu => omega))
  · first
    | (exfalso; omega)
    | (refine W.exit (blk_same ?_)
       obtain rfl : i = rows.length := by omega
       refine fin.normal (Res.none rfl) ?_
       rw [show (plcV rows).length = (plcTo rows rows.length).length by simp [plcV, plc]]
       exact .cons (.tail .head) (.cons .head (.cons .head (.cons .head .nil))))
end Go.Proofs.Ytgihklgpehfbpaa

