/-
  What is proved here: the program's choice of offsets, and its volumes. Conditions: none; each contract states its own.
-/
import Derived.Test.YtgihklgpehfbpaaB20
import Derived.Test.YtgihklgpehfbpaaKq
namespace Go.Proofs.Ytgihklgpehfbpaa
open Go Go.TH
attribute [local irreducible] W WO pt
set_option maxRecDepth 10000
set_option maxHeartbeats 1000000
/-- a function that takes one end of a range -/
structure ChooseOK (f : Nat) (high : Bool) : Prop where
  run : ∀ (w : World) (i k : Int) (r : Int × Int), Ret Try.prog f [.int .i64 i, .int .i64 k, .agg (encP r).toArray].toArray w (.int .i64 (pickE high r))
  call : ∀ (args : Array Value) (w : World), (callFunc f args).run Try.prog w = .ok (.enter f args) w
theorem ch_52 : ChooseOK 52 false := by
  refine ⟨fun w i k r => ?_, Try.call52⟩
  refine Ret.of mixed tyTab Try.func52 rfl rfl ?_
  refine W.sreg ?_
  refine WO.boxA rfl rfl (fun b1 hb1 => ?_)
  refine WO.p rfl rfl ?_
  refine WO.nil ?_
  refine W.sreg ?_
  refine WO.field0 rfl rfl rfl (WO.load rfl rfl (Cell.own Pick.head rfl) rfl (WO.p rfl rfl ?_))
  refine WO.nil ?_
  refine W.ret ?_
  exact fin.ret (Res.one rfl (RV.tmp rfl)) rfl
theorem ch_53 : ChooseOK 53 true := by
  refine ⟨fun w i k r => ?_, Try.call53⟩
  refine Ret.of mixed tyTab Try.func53 rfl rfl ?_
  refine W.sreg ?_
  refine WO.boxA rfl rfl (fun b1 hb1 => ?_)
  refine WO.p rfl rfl ?_
  refine WO.nil ?_
  refine W.sreg ?_
  refine WO.fieldL rfl rfl rfl (WO.load rfl rfl (Cell.own Pick.head rfl) rfl (WO.p rfl rfl ?_))
  refine WO.nil ?_
  refine W.ret ?_
  exact fin.ret (Res.one rfl (RV.tmp rfl)) rfl
theorem ch_63 : ChooseOK 63 false := by
  refine ⟨fun w i k r => ?_, Try.call63⟩
  refine Ret.of mixed tyTab Try.func63 rfl rfl ?_
  refine W.sreg ?_
  refine WO.boxA rfl rfl (fun b1 hb1 => ?_)
  refine WO.p rfl rfl ?_
  refine WO.nil ?_
  refine W.sreg ?_
  refine WO.field0 rfl rfl rfl (WO.load rfl rfl (Cell.own Pick.head rfl) rfl (WO.p rfl rfl ?_))
  refine WO.nil ?_
  refine W.ret ?_
  exact fin.ret (Res.one rfl (RV.tmp rfl)) rfl
theorem ch_65 : ChooseOK 65 true := by
  refine ⟨fun w i k r => ?_, Try.call65⟩
  refine Ret.of mixed tyTab Try.func65 rfl rfl ?_
  refine W.sreg ?_
  refine WO.boxA rfl rfl (fun b1 hb1 => ?_)
  refine WO.p rfl rfl ?_
  refine WO.nil ?_
  refine W.sreg ?_
  refine WO.fieldL rfl rfl rfl (WO.load rfl rfl (Cell.own Pick.head rfl) rfl (WO.p rfl rfl ?_))
  refine WO.nil ?_
  refine W.ret ?_
  exact fin.ret (Res.one rfl (RV.tmp rfl)) rfl
theorem part_set {α β : Type} {f : α → β} {l : List α} {k : Nat} (h : k < l.length) (z : α) (u : β) : ((l.take k).map f ++ List.replicate (l.length - k) u).set k (f (l.getD k z)) = (l.take (k + 1)).map f ++ List.replicate (l.length - (k + 1)) u := by
  rw [take_succ_getD h z, List.map_append, List.set_append_right _ _ (by simp; omega)]
  obtain ⟨m, hm⟩ : ∃ m, l.length - k = m + 1 := ⟨l.length - k - 1, by omega⟩
  rw [hm, show l.length - (k + 1) = m by omega, List.replicate_succ]
  simp [Nat.min_eq_left (Nat.le_of_lt h)]
theorem part_full {α β : Type} {f : α → β} {l : List α} {k : Nat} (h : ¬ (k : Int) < (l.length : Int)) (u : β) : (l.take k).map f ++ List.replicate (l.length - k) u = l.map f := by
  rw [List.take_of_length_le (by omega), show l.length - k = 0 by omega]; simp
theorem part_none {α β : Type} (f : α → β) (l : List α) (u : β) : List.replicate l.length u = (l.take 0).map f ++ List.replicate (l.length - 0) u := by simp
theorem c_pick (w : World) (sp st : Int) (o : Value) (rv : List Value) (rows : List (List (Int × Int))) (f : Nat) (high : Bool) (hf : ChooseOK f high) (hR : RdR encP 2 w.heap.size w o rv rows) (hsm : rows.length ≤ 1000) (hsm2 : ∀ r ∈ rows, r.length ≤ 1000) :
    Ct Try.prog 51 [.agg #[.int .i64 sp, .int .i64 st, o], .func (.func f) #[] #[]].toArray w fun v w' => ∃ Hq, (∃ rv', Hq = [OwC 53 1 v rows.length rv', RowsE encI 2 1 rv' (endsOf high rows)]) ∧ Inv w [] Hq w' := by
  refine Ct.of mixed tyTab Try.func51 rfl rfl ?_
  replace hR : RdR encP 2 (fnCx mixed tyTab Try.f51.ntmps w).B (fnCx mixed tyTab Try.f51.ntmps w).w0 o rv rows := hR
  have hle := hR.sl.le
  refine W.sreg ?_
  refine WO.boxA rfl rfl (fun b1 hb1 => ?_)
  refine WO.p rfl rfl ?_
  refine WO.nil ?_
  refine W.sreg ?_
  refine WO.p rfl rfl ?_
  refine WO.nil ?_
  refine W.seq ?_
  refine W.sreg ?_
  refine WO.fieldL rfl rfl rfl (WO.load rfl rfl (Cell.own Pick.head rfl) rfl ?_)
  refine' WO.len (n := _) rfl rfl ?hs rfl ?_
  case hs => (first | exact hR.sl | (refine (hR.row _ ?_).sl; omega) | exact isSl_lit (by omega))
  refine WO.p rfl rfl ?_
  refine WO.nil ?_
  refine W.block ?_
  refine W.chg (owcNil (e := 53) (sz := 1)) ?_
  refine W.chg (rowsNil (enc := encI) (e := 2) (sz := 1)) ?_
  refine W.loop3 (fun (i : Nat) (v : Value) (rv' : List Value) => i ≤ rows.length)
    (fun (i : Nat) (v : Value) (rv' : List Value) => [(14, .int .i64 (i : Int)), (13, .int .i64 (rows.length : Int)), (12, o), (5, v), (1, .func (.func f) #[] #[]), (2, .pointer (some ⟨b1, 0, none⟩))])
    (fun (i : Nat) (v : Value) (rv' : List Value) => [pt b1 (.cells #[.int .i64 sp, .int .i64 st, o] 24 (0, 0)), OwC 53 1 v i rv', RowsE encI 2 1 rv' (endsOf high (rows.take i))])
    (fun (i : Nat) (v : Value) (rv' : List Value) => rows.length - i) 0 (.slice none 0 0) []
    (by omega) ⟨rfl, rfl, rfl, rfl, rfl, rfl, trivial⟩ (by repeat (first | exact Sub.nil | refine Sub.cons (by repeat (first | exact Pick.head | apply Pick.tail)) ?_)) ?_
  rintro i v rv' hi
  refine W.sreg ?_
  refine WO.p rfl rfl ?_
  refine WO.nil ?_
  refine W.seq ?_
  refine W.cond_bl rfl (fun c1 => ?_) (fun c1 => ?_)
  · first
    | (exfalso; omega)
    | (refine W.skip ?_
       refine W.seq ?_
       refine W.block ?_
       refine W.sreg ?_
       refine WO.p rfl rfl ?_
       refine' WO.indexAddr (n := _) (i := _) rfl rfl rfl ?hs ?h1 rfl ?_
       case hs => (first | exact hR.sl | (refine (hR.row _ ?_).sl; omega) | exact isSl_lit (by omega))
       case h1 => (first | omega | (simp; omega))
       refine' WO.load (v := _) rfl rfl ?hc rfl ?_
       case hc => (first | (refine hR.cellV ?_; omega))
       refine WO.p rfl rfl (WO.p rfl rfl ?_)
       refine WO.nil ?_
       refine W.sreg ?_
       refine WO.p rfl rfl ?_
       refine' WO.len (n := _) rfl rfl ?hs rfl ?_
       case hs => (first | exact hR.sl | (refine (hR.row _ ?_).sl; omega) | exact isSl_lit (by omega))
       refine WO.makeI rfl rfl rfl rfl (by have := hsm2 _ (getD_mem (show i < rows.length by omega) []); omega) (by have := hsm2 _ (getD_mem (show i < rows.length by omega) []); omega) rfl (fun lb => ?_)
       rw [part_none (pickE high) (rows.getD i []) 0]
       refine WO.p rfl rfl ?_
       refine WO.nil ?_
       refine W.seq ?_
       refine W.sreg ?_
       refine WO.p rfl rfl ?_
       refine' WO.len (n := _) rfl rfl ?hs rfl ?_
       case hs => (first | exact hR.sl | (refine (hR.row _ ?_).sl; omega) | exact isSl_lit (by omega))
       refine WO.p rfl rfl ?_
       refine WO.nil ?_
       refine W.block ?_
       refine W.loop (fun (k : Nat) => k ≤ (rows.getD i []).length)
         (fun (k : Nat) => [(14, .int .i64 (i : Int)), (13, .int .i64 (rows.length : Int)), (12, o), (24, .int .i64 (k : Int)), (23, .int .i64 ((rows.getD i []).length : Int)), (22, rv.getD i undef), (8, .slice (some ⟨lb, 0, none⟩) (rows.getD i []).length (rows.getD i []).length), (6, .int .i64 (i : Int)), (5, v), (1, .func (.func f) #[] #[]), (2, .pointer (some ⟨b1, 0, none⟩))])
         (fun (k : Nat) => [pt b1 (.cells #[.int .i64 sp, .int .i64 st, o] 24 (0, 0)), OwE encI 2 1 (.slice (some ⟨lb, 0, none⟩) (rows.getD i []).length (rows.getD i []).length) (((rows.getD i []).take k).map (pickE high) ++ List.replicate ((rows.getD i []).length - k) 0), OwC 53 1 v i rv', RowsE encI 2 1 rv' (endsOf high (rows.take i))])
         (fun (k : Nat) => (rows.getD i []).length - k) 0
         (by omega) ⟨rfl, rfl, rfl, rfl, rfl, rfl, rfl, rfl, rfl, rfl, rfl, trivial⟩ (by repeat (first | exact Sub.nil | refine Sub.cons (by repeat (first | exact Pick.head | apply Pick.tail)) ?_)) ?_
       rintro k hk
       have hlk := (hR.row i (by omega)).sl.le
       refine W.sreg ?_
       refine WO.p rfl rfl ?_
       refine WO.nil ?_
       refine W.seq ?_
       refine W.cond_bl rfl (fun c2 => ?_) (fun c2 => ?_)
       · first
         | (exfalso; omega)
         | (refine W.skip ?_
            refine W.seq ?_
            refine W.block ?_
            refine W.sreg ?_
            refine WO.p rfl rfl ?_
            refine' WO.indexAddr (n := _) (i := _) rfl rfl rfl ?hs ?h1 rfl ?_
            case hs => (first | exact hR.sl | (refine (hR.row _ ?_).sl; omega) | exact isSl_lit (by omega))
            case h1 => (first | omega | (simp; omega))
            refine' WO.loadA (vs := _) rfl rfl ?hc ?hl rfl ?_
            case hc => (first | (refine (hR.row _ ?_).cells ?_ (0, 0) <;> omega))
            case hl => rfl
            refine WO.alloc rfl rfl rfl (fun b2 hb2 => ?_)
            refine WO.p rfl rfl (WO.storeA rfl rfl rfl rfl Pick.head rfl rfl ?_)
            refine WO.nil ?_
            refine W.region ?_
            refine WO.p rfl rfl (WO.p rfl rfl (WO.p rfl rfl (WO.p rfl rfl (WO.p rfl rfl (WO.loadA rfl rfl (Cells.own Pick.head) rfl rfl ?_)))))
            refine WO.callCR (first := []) (captured := []) rfl rfl hf.call (fun L w hi => hf.run w i k ((rows.getD i []).getD k (0, 0))) rfl ?_
            refine' WO.indexAddr (n := _) (i := _) rfl rfl rfl ?hs ?h1 rfl ?_
            case hs => (first | exact hR.sl | (refine (hR.row _ ?_).sl; omega) | exact isSl_lit (by omega))
            case h1 => (first | omega | (simp; omega))
            refine WO.storeE encI_ok rfl rfl rfl rfl (by repeat (first | exact Pick.head | apply Pick.tail)) (by rw [List.length_append, List.length_map, List.length_take, List.length_replicate]; omega) ?_
            rw [part_set (by omega)]
            refine WO.nil ?_
            refine W.region ?_
            refine WO.ar rfl rfl rfl (by (first | (unfold in64; omega))) rfl (WO.p rfl rfl ?_)
            refine WO.nil ?_
            refine' ⟨k + 1, ?hp, ?hmu, ⟨rfl, rfl, rfl, rfl, rfl, rfl, rfl, rfl, rfl, rfl, rfl, trivial⟩, ?hS⟩
            case hS => repeat (first | exact Sub.nil | refine Sub.cons (by repeat (first | exact Pick.head | apply Pick.tail)) ?_)
            case hp => omega
            case hmu => omega)
       · first
         | (exfalso; omega)
         | (refine W.exit (blk_same ?_)
            refine W.region ?_
            refine WO.p rfl rfl (WO.p rfl rfl ?_)
            refine' WO.buildSl (cs := _) rfl rfl rfl rfl ?hf rfl rfl ?hl rfl (fun v3 => ?_)
            case hf => (conv => lhs; simp [-List.getD_eq_getElem?_getD, fillL, vcl, wrl, TTab.pl?.lget']) <;> rfl
            case hl => rfl
            refine' WO.append (m := 1) (news := [.slice (some ⟨lb, 0, none⟩) (rows.getD i []).length (rows.getD i []).length]) rfl rfl rfl rfl rfl (by repeat (first | exact Pick.head | apply Pick.tail)) (isSl_lit (by omega)) (by omega) (OwC.cells (by repeat (first | exact Pick.head | apply Pick.tail))) rfl (by simp [Value.oneCell']) (by omega) (by omega) rfl (fun g c' => ?_)
            refine WO.p rfl rfl ?_
            refine WO.nil ?_
            refine W.chg (rowsSnoc (enc := encI) (e := 2) (sz := 1) (by repeat (first | exact Pick.head | apply Pick.tail)) (by repeat (first | exact Pick.head | apply Pick.tail))) ?_
            rw [part_full (by assumption), show endsOf high (rows.take i) ++ [(rows.getD i []).map (pickE high)] = endsOf high (rows.take (i + 1)) from map_take_succ (l := rows) (i := i) (by omega) [] (fun r => r.map (pickE high))]
            refine W.region ?_
            refine WO.ar rfl rfl rfl (by (first | (unfold in64; omega))) rfl (WO.p rfl rfl ?_)
            refine WO.nil ?_
            refine' ⟨i + 1, _, _, ?hp, ?hmu, ⟨rfl, rfl, rfl, rfl, rfl, rfl, trivial⟩, ?hS⟩
            case hS => repeat (first | exact Sub.nil | refine Sub.cons (by repeat (first | exact Pick.head | apply Pick.tail)) ?_)
            case hp => omega
            case hmu => omega))
  · first
    | (exfalso; omega)
    | (refine W.exit (blk_same ?_)
       refine W.chg (H' := [OwC 53 1 v i rv', RowsE encI 2 1 rv' (endsOf high (rows.take i))]) (fun h hs => Sub.sat (.cons (.tail .head) (.cons (.tail .head) .nil)) hs) ?_
       obtain rfl : i = rows.length := by omega
       refine W.sreg ?_
       refine WO.p rfl rfl (WO.p rfl rfl ?_)
       refine WO.nil ?_
       refine W.ret ?_
       exact fin.ret (Res.one rfl (RV.tmp rfl)) ⟨rv', by rw [List.take_length]⟩)
end Go.Proofs.Ytgihklgpehfbpaa

