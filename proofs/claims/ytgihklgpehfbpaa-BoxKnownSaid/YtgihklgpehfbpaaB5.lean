/-
  What is proved here: contracts of the functions that yield hulls. Conditions: none; each contract states its own.
-/
import Derived.Test.YtgihklgpehfbpaaB4
namespace Go.Proofs.Ytgihklgpehfbpaa
open Go Go.TH
attribute [local irreducible] W WO pt
set_option maxRecDepth 10000
def pickE (high : Bool) (r : Int × Int) : Int := if high then r.2 else r.1
def endsOf (high : Bool) (rows : List (List (Int × Int))) : List (List Int) := rows.map fun r => r.map (pickE high)
theorem isSl_lit {b n c : Nat} (h : n ≤ 9223372036854775807) : IsSl (.slice (some ⟨b, 0, none⟩) n c) n := ⟨h, _, _, rfl, fun _ => ⟨_, _, rfl⟩⟩
theorem map_take_succ {α β : Type} {l : List α} {i : Nat} (h : i < l.length) (z : α) (f : α → β) : (l.take i).map f ++ [f (l.getD i z)] = (l.take (i + 1)).map f := by
  rw [take_succ_getD h z]; simp
theorem Cells.of_eq {P : Program} {C : Cx P} {H : List HP} {p : Addr} {cs vs : List Value} (e : cs = vs) (h : Cells C H p cs) : Cells C H p vs := e ▸ h
theorem ref_End (w : World) (sp st : Int) (o : Value) (rv : List Value) (rows : List (List (Int × Int))) (high : Bool) (hR : RdR encP 2 w.heap.size w o rv rows) (hsm : rows.length ≤ 1000) (hsm2 : ∀ r ∈ rows, r.length ≤ 1000) :
    Ct Try.prog 54 [.agg #[.int .i64 sp, .int .i64 st, o], .bool high].toArray w fun v w' => ∃ Hq, (∃ rv', Hq = [OwC 53 1 v rows.length rv', RowsE encI 2 1 rv' (endsOf high rows)]) ∧ Inv w [] Hq w' := by
  refine Ct.of mixed tyTab Try.func54 rfl rfl ?_
  replace hR : RdR encP 2 (fnCx mixed tyTab Try.f54.ntmps w).B (fnCx mixed tyTab Try.f54.ntmps w).w0 o rv rows := hR
  have hle := hR.sl.le
  refine W.sreg ?_
  refine WO.boxA rfl rfl (fun b1 hb1 => ?_)
  refine WO.p rfl rfl ?_
  refine WO.nil ?_
  refine W.sreg ?_
  refine WO.p rfl rfl ?_
  refine WO.nil ?_
  refine W.seq ?_
  refine W.sreg ?_
  refine WO.p rfl rfl ?_
  refine WO.nil ?_
  refine W.block ?_
  refine W.chg (owcNil (e := 53) (sz := 1)) ?_
  refine W.chg (rowsNil (enc := encI) (e := 2) (sz := 1)) ?_
  refine W.loop3 (fun (i : Nat) (v : Value) (rv' : List Value) => i ≤ rows.length)
    (fun (i : Nat) (v : Value) (rv' : List Value) => [(6, .int .i64 (i : Int)), (5, v), (1, .bool high), (2, .pointer (some ⟨b1, 0, none⟩))])
    (fun (i : Nat) (v : Value) (rv' : List Value) => [pt b1 (.cells #[.int .i64 sp, .int .i64 st, o] 24 (0, 0)), OwC 53 1 v i rv', RowsE encI 2 1 rv' (endsOf high (rows.take i))])
    (fun (i : Nat) (v : Value) (rv' : List Value) => rows.length - i) 0 (.slice none 0 0) []
    (by omega) ⟨rfl, rfl, rfl, rfl, trivial⟩ (by repeat (first | exact Sub.nil | refine Sub.cons (by repeat (first | exact Pick.head | apply Pick.tail)) ?_)) ?_
  rintro i v rv' hi
  refine W.seq ?_
  refine W.sreg ?_
  refine WO.p rfl rfl (WO.fieldL rfl rfl rfl (WO.load rfl rfl (Cell.own Pick.head rfl) rfl ?_))
  refine' WO.len (n := _) rfl rfl ?hs rfl ?_
  case hs => (first | exact hR.sl | (refine (hR.row _ ?_).sl; omega))
  refine WO.p rfl rfl ?_
  refine WO.nil ?_
  refine W.cond_bl rfl (fun c1 => ?_) (fun c1 => ?_)
  · first
    | (exfalso; omega)
    | (refine W.skip ?_
       refine W.seq ?_
       refine W.block ?_
       refine W.sreg ?_
       refine WO.p rfl rfl ?_
       refine WO.nil ?_
       refine W.seq ?_
       refine W.sreg ?_
       refine WO.p rfl rfl ?_
       refine WO.nil ?_
       refine W.block ?_
       refine W.chg (owNil (enc := encI) (e := 2) (sz := 1)) ?_
       refine W.loop2 (fun (k : Nat) (r : Value) => k ≤ (rows.getD i []).length)
         (fun (k : Nat) (r : Value) => [(8, .int .i64 (k : Int)), (7, r), (6, .int .i64 (i : Int)), (5, v), (1, .bool high), (2, .pointer (some ⟨b1, 0, none⟩))])
         (fun (k : Nat) (r : Value) => [pt b1 (.cells #[.int .i64 sp, .int .i64 st, o] 24 (0, 0)), OwE encI 2 1 r (((rows.getD i []).take k).map (pickE high)), OwC 53 1 v i rv', RowsE encI 2 1 rv' (endsOf high (rows.take i))])
         (fun (k : Nat) (r : Value) => (rows.getD i []).length - k) 0 (.slice none 0 0)
         (by omega) ⟨rfl, rfl, rfl, rfl, rfl, rfl, trivial⟩ (by repeat (first | exact Sub.nil | refine Sub.cons (by repeat (first | exact Pick.head | apply Pick.tail)) ?_)) ?_
       rintro k r hk
       have hlk := (hR.row i (by omega)).sl.le
       have hln := hsm2 _ (getD_mem (show i < rows.length by omega) [])
       refine W.seq ?_
       refine W.sreg ?_
       refine WO.p rfl rfl (WO.fieldL rfl rfl rfl (WO.load rfl rfl (Cell.own Pick.head rfl) rfl (WO.p rfl rfl ?_)))
       refine' WO.indexAddr (n := _) (i := _) rfl rfl rfl ?hs ?h1 rfl ?_
       case hs => (first | exact hR.sl | (refine (hR.row _ ?_).sl; omega))
       case h1 => (first | omega | (simp; omega))
       refine' WO.load (v := _) rfl rfl ?hc rfl ?_
       case hc => (first | (refine hR.cellV ?_; omega) | (refine (hR.row _ ?_).cell0 ?_ (0, 0) ?_ <;> first | rfl | omega) | (refine (hR.row _ ?_).cellAt ?_ (0, 0) ?_ <;> first | rfl | omega))
       refine' WO.len (n := _) rfl rfl ?hs rfl ?_
       case hs => (first | exact hR.sl | (refine (hR.row _ ?_).sl; omega))
       refine WO.p rfl rfl ?_
       refine WO.nil ?_
       refine W.cond_bl rfl (fun c2 => ?_) (fun c2 => ?_)
       · first
         | (exfalso; omega)
         | (refine W.skip ?_
            refine W.seq ?_
            refine W.block ?_
            refine W.sreg ?_
            refine WO.p rfl rfl ?_
            refine WO.nil ?_
            refine W.cond rfl (fun c3 => ?_) (fun c3 => ?_)
            · first
              | (exfalso; omega)
              | (refine W.region ?_
                 refine WO.p rfl rfl (WO.fieldL rfl rfl rfl (WO.load rfl rfl (Cell.own Pick.head rfl) rfl (WO.p rfl rfl ?_)))
                 refine' WO.indexAddr (n := _) (i := _) rfl rfl rfl ?hs ?h1 rfl ?_
                 case hs => (first | exact hR.sl | (refine (hR.row _ ?_).sl; omega))
                 case h1 => (first | omega | (simp; omega))
                 refine' WO.load (v := _) rfl rfl ?hc rfl ?_
                 case hc => (first | (refine hR.cellV ?_; omega) | (refine (hR.row _ ?_).cell0 ?_ (0, 0) ?_ <;> first | rfl | omega) | (refine (hR.row _ ?_).cellAt ?_ (0, 0) ?_ <;> first | rfl | omega))
                 refine WO.p rfl rfl ?_
                 refine' WO.indexAddr (n := _) (i := _) rfl rfl rfl ?hs ?h1 rfl ?_
                 case hs => (first | exact hR.sl | (refine (hR.row _ ?_).sl; omega))
                 case h1 => (first | omega | (simp; omega))
                 refine WO.field rfl rfl rfl ?_
                 refine' WO.load (v := _) rfl rfl ?hc rfl ?_
                 case hc => (first | (refine hR.cellV ?_; omega) | (refine (hR.row _ ?_).cell0 ?_ (0, 0) ?_ <;> first | rfl | omega) | (refine (hR.row _ ?_).cellAt ?_ (0, 0) ?_ <;> first | rfl | omega))
                 refine' WO.buildSl (cs := _) rfl rfl rfl rfl ?hf rfl rfl ?hl rfl (fun v2 => ?_)
                 case hf => (conv => lhs; simp [-List.getD_eq_getElem?_getD, fillL, vcl, wrl, TTab.pl?.lget']) <;> rfl
                 case hl => rfl
                 refine' WO.appendE (enc := encI) (m := 1) (ys := [pickE high ((rows.getD i []).getD k (0, 0))]) encI_ok rfl rfl rfl rfl rfl ?pp (isSl_lit (by omega)) (by omega) rfl ?hc ?hb ?h63 rfl (fun g c => ?_)
                 case pp => repeat (first | exact Pick.head | apply Pick.tail)
                 case hc => (refine Cells.of_eq ?_ (OwC.cells .head); simp [encI, pickE, *])
                 case hb => simp only [List.length_map, List.length_take]; omega
                 case h63 => simp only [List.length_map, List.length_take]; omega
                 rw [map_take_succ (f := pickE high) (by omega) (0, 0)]
                 refine WO.p rfl rfl ?_
                 refine WO.nil ?_
                 refine W.region ?_
                 refine WO.p rfl rfl (WO.ar rfl rfl rfl (by (first | (unfold in64; omega))) rfl (WO.p rfl rfl ?_))
                 refine WO.nil ?_
                 refine' ⟨k + 1, _, ?hp, ?hmu, ⟨rfl, rfl, rfl, rfl, rfl, rfl, trivial⟩, ?hS⟩
                 case hS => repeat (first | exact Sub.nil | refine Sub.cons (by repeat (first | exact Pick.head | apply Pick.tail)) ?_)
                 case hp => omega
                 case hmu => omega)
            · first
              | (exfalso; omega)
              | (refine W.region ?_
                 refine WO.p rfl rfl (WO.fieldL rfl rfl rfl (WO.load rfl rfl (Cell.own Pick.head rfl) rfl (WO.p rfl rfl ?_)))
                 refine' WO.indexAddr (n := _) (i := _) rfl rfl rfl ?hs ?h1 rfl ?_
                 case hs => (first | exact hR.sl | (refine (hR.row _ ?_).sl; omega))
                 case h1 => (first | omega | (simp; omega))
                 refine' WO.load (v := _) rfl rfl ?hc rfl ?_
                 case hc => (first | (refine hR.cellV ?_; omega) | (refine (hR.row _ ?_).cell0 ?_ (0, 0) ?_ <;> first | rfl | omega) | (refine (hR.row _ ?_).cellAt ?_ (0, 0) ?_ <;> first | rfl | omega))
                 refine WO.p rfl rfl ?_
                 refine' WO.indexAddr (n := _) (i := _) rfl rfl rfl ?hs ?h1 rfl ?_
                 case hs => (first | exact hR.sl | (refine (hR.row _ ?_).sl; omega))
                 case h1 => (first | omega | (simp; omega))
                 refine WO.field0 rfl rfl rfl ?_
                 refine' WO.load (v := _) rfl rfl ?hc rfl ?_
                 case hc => (first | (refine hR.cellV ?_; omega) | (refine (hR.row _ ?_).cell0 ?_ (0, 0) ?_ <;> first | rfl | omega) | (refine (hR.row _ ?_).cellAt ?_ (0, 0) ?_ <;> first | rfl | omega))
                 refine' WO.buildSl (cs := _) rfl rfl rfl rfl ?hf rfl rfl ?hl rfl (fun v3 => ?_)
                 case hf => (conv => lhs; simp [-List.getD_eq_getElem?_getD, fillL, vcl, wrl, TTab.pl?.lget']) <;> rfl
                 case hl => rfl
                 refine' WO.appendE (enc := encI) (m := 1) (ys := [pickE high ((rows.getD i []).getD k (0, 0))]) encI_ok rfl rfl rfl rfl rfl ?pp (isSl_lit (by omega)) (by omega) rfl ?hc ?hb ?h63 rfl (fun g c => ?_)
                 case pp => repeat (first | exact Pick.head | apply Pick.tail)
                 case hc => (refine Cells.of_eq ?_ (OwC.cells .head); simp [encI, pickE, *])
                 case hb => simp only [List.length_map, List.length_take]; omega
                 case h63 => simp only [List.length_map, List.length_take]; omega
                 rw [map_take_succ (f := pickE high) (by omega) (0, 0)]
                 refine WO.p rfl rfl ?_
                 refine WO.nil ?_
                 refine W.region ?_
                 refine WO.p rfl rfl (WO.ar rfl rfl rfl (by (first | (unfold in64; omega))) rfl (WO.p rfl rfl ?_))
                 refine WO.nil ?_
                 refine' ⟨k + 1, _, ?hp, ?hmu, ⟨rfl, rfl, rfl, rfl, rfl, rfl, trivial⟩, ?hS⟩
                 case hS => repeat (first | exact Sub.nil | refine Sub.cons (by repeat (first | exact Pick.head | apply Pick.tail)) ?_)
                 case hp => omega
                 case hmu => omega))
       · first
         | (exfalso; omega)
         | (refine W.exit (blk_same ?_)
            refine W.fact (OwE.form (enc := encI) (e := 2) (sz := 1) (by repeat (first | exact Pick.head | apply Pick.tail))) (fun hf => ?_)
            obtain ⟨a, c, rfl⟩ := hf
            generalize hn : (List.map (pickE high) ((rows.getD i []).take k)).length = n
            refine W.region ?_
            refine WO.p rfl rfl (WO.p rfl rfl ?_)
            refine' WO.buildSl (cs := _) rfl rfl rfl rfl ?hf rfl rfl ?hl rfl (fun v4 => ?_)
            case hf => (conv => lhs; simp [-List.getD_eq_getElem?_getD, fillL, vcl, wrl, TTab.pl?.lget']) <;> rfl
            case hl => rfl
            refine' WO.append (m := 1) (news := [.slice a n c]) rfl rfl rfl rfl rfl (by repeat (first | exact Pick.head | apply Pick.tail)) (isSl_lit (by omega)) (by omega) (OwC.cells (by repeat (first | exact Pick.head | apply Pick.tail))) rfl (by simp [Value.oneCell']) (by omega) (by omega) rfl (fun g c' => ?_)
            refine WO.p rfl rfl ?_
            refine WO.nil ?_
            refine W.chg (rowsSnoc (enc := encI) (e := 2) (sz := 1) (by repeat (first | exact Pick.head | apply Pick.tail)) (by repeat (first | exact Pick.head | apply Pick.tail))) ?_
            rw [List.take_of_length_le (show (rows.getD i []).length ≤ k by omega), show endsOf high (rows.take i) ++ [(rows.getD i []).map (pickE high)] = endsOf high (rows.take (i + 1)) from map_take_succ (l := rows) (i := i) (by omega) [] (fun r => r.map (pickE high))]
            refine W.region ?_
            refine WO.p rfl rfl (WO.ar rfl rfl rfl (by (first | (unfold in64; omega))) rfl (WO.p rfl rfl ?_))
            refine WO.nil ?_
            refine' ⟨i + 1, _, _, ?hp, ?hmu, ⟨rfl, rfl, rfl, rfl, trivial⟩, ?hS⟩
            case hS => repeat (first | exact Sub.nil | refine Sub.cons (by repeat (first | exact Pick.head | apply Pick.tail)) ?_)
            case hp => omega
            case hmu => omega))
  · first
    | (exfalso; omega)
    | (refine W.exit (blk_same ?_)
       refine W.chg (H' := [OwC 53 1 v i rv', RowsE encI 2 1 rv' (endsOf high (rows.take i))]) (fun h hs => Sub.sat (.cons (.tail .head) (.cons (.tail .head) .nil)) hs) ?_
       obtain rfl : i = rows.length := by omega
       refine W.sreg ?_
       refine WO.p rfl rfl (WO.p rfl rfl ?_)
       refine WO.nil ?_
       refine W.ret ?_
       exact fin.ret (Res.one rfl (RV.tmp rfl)) ⟨rv', by rw [List.take_length]⟩)
end Go.Proofs.Ytgihklgpehfbpaa

