/-
  What is proved here: values that are published and told. Conditions: none; each contract states its own.
  What is proved here: values that are published and told. Conditions: none; each contract states its own.
  What is proved here: values that are told. Conditions: none; each contract states its own.
  What is proved here: the examples hold. Conditions: none; each contract states its own.
-/
import Derived.Test.YtelmclmklkiphaaM8
import Derived.Test.YtelmclmklkiphaaM7
import Derived.Test.YtelmclmklkiphaaM2
set_option linter.unusedVariables false
set_option linter.unusedSimpArgs false
namespace Go.Proofs.Ytelmclmklkiphaa
open Go Go.TH
attribute [local irreducible] W WO pt
set_option maxRecDepth 10000
set_option maxHeartbeats 1000000
theorem list_eqD {xs ys : List Int} (hl : xs.length = ys.length) (h : ∀ j, j < xs.length → xs.getD j 0 = ys.getD j 0) : xs = ys := by
  refine List.ext_getElem hl fun j h1 h2 => ?_
  have := h j h1
  rwa [List.getD_eq_getElem?_getD, List.getD_eq_getElem?_getD, List.getElem?_eq_getElem h1, List.getElem?_eq_getElem h2] at this
theorem law_longs (w : World) (u v : Value) (xs ys : List Int) (hx : RdF encI 1 w.heap.size w u xs) (hy : RdF encI 1 w.heap.size w v ys) : Ret Try.prog 27 [u, v].toArray w (.bool (bl (xs = ys))) := by
  refine Ret.of mixed tyTab Try.func27 rfl rfl ?_
  replace hx : RdF encI 1 (fnCx mixed tyTab Try.f27.ntmps w).B (fnCx mixed tyTab Try.f27.ntmps w).w0 u xs := hx
  replace hy : RdF encI 1 (fnCx mixed tyTab Try.f27.ntmps w).B (fnCx mixed tyTab Try.f27.ntmps w).w0 v ys := hy
  have hlx := hx.sl.le
  have hly := hy.sl.le
  refine W.sreg ?_
  refine WO.p rfl rfl ?_
  refine WO.nil ?_
  refine W.seq ?_
  refine W.sreg ?_
  refine WO.p rfl rfl ?_
  refine' WO.len (n := _) rfl rfl ?hs rfl ?_
  case hs => (first | exact hx.sl | exact hy.sl)
  refine WO.p rfl rfl ?_
  refine' WO.len (n := _) rfl rfl ?hs rfl ?_
  case hs => (first | exact hx.sl | exact hy.sl)
  refine WO.p rfl rfl ?_
  refine WO.nil ?_
  refine W.cond_bl rfl (fun c1 => ?_) (fun c1 => ?_)
  · first
    | (exfalso; omega)
    | (refine W.sreg ?_
       refine WO.p rfl rfl ?_
       refine WO.nil ?_
       refine W.ret ?_
       refine fin.ret (Res.one rfl (RV.tmp rfl)) (congrArg Value.bool ?_)
       first | exact (bl_f.2 (fun e => by subst e; omega)).symm | exact (bl_t.2 (list_eqD (by omega) (fun k hk => hal k (by omega)))).symm)
  first
  | (exfalso; omega)
  | (refine W.skip ?_
     refine W.seq ?_
     refine W.sreg ?_
     refine WO.p rfl rfl ?_
     refine WO.nil ?_
     refine W.block ?_
     refine W.loop (fun (i : Nat) => i ≤ xs.length ∧ ∀ k, k < i → xs.getD k 0 = ys.getD k 0)
       (fun (i : Nat) => [(5, .int .i64 (i : Int)), (0, u), (1, v)])
       (fun (i : Nat) => [])
       (fun (i : Nat) => xs.length - i) 0
       (by exact ⟨by omega, fun k hk => by omega⟩) ⟨rfl, rfl, rfl, trivial⟩ (by repeat (first | exact Sub.nil | refine Sub.cons (by repeat (first | exact Pick.head | apply Pick.tail)) ?_)) ?_
     rintro i ⟨hi, hal⟩
     refine W.seq ?_
     refine W.sreg ?_
     refine WO.p rfl rfl (WO.p rfl rfl ?_)
     refine' WO.len (n := _) rfl rfl ?hs rfl ?_
     case hs => (first | exact hx.sl | exact hy.sl)
     refine WO.p rfl rfl ?_
     refine WO.nil ?_
     refine W.cond_bl rfl (fun c2 => ?_) (fun c2 => ?_)
     · first
       | (exfalso; omega)
       | (refine W.skip ?_
          refine W.seq ?_
          refine W.block ?_
          refine W.seq ?_
          refine W.drawD 8 [.r 0 [], .r 1 [], .r 2 [], .b 3 [], .r 4 [], .r 5 [], .r 6 [], .b 7 []] [] (A0 := []) (Sub.refl _) (by kernel_rfl) ?_ ?_
          · exact (ALok.r (ALok.r (ALok.r (ALok.b (ALok.r (ALok.r (ALok.r (ALok.b ALok.nil))))))))
          refine' DT.r rfl rfl rfl ?hq ?_
          case hq =>
            refine WO.p rfl rfl ?_
            exact WO.nil ⟨rfl, rfl⟩
          refine' DT.r rfl rfl rfl ?hq ?_
          case hq =>
            refine WO.p rfl rfl ?_
            exact WO.nil ⟨rfl, rfl⟩
          refine' DT.r rfl rfl rfl ?hq ?_
          case hq =>
            refine' WO.indexAddr (n := _) (i := _) rfl rfl rfl ?hs ?h1 rfl ?_
            case hs => (first | exact hx.sl | exact hy.sl)
            case h1 => (first | omega | (simp; omega))
            exact WO.nil ⟨rfl, rfl⟩
          refine' DT.b rfl rfl rfl ?hq ?_
          case hq =>
            refine' WO.load (v := _) rfl rfl ?hc rfl ?_
            case hc => (first | (refine hx.cell0 ?_ 0 ?_ <;> first | rfl | omega) | (refine hy.cell0 ?_ 0 ?_ <;> first | rfl | omega))
            exact WO.nil ⟨rfl, rfl⟩
          refine' DT.r rfl rfl rfl ?hq ?_
          case hq =>
            refine WO.p rfl rfl ?_
            exact WO.nil ⟨rfl, rfl⟩
          refine' DT.r rfl rfl rfl ?hq ?_
          case hq =>
            refine WO.p rfl rfl ?_
            exact WO.nil ⟨rfl, rfl⟩
          refine' DT.r rfl rfl rfl ?hq ?_
          case hq =>
            refine' WO.indexAddr (n := _) (i := _) rfl rfl rfl ?hs ?h1 rfl ?_
            case hs => (first | exact hx.sl | exact hy.sl)
            case h1 => (first | omega | (simp; omega))
            exact WO.nil ⟨rfl, rfl⟩
          refine' DT.b rfl rfl rfl ?hq ?_
          case hq =>
            refine' WO.load (v := _) rfl rfl ?hc rfl ?_
            case hc => (first | (refine hx.cell0 ?_ 0 ?_ <;> first | rfl | omega) | (refine hy.cell0 ?_ 0 ?_ <;> first | rfl | omega))
            exact WO.nil ⟨rfl, rfl⟩
          refine DT.nil [] rfl ?_
          refine WO.p rfl rfl ?_
          refine WO.nil ?_
          refine W.cond_bl rfl (fun c3 => ?_) (fun c3 => ?_)
          · first
            | (exfalso; omega)
            | (refine W.sreg ?_
               refine WO.p rfl rfl ?_
               refine WO.nil ?_
               refine W.ret ?_
               refine fin.ret (Res.one rfl (RV.tmp rfl)) (congrArg Value.bool ?_)
               first | exact (bl_f.2 (fun e => by subst e; omega)).symm | exact (bl_t.2 (list_eqD (by omega) (fun k hk => hal k (by omega)))).symm)
          first
          | (exfalso; omega)
          | (refine W.skip ?_
             refine W.region ?_
             refine WO.p rfl rfl (WO.ar rfl rfl rfl (by (first | (unfold in64; omega) | (unfold in64; omega))) rfl (WO.p rfl rfl ?_))
             refine WO.nil ?_
             refine' ⟨i + 1, ?hp, ?hmu, ⟨rfl, rfl, rfl, trivial⟩, ?hS⟩
             case hS => repeat (first | exact Sub.nil | refine Sub.cons (by repeat (first | exact Pick.head | apply Pick.tail)) ?_)
             case hp => exact ⟨by omega, fun k hk => by (rcases Nat.lt_or_ge k i with h | h; exact hal k h; obtain rfl : k = i := (by omega); omega)⟩
             case hmu => omega))
     first
     | (exfalso; omega)
     | (refine W.exit (blk_same ?_)
        refine W.sreg ?_
        refine WO.p rfl rfl ?_
        refine WO.nil ?_
        refine W.ret ?_
        refine fin.ret (Res.one rfl (RV.tmp rfl)) (congrArg Value.bool ?_)
        first | exact (bl_f.2 (fun e => by subst e; omega)).symm | exact (bl_t.2 (list_eqD (by omega) (fun k hk => hal k (by omega)))).symm))
def exR : List (List Int) := [[1, 1, 0], [0, 1, 1]]
theorem law_Book (w : World) : Ct Try.prog 24 ([] : List Value).toArray w fun a w' => ∃ Hq, (∃ x : Nat × Nat × Nat, a = bookV 3 (.slice (some ⟨x.1, 0, none⟩) 2 2) ∧ Hq = [OwC 25 1 (.slice (some ⟨x.1, 0, none⟩) 2 2) 2 [.slice (some ⟨x.2.1, 0, none⟩) 3 3, .slice (some ⟨x.2.2, 0, none⟩) 3 3], OwE encI 2 1 (.slice (some ⟨x.2.1, 0, none⟩) 3 3) [1, 1, 0], OwE encI 2 1 (.slice (some ⟨x.2.2, 0, none⟩) 3 3) [0, 1, 1]]) ∧ TH.Inv w [] Hq w' := by
  refine Ct.ofI (vs := []) (X := Nat × Nat × Nat) (p := fun x a => a = bookV 3 (.slice (some ⟨x.1, 0, none⟩) 2 2)) (Hx := fun x => [OwC 25 1 (.slice (some ⟨x.1, 0, none⟩) 2 2) 2 [.slice (some ⟨x.2.1, 0, none⟩) 3 3, .slice (some ⟨x.2.2, 0, none⟩) 3 3], OwE encI 2 1 (.slice (some ⟨x.2.1, 0, none⟩) 3 3) [1, 1, 0], OwE encI 2 1 (.slice (some ⟨x.2.2, 0, none⟩) 3 3) [0, 1, 1]]) mixed tyTab Try.func24 rfl rfl ?_
  refine W.sreg ?_
  refine WO.alloc rfl rfl rfl (fun b1 hb1 => ?_)
  refine WO.nil ?_
  refine W.sreg ?_
  refine' WO.buildSl (cs := _) rfl rfl rfl rfl ?hf rfl rfl ?hl rfl (fun v2 => ?_)
  case hf => (conv => lhs; simp [-List.getD_eq_getElem?_getD, fillL, vcl, wrl, TTab.pl?.lget']) <;> rfl
  case hl => rfl
  refine' WO.buildSl (cs := _) rfl rfl rfl rfl ?hf rfl rfl ?hl rfl (fun v3 => ?_)
  case hf => (conv => lhs; simp [-List.getD_eq_getElem?_getD, fillL, vcl, wrl, TTab.pl?.lget']) <;> rfl
  case hl => rfl
  refine' WO.buildSl (cs := _) rfl rfl rfl rfl ?hf rfl rfl ?hl rfl (fun v4 => ?_)
  case hf => (conv => lhs; simp [-List.getD_eq_getElem?_getD, fillL, vcl, wrl, TTab.pl?.lget']) <;> rfl
  case hl => rfl
  refine' WO.build (cs := _) rfl rfl rfl ?hf rfl ?_
  case hf => (conv => lhs; simp [-List.getD_eq_getElem?_getD, fillL, vcl, wrl, TTab.pl?.lget']) <;> rfl
  refine WO.storeA rfl rfl rfl rfl (Pick.tail (Pick.tail (Pick.tail (Pick.head)))) rfl rfl ?_
  refine WO.nil ?_
  refine W.ret ?_
  exact fin.ret (Res.one rfl (RV.cell rfl rfl rfl (Cells.own (by repeat (first | exact Pick.head | apply Pick.tail))))) ⟨(v4, v2, v3), rfl, fun h hs => Sub.sat (by repeat (first | exact Sub.nil | refine Sub.cons (by repeat (first | exact Pick.head | apply Pick.tail)) ?_)) hs⟩
end Go.Proofs.Ytelmclmklkiphaa
namespace Go.Proofs.Ytelmclmklkiphaa
open Go Go.TH
attribute [local irreducible] W WO pt
set_option maxRecDepth 10000
set_option maxHeartbeats 1000000
theorem c_Publish (w : World) (n : Int) (v u : Value) (rv : List Value) (rows : List (List Int)) (xs : List Int) (hB : RdR encI 1 w.heap.size w v rv rows) (hX : RdF encI 1 w.heap.size w u xs) (hok : OkB n rows) (hl : (xs.length : Int) = n) (hx : WiB 100000 xs) :
    Ct Try.prog 25 [bookV n v, u].toArray w fun a w' => ∃ Hq, (∃ x : Value, a = .tuple #[x, .int .i64 0] ∧ Hq = [OwE encI 2 1 x (rows.map fun a => dotL a xs)]) ∧ TH.Inv w [] Hq w' := by
  refine Ct.ofI (vs := [bookV n v, u]) (X := Value) (p := fun x a => a = .tuple #[x, .int .i64 0]) (Hx := fun x => [OwE encI 2 1 x (rows.map fun a => dotL a xs)]) mixed tyTab Try.func25 rfl rfl ?_
  replace hB : RdR encI 1 (fnCx mixed tyTab Try.f25.ntmps w).B (fnCx mixed tyTab Try.f25.ntmps w).w0 v rv rows := hB
  replace hX : RdF encI 1 (fnCx mixed tyTab Try.f25.ntmps w).B (fnCx mixed tyTab Try.f25.ntmps w).w0 u xs := hX
  have h0 := chkB0.2 hok
  have h8 := hok.1
  have hn5 := hok.2.1
  have hx40 : WiB 1099511627776 xs := fun x h => by have := hx x h; omega
  refine W.sreg ?_
  refine WO.boxA rfl rfl (fun b1 hb1 => ?_)
  refine WO.p rfl rfl (WO.p rfl rfl ?_)
  refine WO.nil ?_
  refine W.seq ?_
  refine W.sreg ?_
  refine WO.loadA rfl rfl (Cells.own Pick.head) rfl rfl ?_
  refine WO.callR rfl Try.call45 (fun L w' hi => c_CheckBook w' n v rv rows (hB.later hi)) rfl ?_
  refine WO.p rfl rfl ?_
  refine WO.nil ?_
  refine W.sreg ?_
  refine WO.p rfl rfl (WO.p rfl rfl ?_)
  refine WO.nil ?_
  refine W.cond_bl rfl (fun c1 => ?_) (fun c1 => ?_)
  · first
    | (exfalso; omega)
    | (refine W.sreg ?_
       refine WO.p rfl rfl (WO.p rfl rfl (WO.p rfl rfl ?_))
       refine WO.nil ?_
       refine W.ret ?_
       exact fin.ret (Res.two rfl (RV.tmp rfl) (RV.tmp rfl)) ⟨y, rfl, fun h hs => Sub.sat (by repeat (first | exact Sub.nil | refine Sub.cons (by repeat (first | exact Pick.head | apply Pick.tail)) ?_)) hs⟩)
  first
  | (exfalso; omega)
  | (refine W.skip ?_
     refine W.seq ?_
     refine W.block ?_
     refine W.sreg ?_
     refine WO.p rfl rfl ?_
     refine' WO.len (n := _) rfl rfl ?hs rfl ?_
     case hs => (first | exact hB.sl | exact hX.sl)
     refine WO.field0 rfl rfl rfl (WO.load rfl rfl (Cell.own Pick.head rfl) rfl (WO.p rfl rfl (WO.p rfl rfl ?_)))
     refine WO.nil ?_
     refine W.cond_bl rfl (fun c2 => ?_) (fun c2 => ?_)
     · first
       | (exfalso; omega)
       | (refine W.sreg ?_
          refine WO.p rfl rfl (WO.p rfl rfl ?_)
          refine WO.nil ?_
          refine W.ret ?_
          exact fin.ret (Res.two rfl (RV.tmp rfl) (RV.tmp rfl)) ⟨y, rfl, fun h hs => Sub.sat (by repeat (first | exact Sub.nil | refine Sub.cons (by repeat (first | exact Pick.head | apply Pick.tail)) ?_)) hs⟩)
     first
     | (exfalso; omega)
     | (refine W.sreg ?_
        refine WO.p rfl rfl ?_
        refine WO.callR (r := .bool true) rfl Try.call29 (fun L w' hi => by rw [← (bl_t.2 hx : bl (WiB 100000 xs) = true)]; exact c_within w' u xs _ (hX.later hi) (by unfold in64; omega)) rfl ?_
        refine WO.p rfl rfl (WO.p rfl rfl ?_)
        refine WO.nil ?_
        refine W.cond_f rfl ?_
        refine W.skip ?_
        refine W.sreg ?_
        refine WO.p rfl rfl ?_
        refine WO.nil ?_
        refine W.sreg ?_
        refine WO.p rfl rfl ?_
        refine WO.nil ?_
        refine W.seq ?_
        refine W.sreg ?_
        refine WO.fieldL rfl rfl rfl (WO.load rfl rfl (Cell.own Pick.head rfl) rfl ?_)
        refine' WO.len (n := _) rfl rfl ?hs rfl ?_
        case hs => (first | exact hB.sl | exact hX.sl)
        refine WO.p rfl rfl ?_
        refine WO.nil ?_
        refine W.block ?_
        refine W.chg (owNil (enc := encI) (e := 2) (sz := 1)) ?_
        refine W.loop2 (fun (i : Nat) (y : Value) => i ≤ rows.length)
          (fun (i : Nat) (y : Value) => [(1, u), (7, .func (.func 33) #[] #[]), (8, y), (27, v), (28, .int .i64 (rows.length : Int)), (29, .int .i64 (i : Int))])
          (fun (i : Nat) (y : Value) => [OwE encI 2 1 y ((rows.take i).map fun a => dotL a xs)])
          (fun (i : Nat) (y : Value) => rows.length - i) 0 (.slice none 0 0)
          (by omega) ⟨rfl, rfl, rfl, rfl, rfl, rfl, trivial⟩ (by repeat (first | exact Sub.nil | refine Sub.cons (by repeat (first | exact Pick.head | apply Pick.tail)) ?_)) ?_
        rintro i y hi
        refine W.sreg ?_
        refine WO.p rfl rfl ?_
        refine WO.nil ?_
        refine W.seq ?_
        refine W.cond_bl rfl (fun c3 => ?_) (fun c3 => ?_)
        · first
          | (exfalso; omega)
          | (refine W.skip ?_
             refine W.seq ?_
             refine W.block ?_
             refine W.sreg ?_
             refine' WO.indexAddr (n := _) (i := _) rfl rfl rfl ?hs ?h1 rfl ?_
             case hs => (first | exact hB.sl | exact hX.sl)
             case h1 => (first | omega | (simp; omega))
             refine' WO.load (v := _) rfl rfl ?hc rfl ?_
             case hc => (first | (refine hB.cellV (i := i) ?_; omega))
             refine WO.p rfl rfl ?_
             refine WO.nil ?_
             have hil := hok.len (i := i) (by omega)
             have hrw : WiB 4 (rows.getD i []) := hok.2.2.2 _ (getD_mem (by omega) [])
             have htk : (rows.take i).map (fun a => dotL a xs) ++ [dotL (rows.getD i []) xs] = (rows.take (i + 1)).map fun a => dotL a xs := by rw [take_succ_getD (by omega) [], List.map_append]; rfl
             refine W.region ?_
             refine WO.p rfl rfl (WO.p rfl rfl (WO.p rfl rfl ?_))
             refine WO.callR rfl Try.call32 (fun L w' hi' => c_newRow w' _ (rows.getD i []) ((hB.row i (by omega)).later hi') (by omega) (by omega)) rfl ?_
             refine WO.p rfl rfl ?_
             refine WO.callCR (first := []) (captured := []) (r := .int .i64 (dotL (rows.getD i []) xs)) rfl rfl Try.call33 (fun L w' hi' => c_sum w' (fnL (rows.getD i [])) u xs (hX.later hi') (by omega) (fun i _ => fnL_in hrw i) hx40) rfl ?_
             refine' WO.buildSl (cs := _) rfl rfl rfl rfl ?hf rfl rfl ?hl rfl (fun v2 => ?_)
             case hf => (conv => lhs; simp [-List.getD_eq_getElem?_getD, fillL, vcl, wrl, TTab.pl?.lget']) <;> rfl
             case hl => rfl
             refine' WO.appendE (enc := encI) (m := 1) (xs := (rows.take i).map fun a => dotL a xs) (ys := [dotL (rows.getD i []) xs]) encI_ok rfl rfl rfl rfl rfl (by repeat (first | exact Pick.head | apply Pick.tail)) (isSl_lit (by omega) (fun _ => ⟨_, _, rfl⟩)) (by omega) rfl (OwC.cells .head) (by rw [List.length_map, List.length_take]; omega) (by rw [List.length_map, List.length_take]; omega) rfl (fun g c => ?_)
             rw [htk]
             refine WO.p rfl rfl ?_
             refine WO.nil ?_
             refine W.region ?_
             refine WO.ar rfl rfl rfl (by (first | (unfold in64; omega) | (unfold in64; omega))) rfl (WO.p rfl rfl ?_)
             refine WO.nil ?_
             refine' ⟨i + 1, _, ?hp, ?hmu, ⟨rfl, rfl, rfl, rfl, rfl, rfl, trivial⟩, ?hS⟩
             case hS => repeat (first | exact Sub.nil | refine Sub.cons (by repeat (first | exact Pick.head | apply Pick.tail)) ?_)
             case hp => omega
             case hmu => omega)
        first
        | (exfalso; omega)
        | (refine W.exit (blk_same ?_)
           obtain rfl : i = rows.length := by omega
           rw [List.take_length]
           refine W.sreg ?_
           refine WO.p rfl rfl (WO.p rfl rfl (WO.p rfl rfl ?_))
           refine WO.nil ?_
           refine W.ret ?_
           exact fin.ret (Res.two rfl (RV.tmp rfl) (RV.tmp rfl)) ⟨y, rfl, fun h hs => Sub.sat (by repeat (first | exact Sub.nil | refine Sub.cons (by repeat (first | exact Pick.head | apply Pick.tail)) ?_)) hs⟩)))
end Go.Proofs.Ytelmclmklkiphaa
namespace Go.Proofs.Ytelmclmklkiphaa
open Go Go.TH
attribute [local irreducible] W WO pt
set_option maxRecDepth 10000
set_option maxHeartbeats 1000000
def telV (n : Nat) (rows : List (List Int)) (r : List Int) (h : Nat → Int) : Value := if CanA n rows r then .tuple #[.agg #[.int .i64 (dotN (fnL r) h 5), .int .i64 1], .int .i64 0] else .tuple #[.agg #[.int .i64 0, .int .i64 0], .int .i64 5]
theorem tel_1 {n : Nat} {rows : List (List Int)} {r : List Int} {h : Nat → Int} (hc : CanA n rows r) : telV n rows r h = .tuple #[.agg #[.int .i64 (dotN (fnL r) h 5), .int .i64 1], .int .i64 0] := if_pos hc
theorem tel_0 {n : Nat} {rows : List (List Int)} {r : List Int} {h : Nat → Int} (hc : ¬ CanA n rows r) : telV n rows r h = .tuple #[.agg #[.int .i64 0, .int .i64 0], .int .i64 5] := if_neg hc
theorem gcd_mulT {T d : Int} (h : 0 < T) : ((Nat.gcd (T * d).natAbs T.natAbs : Nat) : Int) = T := by
  rw [Nat.gcd_eq_right (by rw [Int.natAbs_mul]; exact Nat.dvd_mul_right _ _)]
  omega
theorem c_newTableV (w : World) (n : Nat) (v u : Value) (rv : List Value) (rows : List (List Int)) (vals : List Int) (h : Nat → Int) (hB : RdR encI 1 w.heap.size w v rv rows) (hV : RdF encI 1 w.heap.size w u vals) (hl : vals.length = rows.length) (hok : OkB n rows) (hv : HuV rows vals h) :
    Ct Try.prog 37 [bookV n v, u].toArray w fun r w' => ∃ Hq, (∃ t m : Nat, r = .tuple #[.pointer (some ⟨t, 0, none⟩), .bool true] ∧ Hq = [pt t (.cells #[.int .i64 (n : Int), .map (some m)] 80 (0, 0)), MapP m (tabF n rows vals rows.length)]) ∧ TH.Inv w [] Hq w' :=
  (c_newTable w n v u rv rows vals hB hV hl hok (tab_bd hok hv)).mono fun r w' ⟨Hq, ⟨⟨t, m⟩, h1, h2⟩, hi⟩ => ⟨Hq, ⟨t, m, by rw [h1, good_all hok hv _ (Nat.le_refl _)], h2⟩, hi⟩
theorem c_Tell (w : World) (n : Nat) (v u o : Value) (rv : List Value) (rows : List (List Int)) (vals r : List Int) (h : Nat → Int) (hB : RdR encI 1 w.heap.size w v rv rows) (hV : RdF encI 1 w.heap.size w u vals) (hR : RdF encI 1 w.heap.size w o r) (hb : chkBR n rows r = 0) (hl : vals.length = rows.length) (hvw : WiB 10000000 vals) (hv : HuV rows vals h) : Ret Try.prog 26 [bookV n v, u, o].toArray w (telV n rows r h) := by
  refine Ret.of mixed tyTab Try.func26 rfl rfl ?_
  replace hB : RdR encI 1 (fnCx mixed tyTab Try.f26.ntmps w).B (fnCx mixed tyTab Try.f26.ntmps w).w0 v rv rows := hB
  replace hV : RdF encI 1 (fnCx mixed tyTab Try.f26.ntmps w).B (fnCx mixed tyTab Try.f26.ntmps w).w0 u vals := hV
  replace hR : RdF encI 1 (fnCx mixed tyTab Try.f26.ntmps w).B (fnCx mixed tyTab Try.f26.ntmps w).w0 o r := hR
  obtain ⟨hok, hrl, hrw⟩ := chkBR0.1 hb
  have h8 := hok.1
  have hn5 := hok.2.1
  have hbd := ask_bd hok hv hrl hrw
  have hcan := (ask_can hok hv hrl hrw).trans (canA_D hok hrw).symm
  have hlin := (ask_lin hok hv hrl hrw).1
  have hval := ask_val hok hv hrl hrw
  have hbX : BdV (askF n rows vals r n) := hbd.2 n (Nat.le_refl n)
  have hb5 := hbX 5 (by omega)
  have hb14 := hbX 14 (by omega)
  have hd := dotN_bd (g := fnL r) (h := h) (A := 4) (B := 10) (n := 5) (fun k _ => fnL_in hrw k) (fun k _ => hv.1 k)
  obtain ⟨d, hdd⟩ : ∃ d : Int, dotN (fnL r) h 5 = d := ⟨_, rfl⟩
  rw [hdd] at hd hval
  refine W.sreg ?_
  refine WO.boxA rfl rfl (fun b1 hb1 => ?_)
  refine WO.alloc rfl rfl rfl (fun b2 hb2 => ?_)
  refine WO.p rfl rfl ?_
  refine WO.nil ?_
  refine W.seq ?_
  refine W.sreg ?_
  refine WO.loadA rfl rfl (Cells.own (Pick.tail (Pick.head))) rfl rfl (WO.p rfl rfl ?_)
  refine WO.callR rfl Try.call28 (fun L w' hi => c_checkRow w' n v _ rv rows r (hB.later hi) (hR.later hi)) rfl ?_
  rw [hb]
  refine WO.p rfl rfl ?_
  refine WO.nil ?_
  refine W.sreg ?_
  refine WO.p rfl rfl (WO.p rfl rfl ?_)
  refine WO.nil ?_
  refine W.cond_bl rfl (fun c1 => ?_) (fun c1 => ?_)
  · first
    | (exfalso; omega)
    | (refine W.sreg ?_
       refine' WO.build (cs := _) rfl rfl rfl ?hf rfl ?_
       case hf => (conv => lhs; simp [-List.getD_eq_getElem?_getD, fillL, vcl, wrl, TTab.pl?.lget']) <;> rfl
       refine WO.p rfl rfl (WO.storeA rfl rfl rfl rfl Pick.head rfl rfl (WO.p rfl rfl ?_))
       refine WO.nil ?_
       refine W.ret ?_
       refine fin.ret (Res.two rfl (RV.cell rfl rfl rfl (Cells.own (by repeat (first | exact Pick.head | apply Pick.tail)))) (RV.tmp rfl)) ?_
       first | (rw [tel_0 hnc]; done) | (rw [tel_1 hca, hdd, e1, e2]; done))
  first
  | (exfalso; omega)
  | (refine W.skip ?_
     refine W.seq ?_
     refine W.block ?_
     refine W.sreg ?_
     refine WO.p rfl rfl ?_
     refine' WO.len (n := _) rfl rfl ?hs rfl ?_
     case hs => (first | exact hB.sl | exact hV.sl)
     refine WO.fieldL rfl rfl rfl (WO.load rfl rfl (Cell.own (Pick.tail (Pick.head)) rfl) rfl ?_)
     refine' WO.len (n := _) rfl rfl ?hs rfl ?_
     case hs => (first | exact hB.sl | exact hV.sl)
     refine WO.p rfl rfl (WO.p rfl rfl ?_)
     refine WO.nil ?_
     refine W.cond_bl rfl (fun c2 => ?_) (fun c2 => ?_)
     · first
       | (exfalso; omega)
       | (refine W.sreg ?_
          refine' WO.build (cs := _) rfl rfl rfl ?hf rfl ?_
          case hf => (conv => lhs; simp [-List.getD_eq_getElem?_getD, fillL, vcl, wrl, TTab.pl?.lget']) <;> rfl
          refine WO.storeA rfl rfl rfl rfl Pick.head rfl rfl (WO.p rfl rfl ?_)
          refine WO.nil ?_
          refine W.ret ?_
          refine fin.ret (Res.two rfl (RV.cell rfl rfl rfl (Cells.own (by repeat (first | exact Pick.head | apply Pick.tail)))) (RV.tmp rfl)) ?_
          first | (rw [tel_0 hnc]; done) | (rw [tel_1 hca, hdd, e1, e2]; done))
     first
     | (exfalso; omega)
     | (refine W.sreg ?_
        refine WO.p rfl rfl ?_
        refine WO.callR (r := .bool true) rfl Try.call29 (fun L w' hi => by rw [← (bl_t.2 hvw : bl (WiB 10000000 vals) = true)]; exact c_within w' u vals _ (hV.later hi) (by unfold in64; omega)) rfl ?_
        refine WO.p rfl rfl (WO.p rfl rfl ?_)
        refine WO.nil ?_
        refine W.cond_f rfl ?_
        refine W.skip ?_
        refine W.sreg ?_
        refine WO.loadA rfl rfl (Cells.own (Pick.tail (Pick.head))) rfl rfl (WO.p rfl rfl ?_)
        refine WO.call rfl Try.call37 (fun L w' hi' => c_newTableV w' n v _ rv rows vals h (hB.later hi') (hV.later hi') hl hok hv) rfl ?_
        rintro _ _ ⟨t1, m, rfl, rfl⟩
        refine WO.p rfl rfl (WO.p rfl rfl (WO.p rfl rfl (WO.p rfl rfl (WO.p rfl rfl ?_))))
        refine WO.nil ?_
        refine W.seq ?_
        refine W.sreg ?_
        refine WO.p rfl rfl (WO.p rfl rfl ?_)
        refine WO.nil ?_
        refine W.cond_f rfl ?_
        refine W.skip ?_
        refine W.sreg ?_
        refine WO.p rfl rfl (WO.p rfl rfl ?_)
        refine WO.callR (r := madeV (askX r)) rfl Try.call39 (fun L w' hi' => c_asked w' _ r (hR.later hi') (by omega) (by omega)) rfl ?_
        refine WO.callR (r := madeV (askF n rows vals r n)) rfl Try.call38 (fun L w' hi' => c_less w' ⟨t1, 0, none⟩ n m (tabF n rows vals rows.length) (askX r) (RdC.own (by repeat (first | exact Pick.head | apply Pick.tail)) hi') (RdM.own (by repeat (first | exact Pick.head | apply Pick.tail)) hi') (by omega) hbd.1 hbd.2) rfl ?_
        refine WO.alloc rfl rfl rfl (fun b3 hb3 => ?_)
        refine WO.storeA rfl rfl rfl rfl Pick.head rfl rfl ?_
        refine WO.nil ?_
        refine W.seq ?_
        refine W.sreg ?_
        refine WO.field0 rfl rfl rfl (WO.field0 rfl rfl rfl (WO.loadA rfl rfl (Cells.ownAt (n := 5) Pick.head rfl) rfl rfl ?_))
        refine' WO.build (cs := _) rfl rfl rfl ?hf rfl ?_
        case hf => (conv => lhs; simp [-List.getD_eq_getElem?_getD, fillL, vcl, wrl, TTab.pl?.lget']) <;> rfl
        refine WO.eqT rfl rfl (neq57 (askF n rows vals r n)) rfl ?_
        refine WO.nil ?_
        refine W.cond_bl rfl (fun c3 => ?_) (fun c3 => ?_)
        · first
          | (exfalso; omega)
          | (have hnc : ¬ CanA n rows r := fun g => absurd (hcan.2 g) (by assumption)
             refine W.sreg ?_
             refine' WO.build (cs := _) rfl rfl rfl ?hf rfl ?_
             case hf => (conv => lhs; simp [-List.getD_eq_getElem?_getD, fillL, vcl, wrl, TTab.pl?.lget']) <;> rfl
             refine WO.storeA rfl rfl rfl rfl (Pick.tail (Pick.tail (Pick.tail (Pick.head)))) rfl rfl (WO.p rfl rfl ?_)
             refine WO.nil ?_
             refine W.ret ?_
             refine fin.ret (Res.two rfl (RV.cell rfl rfl rfl (Cells.own (by repeat (first | exact Pick.head | apply Pick.tail)))) (RV.tmp rfl)) ?_
             first | (rw [tel_0 hnc]; done) | (rw [tel_1 hca, hdd, e1, e2]; done))
        first
        | (exfalso; omega)
        | (refine W.skip ?_
           refine W.seq ?_
           have hz : zr5 (askF n rows vals r n) := Decidable.not_not.1 (by assumption)
           have hca := hcan.1 hz
           have hv5 := hval hz
           refine W.drawD 7 [.r 0 [], .r 1 [], .b 2 [], .r 3 [], .r 4 [], .b 5 [], .r 6 []] [] (A0 := []) (Sub.refl _) (by kernel_rfl) ?_ ?_
           · exact (ALok.r (ALok.r (ALok.b (ALok.r (ALok.r (ALok.b (ALok.r ALok.nil)))))))
           refine' DT.r rfl rfl rfl ?hq ?_
           case hq =>
             refine WO.field0 rfl rfl rfl ?_
             exact WO.nil ⟨rfl, rfl⟩
           refine' DT.r rfl rfl rfl ?hq ?_
           case hq =>
             refine WO.fieldL rfl rfl rfl ?_
             exact WO.nil ⟨rfl, rfl⟩
           refine' DT.b rfl rfl rfl ?hq ?_
           case hq =>
             refine WO.load rfl rfl (Cell.own Pick.head rfl) rfl ?_
             exact WO.nil ⟨rfl, rfl⟩
           refine' DT.r rfl rfl rfl ?hq ?_
           case hq =>
             refine WO.neg rfl (by (first | (unfold in64; omega) | (unfold in64; omega))) rfl ?_
             exact WO.nil ⟨rfl, rfl⟩
           refine' DT.r rfl rfl rfl ?hq ?_
           case hq =>
             refine WO.fieldL rfl rfl rfl ?_
             exact WO.nil ⟨rfl, rfl⟩
           refine' DT.b rfl rfl rfl ?hq ?_
           case hq =>
             refine WO.load rfl rfl (Cell.own Pick.head rfl) rfl ?_
             exact WO.nil ⟨rfl, rfl⟩
           refine' DT.r rfl rfl rfl ?hq ?_
           case hq =>
             refine WO.p rfl rfl ?_
             exact WO.nil ⟨rfl, rfl⟩
           refine DT.nil [_, _, _, _, _] rfl ?_
           refine WO.p rfl rfl ?_
           refine WO.nil ?_
           refine W.seq ?_
           refine W.sreg ?_
           refine WO.p rfl rfl (WO.p rfl rfl ?_)
           refine WO.nil ?_
           refine W.cond_bl rfl (fun c4 => ?_) (fun c4 => ?_)
           · first
             | (exfalso; omega)
             | (refine W.region ?_
                refine WO.p rfl rfl (WO.neg rfl (by (first | (unfold in64; omega) | (unfold in64; omega))) rfl (WO.p rfl rfl (WO.neg rfl (by (first | (unfold in64; omega) | (unfold in64; omega))) rfl (WO.p rfl rfl (WO.p rfl rfl ?_)))))
                refine WO.nil ?_
                first | (obtain ⟨T, hT0, hT1, eT, eN⟩ : ∃ T : Int, 0 < T ∧ T ≤ 268435456 ∧ -(askF n rows vals r n 14) = T ∧ -(-(askF n rows vals r n 5)) = T * d := ⟨-(askF n rows vals r n 14), by omega, by omega, rfl, by rw [hv5, Int.neg_mul]; omega⟩; rw [eN, eT]) | (obtain ⟨T, hT0, hT1, eT, eN⟩ : ∃ T : Int, 0 < T ∧ T ≤ 268435456 ∧ askF n rows vals r n 14 = T ∧ -(askF n rows vals r n 5) = T * d := ⟨askF n rows vals r n 14, by omega, by omega, rfl, by rw [hv5]; omega⟩; rw [eN, eT])
                have hTd := mul_bd (a := T) (A := 268435456) (b := d) (B := 200) (by omega) (by omega)
                have e1 : (T * d).tdiv T = d := Int.mul_tdiv_cancel_left d (by omega)
                have e2 : T.tdiv T = 1 := Int.tdiv_self (by omega)
                refine W.sreg ?_
                refine WO.p rfl rfl (WO.p rfl rfl ?_)
                refine' WO.buildSl (cs := _) rfl rfl rfl rfl ?hf rfl rfl ?hl rfl (fun v4 => ?_)
                case hf => (conv => lhs; simp [-List.getD_eq_getElem?_getD, fillL, vcl, wrl, TTab.pl?.lget']) <;> rfl
                case hl => rfl
                refine WO.callR (r := .int .i64 T) rfl Try.call46 (fun L w' hi' => by have q := c_common w' _ [T * d, T] 1099511627776 (RdF.of_ow (e := 2) (xs := [T * d, T]) encI_ok (by repeat (first | exact Pick.head | apply Pick.tail)) hi') (by omega) (fun k hk => by match k, hk with | 0, _ => (show (T * d).natAbs ≤ 1099511627776; omega) | 1, _ => (show T.natAbs ≤ 1099511627776; omega)); rw [gcd2_ls, gcd_mulT hT0] at q; exact q) rfl ?_
                refine WO.p rfl rfl ?_
                refine WO.nil ?_
                refine W.seq ?_
                refine W.drawD 6 [.r 0 [], .r 1 [], .r 2 [], .r 3 [], .r 4 [], .r 5 []] [] (A0 := []) (Sub.refl _) (by kernel_rfl) ?_ ?_
                · exact (ALok.r (ALok.r (ALok.r (ALok.r (ALok.r (ALok.r ALok.nil))))))
                refine' DT.r rfl rfl rfl ?hq ?_
                case hq =>
                  refine WO.p rfl rfl ?_
                  exact WO.nil ⟨rfl, rfl⟩
                refine' DT.r rfl rfl rfl ?hq ?_
                case hq =>
                  refine WO.p rfl rfl ?_
                  exact WO.nil ⟨rfl, rfl⟩
                refine' DT.r rfl rfl rfl ?hq ?_
                case hq =>
                  refine WO.quo rfl rfl (by omega) (by rw [e1]; unfold in64; omega) rfl ?_
                  exact WO.nil ⟨rfl, rfl⟩
                refine' DT.r rfl rfl rfl ?hq ?_
                case hq =>
                  refine WO.p rfl rfl ?_
                  exact WO.nil ⟨rfl, rfl⟩
                refine' DT.r rfl rfl rfl ?hq ?_
                case hq =>
                  refine WO.p rfl rfl ?_
                  exact WO.nil ⟨rfl, rfl⟩
                refine' DT.r rfl rfl rfl ?hq ?_
                case hq =>
                  refine WO.quo rfl rfl (by omega) (by rw [e2]; unfold in64; omega) rfl ?_
                  exact WO.nil ⟨rfl, rfl⟩
                refine DT.nil [_, _, _, _, _, _] rfl ?_
                refine' WO.build (cs := _) rfl rfl rfl ?hf rfl ?_
                case hf => (conv => lhs; simp [-List.getD_eq_getElem?_getD, fillL, vcl, wrl, TTab.pl?.lget']) <;> rfl
                refine WO.storeA rfl rfl rfl rfl (Pick.tail (Pick.tail (Pick.tail (Pick.tail (Pick.head))))) rfl rfl (WO.p rfl rfl ?_)
                refine WO.nil ?_
                refine W.ret ?_
                refine fin.ret (Res.two rfl (RV.cell rfl rfl rfl (Cells.own (by repeat (first | exact Pick.head | apply Pick.tail)))) (RV.tmp rfl)) ?_
                first | (rw [tel_0 hnc]; done) | (rw [tel_1 hca, hdd, e1, e2]; done))
           first
           | (exfalso; omega)
           | (refine W.skip ?_
              first | (obtain ⟨T, hT0, hT1, eT, eN⟩ : ∃ T : Int, 0 < T ∧ T ≤ 268435456 ∧ -(askF n rows vals r n 14) = T ∧ -(-(askF n rows vals r n 5)) = T * d := ⟨-(askF n rows vals r n 14), by omega, by omega, rfl, by rw [hv5, Int.neg_mul]; omega⟩; rw [eN, eT]) | (obtain ⟨T, hT0, hT1, eT, eN⟩ : ∃ T : Int, 0 < T ∧ T ≤ 268435456 ∧ askF n rows vals r n 14 = T ∧ -(askF n rows vals r n 5) = T * d := ⟨askF n rows vals r n 14, by omega, by omega, rfl, by rw [hv5]; omega⟩; rw [eN, eT])
              have hTd := mul_bd (a := T) (A := 268435456) (b := d) (B := 200) (by omega) (by omega)
              have e1 : (T * d).tdiv T = d := Int.mul_tdiv_cancel_left d (by omega)
              have e2 : T.tdiv T = 1 := Int.tdiv_self (by omega)
              refine W.sreg ?_
              refine WO.p rfl rfl (WO.p rfl rfl ?_)
              refine' WO.buildSl (cs := _) rfl rfl rfl rfl ?hf rfl rfl ?hl rfl (fun v4 => ?_)
              case hf => (conv => lhs; simp [-List.getD_eq_getElem?_getD, fillL, vcl, wrl, TTab.pl?.lget']) <;> rfl
              case hl => rfl
              refine WO.callR (r := .int .i64 T) rfl Try.call46 (fun L w' hi' => by have q := c_common w' _ [T * d, T] 1099511627776 (RdF.of_ow (e := 2) (xs := [T * d, T]) encI_ok (by repeat (first | exact Pick.head | apply Pick.tail)) hi') (by omega) (fun k hk => by match k, hk with | 0, _ => (show (T * d).natAbs ≤ 1099511627776; omega) | 1, _ => (show T.natAbs ≤ 1099511627776; omega)); rw [gcd2_ls, gcd_mulT hT0] at q; exact q) rfl ?_
              refine WO.p rfl rfl ?_
              refine WO.nil ?_
              refine W.seq ?_
              refine W.drawD 6 [.r 0 [], .r 1 [], .r 2 [], .r 3 [], .r 4 [], .r 5 []] [] (A0 := []) (Sub.refl _) (by kernel_rfl) ?_ ?_
              · exact (ALok.r (ALok.r (ALok.r (ALok.r (ALok.r (ALok.r ALok.nil))))))
              refine' DT.r rfl rfl rfl ?hq ?_
              case hq =>
                refine WO.p rfl rfl ?_
                exact WO.nil ⟨rfl, rfl⟩
              refine' DT.r rfl rfl rfl ?hq ?_
              case hq =>
                refine WO.p rfl rfl ?_
                exact WO.nil ⟨rfl, rfl⟩
              refine' DT.r rfl rfl rfl ?hq ?_
              case hq =>
                refine WO.quo rfl rfl (by omega) (by rw [e1]; unfold in64; omega) rfl ?_
                exact WO.nil ⟨rfl, rfl⟩
              refine' DT.r rfl rfl rfl ?hq ?_
              case hq =>
                refine WO.p rfl rfl ?_
                exact WO.nil ⟨rfl, rfl⟩
              refine' DT.r rfl rfl rfl ?hq ?_
              case hq =>
                refine WO.p rfl rfl ?_
                exact WO.nil ⟨rfl, rfl⟩
              refine' DT.r rfl rfl rfl ?hq ?_
              case hq =>
                refine WO.quo rfl rfl (by omega) (by rw [e2]; unfold in64; omega) rfl ?_
                exact WO.nil ⟨rfl, rfl⟩
              refine DT.nil [_, _, _, _, _, _] rfl ?_
              refine' WO.build (cs := _) rfl rfl rfl ?hf rfl ?_
              case hf => (conv => lhs; simp [-List.getD_eq_getElem?_getD, fillL, vcl, wrl, TTab.pl?.lget']) <;> rfl
              refine WO.storeA rfl rfl rfl rfl (Pick.tail (Pick.tail (Pick.tail (Pick.tail (Pick.head))))) rfl rfl (WO.p rfl rfl ?_)
              refine WO.nil ?_
              refine W.ret ?_
              refine fin.ret (Res.two rfl (RV.cell rfl rfl rfl (Cells.own (by repeat (first | exact Pick.head | apply Pick.tail)))) (RV.tmp rfl)) ?_
              first | (rw [tel_0 hnc]; done) | (rw [tel_1 hca, hdd, e1, e2]; done)))))
end Go.Proofs.Ytelmclmklkiphaa
namespace Go.Proofs.Ytelmclmklkiphaa
open Go Go.TH
attribute [local irreducible] W WO pt
set_option maxRecDepth 10000
set_option maxHeartbeats 1000000
theorem ne51 (a b c d : Int) : EqT Try.prog .neq 51 (.agg #[.int .i64 a, .int .i64 b]) (.agg #[.int .i64 c, .int .i64 d]) (.bool (bl (¬ (a = c ∧ b = d)))) := by
  intro x y w
  simp [go_sem, Try.eqGuardType51, Try.underlying51]
  by_cases h1 : a = c
  · by_cases h2 : b = d
    · subst h1 h2; simp [bl_eq]
    subst h1; simp [bl_eq, h2]
  simp [bl_eq, h1]
theorem ne51f (a b : Int) : EqT Try.prog .neq 51 (.agg #[.int .i64 a, .int .i64 b]) (.agg #[.int .i64 a, .int .i64 b]) (.bool false) := by
  have := ne51 a b a b
  rwa [bl_f.2 (fun h => h ⟨rfl, rfl⟩)] at this
theorem prf_right {n : Int} {rows : List (List Int)} {r : List Int} (h : proE n rows r = 0) : cpE n rows r (prfQ n rows r) (prfT n rows r) = 0 := by
  obtain ⟨h1, h2⟩ := prf_0 h
  rw [h1, h2]
  by_cases g : chkBR n rows r = 0
  · by_cases hc : CanA n.toNat rows r
    · exact byL_ok g hc
    rw [proE_5 g hc] at h; omega
  rw [proE_1 g] at h; omega
theorem ex_pub : (exR.map fun a => dotL a [4, 7, 5]) = [11, 12] := by decide +kernel
theorem ex_rk : rkV 3 exR = 2 := by decide +kernel
theorem ex_ck : chkB 3 exR = 0 := by decide +kernel
theorem ex_ok : OkB 3 exR := chkB0.1 ex_ck
theorem ex_c1 : CanA 3 exR [1, 0, -1] := by decide +kernel
theorem ex_c2 : ¬ CanA 3 exR [1, 0, 0] := by decide +kernel
theorem ex_b1 : chkBR 3 exR [1, 0, -1] = 0 := by decide +kernel
theorem ex_b2 : chkBR 3 exR [1, 0, 0] = 0 := by decide +kernel
theorem ex_pr : proE 3 exR [1, 0, -1] = 0 := proE_0 ex_b1 ex_c1
theorem ex_tw : twiE 3 exR [1, 0, 0] = 0 := twiE_0 ex_b2 ex_c2
theorem ex_hu : HuV exR [11, 12] (fnL [4, 7, 5]) := by
  refine ⟨fun k => ?_, fun i => ?_⟩
  · match k with
    | 0 => decide
    | 1 => decide
    | 2 => decide
    | k + 3 => exact (show -10 ≤ (0 : Int) ∧ (0 : Int) ≤ 10 by decide)
  match i with
  | 0 => decide
  | 1 => decide
  | i + 2 => rfl
theorem ex_t1 : telV 3 exR [1, 0, -1] (fnL [4, 7, 5]) = .tuple #[.agg #[.int .i64 (-1), .int .i64 1], .int .i64 0] := by
  rw [tel_1 ex_c1, show dotN (fnL [1, 0, -1]) (fnL [4, 7, 5]) 5 = -1 by decide]
theorem ex_t2 : telV 3 exR [1, 0, 0] (fnL [4, 7, 5]) = .tuple #[.agg #[.int .i64 0, .int .i64 0], .int .i64 5] := tel_0 ex_c2
theorem ex_m1 : mayE 3 exR [1, 2, 1] [[1, 0, 0]] = 0 := by decide +kernel
theorem ex_m2 : mayE 3 exR [1, 1, 1] [[1, 0, 0]] = 21 := by decide +kernel
theorem ex_p2 : cpE 3 exR [2, 2, 0] [4, 0] 2 = 0 := by decide +kernel
theorem ex_w2 : ctwE 3 exR [1, 0, 0] [1, -1, 1] = 0 := by decide +kernel
theorem ex_rd {C : Cx Try.prog} {H H1 H2 H3 L : List HP} {w : World} {v a b : Value} (p : Pick (OwC 25 1 v 2 [a, b]) H H1) (q : Pick (OwE encI 2 1 a [1, 1, 0]) H H2) (q2 : Pick (OwE encI 2 1 b [0, 1, 1]) H H3) (hi : TH.Inv C.w0 C.M (L ++ H) w) : RdR encI 1 w.heap.size w v [a, b] exR :=
  RdR.of_two p hi (RdF.of_ow encI_ok q hi) (RdF.of_ow encI_ok q2 hi)
theorem ex_ask {C : Cx Try.prog} {H H1 H2 L : List HP} {w : World} {v a : Value} {r : List Int} (p : Pick (OwC 25 1 v 1 [a]) H H1) (q : Pick (OwE encI 2 1 a r) H H2) (hi : TH.Inv C.w0 C.M (L ++ H) w) : RdR encI 1 w.heap.size w v [a] [r] :=
  RdR.of_lit p hi rfl fun i hl => match i, hl with
    | 0, _ => RdF.of_ow encI_ok q hi
theorem ret_to {f : FuncId} {vs : Array Value} {w : World} {r r' : Value} (e : r = r') (h : Ret Try.prog f vs w r) : Ret Try.prog f vs w r' := e ▸ h
theorem longs_t {w : World} {u v : Value} {xs ys : List Int} (h : Ret Try.prog 27 [u, v].toArray w (.bool (bl (xs = ys)))) (e : xs = ys) : Ret Try.prog 27 [u, v].toArray w (.bool true) := by rwa [bl_t.2 e] at h
theorem l_Works (w : World) : Ret Try.prog 8 ([] : List Value).toArray w (.bool true) := by
  refine Ret.of mixed tyTab Try.func8 rfl rfl ?_
  refine W.sreg ?_
  refine WO.p rfl rfl ?_
  refine WO.nil ?_
  refine W.sreg ?_
  refine WO.call rfl Try.call24 (fun L w hi => law_Book w) rfl ?_
  rintro _ _ ⟨⟨p0, p1, p2⟩, rfl, rfl⟩
  unfold bookV
  dsimp only
  refine WO.alloc rfl rfl rfl (fun b1 hb1 => ?_)
  refine WO.storeA rfl rfl rfl rfl Pick.head rfl rfl ?_
  refine WO.nil ?_
  refine W.sreg ?_
  refine WO.loadA rfl rfl (Cells.own Pick.head) rfl rfl ?_
  refine' WO.buildSl (cs := _) rfl rfl rfl rfl ?hf rfl rfl ?hl rfl (fun v2 => ?_)
  case hf => (conv => lhs; simp [-List.getD_eq_getElem?_getD, fillL, vcl, wrl, TTab.pl?.lget']) <;> rfl
  case hl => rfl
  refine WO.call (Post := fun r Hq => ∃ x : Value, r = .tuple #[x, .int .i64 0] ∧ Hq = [OwE encI 2 1 x [11, 12]]) rfl Try.call25 (fun L w hi => by have h := c_Publish w 3 _ _ _ exR [4, 7, 5] (ex_rd (a := .slice (some ⟨p1, 0, none⟩) 3 3) (b := .slice (some ⟨p2, 0, none⟩) 3 3) (by repeat (first | exact Pick.head | apply Pick.tail)) (by repeat (first | exact Pick.head | apply Pick.tail)) (by repeat (first | exact Pick.head | apply Pick.tail)) hi) (RdF.of_ow (e := 2) (xs := [4, 7, 5]) encI_ok (by repeat (first | exact Pick.head | apply Pick.tail)) hi) ex_ok rfl (by decide); rw [ex_pub] at h; exact h) rfl ?_
  rintro _ _ ⟨r1, rfl, rfl⟩
  refine WO.p rfl rfl (WO.p rfl rfl (WO.p rfl rfl (WO.p rfl rfl (WO.p rfl rfl ?_))))
  refine WO.nil ?_
  refine W.sreg ?_
  refine WO.loadA rfl rfl (Cells.own (Pick.tail (Pick.tail (Pick.head)))) rfl rfl ?_
  refine WO.callR (r := .tuple #[.int .i64 2, .int .i64 0]) rfl Try.call22 (fun L w hi => ret_to (by rw [ex_rk, ex_ck]) (c_Rank w 3 _ _ exR (ex_rd (a := .slice (some ⟨p1, 0, none⟩) 3 3) (b := .slice (some ⟨p2, 0, none⟩) 3 3) (by repeat (first | exact Pick.head | apply Pick.tail)) (by repeat (first | exact Pick.head | apply Pick.tail)) (by repeat (first | exact Pick.head | apply Pick.tail)) hi))) rfl ?_
  refine WO.p rfl rfl (WO.p rfl rfl (WO.p rfl rfl (WO.p rfl rfl (WO.p rfl rfl ?_))))
  refine WO.nil ?_
  refine W.sreg ?_
  refine WO.loadA rfl rfl (Cells.own (Pick.tail (Pick.tail (Pick.head)))) rfl rfl ?_
  refine' WO.buildSl (cs := _) rfl rfl rfl rfl ?hf rfl rfl ?hl rfl (fun v3 => ?_)
  case hf => (conv => lhs; simp [-List.getD_eq_getElem?_getD, fillL, vcl, wrl, TTab.pl?.lget']) <;> rfl
  case hl => rfl
  refine WO.call (Post := fun r Hq => ∃ x : Value, r = .tuple #[.agg #[x, .int .i64 (prfT 3 exR [1, 0, -1])], .int .i64 0] ∧ Hq = [OwE encI 2 1 x (prfQ 3 exR [1, 0, -1])]) rfl Try.call13 (fun L w hi => by have h := c_Proof w 3 _ _ _ exR [1, 0, -1] (ex_rd (a := .slice (some ⟨p1, 0, none⟩) 3 3) (b := .slice (some ⟨p2, 0, none⟩) 3 3) (by repeat (first | exact Pick.head | apply Pick.tail)) (by repeat (first | exact Pick.head | apply Pick.tail)) (by repeat (first | exact Pick.head | apply Pick.tail)) hi) (RdF.of_ow (e := 2) (xs := [1, 0, -1]) encI_ok (by repeat (first | exact Pick.head | apply Pick.tail)) hi); rw [ex_pr] at h; exact h) rfl ?_
  rintro _ _ ⟨y1, rfl, rfl⟩
  refine WO.fact (OwE.form (enc := encI) (e := 2) (sz := 1) (xs := prfQ 3 exR [1, 0, -1]) (v := y1) Pick.head) (fun hy1 => ?_)
  obtain ⟨ya, yc, rfl⟩ := hy1
  refine WO.p rfl rfl (WO.p rfl rfl (WO.p rfl rfl ?_))
  refine WO.alloc rfl rfl rfl (fun b4 hb4 => ?_)
  refine WO.storeA rfl rfl rfl rfl Pick.head rfl rfl (WO.p rfl rfl ?_)
  refine WO.nil ?_
  refine W.sreg ?_
  refine WO.loadA rfl rfl (Cells.own (Pick.tail (Pick.tail (Pick.tail (Pick.tail (Pick.tail (Pick.head))))))) rfl rfl ?_
  refine' WO.buildSl (cs := _) rfl rfl rfl rfl ?hf rfl rfl ?hl rfl (fun v5 => ?_)
  case hf => (conv => lhs; simp [-List.getD_eq_getElem?_getD, fillL, vcl, wrl, TTab.pl?.lget']) <;> rfl
  case hl => rfl
  refine WO.call (Post := fun r Hq => ∃ x : Value × List Int, (r = .tuple #[x.1, .int .i64 0] ∧ ctwE 3 exR [1, 0, 0] x.2 = 0) ∧ Hq = [OwE encI 2 1 x.1 x.2]) rfl Try.call14 (fun L w hi => by have h := c_Twin w 3 _ _ _ exR [1, 0, 0] (ex_rd (a := .slice (some ⟨p1, 0, none⟩) 3 3) (b := .slice (some ⟨p2, 0, none⟩) 3 3) (by repeat (first | exact Pick.head | apply Pick.tail)) (by repeat (first | exact Pick.head | apply Pick.tail)) (by repeat (first | exact Pick.head | apply Pick.tail)) hi) (RdF.of_ow (e := 2) (xs := [1, 0, 0]) encI_ok (by repeat (first | exact Pick.head | apply Pick.tail)) hi); rw [ex_tw] at h; exact h.mono fun r w' ⟨Hq, ⟨x, ⟨h1, _, h3⟩, h2⟩, hi⟩ => ⟨Hq, ⟨x, ⟨h1, h3 rfl⟩, h2⟩, hi⟩) rfl ?_
  rintro _ _ ⟨⟨z1, zl⟩, ⟨rfl, hz⟩, rfl⟩
  dsimp only at hz ⊢
  refine WO.p rfl rfl (WO.p rfl rfl (WO.p rfl rfl (WO.p rfl rfl (WO.p rfl rfl ?_))))
  refine WO.nil ?_
  refine W.sreg ?_
  refine WO.loadA rfl rfl (Cells.own (Pick.tail (Pick.tail (Pick.tail (Pick.tail (Pick.tail (Pick.tail (Pick.tail (Pick.head))))))))) rfl rfl ?_
  refine' WO.buildSl (cs := _) rfl rfl rfl rfl ?hf rfl rfl ?hl rfl (fun v6 => ?_)
  case hf => (conv => lhs; simp [-List.getD_eq_getElem?_getD, fillL, vcl, wrl, TTab.pl?.lget']) <;> rfl
  case hl => rfl
  refine' WO.buildSl (cs := _) rfl rfl rfl rfl ?hf rfl rfl ?hl rfl (fun v7 => ?_)
  case hf => (conv => lhs; simp [-List.getD_eq_getElem?_getD, fillL, vcl, wrl, TTab.pl?.lget']) <;> rfl
  case hl => rfl
  refine WO.callR (r := .tuple #[.agg #[.int .i64 (-1), .int .i64 1], .int .i64 0]) rfl Try.call26 (fun L w hi => ret_to ex_t1 (c_Tell w 3 _ _ _ _ exR [11, 12] [1, 0, -1] (fnL [4, 7, 5]) (ex_rd (a := .slice (some ⟨p1, 0, none⟩) 3 3) (b := .slice (some ⟨p2, 0, none⟩) 3 3) (by repeat (first | exact Pick.head | apply Pick.tail)) (by repeat (first | exact Pick.head | apply Pick.tail)) (by repeat (first | exact Pick.head | apply Pick.tail)) hi) (RdF.of_ow (e := 2) (xs := [11, 12]) encI_ok (by repeat (first | exact Pick.head | apply Pick.tail)) hi) (RdF.of_ow (e := 2) (xs := [1, 0, -1]) encI_ok (by repeat (first | exact Pick.head | apply Pick.tail)) hi) ex_b1 rfl (by decide) ex_hu)) rfl ?_
  refine WO.p rfl rfl (WO.p rfl rfl (WO.p rfl rfl ?_))
  refine WO.alloc rfl rfl rfl (fun b8 hb8 => ?_)
  refine WO.storeA rfl rfl rfl rfl Pick.head rfl rfl (WO.p rfl rfl ?_)
  refine WO.nil ?_
  refine W.sreg ?_
  refine WO.loadA rfl rfl (Cells.own (Pick.tail (Pick.tail (Pick.tail (Pick.tail (Pick.tail (Pick.tail (Pick.tail (Pick.tail (Pick.tail (Pick.tail (Pick.head)))))))))))) rfl rfl ?_
  refine' WO.buildSl (cs := _) rfl rfl rfl rfl ?hf rfl rfl ?hl rfl (fun v9 => ?_)
  case hf => (conv => lhs; simp [-List.getD_eq_getElem?_getD, fillL, vcl, wrl, TTab.pl?.lget']) <;> rfl
  case hl => rfl
  refine' WO.buildSl (cs := _) rfl rfl rfl rfl ?hf rfl rfl ?hl rfl (fun v10 => ?_)
  case hf => (conv => lhs; simp [-List.getD_eq_getElem?_getD, fillL, vcl, wrl, TTab.pl?.lget']) <;> rfl
  case hl => rfl
  refine WO.callR (r := .tuple #[.agg #[.int .i64 0, .int .i64 0], .int .i64 5]) rfl Try.call26 (fun L w hi => ret_to ex_t2 (c_Tell w 3 _ _ _ _ exR [11, 12] [1, 0, 0] (fnL [4, 7, 5]) (ex_rd (a := .slice (some ⟨p1, 0, none⟩) 3 3) (b := .slice (some ⟨p2, 0, none⟩) 3 3) (by repeat (first | exact Pick.head | apply Pick.tail)) (by repeat (first | exact Pick.head | apply Pick.tail)) (by repeat (first | exact Pick.head | apply Pick.tail)) hi) (RdF.of_ow (e := 2) (xs := [11, 12]) encI_ok (by repeat (first | exact Pick.head | apply Pick.tail)) hi) (RdF.of_ow (e := 2) (xs := [1, 0, 0]) encI_ok (by repeat (first | exact Pick.head | apply Pick.tail)) hi) ex_b2 rfl (by decide) ex_hu)) rfl ?_
  refine WO.p rfl rfl (WO.p rfl rfl (WO.p rfl rfl ?_))
  refine WO.alloc rfl rfl rfl (fun b11 hb11 => ?_)
  refine WO.storeA rfl rfl rfl rfl Pick.head rfl rfl (WO.p rfl rfl ?_)
  refine WO.nil ?_
  refine W.sreg ?_
  refine WO.loadA rfl rfl (Cells.own (Pick.tail (Pick.tail (Pick.tail (Pick.tail (Pick.tail (Pick.tail (Pick.tail (Pick.tail (Pick.tail (Pick.tail (Pick.tail (Pick.tail (Pick.tail (Pick.head))))))))))))))) rfl rfl ?_
  refine' WO.buildSl (cs := _) rfl rfl rfl rfl ?hf rfl rfl ?hl rfl (fun v12 => ?_)
  case hf => (conv => lhs; simp [-List.getD_eq_getElem?_getD, fillL, vcl, wrl, TTab.pl?.lget']) <;> rfl
  case hl => rfl
  refine' WO.buildSl (cs := _) rfl rfl rfl rfl ?hf rfl rfl ?hl rfl (fun v13 => ?_)
  case hf => (conv => lhs; simp [-List.getD_eq_getElem?_getD, fillL, vcl, wrl, TTab.pl?.lget']) <;> rfl
  case hl => rfl
  refine' WO.buildSl (cs := _) rfl rfl rfl rfl ?hf rfl rfl ?hl rfl (fun v14 => ?_)
  case hf => (conv => lhs; simp [-List.getD_eq_getElem?_getD, fillL, vcl, wrl, TTab.pl?.lget']) <;> rfl
  case hl => rfl
  refine WO.callR (r := .int .i64 0) rfl Try.call18 (fun L w hi => ret_to (congrArg (Value.int .i64) ex_m1) (c_May w 3 _ _ _ _ _ exR [[1, 0, 0]] [1, 2, 1] (ex_rd (a := .slice (some ⟨p1, 0, none⟩) 3 3) (b := .slice (some ⟨p2, 0, none⟩) 3 3) (by repeat (first | exact Pick.head | apply Pick.tail)) (by repeat (first | exact Pick.head | apply Pick.tail)) (by repeat (first | exact Pick.head | apply Pick.tail)) hi) (RdF.of_ow (e := 2) (xs := [1, 2, 1]) encI_ok (by repeat (first | exact Pick.head | apply Pick.tail)) hi) (ex_ask (r := [1, 0, 0]) (by repeat (first | exact Pick.head | apply Pick.tail)) (by repeat (first | exact Pick.head | apply Pick.tail)) hi) ⟨_, _, rfl, by decide, by simp⟩)) rfl ?_
  refine WO.p rfl rfl ?_
  refine WO.nil ?_
  refine W.sreg ?_
  refine WO.loadA rfl rfl (Cells.own (Pick.tail (Pick.tail (Pick.tail (Pick.tail (Pick.tail (Pick.tail (Pick.tail (Pick.tail (Pick.tail (Pick.tail (Pick.tail (Pick.tail (Pick.tail (Pick.tail (Pick.tail (Pick.tail (Pick.head)))))))))))))))))) rfl rfl ?_
  refine' WO.buildSl (cs := _) rfl rfl rfl rfl ?hf rfl rfl ?hl rfl (fun v15 => ?_)
  case hf => (conv => lhs; simp [-List.getD_eq_getElem?_getD, fillL, vcl, wrl, TTab.pl?.lget']) <;> rfl
  case hl => rfl
  refine' WO.buildSl (cs := _) rfl rfl rfl rfl ?hf rfl rfl ?hl rfl (fun v16 => ?_)
  case hf => (conv => lhs; simp [-List.getD_eq_getElem?_getD, fillL, vcl, wrl, TTab.pl?.lget']) <;> rfl
  case hl => rfl
  refine' WO.buildSl (cs := _) rfl rfl rfl rfl ?hf rfl rfl ?hl rfl (fun v17 => ?_)
  case hf => (conv => lhs; simp [-List.getD_eq_getElem?_getD, fillL, vcl, wrl, TTab.pl?.lget']) <;> rfl
  case hl => rfl
  refine WO.callR (r := .int .i64 21) rfl Try.call18 (fun L w hi => ret_to (congrArg (Value.int .i64) ex_m2) (c_May w 3 _ _ _ _ _ exR [[1, 0, 0]] [1, 1, 1] (ex_rd (a := .slice (some ⟨p1, 0, none⟩) 3 3) (b := .slice (some ⟨p2, 0, none⟩) 3 3) (by repeat (first | exact Pick.head | apply Pick.tail)) (by repeat (first | exact Pick.head | apply Pick.tail)) (by repeat (first | exact Pick.head | apply Pick.tail)) hi) (RdF.of_ow (e := 2) (xs := [1, 1, 1]) encI_ok (by repeat (first | exact Pick.head | apply Pick.tail)) hi) (ex_ask (r := [1, 0, 0]) (by repeat (first | exact Pick.head | apply Pick.tail)) (by repeat (first | exact Pick.head | apply Pick.tail)) hi) ⟨_, _, rfl, by decide, by simp⟩)) rfl ?_
  refine WO.p rfl rfl ?_
  refine WO.nil ?_
  refine W.seq ?_
  refine W.sreg ?_
  refine WO.p rfl rfl (WO.p rfl rfl (WO.p rfl rfl ?_))
  refine WO.guard_bl rfl rfl (fun c1 => ?_) (fun c1 => ?_)
  · first
    | (exfalso; omega)
    | (refine WO.no rfl rfl (WO.no rfl rfl (WO.p rfl rfl (WO.p rfl rfl (WO.no rfl rfl (WO.no rfl rfl (WO.p rfl rfl (WO.p rfl rfl (WO.no rfl rfl (WO.no rfl rfl (WO.p rfl rfl (WO.p rfl rfl ?_)))))))))))
       refine WO.no rfl rfl (WO.no rfl rfl (WO.p rfl rfl (WO.p rfl rfl (WO.no rfl rfl (WO.no rfl rfl (WO.p rfl rfl (WO.p rfl rfl (WO.no rfl rfl (WO.no rfl rfl (WO.p rfl rfl (WO.p rfl rfl ?_)))))))))))
       refine WO.no rfl rfl (WO.no rfl rfl (WO.p rfl rfl (WO.p rfl rfl (WO.no rfl rfl (WO.no rfl rfl (WO.no rfl rfl (WO.no rfl rfl (WO.p rfl rfl (WO.p rfl rfl (WO.no rfl rfl (WO.no rfl rfl ?_)))))))))))
       refine WO.p rfl rfl (WO.p rfl rfl (WO.no rfl rfl (WO.no rfl rfl (WO.no rfl rfl (WO.p rfl rfl ?_)))))
       refine WO.nil ?_
       refine W.cond_t rfl ?_
       refine W.sreg ?_
       refine WO.p rfl rfl ?_
       refine WO.nil ?_
       refine W.ret ?_
       exact fin.ret (Res.one rfl (RV.tmp rfl)) (congrArg Value.bool (bl_t.2 rfl)))
  first
  | (exfalso; omega)
  | (refine WO.pg rfl rfl rfl (WO.pg rfl rfl rfl (WO.p rfl rfl (WO.p rfl rfl ?_)))
     refine WO.guard_bl rfl rfl (fun c2 => ?_) (fun c2 => ?_)
     · first
       | (exfalso; omega)
       | (refine WO.no rfl rfl (WO.no rfl rfl (WO.p rfl rfl (WO.p rfl rfl (WO.no rfl rfl (WO.no rfl rfl (WO.p rfl rfl (WO.p rfl rfl (WO.no rfl rfl (WO.no rfl rfl (WO.p rfl rfl (WO.p rfl rfl ?_)))))))))))
          refine WO.no rfl rfl (WO.no rfl rfl (WO.p rfl rfl (WO.p rfl rfl (WO.no rfl rfl (WO.no rfl rfl (WO.p rfl rfl (WO.p rfl rfl (WO.no rfl rfl (WO.no rfl rfl (WO.p rfl rfl (WO.p rfl rfl ?_)))))))))))
          refine WO.no rfl rfl (WO.no rfl rfl (WO.no rfl rfl (WO.no rfl rfl (WO.p rfl rfl (WO.p rfl rfl (WO.no rfl rfl (WO.no rfl rfl (WO.p rfl rfl (WO.p rfl rfl (WO.no rfl rfl (WO.no rfl rfl ?_)))))))))))
          refine WO.no rfl rfl (WO.p rfl rfl ?_)
          refine WO.nil ?_
          refine W.cond_t rfl ?_
          refine W.sreg ?_
          refine WO.p rfl rfl ?_
          refine WO.nil ?_
          refine W.ret ?_
          exact fin.ret (Res.one rfl (RV.tmp rfl)) (congrArg Value.bool (bl_t.2 rfl)))
     first
     | (exfalso; omega)
     | (refine WO.pg rfl rfl rfl (WO.pg rfl rfl rfl (WO.p rfl rfl (WO.p rfl rfl ?_)))
        refine WO.guard_bl rfl rfl (fun c3 => ?_) (fun c3 => ?_)
        · first
          | (exfalso; omega)
          | (refine WO.no rfl rfl (WO.no rfl rfl (WO.p rfl rfl (WO.p rfl rfl (WO.no rfl rfl (WO.no rfl rfl (WO.p rfl rfl (WO.p rfl rfl (WO.no rfl rfl (WO.no rfl rfl (WO.p rfl rfl (WO.p rfl rfl ?_)))))))))))
             refine WO.no rfl rfl (WO.no rfl rfl (WO.p rfl rfl (WO.p rfl rfl (WO.no rfl rfl (WO.no rfl rfl (WO.p rfl rfl (WO.p rfl rfl (WO.no rfl rfl (WO.no rfl rfl (WO.no rfl rfl (WO.no rfl rfl ?_)))))))))))
             refine WO.p rfl rfl (WO.p rfl rfl (WO.no rfl rfl (WO.no rfl rfl (WO.p rfl rfl (WO.p rfl rfl (WO.no rfl rfl (WO.no rfl rfl (WO.no rfl rfl (WO.p rfl rfl ?_)))))))))
             refine WO.nil ?_
             refine W.cond_t rfl ?_
             refine W.sreg ?_
             refine WO.p rfl rfl ?_
             refine WO.nil ?_
             refine W.ret ?_
             exact fin.ret (Res.one rfl (RV.tmp rfl)) (congrArg Value.bool (bl_t.2 rfl)))
        first
        | (exfalso; omega)
        | (refine WO.pg rfl rfl rfl (WO.pg rfl rfl rfl (WO.p rfl rfl (WO.p rfl rfl ?_)))
           refine WO.guard_bl rfl rfl (fun c4 => ?_) (fun c4 => ?_)
           · first
             | (exfalso; omega)
             | (refine WO.no rfl rfl (WO.no rfl rfl (WO.p rfl rfl (WO.p rfl rfl (WO.no rfl rfl (WO.no rfl rfl (WO.p rfl rfl (WO.p rfl rfl (WO.no rfl rfl (WO.no rfl rfl (WO.p rfl rfl (WO.p rfl rfl ?_)))))))))))
                refine WO.no rfl rfl (WO.no rfl rfl (WO.p rfl rfl (WO.p rfl rfl (WO.no rfl rfl (WO.no rfl rfl (WO.no rfl rfl (WO.no rfl rfl (WO.p rfl rfl (WO.p rfl rfl (WO.no rfl rfl (WO.no rfl rfl ?_)))))))))))
                refine WO.p rfl rfl (WO.p rfl rfl (WO.no rfl rfl (WO.no rfl rfl (WO.no rfl rfl (WO.p rfl rfl ?_)))))
                refine WO.nil ?_
                refine W.cond_t rfl ?_
                refine W.sreg ?_
                refine WO.p rfl rfl ?_
                refine WO.nil ?_
                refine W.ret ?_
                exact fin.ret (Res.one rfl (RV.tmp rfl)) (congrArg Value.bool (bl_t.2 rfl)))
           first
           | (exfalso; omega)
           | (refine WO.pg rfl rfl rfl (WO.pg rfl rfl rfl (WO.p rfl rfl (WO.p rfl rfl ?_)))
              refine WO.guard_bl rfl rfl (fun c5 => ?_) (fun c5 => ?_)
              · first
                | (exfalso; omega)
                | (refine WO.no rfl rfl (WO.no rfl rfl (WO.p rfl rfl (WO.p rfl rfl (WO.no rfl rfl (WO.no rfl rfl (WO.p rfl rfl (WO.p rfl rfl (WO.no rfl rfl (WO.no rfl rfl (WO.p rfl rfl (WO.p rfl rfl ?_)))))))))))
                   refine WO.no rfl rfl (WO.no rfl rfl (WO.no rfl rfl (WO.no rfl rfl (WO.p rfl rfl (WO.p rfl rfl (WO.no rfl rfl (WO.no rfl rfl (WO.p rfl rfl (WO.p rfl rfl (WO.no rfl rfl (WO.no rfl rfl ?_)))))))))))
                   refine WO.no rfl rfl (WO.p rfl rfl ?_)
                   refine WO.nil ?_
                   refine W.cond_t rfl ?_
                   refine W.sreg ?_
                   refine WO.p rfl rfl ?_
                   refine WO.nil ?_
                   refine W.ret ?_
                   exact fin.ret (Res.one rfl (RV.tmp rfl)) (congrArg Value.bool (bl_t.2 rfl)))
              first
              | (exfalso; omega)
              | (refine WO.pg rfl rfl rfl (WO.pg rfl rfl rfl (WO.p rfl rfl (WO.p rfl rfl ?_)))
                 refine WO.guard_bl rfl rfl (fun c6 => ?_) (fun c6 => ?_)
                 · first
                   | (exfalso; omega)
                   | (refine WO.no rfl rfl (WO.no rfl rfl (WO.p rfl rfl (WO.p rfl rfl (WO.no rfl rfl (WO.no rfl rfl (WO.p rfl rfl (WO.p rfl rfl (WO.no rfl rfl (WO.no rfl rfl (WO.no rfl rfl (WO.no rfl rfl ?_)))))))))))
                      refine WO.p rfl rfl (WO.p rfl rfl (WO.no rfl rfl (WO.no rfl rfl (WO.p rfl rfl (WO.p rfl rfl (WO.no rfl rfl (WO.no rfl rfl (WO.no rfl rfl (WO.p rfl rfl ?_)))))))))
                      refine WO.nil ?_
                      refine W.cond_t rfl ?_
                      refine W.sreg ?_
                      refine WO.p rfl rfl ?_
                      refine WO.nil ?_
                      refine W.ret ?_
                      exact fin.ret (Res.one rfl (RV.tmp rfl)) (congrArg Value.bool (bl_t.2 rfl)))
                 first
                 | (exfalso; omega)
                 | (refine WO.pg rfl rfl rfl (WO.pg rfl rfl rfl (WO.p rfl rfl (WO.p rfl rfl ?_)))
                    refine WO.guard_bl rfl rfl (fun c7 => ?_) (fun c7 => ?_)
                    · first
                      | (exfalso; omega)
                      | (refine WO.no rfl rfl (WO.no rfl rfl (WO.p rfl rfl (WO.p rfl rfl (WO.no rfl rfl (WO.no rfl rfl (WO.no rfl rfl (WO.no rfl rfl (WO.p rfl rfl (WO.p rfl rfl (WO.no rfl rfl (WO.no rfl rfl ?_)))))))))))
                         refine WO.p rfl rfl (WO.p rfl rfl (WO.no rfl rfl (WO.no rfl rfl (WO.no rfl rfl (WO.p rfl rfl ?_)))))
                         refine WO.nil ?_
                         refine W.cond_t rfl ?_
                         refine W.sreg ?_
                         refine WO.p rfl rfl ?_
                         refine WO.nil ?_
                         refine W.ret ?_
                         exact fin.ret (Res.one rfl (RV.tmp rfl)) (congrArg Value.bool (bl_t.2 rfl)))
                    first
                    | (exfalso; omega)
                    | (refine WO.pg rfl rfl rfl (WO.pg rfl rfl rfl (WO.p rfl rfl (WO.p rfl rfl ?_)))
                       refine WO.guard_bl rfl rfl (fun c8 => ?_) (fun c8 => ?_)
                       · first
                         | (exfalso; omega)
                         | (refine WO.no rfl rfl (WO.no rfl rfl (WO.no rfl rfl (WO.no rfl rfl (WO.p rfl rfl (WO.p rfl rfl (WO.no rfl rfl (WO.no rfl rfl (WO.p rfl rfl (WO.p rfl rfl (WO.no rfl rfl (WO.no rfl rfl ?_)))))))))))
                            refine WO.no rfl rfl (WO.p rfl rfl ?_)
                            refine WO.nil ?_
                            refine W.cond_t rfl ?_
                            refine W.sreg ?_
                            refine WO.p rfl rfl ?_
                            refine WO.nil ?_
                            refine W.ret ?_
                            exact fin.ret (Res.one rfl (RV.tmp rfl)) (congrArg Value.bool (bl_t.2 rfl)))
                       first
                       | (exfalso; omega)
                       | (refine WO.pg rfl rfl rfl (WO.go' rfl ?_)
                          refine' WO.buildSl (cs := _) rfl rfl rfl rfl ?hf rfl rfl ?hl rfl (fun v18 => ?_)
                          case hf => (conv => lhs; simp [-List.getD_eq_getElem?_getD, fillL, vcl, wrl, TTab.pl?.lget']) <;> rfl
                          case hl => rfl
                          refine WO.go' rfl ?_
                          refine WO.callR (r := .bool true) rfl Try.call27 (fun L w hi => longs_t (law_longs w _ _ [11, 12] [11, 12] (RdF.of_ow (e := 2) (xs := [11, 12]) encI_ok (by repeat (first | exact Pick.head | apply Pick.tail)) hi) (RdF.of_ow (e := 2) (xs := [11, 12]) encI_ok (by repeat (first | exact Pick.head | apply Pick.tail)) hi)) rfl) rfl ?_
                          refine WO.pg rfl rfl rfl (WO.p rfl rfl (WO.p rfl rfl (WO.pg rfl rfl rfl (WO.pg rfl rfl rfl (WO.p rfl rfl (WO.p rfl rfl ?_))))))
                          refine WO.guard_bl rfl rfl (fun c9 => ?_) (fun c9 => ?_)
                          · first
                            | (exfalso; omega)
                            | (refine WO.no rfl rfl (WO.no rfl rfl (WO.no rfl rfl (WO.p rfl rfl ?_)))
                               refine WO.nil ?_
                               refine W.cond_t rfl ?_
                               refine W.sreg ?_
                               refine WO.p rfl rfl ?_
                               refine WO.nil ?_
                               refine W.ret ?_
                               exact fin.ret (Res.one rfl (RV.tmp rfl)) (congrArg Value.bool (bl_t.2 rfl)))
                          first
                          | (exfalso; omega)
                          | (refine WO.go' rfl (WO.loadA rfl rfl (Cells.own (Pick.tail (Pick.tail (Pick.tail (Pick.tail (Pick.tail (Pick.tail (Pick.tail (Pick.tail (Pick.tail (Pick.tail (Pick.head)))))))))))) rfl rfl (WO.go' rfl ?_))
                             refine' WO.build (cs := _) rfl rfl rfl ?hf rfl ?_
                             case hf => (conv => lhs; simp [-List.getD_eq_getElem?_getD, fillL, vcl, wrl, TTab.pl?.lget']) <;> rfl
                             refine WO.go' rfl ?_
                             refine WO.eqT rfl rfl (ne51f (-1) 1) rfl ?_
                             refine WO.p rfl rfl ?_
                             refine WO.nil ?_
                             refine W.cond_f rfl ?_
                             refine W.skip ?_
                             refine W.sreg ?_
                             refine WO.loadA rfl rfl (Cells.own (Pick.tail (Pick.tail (Pick.tail (Pick.tail (Pick.tail (Pick.tail (Pick.tail (Pick.tail (Pick.tail (Pick.tail (Pick.tail (Pick.tail (Pick.tail (Pick.tail (Pick.tail (Pick.tail (Pick.tail (Pick.tail (Pick.tail (Pick.tail (Pick.head)))))))))))))))))))))) rfl rfl ?_
                             refine' WO.buildSl (cs := _) rfl rfl rfl rfl ?hf rfl rfl ?hl rfl (fun v19 => ?_)
                             case hf => (conv => lhs; simp [-List.getD_eq_getElem?_getD, fillL, vcl, wrl, TTab.pl?.lget']) <;> rfl
                             case hl => rfl
                             refine WO.loadA rfl rfl (Cells.own (Pick.tail (Pick.tail (Pick.tail (Pick.tail (Pick.tail (Pick.tail (Pick.tail (Pick.tail (Pick.tail (Pick.tail (Pick.tail (Pick.tail (Pick.tail (Pick.tail (Pick.tail (Pick.tail (Pick.head)))))))))))))))))) rfl rfl ?_
                             refine WO.callR (r := .int .i64 0) rfl Try.call10 (fun L w hi => ret_to (congrArg (Value.int .i64) (prf_right ex_pr)) (ref_CheckProof w 3 _ _ _ _ exR [1, 0, -1] (prfQ 3 exR [1, 0, -1]) (prfT 3 exR [1, 0, -1]) (ex_rd (a := .slice (some ⟨p1, 0, none⟩) 3 3) (b := .slice (some ⟨p2, 0, none⟩) 3 3) (by repeat (first | exact Pick.head | apply Pick.tail)) (by repeat (first | exact Pick.head | apply Pick.tail)) (by repeat (first | exact Pick.head | apply Pick.tail)) hi) (RdF.of_ow (e := 2) (xs := [1, 0, -1]) encI_ok (by repeat (first | exact Pick.head | apply Pick.tail)) hi) (RdF.of_ow (e := 2) (xs := prfQ 3 exR [1, 0, -1]) encI_ok (by repeat (first | exact Pick.head | apply Pick.tail)) hi))) rfl ?_
                             refine WO.p rfl rfl (WO.p rfl rfl ?_)
                             refine WO.guard_bl rfl rfl (fun c10 => ?_) (fun c10 => ?_)
                             · first
                               | (exfalso; omega)
                               | (refine WO.go' rfl (WO.loadA rfl rfl (Cells.own (Pick.tail (Pick.tail (Pick.tail (Pick.tail (Pick.tail (Pick.tail (Pick.tail (Pick.tail (Pick.tail (Pick.tail (Pick.tail (Pick.tail (Pick.tail (Pick.tail (Pick.tail (Pick.tail (Pick.tail (Pick.tail (Pick.tail (Pick.tail (Pick.tail (Pick.head))))))))))))))))))))))) rfl rfl (WO.go' rfl ?_))
                                  refine' WO.buildSl (cs := _) rfl rfl rfl rfl ?hf rfl rfl ?hl rfl (fun v20 => ?_)
                                  case hf => (conv => lhs; simp [-List.getD_eq_getElem?_getD, fillL, vcl, wrl, TTab.pl?.lget']) <;> rfl
                                  case hl => rfl
                                  refine WO.pg rfl rfl rfl (WO.go' rfl ?_)
                                  refine WO.callR (r := .int .i64 0) rfl Try.call12 (fun L w hi => ret_to (congrArg (Value.int .i64) hz) (ref_CheckTwin w 3 _ _ _ _ exR [1, 0, 0] zl (ex_rd (a := .slice (some ⟨p1, 0, none⟩) 3 3) (b := .slice (some ⟨p2, 0, none⟩) 3 3) (by repeat (first | exact Pick.head | apply Pick.tail)) (by repeat (first | exact Pick.head | apply Pick.tail)) (by repeat (first | exact Pick.head | apply Pick.tail)) hi) (RdF.of_ow (e := 2) (xs := [1, 0, 0]) encI_ok (by repeat (first | exact Pick.head | apply Pick.tail)) hi) (RdF.of_ow (e := 2) (xs := zl) encI_ok (by repeat (first | exact Pick.head | apply Pick.tail)) hi))) rfl ?_
                                  refine WO.pg rfl rfl rfl (WO.p rfl rfl (WO.p rfl rfl ?_))
                                  refine WO.guard_bl rfl rfl (fun c11 => ?_) (fun c11 => ?_)
                                  · first
                                    | (exfalso; omega)
                                    | (refine WO.go' rfl (WO.loadA rfl rfl (Cells.own (Pick.tail (Pick.tail (Pick.tail (Pick.tail (Pick.tail (Pick.tail (Pick.tail (Pick.tail (Pick.tail (Pick.tail (Pick.tail (Pick.tail (Pick.tail (Pick.tail (Pick.tail (Pick.tail (Pick.tail (Pick.tail (Pick.tail (Pick.tail (Pick.tail (Pick.tail (Pick.head)))))))))))))))))))))))) rfl rfl (WO.go' rfl ?_))
                                       refine' WO.buildSl (cs := _) rfl rfl rfl rfl ?hf rfl rfl ?hl rfl (fun v21 => ?_)
                                       case hf => (conv => lhs; simp [-List.getD_eq_getElem?_getD, fillL, vcl, wrl, TTab.pl?.lget']) <;> rfl
                                       case hl => rfl
                                       refine WO.go' rfl ?_
                                       refine' WO.buildSl (cs := _) rfl rfl rfl rfl ?hf rfl rfl ?hl rfl (fun v22 => ?_)
                                       case hf => (conv => lhs; simp [-List.getD_eq_getElem?_getD, fillL, vcl, wrl, TTab.pl?.lget']) <;> rfl
                                       case hl => rfl
                                       refine WO.go' rfl ?_
                                       refine' WO.build (cs := _) rfl rfl rfl ?hf rfl ?_
                                       case hf => (conv => lhs; simp [-List.getD_eq_getElem?_getD, fillL, vcl, wrl, TTab.pl?.lget']) <;> rfl
                                       refine WO.go' rfl ?_
                                       refine WO.callR (r := .int .i64 0) rfl Try.call9 (fun L w hi => ret_to (congrArg (Value.int .i64) ex_p2) (c_CheckProof w 3 _ _ _ _ exR [2, 2, 0] [4, 0] 2 (ex_rd (a := .slice (some ⟨p1, 0, none⟩) 3 3) (b := .slice (some ⟨p2, 0, none⟩) 3 3) (by repeat (first | exact Pick.head | apply Pick.tail)) (by repeat (first | exact Pick.head | apply Pick.tail)) (by repeat (first | exact Pick.head | apply Pick.tail)) hi) (RdF.of_ow (e := 2) (xs := [2, 2, 0]) encI_ok (by repeat (first | exact Pick.head | apply Pick.tail)) hi) (RdF.of_ow (e := 2) (xs := [4, 0]) encI_ok (by repeat (first | exact Pick.head | apply Pick.tail)) hi))) rfl ?_
                                       refine WO.pg rfl rfl rfl (WO.p rfl rfl (WO.p rfl rfl ?_))
                                       refine WO.guard_bl rfl rfl (fun c12 => ?_) (fun c12 => ?_)
                                       · first
                                         | (exfalso; omega)
                                         | (refine WO.go' rfl (WO.loadA rfl rfl (Cells.own (Pick.tail (Pick.tail (Pick.tail (Pick.tail (Pick.tail (Pick.tail (Pick.tail (Pick.tail (Pick.tail (Pick.tail (Pick.tail (Pick.tail (Pick.tail (Pick.tail (Pick.tail (Pick.tail (Pick.tail (Pick.tail (Pick.tail (Pick.tail (Pick.tail (Pick.tail (Pick.tail (Pick.tail (Pick.head)))))))))))))))))))))))))) rfl rfl (WO.go' rfl ?_))
                                            refine' WO.buildSl (cs := _) rfl rfl rfl rfl ?hf rfl rfl ?hl rfl (fun v23 => ?_)
                                            case hf => (conv => lhs; simp [-List.getD_eq_getElem?_getD, fillL, vcl, wrl, TTab.pl?.lget']) <;> rfl
                                            case hl => rfl
                                            refine WO.go' rfl ?_
                                            refine' WO.buildSl (cs := _) rfl rfl rfl rfl ?hf rfl rfl ?hl rfl (fun v24 => ?_)
                                            case hf => (conv => lhs; simp [-List.getD_eq_getElem?_getD, fillL, vcl, wrl, TTab.pl?.lget']) <;> rfl
                                            case hl => rfl
                                            refine WO.go' rfl ?_
                                            refine WO.callR (r := .int .i64 0) rfl Try.call11 (fun L w hi => ret_to (congrArg (Value.int .i64) ex_w2) (c_CheckTwin w 3 _ _ _ _ exR [1, 0, 0] [1, -1, 1] (ex_rd (a := .slice (some ⟨p1, 0, none⟩) 3 3) (b := .slice (some ⟨p2, 0, none⟩) 3 3) (by repeat (first | exact Pick.head | apply Pick.tail)) (by repeat (first | exact Pick.head | apply Pick.tail)) (by repeat (first | exact Pick.head | apply Pick.tail)) hi) (RdF.of_ow (e := 2) (xs := [1, 0, 0]) encI_ok (by repeat (first | exact Pick.head | apply Pick.tail)) hi) (RdF.of_ow (e := 2) (xs := [1, -1, 1]) encI_ok (by repeat (first | exact Pick.head | apply Pick.tail)) hi))) rfl ?_
                                            refine WO.pg rfl rfl rfl (WO.p rfl rfl (WO.p rfl rfl ?_))
                                            refine WO.nil ?_
                                            refine W.ret ?_
                                            exact fin.ret (Res.one rfl (RV.tmp rfl)) (congrArg Value.bool (bl_t.2 rfl)))
                                       first
                                       | (exfalso; omega)
                                       | (refine WO.no rfl rfl (WO.no rfl rfl (WO.no rfl rfl (WO.no rfl rfl (WO.no rfl rfl (WO.p rfl rfl (WO.p rfl rfl ?_))))))
                                          refine WO.nil ?_
                                          refine W.ret ?_
                                          exact fin.ret (Res.one rfl (RV.tmp rfl)) (congrArg Value.bool (bl_t.2 rfl))))
                                  first
                                  | (exfalso; omega)
                                  | (refine WO.no rfl rfl (WO.no rfl rfl (WO.no rfl rfl (WO.no rfl rfl (WO.no rfl rfl (WO.no rfl rfl (WO.p rfl rfl (WO.p rfl rfl (WO.no rfl rfl (WO.no rfl rfl (WO.no rfl rfl (WO.no rfl rfl ?_)))))))))))
                                     refine WO.no rfl rfl (WO.p rfl rfl (WO.p rfl rfl ?_))
                                     refine WO.nil ?_
                                     refine W.ret ?_
                                     exact fin.ret (Res.one rfl (RV.tmp rfl)) (congrArg Value.bool (bl_t.2 rfl))))
                             first
                             | (exfalso; omega)
                             | (refine WO.no rfl rfl (WO.no rfl rfl (WO.no rfl rfl (WO.no rfl rfl (WO.no rfl rfl (WO.p rfl rfl (WO.p rfl rfl (WO.no rfl rfl (WO.no rfl rfl (WO.no rfl rfl (WO.no rfl rfl (WO.no rfl rfl ?_)))))))))))
                                refine WO.no rfl rfl (WO.p rfl rfl (WO.p rfl rfl (WO.no rfl rfl (WO.no rfl rfl (WO.no rfl rfl (WO.no rfl rfl (WO.no rfl rfl (WO.p rfl rfl (WO.p rfl rfl ?_)))))))))
                                refine WO.nil ?_
                                refine W.ret ?_
                                exact fin.ret (Res.one rfl (RV.tmp rfl)) (congrArg Value.bool (bl_t.2 rfl))))))))))))
end Go.Proofs.Ytelmclmklkiphaa
