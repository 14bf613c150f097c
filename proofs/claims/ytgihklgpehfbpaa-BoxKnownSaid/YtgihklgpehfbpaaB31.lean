/-
  What is proved here: the law of the chapter's examples holds. Conditions: none.
-/
import Derived.Test.YtgihklgpehfbpaaB30
namespace Go.Proofs.Ytgihklgpehfbpaa
open Go Go.TH
attribute [local irreducible] W WO pt
set_option maxRecDepth 10000
set_option maxHeartbeats 4000000
theorem ex_vols : volsR 10 6 exRows = .tuple #[.agg #[.int .i64 330, .int .i64 1, .int .i64 420, .int .i64 1], .int .i64 0] := by
  rw [← vols_o ex_hv, show volQ 10 6 (endsOf false exRows) = (330, 1) by decide +kernel, show volQ 10 6 (endsOf true exRows) = (420, 1) by decide +kernel]; rfl
theorem law_BoxKnown (w : World) : Ret Try.prog 11 ([] : List Value).toArray w (.bool true) := by
  refine Ret.of mixed tyTab Try.func11 rfl rfl ?_
  refine W.sreg ?_
  refine WO.p rfl rfl ?_
  refine WO.nil ?_
  refine W.sreg ?_
  refine WO.call (Post := fun v Hq => ∃ x : Value × List Value, v = .agg #[.int .i64 10, .int .i64 6, x.1] ∧ Hq = [OwC 52 1 x.1 2 x.2, RowsE encP 55 2 x.2 exRows]) rfl Try.call37 (fun L w hi => law_Hull w) rfl ?_
  rintro _ _ ⟨⟨o, rv⟩, rfl, rfl⟩
  refine WO.fact (OwC.form (by repeat (first | exact Pick.head | apply Pick.tail))) (fun hf => ?_)
  obtain ⟨a0, c0, rfl⟩ := hf
  refine WO.alloc rfl rfl rfl (fun b1 hb1 => ?_)
  refine WO.storeA rfl rfl rfl rfl Pick.head rfl rfl ?_
  refine WO.nil ?_
  refine W.sreg ?_
  refine' WO.buildSl (cs := _) rfl rfl rfl rfl ?hf rfl rfl ?hl rfl (fun v2 => ?_)
  case hf => (conv => lhs; simp [-List.getD_eq_getElem?_getD, fillL, vcl, wrl, TTab.pl?.lget']) <;> rfl
  case hl => rfl
  refine' WO.buildSl (cs := _) rfl rfl rfl rfl ?hf rfl rfl ?hl rfl (fun v3 => ?_)
  case hf => (conv => lhs; simp [-List.getD_eq_getElem?_getD, fillL, vcl, wrl, TTab.pl?.lget']) <;> rfl
  case hl => rfl
  refine' WO.buildSl (cs := _) rfl rfl rfl rfl ?hf rfl rfl ?hl rfl (fun v4 => ?_)
  case hf => (conv => lhs; simp [-List.getD_eq_getElem?_getD, fillL, vcl, wrl, TTab.pl?.lget']) <;> rfl
  case hl => rfl
  refine WO.p rfl rfl ?_
  refine WO.nil ?_
  refine W.chg (rowsNil (enc := encI) (e := 2) (sz := 1)) ?_
  refine W.chg (rowsSnoc (enc := encI) (e := 2) (sz := 1) (rv := []) (xss := []) (r := .slice (some ⟨v2, 0, none⟩) 2 2) (xs := [2, 6]) .head (.tail (.tail .head))) ?_
  refine W.chg (rowsSnoc (enc := encI) (e := 2) (sz := 1) (rv := [.slice (some ⟨v2, 0, none⟩) 2 2]) (xss := [[2, 6]]) (r := .slice (some ⟨v3, 0, none⟩) 2 2) (xs := [0, 3]) .head (.tail .head)) ?_
  refine W.sreg ?_
  refine WO.loadA rfl rfl (Cells.own (Pick.tail (Pick.tail (Pick.head)))) rfl rfl (WO.p rfl rfl ?_)
  refine WO.callR (r := .tuple #[.agg #[.int .i64 30, .int .i64 11], .int .i64 0]) rfl Try.call16 (fun L w hi => by rw [← ex_val 0 (by omega) (q := (30, 11)) (by decide +kernel)]; exact c_Value w 10 6 _ _ _ _ exRows [[2, 6], [0, 3]] 0 (RdR.of_ow (e := 55) (e' := 52) (n := 2) encP_ok (by repeat (first | exact Pick.head | apply Pick.tail)) (by repeat (first | exact Pick.head | apply Pick.tail)) hi) (RdR.of_ow (e := 2) (e' := 53) (n := 2) encI_ok (by repeat (first | exact Pick.head | apply Pick.tail)) (by repeat (first | exact Pick.head | apply Pick.tail)) hi)) rfl ?_
  refine WO.p rfl rfl (WO.p rfl rfl (WO.p rfl rfl ?_))
  refine WO.alloc rfl rfl rfl (fun b5 hb5 => ?_)
  refine WO.storeA rfl rfl rfl rfl Pick.head rfl rfl (WO.p rfl rfl ?_)
  refine WO.nil ?_
  refine W.sreg ?_
  refine WO.loadA rfl rfl (Cells.own (Pick.tail (Pick.tail (Pick.tail (Pick.head))))) rfl rfl (WO.p rfl rfl ?_)
  refine WO.callR (r := .tuple #[.agg #[.int .i64 54, .int .i64 11], .int .i64 0]) rfl Try.call16 (fun L w hi => by rw [← ex_val 1 (by omega) (q := (54, 11)) (by decide +kernel)]; exact c_Value w 10 6 _ _ _ _ exRows [[2, 6], [0, 3]] 1 (RdR.of_ow (e := 55) (e' := 52) (n := 2) encP_ok (by repeat (first | exact Pick.head | apply Pick.tail)) (by repeat (first | exact Pick.head | apply Pick.tail)) hi) (RdR.of_ow (e := 2) (e' := 53) (n := 2) encI_ok (by repeat (first | exact Pick.head | apply Pick.tail)) (by repeat (first | exact Pick.head | apply Pick.tail)) hi)) rfl ?_
  refine WO.p rfl rfl (WO.p rfl rfl (WO.p rfl rfl ?_))
  refine WO.alloc rfl rfl rfl (fun b6 hb6 => ?_)
  refine WO.storeA rfl rfl rfl rfl Pick.head rfl rfl (WO.p rfl rfl ?_)
  refine WO.nil ?_
  refine W.sreg ?_
  refine WO.loadA rfl rfl (Cells.own (Pick.tail (Pick.tail (Pick.tail (Pick.tail (Pick.head)))))) rfl rfl ?_
  refine WO.callR (r := .tuple #[.agg #[.int .i64 330, .int .i64 1, .int .i64 420, .int .i64 1], .int .i64 0]) rfl Try.call34 (fun L w hi => by rw [← ex_vols]; exact c_Volumes w 10 6 _ _ exRows (RdR.of_ow (e := 55) (e' := 52) (n := 2) encP_ok (by repeat (first | exact Pick.head | apply Pick.tail)) (by repeat (first | exact Pick.head | apply Pick.tail)) hi)) rfl ?_
  refine WO.p rfl rfl (WO.p rfl rfl (WO.p rfl rfl ?_))
  refine WO.alloc rfl rfl rfl (fun b7 hb7 => ?_)
  refine WO.storeA rfl rfl rfl rfl Pick.head rfl rfl (WO.p rfl rfl ?_)
  refine WO.nil ?_
  refine W.sreg ?_
  refine WO.loadA rfl rfl (Cells.own (Pick.tail (Pick.tail (Pick.tail (Pick.tail (Pick.tail (Pick.head))))))) rfl rfl ?_
  refine' WO.build (cs := _) rfl rfl rfl ?hf rfl ?_
  case hf => (conv => lhs; simp [-List.getD_eq_getElem?_getD, fillL, vcl, wrl, TTab.pl?.lget']) <;> rfl
  refine WO.callR (r := .int .i64 0) rfl Try.call22 (fun L w hi => by rw [← ex_b3]; exact c_CheckBound w 10 6 0 30 13 false _ _ exRows (RdR.of_ow (e := 55) (e' := 52) (n := 2) encP_ok (by repeat (first | exact Pick.head | apply Pick.tail)) (by repeat (first | exact Pick.head | apply Pick.tail)) hi)) rfl ?_
  refine WO.p rfl rfl ?_
  refine WO.nil ?_
  refine W.sreg ?_
  refine WO.p rfl rfl (WO.p rfl rfl (WO.p rfl rfl ?_))
  refine WO.guard_bl rfl rfl (fun c1 => ?_) (fun c1 => ?_)
  · first
    | (exfalso; omega)
    | (refine WO.pg rfl rfl rfl (WO.pg rfl rfl rfl (WO.p rfl rfl (WO.p rfl rfl ?_)))
       refine WO.guard_bl rfl rfl (fun c2 => ?_) (fun c2 => ?_)
       · first
         | (exfalso; omega)
         | (refine WO.pg rfl rfl rfl (WO.pg rfl rfl rfl (WO.p rfl rfl (WO.p rfl rfl ?_)))
            refine WO.guard_bl rfl rfl (fun c3 => ?_) (fun c3 => ?_)
            · first
              | (exfalso; omega)
              | (refine WO.pg rfl rfl rfl (WO.pg rfl rfl rfl (WO.p rfl rfl (WO.p rfl rfl ?_)))
                 refine WO.guard_bl rfl rfl (fun c4 => ?_) (fun c4 => ?_)
                 · first
                   | (exfalso; omega)
                   | (refine WO.go' rfl (WO.loadA rfl rfl (Cells.own (Pick.tail (Pick.tail (Pick.head)))) rfl rfl (WO.go' rfl ?_))
                      refine' WO.build (cs := _) rfl rfl rfl ?hf rfl ?_
                      case hf => (conv => lhs; simp [-List.getD_eq_getElem?_getD, fillL, vcl, wrl, TTab.pl?.lget']) <;> rfl
                      refine WO.go' rfl ?_
                      refine WO.eqT rfl rfl (eq29t _ _) rfl ?_
                      refine WO.p rfl rfl (WO.p rfl rfl (WO.go' rfl (WO.loadA rfl rfl (Cells.own (Pick.tail (Pick.head))) rfl rfl (WO.go' rfl ?_))))
                      refine' WO.build (cs := _) rfl rfl rfl ?hf rfl ?_
                      case hf => (conv => lhs; simp [-List.getD_eq_getElem?_getD, fillL, vcl, wrl, TTab.pl?.lget']) <;> rfl
                      refine WO.go' rfl ?_
                      refine WO.eqT rfl rfl (eq29t _ _) rfl ?_
                      refine WO.p rfl rfl (WO.p rfl rfl (WO.go' rfl (WO.loadA rfl rfl (Cells.own Pick.head) rfl rfl (WO.go' rfl ?_))))
                      refine' WO.build (cs := _) rfl rfl rfl ?hf rfl ?_
                      case hf => (conv => lhs; simp [-List.getD_eq_getElem?_getD, fillL, vcl, wrl, TTab.pl?.lget']) <;> rfl
                      refine WO.go' rfl ?_
                      refine' WO.build (cs := _) rfl rfl rfl ?hf rfl ?_
                      case hf => (conv => lhs; simp [-List.getD_eq_getElem?_getD, fillL, vcl, wrl, TTab.pl?.lget']) <;> rfl
                      refine WO.go' rfl ?_
                      refine' WO.build (cs := _) rfl rfl rfl ?hf rfl ?_
                      case hf => (conv => lhs; simp [-List.getD_eq_getElem?_getD, fillL, vcl, wrl, TTab.pl?.lget']) <;> rfl
                      refine WO.go' rfl ?_
                      refine WO.eqT rfl rfl (eq41t _ _ _ _) rfl ?_
                      refine WO.p rfl rfl (WO.p rfl rfl (WO.go' rfl ?_))
                      refine WO.callR rfl Try.call13 (fun L w hi => law_Works w) rfl ?_
                      refine WO.p rfl rfl (WO.p rfl rfl ?_)
                      refine WO.nil ?_
                      refine W.ret ?_
                      exact fin.ret (Res.one rfl (RV.tmp rfl)) rfl)
                 · first
                   | (exfalso; omega)
                   | (refine WO.no rfl rfl (WO.no rfl rfl (WO.no rfl rfl (WO.p rfl rfl (WO.p rfl rfl (WO.no rfl rfl (WO.no rfl rfl (WO.no rfl rfl (WO.p rfl rfl (WO.p rfl rfl (WO.no rfl rfl (WO.no rfl rfl ?_)))))))))))
                      refine WO.no rfl rfl (WO.no rfl rfl (WO.no rfl rfl (WO.p rfl rfl (WO.p rfl rfl (WO.no rfl rfl (WO.p rfl rfl (WO.p rfl rfl ?_)))))))
                      refine WO.nil ?_
                      refine W.ret ?_
                      exact fin.ret (Res.one rfl (RV.tmp rfl)) rfl))
            · first
              | (exfalso; omega)
              | (refine WO.no rfl rfl (WO.no rfl rfl (WO.p rfl rfl (WO.p rfl rfl (WO.no rfl rfl (WO.no rfl rfl (WO.no rfl rfl (WO.p rfl rfl (WO.p rfl rfl (WO.no rfl rfl (WO.no rfl rfl (WO.no rfl rfl ?_)))))))))))
                 refine WO.p rfl rfl (WO.p rfl rfl (WO.no rfl rfl (WO.no rfl rfl (WO.no rfl rfl (WO.no rfl rfl (WO.no rfl rfl (WO.p rfl rfl (WO.p rfl rfl (WO.no rfl rfl (WO.p rfl rfl (WO.p rfl rfl ?_)))))))))))
                 refine WO.nil ?_
                 refine W.ret ?_
                 exact fin.ret (Res.one rfl (RV.tmp rfl)) rfl))
       · first
         | (exfalso; omega)
         | (refine WO.no rfl rfl (WO.no rfl rfl (WO.p rfl rfl (WO.p rfl rfl (WO.no rfl rfl (WO.no rfl rfl (WO.p rfl rfl (WO.p rfl rfl (WO.no rfl rfl (WO.no rfl rfl (WO.no rfl rfl (WO.p rfl rfl ?_)))))))))))
            refine WO.p rfl rfl (WO.no rfl rfl (WO.no rfl rfl (WO.no rfl rfl (WO.p rfl rfl (WO.p rfl rfl (WO.no rfl rfl (WO.no rfl rfl (WO.no rfl rfl (WO.no rfl rfl (WO.no rfl rfl (WO.p rfl rfl ?_)))))))))))
            refine WO.p rfl rfl (WO.no rfl rfl (WO.p rfl rfl (WO.p rfl rfl ?_)))
            refine WO.nil ?_
            refine W.ret ?_
            exact fin.ret (Res.one rfl (RV.tmp rfl)) rfl))
  · first
    | (exfalso; omega)
    | (refine WO.no rfl rfl (WO.no rfl rfl (WO.p rfl rfl (WO.p rfl rfl (WO.no rfl rfl (WO.no rfl rfl (WO.p rfl rfl (WO.p rfl rfl (WO.no rfl rfl (WO.no rfl rfl (WO.p rfl rfl (WO.p rfl rfl ?_)))))))))))
       refine WO.no rfl rfl (WO.no rfl rfl (WO.no rfl rfl (WO.p rfl rfl (WO.p rfl rfl (WO.no rfl rfl (WO.no rfl rfl (WO.no rfl rfl (WO.p rfl rfl (WO.p rfl rfl (WO.no rfl rfl (WO.no rfl rfl ?_)))))))))))
       refine WO.no rfl rfl (WO.no rfl rfl (WO.no rfl rfl (WO.p rfl rfl (WO.p rfl rfl (WO.no rfl rfl (WO.p rfl rfl (WO.p rfl rfl ?_)))))))
       refine WO.nil ?_
       refine W.ret ?_
       exact fin.ret (Res.one rfl (RV.tmp rfl)) rfl)
end Go.Proofs.Ytgihklgpehfbpaa

