/-
  What is proved here: the examples hold. Conditions: none.
-/
import Derived.Test.YtgihklgpehfbpaaB29
namespace Go.Proofs.Ytgihklgpehfbpaa
open Go Go.TH
attribute [local irreducible] W WO pt
set_option maxRecDepth 10000
set_option maxHeartbeats 4000000
theorem snocE {α : Type} {enc : α → List Value} {e sz : Nat} {rv : List Value} {xss : List (List α)} {r : Value} {xs : List α} {H H1 H2 : List HP} (p : Pick (RowsE enc e sz rv xss) H H1) (q : Pick (OwE enc e sz r xs) H1 H2) {h : Hp} (hs : sat H h) : sat (RowsE enc e sz (rv ++ [r]) (xss ++ [xs]) :: H2) h := rowsSnoc p q h hs
theorem law_Hull (w : World) : Ct Try.prog 37 ([] : List Value).toArray w fun v w' => ∃ Hq, (∃ x : Value × List Value, v = .agg #[.int .i64 10, .int .i64 6, x.1] ∧ Hq = [OwC 52 1 x.1 2 x.2, RowsE encP 55 2 x.2 exRows]) ∧ Inv w [] Hq w' := by
  refine Ct.ofI mixed tyTab Try.func37 rfl rfl ?_
  refine W.sreg ?_
  refine WO.alloc rfl rfl rfl (fun b1 hb1 => ?_)
  refine WO.nil ?_
  refine W.sreg ?_
  refine' WO.build (cs := _) rfl rfl rfl ?hf rfl ?_
  case hf => (conv => lhs; simp [-List.getD_eq_getElem?_getD, fillL, vcl, wrl, TTab.pl?.lget']) <;> rfl
  refine' WO.build (cs := _) rfl rfl rfl ?hf rfl ?_
  case hf => (conv => lhs; simp [-List.getD_eq_getElem?_getD, fillL, vcl, wrl, TTab.pl?.lget']) <;> rfl
  refine' WO.buildSl (cs := _) rfl rfl rfl rfl ?hf rfl rfl ?hl rfl (fun v2 => ?_)
  case hf => (conv => lhs; simp [-List.getD_eq_getElem?_getD, fillL, vcl, wrl, TTab.pl?.lget']) <;> rfl
  case hl => rfl
  refine' WO.build (cs := _) rfl rfl rfl ?hf rfl ?_
  case hf => (conv => lhs; simp [-List.getD_eq_getElem?_getD, fillL, vcl, wrl, TTab.pl?.lget']) <;> rfl
  refine' WO.build (cs := _) rfl rfl rfl ?hf rfl ?_
  case hf => (conv => lhs; simp [-List.getD_eq_getElem?_getD, fillL, vcl, wrl, TTab.pl?.lget']) <;> rfl
  refine' WO.buildSl (cs := _) rfl rfl rfl rfl ?hf rfl rfl ?hl rfl (fun v3 => ?_)
  case hf => (conv => lhs; simp [-List.getD_eq_getElem?_getD, fillL, vcl, wrl, TTab.pl?.lget']) <;> rfl
  case hl => rfl
  refine' WO.buildSl (cs := _) rfl rfl rfl rfl ?hf rfl rfl ?hl rfl (fun v4 => ?_)
  case hf => (conv => lhs; simp [-List.getD_eq_getElem?_getD, fillL, vcl, wrl, TTab.pl?.lget']) <;> rfl
  case hl => rfl
  refine' WO.build (cs := _) rfl rfl rfl ?hf rfl ?_
  case hf => (conv => lhs; simp [-List.getD_eq_getElem?_getD, fillL, vcl, wrl, TTab.pl?.lget']) <;> rfl
  refine WO.storeA rfl rfl rfl rfl (Pick.tail (Pick.tail (Pick.tail (Pick.head)))) rfl rfl ?_
  refine WO.nil ?_
  refine W.ret ?_
  refine fin.ret (Res.one rfl (RV.cell rfl rfl rfl (Cells.own Pick.head))) ⟨(.slice (some ⟨v4, 0, none⟩) 2 2, [.slice (some ⟨v2, 0, none⟩) 2 2, .slice (some ⟨v3, 0, none⟩) 2 2]), rfl, fun h hs => ?_⟩
  have h1 := snocE (enc := encP) (e := 55) (sz := 2) (r := .slice (some ⟨v2, 0, none⟩) 2 2) (xs := [(2, 4), (6, 6)]) .head (.tail (.tail (.tail .head))) (rowsNil (enc := encP) (e := 55) (sz := 2) h hs)
  have h2 := snocE (enc := encP) (e := 55) (sz := 2) (r := .slice (some ⟨v3, 0, none⟩) 2 2) (xs := [(0, 1), (3, 3)]) .head (.tail (.tail .head)) h1
  exact Sub.sat (.cons (.tail (.tail .head)) (.cons .head .nil)) h2
theorem law_Works (w : World) : Ret Try.prog 13 ([] : List Value).toArray w (.bool true) := by
  refine Ret.of mixed tyTab Try.func13 rfl rfl ?_
  refine W.sreg ?_
  refine WO.p rfl rfl ?_
  refine WO.nil ?_
  refine W.sreg ?_
  refine WO.call (Post := fun v Hq => ∃ x : Value × List Value, v = .agg #[.int .i64 10, .int .i64 6, x.1] ∧ Hq = [OwC 52 1 x.1 2 x.2, RowsE encP 55 2 x.2 exRows]) rfl Try.call37 (fun L w hi => law_Hull w) rfl ?_
  rintro _ _ ⟨⟨o, rv⟩, rfl, rfl⟩
  refine WO.fact (OwC.form (by repeat (first | exact Pick.head | apply Pick.tail))) (fun hf => ?_)
  obtain ⟨a0, c0, rfl⟩ := hf
  refine WO.alloc rfl rfl rfl (fun b1 hb1 => ?_)
  refine WO.storeA rfl rfl rfl rfl Pick.head rfl rfl ?_
  refine WO.nil ?_
  refine W.sreg ?_
  refine' WO.buildSl (cs := _) rfl rfl rfl rfl ?hf rfl rfl ?hl rfl (fun v2 => ?_)
  case hf => (conv => lhs; simp [-List.getD_eq_getElem?_getD, fillL, vcl, wrl, TTab.pl?.lget']) <;> rfl
  case hl => rfl
  refine' WO.buildSl (cs := _) rfl rfl rfl rfl ?hf rfl rfl ?hl rfl (fun v3 => ?_)
  case hf => (conv => lhs; simp [-List.getD_eq_getElem?_getD, fillL, vcl, wrl, TTab.pl?.lget']) <;> rfl
  case hl => rfl
  refine' WO.buildSl (cs := _) rfl rfl rfl rfl ?hf rfl rfl ?hl rfl (fun v4 => ?_)
  case hf => (conv => lhs; simp [-List.getD_eq_getElem?_getD, fillL, vcl, wrl, TTab.pl?.lget']) <;> rfl
  case hl => rfl
  refine WO.p rfl rfl ?_
  refine WO.nil ?_
  refine W.chg (rowsNil (enc := encI) (e := 2) (sz := 1)) ?_
  refine W.chg (rowsSnoc (enc := encI) (e := 2) (sz := 1) (rv := []) (xss := []) (r := .slice (some ⟨v2, 0, none⟩) 2 2) (xs := [2, 6]) .head (.tail (.tail .head))) ?_
  refine W.chg (rowsSnoc (enc := encI) (e := 2) (sz := 1) (rv := [.slice (some ⟨v2, 0, none⟩) 2 2]) (xss := [[2, 6]]) (r := .slice (some ⟨v3, 0, none⟩) 2 2) (xs := [0, 3]) .head (.tail .head)) ?_
  refine W.sreg ?_
  refine WO.loadA rfl rfl (Cells.own (Pick.tail (Pick.tail (Pick.head)))) rfl rfl (WO.p rfl rfl ?_)
  refine WO.callR (r := .tuple #[.agg #[.int .i64 330, .int .i64 1], .int .i64 0]) rfl Try.call14 (fun L w hi => by rw [← ex_vol]; exact c_Volume w 10 6 _ _ _ _ exRows [[2, 6], [0, 3]] (RdR.of_ow (e := 55) (e' := 52) (n := 2) encP_ok (by repeat (first | exact Pick.head | apply Pick.tail)) (by repeat (first | exact Pick.head | apply Pick.tail)) hi) (RdR.of_ow (e := 2) (e' := 53) (n := 2) encI_ok (by repeat (first | exact Pick.head | apply Pick.tail)) (by repeat (first | exact Pick.head | apply Pick.tail)) hi)) rfl ?_
  refine WO.p rfl rfl (WO.p rfl rfl (WO.p rfl rfl ?_))
  refine WO.alloc rfl rfl rfl (fun b5 hb5 => ?_)
  refine WO.storeA rfl rfl rfl rfl Pick.head rfl rfl (WO.p rfl rfl ?_)
  refine WO.nil ?_
  refine W.sreg ?_
  refine WO.loadA rfl rfl (Cells.own (Pick.tail (Pick.tail (Pick.tail (Pick.head))))) rfl rfl (WO.p rfl rfl ?_)
  refine WO.callR (r := .tuple #[.agg #[.int .i64 81, .int .i64 11], .int .i64 0]) rfl Try.call16 (fun L w hi => by rw [← ex_val 2 (by omega) (q := (81, 11)) (by decide +kernel)]; exact c_Value w 10 6 _ _ _ _ exRows [[2, 6], [0, 3]] 2 (RdR.of_ow (e := 55) (e' := 52) (n := 2) encP_ok (by repeat (first | exact Pick.head | apply Pick.tail)) (by repeat (first | exact Pick.head | apply Pick.tail)) hi) (RdR.of_ow (e := 2) (e' := 53) (n := 2) encI_ok (by repeat (first | exact Pick.head | apply Pick.tail)) (by repeat (first | exact Pick.head | apply Pick.tail)) hi)) rfl ?_
  refine WO.p rfl rfl (WO.p rfl rfl (WO.p rfl rfl ?_))
  refine WO.alloc rfl rfl rfl (fun b6 hb6 => ?_)
  refine WO.storeA rfl rfl rfl rfl Pick.head rfl rfl (WO.p rfl rfl ?_)
  refine WO.nil ?_
  refine W.sreg ?_
  refine WO.loadA rfl rfl (Cells.own (Pick.tail (Pick.tail (Pick.tail (Pick.tail (Pick.head)))))) rfl rfl ?_
  refine WO.callR (r := .tuple #[.agg #[.int .i64 30, .int .i64 13, .int .i64 10, .int .i64 3], .int .i64 0]) rfl Try.call25 (fun L w hi => by rw [← ex_s0]; exact c_Span w 10 6 0 _ _ exRows (RdR.of_ow (e := 55) (e' := 52) (n := 2) encP_ok (by repeat (first | exact Pick.head | apply Pick.tail)) (by repeat (first | exact Pick.head | apply Pick.tail)) hi)) rfl ?_
  refine WO.p rfl rfl (WO.p rfl rfl (WO.p rfl rfl ?_))
  refine WO.alloc rfl rfl rfl (fun b7 hb7 => ?_)
  refine WO.storeA rfl rfl rfl rfl Pick.head rfl rfl (WO.p rfl rfl ?_)
  refine WO.nil ?_
  refine W.sreg ?_
  refine WO.loadA rfl rfl (Cells.own (Pick.tail (Pick.tail (Pick.tail (Pick.tail (Pick.tail (Pick.head))))))) rfl rfl ?_
  refine WO.callR (r := .tuple #[.agg #[.int .i64 27, .int .i64 7, .int .i64 54, .int .i64 11], .int .i64 0]) rfl Try.call25 (fun L w hi => by rw [← ex_s1]; exact c_Span w 10 6 1 _ _ exRows (RdR.of_ow (e := 55) (e' := 52) (n := 2) encP_ok (by repeat (first | exact Pick.head | apply Pick.tail)) (by repeat (first | exact Pick.head | apply Pick.tail)) hi)) rfl ?_
  refine WO.p rfl rfl (WO.p rfl rfl (WO.p rfl rfl ?_))
  refine WO.alloc rfl rfl rfl (fun b8 hb8 => ?_)
  refine WO.storeA rfl rfl rfl rfl Pick.head rfl rfl (WO.p rfl rfl ?_)
  refine WO.nil ?_
  refine W.sreg ?_
  refine WO.loadA rfl rfl (Cells.own (Pick.tail (Pick.tail (Pick.tail (Pick.tail (Pick.tail (Pick.tail (Pick.head)))))))) rfl rfl ?_
  refine WO.call (Post := fun v Hq => ∃ x : Value × List Value, v = .tuple #[x.1, .int .i64 0] ∧ Hq = [OwC 53 1 x.1 2 x.2, RowsE encI 2 1 x.2 [[2, 6], [1, 3]]]) rfl Try.call28 (fun L w hi => (c_End w 10 6 0 true _ _ exRows (RdR.of_ow (e := 55) (e' := 52) (n := 2) encP_ok (by repeat (first | exact Pick.head | apply Pick.tail)) (by repeat (first | exact Pick.head | apply Pick.tail)) hi)).mono (fun v w' ⟨Hq, ⟨x, ⟨e1, e2, e3⟩, e4⟩, e5⟩ => by rw [ex_plan (by omega)] at e1; have ey := ex_uniq (e2 (ex_plan (by omega))); rw [ey] at e4; exact ⟨Hq, ⟨(x.1, x.2.1), e1, e4⟩, e5⟩)) rfl ?_
  rintro _ _ ⟨⟨vE, rvE⟩, rfl, rfl⟩
  refine WO.p rfl rfl (WO.p rfl rfl (WO.p rfl rfl (WO.p rfl rfl (WO.p rfl rfl ?_))))
  refine WO.nil ?_
  refine W.sreg ?_
  refine WO.loadA rfl rfl (Cells.own (Pick.tail (Pick.tail (Pick.tail (Pick.tail (Pick.tail (Pick.tail (Pick.tail (Pick.tail (Pick.head)))))))))) rfl rfl ?_
  refine' WO.build (cs := _) rfl rfl rfl ?hf rfl ?_
  case hf => (conv => lhs; simp [-List.getD_eq_getElem?_getD, fillL, vcl, wrl, TTab.pl?.lget']) <;> rfl
  refine WO.callR (r := .int .i64 0) rfl Try.call22 (fun L w hi => by rw [← ex_b1]; exact c_CheckBound w 10 6 0 10 3 true _ _ exRows (RdR.of_ow (e := 55) (e' := 52) (n := 2) encP_ok (by repeat (first | exact Pick.head | apply Pick.tail)) (by repeat (first | exact Pick.head | apply Pick.tail)) hi)) rfl ?_
  refine WO.p rfl rfl ?_
  refine WO.nil ?_
  refine W.sreg ?_
  refine WO.loadA rfl rfl (Cells.own (Pick.tail (Pick.tail (Pick.tail (Pick.tail (Pick.tail (Pick.tail (Pick.tail (Pick.tail (Pick.head)))))))))) rfl rfl ?_
  refine' WO.build (cs := _) rfl rfl rfl ?hf rfl ?_
  case hf => (conv => lhs; simp [-List.getD_eq_getElem?_getD, fillL, vcl, wrl, TTab.pl?.lget']) <;> rfl
  refine WO.callR (r := .int .i64 14) rfl Try.call22 (fun L w hi => by rw [← ex_b2]; exact c_CheckBound w 10 6 0 3 1 true _ _ exRows (RdR.of_ow (e := 55) (e' := 52) (n := 2) encP_ok (by repeat (first | exact Pick.head | apply Pick.tail)) (by repeat (first | exact Pick.head | apply Pick.tail)) hi)) rfl ?_
  refine WO.p rfl rfl ?_
  refine WO.nil ?_
  refine W.sreg ?_
  refine WO.p rfl rfl (WO.p rfl rfl (WO.p rfl rfl ?_))
  refine WO.guard_bl rfl rfl (fun c1 => ?_) (fun c1 => ?_)
  · first
    | (exfalso; omega)
    | (refine WO.pg rfl rfl rfl (WO.pg rfl rfl rfl (WO.p rfl rfl (WO.p rfl rfl ?_)))
       refine WO.guard_bl rfl rfl (fun c2 => ?_) (fun c2 => ?_)
       · first
         | (exfalso; omega)
         | (refine WO.pg rfl rfl rfl (WO.pg rfl rfl rfl (WO.p rfl rfl (WO.p rfl rfl ?_)))
            refine WO.guard_bl rfl rfl (fun c3 => ?_) (fun c3 => ?_)
            · first
              | (exfalso; omega)
              | (refine WO.pg rfl rfl rfl (WO.pg rfl rfl rfl (WO.p rfl rfl (WO.p rfl rfl ?_)))
                 refine WO.guard_bl rfl rfl (fun c4 => ?_) (fun c4 => ?_)
                 · first
                   | (exfalso; omega)
                   | (refine WO.pg rfl rfl rfl (WO.pg rfl rfl rfl (WO.p rfl rfl (WO.p rfl rfl ?_)))
                      refine WO.guard_bl rfl rfl (fun c5 => ?_) (fun c5 => ?_)
                      · first
                        | (exfalso; omega)
                        | (refine WO.pg rfl rfl rfl (WO.pg rfl rfl rfl (WO.p rfl rfl (WO.p rfl rfl ?_)))
                           refine WO.guard_bl rfl rfl (fun c6 => ?_) (fun c6 => ?_)
                           · first
                             | (exfalso; omega)
                             | (refine WO.pg rfl rfl rfl (WO.pg rfl rfl rfl (WO.p rfl rfl (WO.p rfl rfl ?_)))
                                refine WO.guard_bl rfl rfl (fun c7 => ?_) (fun c7 => ?_)
                                · first
                                  | (exfalso; omega)
                                  | (refine WO.go' rfl (WO.loadA rfl rfl (Cells.own (Pick.tail (Pick.tail (Pick.tail (Pick.tail (Pick.tail (Pick.head))))))) rfl rfl (WO.go' rfl ?_))
                                     refine' WO.build (cs := _) rfl rfl rfl ?hf rfl ?_
                                     case hf => (conv => lhs; simp [-List.getD_eq_getElem?_getD, fillL, vcl, wrl, TTab.pl?.lget']) <;> rfl
                                     refine WO.go' rfl ?_
                                     refine WO.eqT rfl rfl (eq29t _ _) rfl ?_
                                     refine WO.p rfl rfl (WO.p rfl rfl (WO.go' rfl (WO.loadA rfl rfl (Cells.own (Pick.tail (Pick.tail (Pick.tail (Pick.tail (Pick.head)))))) rfl rfl (WO.go' rfl ?_))))
                                     refine' WO.build (cs := _) rfl rfl rfl ?hf rfl ?_
                                     case hf => (conv => lhs; simp [-List.getD_eq_getElem?_getD, fillL, vcl, wrl, TTab.pl?.lget']) <;> rfl
                                     refine WO.go' rfl ?_
                                     refine WO.eqT rfl rfl (eq29t _ _) rfl ?_
                                     refine WO.p rfl rfl (WO.p rfl rfl (WO.go' rfl (WO.loadA rfl rfl (Cells.own (Pick.tail (Pick.tail (Pick.tail (Pick.head))))) rfl rfl (WO.go' rfl ?_))))
                                     refine' WO.build (cs := _) rfl rfl rfl ?hf rfl ?_
                                     case hf => (conv => lhs; simp [-List.getD_eq_getElem?_getD, fillL, vcl, wrl, TTab.pl?.lget']) <;> rfl
                                     refine WO.go' rfl ?_
                                     refine' WO.build (cs := _) rfl rfl rfl ?hf rfl ?_
                                     case hf => (conv => lhs; simp [-List.getD_eq_getElem?_getD, fillL, vcl, wrl, TTab.pl?.lget']) <;> rfl
                                     refine WO.go' rfl ?_
                                     refine' WO.build (cs := _) rfl rfl rfl ?hf rfl ?_
                                     case hf => (conv => lhs; simp [-List.getD_eq_getElem?_getD, fillL, vcl, wrl, TTab.pl?.lget']) <;> rfl
                                     refine WO.go' rfl ?_
                                     refine WO.eqT rfl rfl (eq41t _ _ _ _) rfl ?_
                                     refine WO.p rfl rfl (WO.p rfl rfl (WO.go' rfl (WO.loadA rfl rfl (Cells.own (Pick.tail (Pick.tail (Pick.head)))) rfl rfl (WO.go' rfl ?_))))
                                     refine' WO.build (cs := _) rfl rfl rfl ?hf rfl ?_
                                     case hf => (conv => lhs; simp [-List.getD_eq_getElem?_getD, fillL, vcl, wrl, TTab.pl?.lget']) <;> rfl
                                     refine WO.go' rfl ?_
                                     refine' WO.build (cs := _) rfl rfl rfl ?hf rfl ?_
                                     case hf => (conv => lhs; simp [-List.getD_eq_getElem?_getD, fillL, vcl, wrl, TTab.pl?.lget']) <;> rfl
                                     refine WO.go' rfl ?_
                                     refine' WO.build (cs := _) rfl rfl rfl ?hf rfl ?_
                                     case hf => (conv => lhs; simp [-List.getD_eq_getElem?_getD, fillL, vcl, wrl, TTab.pl?.lget']) <;> rfl
                                     refine WO.go' rfl ?_
                                     refine WO.eqT rfl rfl (eq41t _ _ _ _) rfl ?_
                                     refine WO.p rfl rfl (WO.p rfl rfl (WO.pg rfl rfl rfl (WO.go' rfl ?_)))
                                     refine' WO.buildSl (cs := _) rfl rfl rfl rfl ?hf rfl rfl ?hl rfl (fun v9 => ?_)
                                     case hf => (conv => lhs; simp [-List.getD_eq_getElem?_getD, fillL, vcl, wrl, TTab.pl?.lget']) <;> rfl
                                     case hl => rfl
                                     refine WO.go' rfl ?_
                                     refine' WO.buildSl (cs := _) rfl rfl rfl rfl ?hf rfl rfl ?hl rfl (fun v10 => ?_)
                                     case hf => (conv => lhs; simp [-List.getD_eq_getElem?_getD, fillL, vcl, wrl, TTab.pl?.lget']) <;> rfl
                                     case hl => rfl
                                     refine WO.go' rfl ?_
                                     refine' WO.buildSl (cs := _) rfl rfl rfl rfl ?hf rfl rfl ?hl rfl (fun v11 => ?_)
                                     case hf => (conv => lhs; simp [-List.getD_eq_getElem?_getD, fillL, vcl, wrl, TTab.pl?.lget']) <;> rfl
                                     case hl => rfl
                                     refine WO.go' rfl ?_
                                     refine WO.chg (rowsNil (enc := encI) (e := 2) (sz := 1)) ?_
                                     refine WO.chg (rowsSnoc (enc := encI) (e := 2) (sz := 1) (rv := []) (xss := []) (r := .slice (some ⟨v9, 0, none⟩) 2 2) (xs := [2, 6]) .head (by repeat (first | exact Pick.head | apply Pick.tail))) ?_
                                     refine WO.chg (rowsSnoc (enc := encI) (e := 2) (sz := 1) (rv := [.slice (some ⟨v9, 0, none⟩) 2 2]) (xss := [[2, 6]]) (r := .slice (some ⟨v10, 0, none⟩) 2 2) (xs := [1, 3]) .head (by repeat (first | exact Pick.head | apply Pick.tail))) ?_
                                     refine WO.callR (r := .bool true) rfl Try.call38 (fun L w hi => law_same w _ _ rvE [.slice (some ⟨v9, 0, none⟩) 2 2, .slice (some ⟨v10, 0, none⟩) 2 2] [[2, 6], [1, 3]] [[2, 6], [1, 3]] (RdR.of_ow (e := 2) (e' := 53) (n := 2) encI_ok (by repeat (first | exact Pick.head | apply Pick.tail)) (by repeat (first | exact Pick.head | apply Pick.tail)) hi) (RdR.of_ow (e := 2) (e' := 53) (n := 2) encI_ok (by repeat (first | exact Pick.head | apply Pick.tail)) (by repeat (first | exact Pick.head | apply Pick.tail)) hi)) rfl ?_
                                     refine WO.p rfl rfl (WO.p rfl rfl ?_)
                                     refine WO.nil ?_
                                     refine W.ret ?_
                                     exact fin.ret (Res.one rfl (RV.tmp rfl)) rfl)
                                · first
                                  | (exfalso; omega)
                                  | (refine WO.no rfl rfl (WO.no rfl rfl (WO.no rfl rfl (WO.p rfl rfl (WO.p rfl rfl (WO.no rfl rfl (WO.no rfl rfl (WO.no rfl rfl (WO.p rfl rfl (WO.p rfl rfl (WO.no rfl rfl (WO.no rfl rfl ?_)))))))))))
                                     refine WO.no rfl rfl (WO.no rfl rfl (WO.no rfl rfl (WO.p rfl rfl (WO.p rfl rfl (WO.no rfl rfl (WO.no rfl rfl (WO.no rfl rfl (WO.no rfl rfl (WO.no rfl rfl (WO.p rfl rfl (WO.p rfl rfl ?_)))))))))))
                                     refine WO.no rfl rfl (WO.no rfl rfl (WO.no rfl rfl (WO.no rfl rfl (WO.no rfl rfl (WO.p rfl rfl (WO.p rfl rfl ?_))))))
                                     refine WO.nil ?_
                                     refine W.ret ?_
                                     exact fin.ret (Res.one rfl (RV.tmp rfl)) rfl))
                           · first
                             | (exfalso; omega)
                             | (refine WO.no rfl rfl (WO.no rfl rfl (WO.p rfl rfl (WO.p rfl rfl (WO.no rfl rfl (WO.no rfl rfl (WO.no rfl rfl (WO.p rfl rfl (WO.p rfl rfl (WO.no rfl rfl (WO.no rfl rfl (WO.no rfl rfl ?_)))))))))))
                                refine WO.p rfl rfl (WO.p rfl rfl (WO.no rfl rfl (WO.no rfl rfl (WO.no rfl rfl (WO.no rfl rfl (WO.no rfl rfl (WO.p rfl rfl (WO.p rfl rfl (WO.no rfl rfl (WO.no rfl rfl (WO.no rfl rfl ?_)))))))))))
                                refine WO.no rfl rfl (WO.no rfl rfl (WO.p rfl rfl (WO.p rfl rfl (WO.no rfl rfl (WO.no rfl rfl (WO.no rfl rfl (WO.no rfl rfl (WO.no rfl rfl (WO.p rfl rfl (WO.p rfl rfl ?_))))))))))
                                refine WO.nil ?_
                                refine W.ret ?_
                                exact fin.ret (Res.one rfl (RV.tmp rfl)) rfl))
                      · first
                        | (exfalso; omega)
                        | (refine WO.no rfl rfl (WO.no rfl rfl (WO.p rfl rfl (WO.p rfl rfl (WO.no rfl rfl (WO.no rfl rfl (WO.p rfl rfl (WO.p rfl rfl (WO.no rfl rfl (WO.no rfl rfl (WO.no rfl rfl (WO.p rfl rfl ?_)))))))))))
                           refine WO.p rfl rfl (WO.no rfl rfl (WO.no rfl rfl (WO.no rfl rfl (WO.p rfl rfl (WO.p rfl rfl (WO.no rfl rfl (WO.no rfl rfl (WO.no rfl rfl (WO.no rfl rfl (WO.no rfl rfl (WO.p rfl rfl ?_)))))))))))
                           refine WO.p rfl rfl (WO.no rfl rfl (WO.no rfl rfl (WO.no rfl rfl (WO.no rfl rfl (WO.no rfl rfl (WO.p rfl rfl (WO.p rfl rfl (WO.no rfl rfl (WO.no rfl rfl (WO.no rfl rfl (WO.no rfl rfl ?_)))))))))))
                           refine WO.no rfl rfl (WO.p rfl rfl (WO.p rfl rfl ?_))
                           refine WO.nil ?_
                           refine W.ret ?_
                           exact fin.ret (Res.one rfl (RV.tmp rfl)) rfl))
                 · first
                   | (exfalso; omega)
                   | (refine WO.no rfl rfl (WO.no rfl rfl (WO.p rfl rfl (WO.p rfl rfl (WO.no rfl rfl (WO.no rfl rfl (WO.p rfl rfl (WO.p rfl rfl (WO.no rfl rfl (WO.no rfl rfl (WO.p rfl rfl (WO.p rfl rfl ?_)))))))))))
                      refine WO.no rfl rfl (WO.no rfl rfl (WO.no rfl rfl (WO.p rfl rfl (WO.p rfl rfl (WO.no rfl rfl (WO.no rfl rfl (WO.no rfl rfl (WO.p rfl rfl (WO.p rfl rfl (WO.no rfl rfl (WO.no rfl rfl ?_)))))))))))
                      refine WO.no rfl rfl (WO.no rfl rfl (WO.no rfl rfl (WO.p rfl rfl (WO.p rfl rfl (WO.no rfl rfl (WO.no rfl rfl (WO.no rfl rfl (WO.no rfl rfl (WO.no rfl rfl (WO.p rfl rfl (WO.p rfl rfl ?_)))))))))))
                      refine WO.no rfl rfl (WO.no rfl rfl (WO.no rfl rfl (WO.no rfl rfl (WO.no rfl rfl (WO.p rfl rfl (WO.p rfl rfl ?_))))))
                      refine WO.nil ?_
                      refine W.ret ?_
                      exact fin.ret (Res.one rfl (RV.tmp rfl)) rfl))
            · first
              | (exfalso; omega)
              | (refine WO.no rfl rfl (WO.no rfl rfl (WO.p rfl rfl (WO.p rfl rfl (WO.no rfl rfl (WO.no rfl rfl (WO.p rfl rfl (WO.p rfl rfl (WO.no rfl rfl (WO.no rfl rfl (WO.p rfl rfl (WO.p rfl rfl ?_)))))))))))
                 refine WO.no rfl rfl (WO.no rfl rfl (WO.p rfl rfl (WO.p rfl rfl (WO.no rfl rfl (WO.no rfl rfl (WO.no rfl rfl (WO.p rfl rfl (WO.p rfl rfl (WO.no rfl rfl (WO.no rfl rfl (WO.no rfl rfl ?_)))))))))))
                 refine WO.p rfl rfl (WO.p rfl rfl (WO.no rfl rfl (WO.no rfl rfl (WO.no rfl rfl (WO.no rfl rfl (WO.no rfl rfl (WO.p rfl rfl (WO.p rfl rfl (WO.no rfl rfl (WO.no rfl rfl (WO.no rfl rfl ?_)))))))))))
                 refine WO.no rfl rfl (WO.no rfl rfl (WO.p rfl rfl (WO.p rfl rfl (WO.no rfl rfl (WO.no rfl rfl (WO.no rfl rfl (WO.no rfl rfl (WO.no rfl rfl (WO.p rfl rfl (WO.p rfl rfl ?_))))))))))
                 refine WO.nil ?_
                 refine W.ret ?_
                 exact fin.ret (Res.one rfl (RV.tmp rfl)) rfl))
       · first
         | (exfalso; omega)
         | (refine WO.no rfl rfl (WO.no rfl rfl (WO.p rfl rfl (WO.p rfl rfl (WO.no rfl rfl (WO.no rfl rfl (WO.p rfl rfl (WO.p rfl rfl (WO.no rfl rfl (WO.no rfl rfl (WO.p rfl rfl (WO.p rfl rfl ?_)))))))))))
            refine WO.no rfl rfl (WO.no rfl rfl (WO.p rfl rfl (WO.p rfl rfl (WO.no rfl rfl (WO.no rfl rfl (WO.p rfl rfl (WO.p rfl rfl (WO.no rfl rfl (WO.no rfl rfl (WO.no rfl rfl (WO.p rfl rfl ?_)))))))))))
            refine WO.p rfl rfl (WO.no rfl rfl (WO.no rfl rfl (WO.no rfl rfl (WO.p rfl rfl (WO.p rfl rfl (WO.no rfl rfl (WO.no rfl rfl (WO.no rfl rfl (WO.no rfl rfl (WO.no rfl rfl (WO.p rfl rfl ?_)))))))))))
            refine WO.p rfl rfl (WO.no rfl rfl (WO.no rfl rfl (WO.no rfl rfl (WO.no rfl rfl (WO.no rfl rfl (WO.p rfl rfl (WO.p rfl rfl (WO.no rfl rfl (WO.no rfl rfl (WO.no rfl rfl (WO.no rfl rfl ?_)))))))))))
            refine WO.no rfl rfl (WO.p rfl rfl (WO.p rfl rfl ?_))
            refine WO.nil ?_
            refine W.ret ?_
            exact fin.ret (Res.one rfl (RV.tmp rfl)) rfl))
  · first
    | (exfalso; omega)
    | (refine WO.no rfl rfl (WO.no rfl rfl (WO.p rfl rfl (WO.p rfl rfl (WO.no rfl rfl (WO.no rfl rfl (WO.p rfl rfl (WO.p rfl rfl (WO.no rfl rfl (WO.no rfl rfl (WO.p rfl rfl (WO.p rfl rfl ?_)))))))))))
       refine WO.no rfl rfl (WO.no rfl rfl (WO.p rfl rfl (WO.p rfl rfl (WO.no rfl rfl (WO.no rfl rfl (WO.p rfl rfl (WO.p rfl rfl (WO.no rfl rfl (WO.no rfl rfl (WO.p rfl rfl (WO.p rfl rfl ?_)))))))))))
       refine WO.no rfl rfl (WO.no rfl rfl (WO.no rfl rfl (WO.p rfl rfl (WO.p rfl rfl (WO.no rfl rfl (WO.no rfl rfl (WO.no rfl rfl (WO.p rfl rfl (WO.p rfl rfl (WO.no rfl rfl (WO.no rfl rfl ?_)))))))))))
       refine WO.no rfl rfl (WO.no rfl rfl (WO.no rfl rfl (WO.p rfl rfl (WO.p rfl rfl (WO.no rfl rfl (WO.no rfl rfl (WO.no rfl rfl (WO.no rfl rfl (WO.no rfl rfl (WO.p rfl rfl (WO.p rfl rfl ?_)))))))))))
       refine WO.no rfl rfl (WO.no rfl rfl (WO.no rfl rfl (WO.no rfl rfl (WO.no rfl rfl (WO.p rfl rfl (WO.p rfl rfl ?_))))))
       refine WO.nil ?_
       refine W.ret ?_
       exact fin.ret (Res.one rfl (RV.tmp rfl)) rfl)
end Go.Proofs.Ytgihklgpehfbpaa

