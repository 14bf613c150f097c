/-
  What is proved here: the law TurnKnown. Conditions: none; each contract states its own.
-/
import Derived.Test.YtkhplcncfogolaaM8
namespace Go.Proofs.Ytkhplcncfogolaa
open Go Go.TH
attribute [local irreducible] W WO pt
set_option maxRecDepth 10000
set_option maxHeartbeats 1000000
theorem kn_thr : thrV (0, 0) (1, 1) (3, 3) = .tuple #[cirV ⟨0, 0, 0, 0, 0⟩, .int .i64 5] := thrV_5 (by decide +kernel) (by decide +kernel)
theorem kn_h1 : holdsV ⟨2, 0, 1, 4, 1⟩ (2, 1) = .tuple #[.bool true, .bool false, .int .i64 0] := by
  unfold holdsV
  rw [if_pos (by decide +kernel), if_pos (by decide +kernel), show bl (whr ⟨2, 0, 1, 4, 1⟩ (2, 1) ≤ 0) = true from bl_t.2 (by decide +kernel), show bl (whr ⟨2, 0, 1, 4, 1⟩ (2, 1) = 0) = false from bl_f.2 (by decide +kernel)]
theorem kn_h2 : holdsV ⟨2, 0, 1, 4, 1⟩ (3, 2) = .tuple #[.bool false, .bool false, .int .i64 0] := by
  unfold holdsV
  rw [if_pos (by decide +kernel), if_pos (by decide +kernel), show bl (whr ⟨2, 0, 1, 4, 1⟩ (3, 2) ≤ 0) = false from bl_f.2 (by decide +kernel), show bl (whr ⟨2, 0, 1, 4, 1⟩ (3, 2) = 0) = false from bl_f.2 (by decide +kernel)]
theorem kn_cr : crV highL [1, 2] = .tuple #[cirV ⟨6, 3, 2, 13, 4⟩, .int .i64 0] := by
  unfold crV; rw [show crC highL [1, 2] = ⟨6, 3, 2, 13, 4⟩ by decide +kernel, show crE highL [1, 2] = 0 by decide +kernel]
theorem kn_c1 : chkCL ⟨2, 0, 1, 4, 1⟩ wideL = 0 := by decide +kernel
theorem kn_c2 : chkCL ⟨2, 0, 1, 4, 1⟩ highL = 4 := by decide +kernel
theorem law_TurnKnown (w : World) : Ret Try.prog 13 ([] : List Value).toArray w (.bool true) := by
  refine Ret.of mixed tyTab Try.func13 rfl rfl ?_
  refine W.sreg ?_
  refine WO.p rfl rfl ?_
  refine WO.nil ?_
  refine W.sreg ?_
  refine' WO.build (cs := _) rfl rfl rfl ?hf rfl ?_
  case hf => (conv => lhs; simp [-List.getD_eq_getElem?_getD, fillL, vcl, wrl, TTab.pl?.lget']) <;> rfl
  refine' WO.build (cs := _) rfl rfl rfl ?hf rfl ?_
  case hf => (conv => lhs; simp [-List.getD_eq_getElem?_getD, fillL, vcl, wrl, TTab.pl?.lget']) <;> rfl
  refine' WO.build (cs := _) rfl rfl rfl ?hf rfl ?_
  case hf => (conv => lhs; simp [-List.getD_eq_getElem?_getD, fillL, vcl, wrl, TTab.pl?.lget']) <;> rfl
  refine WO.callR (r := .tuple #[cirV ⟨0, 0, 0, 0, 0⟩, .int .i64 5]) rfl Try.call28 (fun L w hi => by have h := c_Through w (0, 0) (1, 1) (3, 3); rw [kn_thr] at h; exact h) rfl ?_
  refine WO.p rfl rfl (WO.p rfl rfl (WO.p rfl rfl ?_))
  refine WO.alloc rfl rfl rfl (fun b1 hb1 => ?_)
  refine WO.storeA rfl rfl rfl rfl Pick.head rfl rfl (WO.p rfl rfl ?_)
  refine WO.nil ?_
  refine W.sreg ?_
  refine WO.callR rfl Try.call42 (fun L w hi => law_ring w _ _ _ _ _) rfl ?_
  refine WO.alloc rfl rfl rfl (fun b2 hb2 => ?_)
  refine WO.storeA rfl rfl rfl rfl Pick.head rfl rfl ?_
  refine WO.nil ?_
  refine W.sreg ?_
  refine WO.loadA rfl rfl (Cells.own Pick.head) rfl rfl ?_
  refine' WO.build (cs := _) rfl rfl rfl ?hf rfl ?_
  case hf => (conv => lhs; simp [-List.getD_eq_getElem?_getD, fillL, vcl, wrl, TTab.pl?.lget']) <;> rfl
  refine WO.callR (r := .tuple #[.bool true, .bool false, .int .i64 0]) rfl Try.call24 (fun L w hi => by have h := c_Holds w ⟨2, 0, 1, 4, 1⟩ (2, 1); rw [kn_h1] at h; exact h) rfl ?_
  refine WO.p rfl rfl (WO.p rfl rfl (WO.p rfl rfl (WO.p rfl rfl (WO.p rfl rfl (WO.p rfl rfl (WO.p rfl rfl ?_))))))
  refine WO.nil ?_
  refine W.sreg ?_
  refine WO.loadA rfl rfl (Cells.own Pick.head) rfl rfl ?_
  refine' WO.build (cs := _) rfl rfl rfl ?hf rfl ?_
  case hf => (conv => lhs; simp [-List.getD_eq_getElem?_getD, fillL, vcl, wrl, TTab.pl?.lget']) <;> rfl
  refine WO.callR (r := .tuple #[.bool false, .bool false, .int .i64 0]) rfl Try.call24 (fun L w hi => by have h := c_Holds w ⟨2, 0, 1, 4, 1⟩ (3, 2); rw [kn_h2] at h; exact h) rfl ?_
  refine WO.p rfl rfl (WO.p rfl rfl (WO.p rfl rfl (WO.p rfl rfl (WO.p rfl rfl (WO.p rfl rfl (WO.p rfl rfl ?_))))))
  refine WO.nil ?_
  refine W.sreg ?_
  refine WO.call (Post := fun r Hq => Hq = [OwE encP 39 2 r highL]) rfl Try.call43 (fun L w hi => law_High w) rfl ?_
  rintro tv _ rfl
  refine' WO.buildSl (cs := _) rfl rfl rfl rfl ?hf rfl rfl ?hl rfl (fun v3 => ?_)
  case hf => (conv => lhs; simp [-List.getD_eq_getElem?_getD, fillL, vcl, wrl, TTab.pl?.lget']) <;> rfl
  case hl => rfl
  refine WO.callR (r := .tuple #[cirV ⟨6, 3, 2, 13, 4⟩, .int .i64 0]) rfl Try.call40 (fun L w hi => by have h := c_CheckRim w tv _ highL [1, 2] (RdF.of_ow (e := 39) encP_ok (by repeat (first | exact Pick.head | apply Pick.tail)) hi) (RdF.of_ow (e := 3) encI_ok (by repeat (first | exact Pick.head | apply Pick.tail)) hi); rw [kn_cr] at h; exact h) rfl ?_
  refine WO.p rfl rfl (WO.p rfl rfl (WO.p rfl rfl ?_))
  refine WO.alloc rfl rfl rfl (fun b4 hb4 => ?_)
  refine WO.storeA rfl rfl rfl rfl Pick.head rfl rfl (WO.p rfl rfl ?_)
  refine WO.nil ?_
  refine W.seq ?_
  refine W.drawD 43 [.r 0 [], .r 1 [], .r 2 [], .r 3 [], .r 4 [], .r 5 [], .r 6 [], .r 7 [], .r 8 [], .r 9 [], .r 10 [], .r 11 [], .r 12 [], .r 13 [], .r 14 [], .r 15 [], .r 16 [], .r 17 [], .r 18 [], .r 19 [], .r 20 [], .r 21 [], .r 22 [], .r 23 [], .r 24 [], .r 25 [], .r 26 [], .r 27 [], .r 28 [], .r 29 [], .b 30 [], .b 31 [], .r 32 [], .r 33 [], .r 34 [], .b 35 [], .c 36 [], .f 37 [], .r 38 [], .r 39 [], .r 40 [], .b 41 [], .c 42 []] [] (A0 := []) (Sub.refl _) (by kernel_rfl) ?_ ?_
  · exact (ALok.r (ALok.r (ALok.r (ALok.r (ALok.r (ALok.r (ALok.r (ALok.r (ALok.r (ALok.r (ALok.r (ALok.r (ALok.r (ALok.r (ALok.r (ALok.r (ALok.r (ALok.r (ALok.r (ALok.r (ALok.r (ALok.r (ALok.r (ALok.r (ALok.r (ALok.r (ALok.r (ALok.r (ALok.r (ALok.r (ALok.b (ALok.b (ALok.r (ALok.r (ALok.r (ALok.b (ALok.c (ALok.f (ALok.r (ALok.r (ALok.r (ALok.b (ALok.c ALok.nil)))))))))))))))))))))))))))))))))))))))))))
  refine' DT.r rfl rfl rfl ?hq ?_
  case hq =>
    refine WO.p rfl rfl ?_
    exact WO.nil ⟨rfl, rfl⟩
  refine' DT.r rfl rfl rfl ?hq ?_
  case hq =>
    refine WO.p rfl rfl ?_
    exact WO.nil ⟨rfl, rfl⟩
  refine' DT.rB rfl rfl rfl ?hq (fun c1 => ?_) (fun c1 => ?_)
  case hq =>
    refine WO.p rfl rfl ?_
    exact WO.nil ⟨rfl, rfl⟩
  · first
    | (exfalso; omega)
    | (refine' DT.r rfl rfl rfl ?hq ?_
       case hq =>
         refine WO.pg rfl rfl rfl ?_
         exact WO.nil ⟨rfl, rfl⟩
       refine' DT.r rfl rfl rfl ?hq ?_
       case hq =>
         refine WO.pg rfl rfl rfl ?_
         exact WO.nil ⟨rfl, rfl⟩
       refine' DT.r rfl rfl rfl ?hq ?_
       case hq =>
         refine WO.p rfl rfl ?_
         exact WO.nil ⟨rfl, rfl⟩
       refine' DT.rB rfl rfl rfl ?hq (fun c2 => ?_) (fun c2 => ?_)
       case hq =>
         refine WO.p rfl rfl ?_
         exact WO.nil ⟨rfl, rfl⟩
       · first
         | (exfalso; omega)
         | (refine' DT.r rfl rfl rfl ?hq ?_
            case hq =>
              refine WO.pg rfl rfl rfl ?_
              exact WO.nil ⟨rfl, rfl⟩
            refine' DT.r rfl rfl rfl ?hq ?_
            case hq =>
              refine WO.pg rfl rfl rfl ?_
              exact WO.nil ⟨rfl, rfl⟩
            refine' DT.r rfl rfl rfl ?hq ?_
            case hq =>
              refine WO.p rfl rfl ?_
              exact WO.nil ⟨rfl, rfl⟩
            refine' DT.rB rfl rfl rfl ?hq (fun c3 => ?_) (fun c3 => ?_)
            case hq =>
              refine WO.p rfl rfl ?_
              exact WO.nil ⟨rfl, rfl⟩
            · first
              | (exfalso; omega)
              | (refine' DT.r rfl rfl rfl ?hq ?_
                 case hq =>
                   refine WO.pg rfl rfl rfl ?_
                   exact WO.nil ⟨rfl, rfl⟩
                 refine' DT.r rfl rfl rfl ?hq ?_
                 case hq =>
                   refine WO.pg rfl rfl rfl ?_
                   exact WO.nil ⟨rfl, rfl⟩
                 refine' DT.r rfl rfl rfl ?hq ?_
                 case hq =>
                   refine WO.p rfl rfl ?_
                   exact WO.nil ⟨rfl, rfl⟩
                 refine' DT.rB rfl rfl rfl ?hq (fun c4 => ?_) (fun c4 => ?_)
                 case hq =>
                   refine WO.p rfl rfl ?_
                   exact WO.nil ⟨rfl, rfl⟩
                 · first
                   | (exfalso; omega)
                   | (refine' DT.r rfl rfl rfl ?hq ?_
                      case hq =>
                        refine WO.pg rfl rfl rfl ?_
                        exact WO.nil ⟨rfl, rfl⟩
                      refine' DT.r rfl rfl rfl ?hq ?_
                      case hq =>
                        refine WO.p rfl rfl ?_
                        exact WO.nil ⟨rfl, rfl⟩
                      refine' DT.r rfl rfl rfl ?hq ?_
                      case hq =>
                        refine WO.p rfl rfl ?_
                        exact WO.nil ⟨rfl, rfl⟩
                      refine' DT.r rfl rfl rfl ?hq ?_
                      case hq =>
                        refine WO.pg rfl rfl rfl ?_
                        exact WO.nil ⟨rfl, rfl⟩
                      refine' DT.r rfl rfl rfl ?hq ?_
                      case hq =>
                        refine WO.pg rfl rfl rfl ?_
                        exact WO.nil ⟨rfl, rfl⟩
                      refine' DT.r rfl rfl rfl ?hq ?_
                      case hq =>
                        refine WO.p rfl rfl ?_
                        exact WO.nil ⟨rfl, rfl⟩
                      refine' DT.r rfl rfl rfl ?hq ?_
                      case hq =>
                        refine WO.p rfl rfl ?_
                        exact WO.nil ⟨rfl, rfl⟩
                      refine' DT.r rfl rfl rfl ?hq ?_
                      case hq =>
                        refine WO.pg rfl rfl rfl ?_
                        exact WO.nil ⟨rfl, rfl⟩
                      refine' DT.r rfl rfl rfl ?hq ?_
                      case hq =>
                        refine WO.pg rfl rfl rfl ?_
                        exact WO.nil ⟨rfl, rfl⟩
                      refine' DT.r rfl rfl rfl ?hq ?_
                      case hq =>
                        refine WO.p rfl rfl ?_
                        exact WO.nil ⟨rfl, rfl⟩
                      refine' DT.r rfl rfl rfl ?hq ?_
                      case hq =>
                        refine WO.p rfl rfl ?_
                        exact WO.nil ⟨rfl, rfl⟩
                      refine' DT.r rfl rfl rfl ?hq ?_
                      case hq =>
                        refine WO.pg rfl rfl rfl ?_
                        exact WO.nil ⟨rfl, rfl⟩
                      refine' DT.r rfl rfl rfl ?hq ?_
                      case hq =>
                        refine WO.pg rfl rfl rfl ?_
                        exact WO.nil ⟨rfl, rfl⟩
                      refine' DT.r rfl rfl rfl ?hq ?_
                      case hq =>
                        refine WO.p rfl rfl ?_
                        exact WO.nil ⟨rfl, rfl⟩
                      refine' DT.r rfl rfl rfl ?hq ?_
                      case hq =>
                        refine WO.p rfl rfl ?_
                        exact WO.nil ⟨rfl, rfl⟩
                      refine' DT.b rfl rfl rfl ?hq ?_
                      case hq =>
                        refine WO.go' rfl (WO.loadA rfl rfl (Cells.own Pick.head) rfl rfl ?_)
                        exact WO.nil ⟨rfl, rfl⟩
                      refine' DT.b rfl rfl rfl ?hq ?_
                      case hq =>
                        refine WO.go' rfl ?_
                        refine WO.callR rfl Try.call42 (fun L w hi => law_ring w _ _ _ _ _) rfl ?_
                        exact WO.nil ⟨rfl, rfl⟩
                      refine' DT.r rfl rfl rfl ?hq ?_
                      case hq =>
                        refine WO.go' rfl ?_
                        refine WO.eqT rfl rfl (eq27t ⟨6, 3, 2, 13, 4⟩) rfl ?_
                        exact WO.nil ⟨rfl, rfl⟩
                      refine' DT.r rfl rfl rfl ?hq ?_
                      case hq =>
                        refine WO.p rfl rfl ?_
                        exact WO.nil ⟨rfl, rfl⟩
                      refine' DT.r rfl rfl rfl ?hq ?_
                      case hq =>
                        refine WO.p rfl rfl ?_
                        exact WO.nil ⟨rfl, rfl⟩
                      refine' DT.b rfl rfl rfl ?hq ?_
                      case hq =>
                        refine WO.go' rfl (WO.loadA rfl rfl (Cells.own (Pick.tail (Pick.tail (Pick.tail (Pick.head))))) rfl rfl ?_)
                        exact WO.nil ⟨rfl, rfl⟩
                      refine DT.c [_, _, _, _, _] rfl rfl rfl rfl ?_
                      refine WO.go' rfl ?_
                      refine WO.call (Post := fun r Hq => Hq = [OwE encP 39 2 r wideL]) rfl Try.call44 (fun L w hi => law_Wide w) rfl ?_
                      rintro tv1 _ rfl
                      refine WO.nil ⟨_, [_], rfl, rfl, (Keep.b (Keep.r (Keep.r (Keep.r (Keep.b (Keep.b (Keep.r (Keep.r (Keep.r (Keep.r (Keep.r (Keep.r (Keep.r (Keep.r (Keep.r (Keep.r (Keep.r (Keep.r (Keep.r (Keep.r (Keep.r (Keep.r (Keep.r (Keep.r (Keep.r (Keep.r (Keep.r (Keep.r (Keep.r (Keep.r (Keep.r (Keep.r (Keep.r (Keep.r (Keep.r (Keep.r Keep.nil)))))))))))))))))))))))))))))))))))), ?_⟩
                      refine' DT.f [_, _, _, _, _, _] rfl rfl rfl rfl ?hq ?_
                      case hq =>
                        refine WO.go' rfl ?_
                        refine WO.callR (r := .int .i64 0) rfl Try.call37 (fun L w hi => by have h := c_Check w ⟨2, 0, 1, 4, 1⟩ tv1 wideL (RdF.of_ow (e := 39) encP_ok (by repeat (first | exact Pick.head | apply Pick.tail)) hi); rw [kn_c1] at h; exact h) rfl ?_
                        exact WO.nil ⟨rfl, rfl⟩
                      refine' DT.r rfl rfl rfl ?hq ?_
                      case hq =>
                        refine WO.pg rfl rfl rfl ?_
                        exact WO.nil ⟨rfl, rfl⟩
                      refine' DT.r rfl rfl rfl ?hq ?_
                      case hq =>
                        refine WO.p rfl rfl ?_
                        exact WO.nil ⟨rfl, rfl⟩
                      refine' DT.rB rfl rfl rfl ?hq (fun c5 => ?_) (fun c5 => ?_)
                      case hq =>
                        refine WO.p rfl rfl ?_
                        exact WO.nil ⟨rfl, rfl⟩
                      · first
                        | (exfalso; omega)
                        | (refine' DT.b rfl rfl rfl ?hq ?_
                           case hq =>
                             refine WO.go' rfl (WO.loadA rfl rfl (Cells.own (Pick.tail (Pick.tail (Pick.tail (Pick.head))))) rfl rfl ?_)
                             exact WO.nil ⟨rfl, rfl⟩
                           refine DT.c [_, _, _, _, _, _] rfl rfl rfl rfl ?_
                           refine WO.go' rfl ?_
                           refine WO.call (Post := fun r Hq => Hq = [OwE encP 39 2 r highL]) rfl Try.call43 (fun L w hi => law_High w) rfl ?_
                           rintro tv2 _ rfl
                           refine WO.nil ⟨_, [_, _], rfl, rfl, (Keep.b (Keep.r (Keep.r (Keep.r (Keep.f (Keep.c (Keep.b (Keep.r (Keep.r (Keep.r (Keep.b (Keep.b (Keep.r (Keep.r (Keep.r (Keep.r (Keep.r (Keep.r (Keep.r (Keep.r (Keep.r (Keep.r (Keep.r (Keep.r (Keep.r (Keep.r (Keep.r (Keep.r (Keep.r (Keep.r (Keep.r (Keep.r (Keep.r (Keep.r (Keep.r (Keep.r (Keep.r (Keep.r (Keep.r (Keep.r (Keep.r (Keep.r Keep.nil)))))))))))))))))))))))))))))))))))))))))), ?_⟩
                           refine DT.nil [_, _, _, _, _, _, _] rfl ?_
                           refine WO.go' rfl ?_
                           refine WO.callR (r := .int .i64 4) rfl Try.call37 (fun L w hi => by have h := c_Check w ⟨2, 0, 1, 4, 1⟩ tv2 highL (RdF.of_ow (e := 39) encP_ok (by repeat (first | exact Pick.head | apply Pick.tail)) hi); rw [kn_c2] at h; exact h) rfl ?_
                           refine WO.pg rfl rfl rfl (WO.p rfl rfl (WO.p rfl rfl ?_))
                           refine WO.guard_bl rfl rfl (fun c6 => ?_) (fun c6 => ?_)
                           · first
                             | (exfalso; omega)
                             | (refine WO.go' rfl ?_
                                refine WO.callR rfl Try.call14 (fun L w hi => law_Works w) rfl ?_
                                refine WO.p rfl rfl (WO.p rfl rfl ?_)
                                refine WO.nil ?_
                                refine W.ret ?_
                                exact fin.ret (Res.one rfl (RV.tmp rfl)) rfl)
                           · first
                             | (exfalso; omega)
                             | (refine WO.no rfl rfl (WO.p rfl rfl (WO.p rfl rfl ?_))
                                refine WO.nil ?_
                                refine W.ret ?_
                                exact fin.ret (Res.one rfl (RV.tmp rfl)) rfl))
                      · first
                        | (exfalso; omega)
                        | (refine' DT.b rfl rfl rfl ?hq ?_
                           case hq =>
                             refine WO.no rfl rfl ?_
                             exact WO.nil ⟨rfl, rfl⟩
                           refine DT.c [_, _, _, _, _, _] rfl rfl rfl rfl ?_
                           refine WO.no rfl rfl ?_
                           refine WO.nil ⟨_, [_], rfl, rfl, (Keep.b (Keep.r (Keep.r (Keep.r (Keep.f (Keep.c (Keep.b (Keep.r (Keep.r (Keep.r (Keep.b (Keep.b (Keep.r (Keep.r (Keep.r (Keep.r (Keep.r (Keep.r (Keep.r (Keep.r (Keep.r (Keep.r (Keep.r (Keep.r (Keep.r (Keep.r (Keep.r (Keep.r (Keep.r (Keep.r (Keep.r (Keep.r (Keep.r (Keep.r (Keep.r (Keep.r (Keep.r (Keep.r (Keep.r (Keep.r (Keep.r (Keep.r Keep.nil)))))))))))))))))))))))))))))))))))))))))), ?_⟩
                           refine DT.nil [_, _, _, _, _, _] rfl ?_
                           refine WO.no rfl rfl (WO.no rfl rfl (WO.p rfl rfl (WO.p rfl rfl (WO.no rfl rfl (WO.p rfl rfl (WO.p rfl rfl ?_))))))
                           refine WO.nil ?_
                           refine W.ret ?_
                           exact fin.ret (Res.one rfl (RV.tmp rfl)) rfl))
                 · first
                   | (exfalso; omega)
                   | (refine' DT.r rfl rfl rfl ?hq ?_
                      case hq =>
                        refine WO.no rfl rfl ?_
                        exact WO.nil ⟨rfl, rfl⟩
                      refine' DT.r rfl rfl rfl ?hq ?_
                      case hq =>
                        refine WO.p rfl rfl ?_
                        exact WO.nil ⟨rfl, rfl⟩
                      refine' DT.r rfl rfl rfl ?hq ?_
                      case hq =>
                        refine WO.p rfl rfl ?_
                        exact WO.nil ⟨rfl, rfl⟩
                      refine' DT.r rfl rfl rfl ?hq ?_
                      case hq =>
                        refine WO.no rfl rfl ?_
                        exact WO.nil ⟨rfl, rfl⟩
                      refine' DT.r rfl rfl rfl ?hq ?_
                      case hq =>
                        refine WO.no rfl rfl ?_
                        exact WO.nil ⟨rfl, rfl⟩
                      refine' DT.r rfl rfl rfl ?hq ?_
                      case hq =>
                        refine WO.p rfl rfl ?_
                        exact WO.nil ⟨rfl, rfl⟩
                      refine' DT.r rfl rfl rfl ?hq ?_
                      case hq =>
                        refine WO.p rfl rfl ?_
                        exact WO.nil ⟨rfl, rfl⟩
                      refine' DT.r rfl rfl rfl ?hq ?_
                      case hq =>
                        refine WO.no rfl rfl ?_
                        exact WO.nil ⟨rfl, rfl⟩
                      refine' DT.r rfl rfl rfl ?hq ?_
                      case hq =>
                        refine WO.no rfl rfl ?_
                        exact WO.nil ⟨rfl, rfl⟩
                      refine' DT.r rfl rfl rfl ?hq ?_
                      case hq =>
                        refine WO.p rfl rfl ?_
                        exact WO.nil ⟨rfl, rfl⟩
                      refine' DT.r rfl rfl rfl ?hq ?_
                      case hq =>
                        refine WO.p rfl rfl ?_
                        exact WO.nil ⟨rfl, rfl⟩
                      refine' DT.r rfl rfl rfl ?hq ?_
                      case hq =>
                        refine WO.no rfl rfl ?_
                        exact WO.nil ⟨rfl, rfl⟩
                      refine' DT.r rfl rfl rfl ?hq ?_
                      case hq =>
                        refine WO.no rfl rfl ?_
                        exact WO.nil ⟨rfl, rfl⟩
                      refine' DT.r rfl rfl rfl ?hq ?_
                      case hq =>
                        refine WO.p rfl rfl ?_
                        exact WO.nil ⟨rfl, rfl⟩
                      refine' DT.r rfl rfl rfl ?hq ?_
                      case hq =>
                        refine WO.p rfl rfl ?_
                        exact WO.nil ⟨rfl, rfl⟩
                      refine' DT.b rfl rfl rfl ?hq ?_
                      case hq =>
                        refine WO.no rfl rfl ?_
                        exact WO.nil ⟨rfl, rfl⟩
                      refine' DT.b rfl rfl rfl ?hq ?_
                      case hq =>
                        refine WO.no rfl rfl ?_
                        exact WO.nil ⟨rfl, rfl⟩
                      refine' DT.r rfl rfl rfl ?hq ?_
                      case hq =>
                        refine WO.no rfl rfl ?_
                        exact WO.nil ⟨rfl, rfl⟩
                      refine' DT.r rfl rfl rfl ?hq ?_
                      case hq =>
                        refine WO.p rfl rfl ?_
                        exact WO.nil ⟨rfl, rfl⟩
                      refine' DT.r rfl rfl rfl ?hq ?_
                      case hq =>
                        refine WO.p rfl rfl ?_
                        exact WO.nil ⟨rfl, rfl⟩
                      refine' DT.b rfl rfl rfl ?hq ?_
                      case hq =>
                        refine WO.no rfl rfl ?_
                        exact WO.nil ⟨rfl, rfl⟩
                      refine DT.c [_, _, _, _, _] rfl rfl rfl rfl ?_
                      refine WO.no rfl rfl ?_
                      refine WO.nil ⟨_, [], rfl, rfl, (Keep.b (Keep.r (Keep.r (Keep.r (Keep.b (Keep.b (Keep.r (Keep.r (Keep.r (Keep.r (Keep.r (Keep.r (Keep.r (Keep.r (Keep.r (Keep.r (Keep.r (Keep.r (Keep.r (Keep.r (Keep.r (Keep.r (Keep.r (Keep.r (Keep.r (Keep.r (Keep.r (Keep.r (Keep.r (Keep.r (Keep.r (Keep.r (Keep.r (Keep.r (Keep.r (Keep.r Keep.nil)))))))))))))))))))))))))))))))))))), ?_⟩
                      refine' DT.f [_, _, _, _, _] rfl rfl rfl rfl ?hq ?_
                      case hq =>
                        refine WO.no rfl rfl ?_
                        exact WO.nil ⟨rfl, rfl⟩
                      refine' DT.r rfl rfl rfl ?hq ?_
                      case hq =>
                        refine WO.no rfl rfl ?_
                        exact WO.nil ⟨rfl, rfl⟩
                      refine' DT.r rfl rfl rfl ?hq ?_
                      case hq =>
                        refine WO.p rfl rfl ?_
                        exact WO.nil ⟨rfl, rfl⟩
                      refine' DT.r rfl rfl rfl ?hq ?_
                      case hq =>
                        refine WO.p rfl rfl ?_
                        exact WO.nil ⟨rfl, rfl⟩
                      refine' DT.b rfl rfl rfl ?hq ?_
                      case hq =>
                        refine WO.no rfl rfl ?_
                        exact WO.nil ⟨rfl, rfl⟩
                      refine DT.c [_, _, _, _, _] rfl rfl rfl rfl ?_
                      refine WO.no rfl rfl ?_
                      refine WO.nil ⟨_, [], rfl, rfl, (Keep.b (Keep.r (Keep.r (Keep.r (Keep.f (Keep.c (Keep.b (Keep.r (Keep.r (Keep.r (Keep.b (Keep.b (Keep.r (Keep.r (Keep.r (Keep.r (Keep.r (Keep.r (Keep.r (Keep.r (Keep.r (Keep.r (Keep.r (Keep.r (Keep.r (Keep.r (Keep.r (Keep.r (Keep.r (Keep.r (Keep.r (Keep.r (Keep.r (Keep.r (Keep.r (Keep.r (Keep.r (Keep.r (Keep.r (Keep.r (Keep.r (Keep.r Keep.nil)))))))))))))))))))))))))))))))))))))))))), ?_⟩
                      refine DT.nil [_, _, _, _, _] rfl ?_
                      refine WO.no rfl rfl (WO.no rfl rfl (WO.p rfl rfl (WO.p rfl rfl (WO.no rfl rfl (WO.p rfl rfl (WO.p rfl rfl ?_))))))
                      refine WO.nil ?_
                      refine W.ret ?_
                      exact fin.ret (Res.one rfl (RV.tmp rfl)) rfl))
            · first
              | (exfalso; omega)
              | (refine' DT.r rfl rfl rfl ?hq ?_
                 case hq =>
                   refine WO.no rfl rfl ?_
                   exact WO.nil ⟨rfl, rfl⟩
                 refine' DT.r rfl rfl rfl ?hq ?_
                 case hq =>
                   refine WO.no rfl rfl ?_
                   exact WO.nil ⟨rfl, rfl⟩
                 refine' DT.r rfl rfl rfl ?hq ?_
                 case hq =>
                   refine WO.p rfl rfl ?_
                   exact WO.nil ⟨rfl, rfl⟩
                 refine' DT.r rfl rfl rfl ?hq ?_
                 case hq =>
                   refine WO.p rfl rfl ?_
                   exact WO.nil ⟨rfl, rfl⟩
                 refine' DT.r rfl rfl rfl ?hq ?_
                 case hq =>
                   refine WO.no rfl rfl ?_
                   exact WO.nil ⟨rfl, rfl⟩
                 refine' DT.r rfl rfl rfl ?hq ?_
                 case hq =>
                   refine WO.p rfl rfl ?_
                   exact WO.nil ⟨rfl, rfl⟩
                 refine' DT.r rfl rfl rfl ?hq ?_
                 case hq =>
                   refine WO.p rfl rfl ?_
                   exact WO.nil ⟨rfl, rfl⟩
                 refine' DT.r rfl rfl rfl ?hq ?_
                 case hq =>
                   refine WO.no rfl rfl ?_
                   exact WO.nil ⟨rfl, rfl⟩
                 refine' DT.r rfl rfl rfl ?hq ?_
                 case hq =>
                   refine WO.no rfl rfl ?_
                   exact WO.nil ⟨rfl, rfl⟩
                 refine' DT.r rfl rfl rfl ?hq ?_
                 case hq =>
                   refine WO.p rfl rfl ?_
                   exact WO.nil ⟨rfl, rfl⟩
                 refine' DT.r rfl rfl rfl ?hq ?_
                 case hq =>
                   refine WO.p rfl rfl ?_
                   exact WO.nil ⟨rfl, rfl⟩
                 refine' DT.r rfl rfl rfl ?hq ?_
                 case hq =>
                   refine WO.no rfl rfl ?_
                   exact WO.nil ⟨rfl, rfl⟩
                 refine' DT.r rfl rfl rfl ?hq ?_
                 case hq =>
                   refine WO.no rfl rfl ?_
                   exact WO.nil ⟨rfl, rfl⟩
                 refine' DT.r rfl rfl rfl ?hq ?_
                 case hq =>
                   refine WO.p rfl rfl ?_
                   exact WO.nil ⟨rfl, rfl⟩
                 refine' DT.r rfl rfl rfl ?hq ?_
                 case hq =>
                   refine WO.p rfl rfl ?_
                   exact WO.nil ⟨rfl, rfl⟩
                 refine' DT.r rfl rfl rfl ?hq ?_
                 case hq =>
                   refine WO.no rfl rfl ?_
                   exact WO.nil ⟨rfl, rfl⟩
                 refine' DT.r rfl rfl rfl ?hq ?_
                 case hq =>
                   refine WO.no rfl rfl ?_
                   exact WO.nil ⟨rfl, rfl⟩
                 refine' DT.r rfl rfl rfl ?hq ?_
                 case hq =>
                   refine WO.p rfl rfl ?_
                   exact WO.nil ⟨rfl, rfl⟩
                 refine' DT.r rfl rfl rfl ?hq ?_
                 case hq =>
                   refine WO.p rfl rfl ?_
                   exact WO.nil ⟨rfl, rfl⟩
                 refine' DT.b rfl rfl rfl ?hq ?_
                 case hq =>
                   refine WO.no rfl rfl ?_
                   exact WO.nil ⟨rfl, rfl⟩
                 refine' DT.b rfl rfl rfl ?hq ?_
                 case hq =>
                   refine WO.no rfl rfl ?_
                   exact WO.nil ⟨rfl, rfl⟩
                 refine' DT.r rfl rfl rfl ?hq ?_
                 case hq =>
                   refine WO.no rfl rfl ?_
                   exact WO.nil ⟨rfl, rfl⟩
                 refine' DT.r rfl rfl rfl ?hq ?_
                 case hq =>
                   refine WO.p rfl rfl ?_
                   exact WO.nil ⟨rfl, rfl⟩
                 refine' DT.r rfl rfl rfl ?hq ?_
                 case hq =>
                   refine WO.p rfl rfl ?_
                   exact WO.nil ⟨rfl, rfl⟩
                 refine' DT.b rfl rfl rfl ?hq ?_
                 case hq =>
                   refine WO.no rfl rfl ?_
                   exact WO.nil ⟨rfl, rfl⟩
                 refine DT.c [_, _, _, _, _] rfl rfl rfl rfl ?_
                 refine WO.no rfl rfl ?_
                 refine WO.nil ⟨_, [], rfl, rfl, (Keep.b (Keep.r (Keep.r (Keep.r (Keep.b (Keep.b (Keep.r (Keep.r (Keep.r (Keep.r (Keep.r (Keep.r (Keep.r (Keep.r (Keep.r (Keep.r (Keep.r (Keep.r (Keep.r (Keep.r (Keep.r (Keep.r (Keep.r (Keep.r (Keep.r (Keep.r (Keep.r (Keep.r (Keep.r (Keep.r (Keep.r (Keep.r (Keep.r (Keep.r (Keep.r (Keep.r Keep.nil)))))))))))))))))))))))))))))))))))), ?_⟩
                 refine' DT.f [_, _, _, _, _] rfl rfl rfl rfl ?hq ?_
                 case hq =>
                   refine WO.no rfl rfl ?_
                   exact WO.nil ⟨rfl, rfl⟩
                 refine' DT.r rfl rfl rfl ?hq ?_
                 case hq =>
                   refine WO.no rfl rfl ?_
                   exact WO.nil ⟨rfl, rfl⟩
                 refine' DT.r rfl rfl rfl ?hq ?_
                 case hq =>
                   refine WO.p rfl rfl ?_
                   exact WO.nil ⟨rfl, rfl⟩
                 refine' DT.r rfl rfl rfl ?hq ?_
                 case hq =>
                   refine WO.p rfl rfl ?_
                   exact WO.nil ⟨rfl, rfl⟩
                 refine' DT.b rfl rfl rfl ?hq ?_
                 case hq =>
                   refine WO.no rfl rfl ?_
                   exact WO.nil ⟨rfl, rfl⟩
                 refine DT.c [_, _, _, _, _] rfl rfl rfl rfl ?_
                 refine WO.no rfl rfl ?_
                 refine WO.nil ⟨_, [], rfl, rfl, (Keep.b (Keep.r (Keep.r (Keep.r (Keep.f (Keep.c (Keep.b (Keep.r (Keep.r (Keep.r (Keep.b (Keep.b (Keep.r (Keep.r (Keep.r (Keep.r (Keep.r (Keep.r (Keep.r (Keep.r (Keep.r (Keep.r (Keep.r (Keep.r (Keep.r (Keep.r (Keep.r (Keep.r (Keep.r (Keep.r (Keep.r (Keep.r (Keep.r (Keep.r (Keep.r (Keep.r (Keep.r (Keep.r (Keep.r (Keep.r (Keep.r (Keep.r Keep.nil)))))))))))))))))))))))))))))))))))))))))), ?_⟩
                 refine DT.nil [_, _, _, _, _] rfl ?_
                 refine WO.no rfl rfl (WO.no rfl rfl (WO.p rfl rfl (WO.p rfl rfl (WO.no rfl rfl (WO.p rfl rfl (WO.p rfl rfl ?_))))))
                 refine WO.nil ?_
                 refine W.ret ?_
                 exact fin.ret (Res.one rfl (RV.tmp rfl)) rfl))
       · first
         | (exfalso; omega)
         | (refine' DT.r rfl rfl rfl ?hq ?_
            case hq =>
              refine WO.no rfl rfl ?_
              exact WO.nil ⟨rfl, rfl⟩
            refine' DT.r rfl rfl rfl ?hq ?_
            case hq =>
              refine WO.no rfl rfl ?_
              exact WO.nil ⟨rfl, rfl⟩
            refine' DT.r rfl rfl rfl ?hq ?_
            case hq =>
              refine WO.p rfl rfl ?_
              exact WO.nil ⟨rfl, rfl⟩
            refine' DT.r rfl rfl rfl ?hq ?_
            case hq =>
              refine WO.p rfl rfl ?_
              exact WO.nil ⟨rfl, rfl⟩
            refine' DT.r rfl rfl rfl ?hq ?_
            case hq =>
              refine WO.no rfl rfl ?_
              exact WO.nil ⟨rfl, rfl⟩
            refine' DT.r rfl rfl rfl ?hq ?_
            case hq =>
              refine WO.no rfl rfl ?_
              exact WO.nil ⟨rfl, rfl⟩
            refine' DT.r rfl rfl rfl ?hq ?_
            case hq =>
              refine WO.p rfl rfl ?_
              exact WO.nil ⟨rfl, rfl⟩
            refine' DT.r rfl rfl rfl ?hq ?_
            case hq =>
              refine WO.p rfl rfl ?_
              exact WO.nil ⟨rfl, rfl⟩
            refine' DT.r rfl rfl rfl ?hq ?_
            case hq =>
              refine WO.no rfl rfl ?_
              exact WO.nil ⟨rfl, rfl⟩
            refine' DT.r rfl rfl rfl ?hq ?_
            case hq =>
              refine WO.p rfl rfl ?_
              exact WO.nil ⟨rfl, rfl⟩
            refine' DT.r rfl rfl rfl ?hq ?_
            case hq =>
              refine WO.p rfl rfl ?_
              exact WO.nil ⟨rfl, rfl⟩
            refine' DT.r rfl rfl rfl ?hq ?_
            case hq =>
              refine WO.no rfl rfl ?_
              exact WO.nil ⟨rfl, rfl⟩
            refine' DT.r rfl rfl rfl ?hq ?_
            case hq =>
              refine WO.no rfl rfl ?_
              exact WO.nil ⟨rfl, rfl⟩
            refine' DT.r rfl rfl rfl ?hq ?_
            case hq =>
              refine WO.p rfl rfl ?_
              exact WO.nil ⟨rfl, rfl⟩
            refine' DT.r rfl rfl rfl ?hq ?_
            case hq =>
              refine WO.p rfl rfl ?_
              exact WO.nil ⟨rfl, rfl⟩
            refine' DT.r rfl rfl rfl ?hq ?_
            case hq =>
              refine WO.no rfl rfl ?_
              exact WO.nil ⟨rfl, rfl⟩
            refine' DT.r rfl rfl rfl ?hq ?_
            case hq =>
              refine WO.no rfl rfl ?_
              exact WO.nil ⟨rfl, rfl⟩
            refine' DT.r rfl rfl rfl ?hq ?_
            case hq =>
              refine WO.p rfl rfl ?_
              exact WO.nil ⟨rfl, rfl⟩
            refine' DT.r rfl rfl rfl ?hq ?_
            case hq =>
              refine WO.p rfl rfl ?_
              exact WO.nil ⟨rfl, rfl⟩
            refine' DT.r rfl rfl rfl ?hq ?_
            case hq =>
              refine WO.no rfl rfl ?_
              exact WO.nil ⟨rfl, rfl⟩
            refine' DT.r rfl rfl rfl ?hq ?_
            case hq =>
              refine WO.no rfl rfl ?_
              exact WO.nil ⟨rfl, rfl⟩
            refine' DT.r rfl rfl rfl ?hq ?_
            case hq =>
              refine WO.p rfl rfl ?_
              exact WO.nil ⟨rfl, rfl⟩
            refine' DT.r rfl rfl rfl ?hq ?_
            case hq =>
              refine WO.p rfl rfl ?_
              exact WO.nil ⟨rfl, rfl⟩
            refine' DT.b rfl rfl rfl ?hq ?_
            case hq =>
              refine WO.no rfl rfl ?_
              exact WO.nil ⟨rfl, rfl⟩
            refine' DT.b rfl rfl rfl ?hq ?_
            case hq =>
              refine WO.no rfl rfl ?_
              exact WO.nil ⟨rfl, rfl⟩
            refine' DT.r rfl rfl rfl ?hq ?_
            case hq =>
              refine WO.no rfl rfl ?_
              exact WO.nil ⟨rfl, rfl⟩
            refine' DT.r rfl rfl rfl ?hq ?_
            case hq =>
              refine WO.p rfl rfl ?_
              exact WO.nil ⟨rfl, rfl⟩
            refine' DT.r rfl rfl rfl ?hq ?_
            case hq =>
              refine WO.p rfl rfl ?_
              exact WO.nil ⟨rfl, rfl⟩
            refine' DT.b rfl rfl rfl ?hq ?_
            case hq =>
              refine WO.no rfl rfl ?_
              exact WO.nil ⟨rfl, rfl⟩
            refine DT.c [_, _, _, _, _] rfl rfl rfl rfl ?_
            refine WO.no rfl rfl ?_
            refine WO.nil ⟨_, [], rfl, rfl, (Keep.b (Keep.r (Keep.r (Keep.r (Keep.b (Keep.b (Keep.r (Keep.r (Keep.r (Keep.r (Keep.r (Keep.r (Keep.r (Keep.r (Keep.r (Keep.r (Keep.r (Keep.r (Keep.r (Keep.r (Keep.r (Keep.r (Keep.r (Keep.r (Keep.r (Keep.r (Keep.r (Keep.r (Keep.r (Keep.r (Keep.r (Keep.r (Keep.r (Keep.r (Keep.r (Keep.r Keep.nil)))))))))))))))))))))))))))))))))))), ?_⟩
            refine' DT.f [_, _, _, _, _] rfl rfl rfl rfl ?hq ?_
            case hq =>
              refine WO.no rfl rfl ?_
              exact WO.nil ⟨rfl, rfl⟩
            refine' DT.r rfl rfl rfl ?hq ?_
            case hq =>
              refine WO.no rfl rfl ?_
              exact WO.nil ⟨rfl, rfl⟩
            refine' DT.r rfl rfl rfl ?hq ?_
            case hq =>
              refine WO.p rfl rfl ?_
              exact WO.nil ⟨rfl, rfl⟩
            refine' DT.r rfl rfl rfl ?hq ?_
            case hq =>
              refine WO.p rfl rfl ?_
              exact WO.nil ⟨rfl, rfl⟩
            refine' DT.b rfl rfl rfl ?hq ?_
            case hq =>
              refine WO.no rfl rfl ?_
              exact WO.nil ⟨rfl, rfl⟩
            refine DT.c [_, _, _, _, _] rfl rfl rfl rfl ?_
            refine WO.no rfl rfl ?_
            refine WO.nil ⟨_, [], rfl, rfl, (Keep.b (Keep.r (Keep.r (Keep.r (Keep.f (Keep.c (Keep.b (Keep.r (Keep.r (Keep.r (Keep.b (Keep.b (Keep.r (Keep.r (Keep.r (Keep.r (Keep.r (Keep.r (Keep.r (Keep.r (Keep.r (Keep.r (Keep.r (Keep.r (Keep.r (Keep.r (Keep.r (Keep.r (Keep.r (Keep.r (Keep.r (Keep.r (Keep.r (Keep.r (Keep.r (Keep.r (Keep.r (Keep.r (Keep.r (Keep.r (Keep.r (Keep.r Keep.nil)))))))))))))))))))))))))))))))))))))))))), ?_⟩
            refine DT.nil [_, _, _, _, _] rfl ?_
            refine WO.no rfl rfl (WO.no rfl rfl (WO.p rfl rfl (WO.p rfl rfl (WO.no rfl rfl (WO.p rfl rfl (WO.p rfl rfl ?_))))))
            refine WO.nil ?_
            refine W.ret ?_
            exact fin.ret (Res.one rfl (RV.tmp rfl)) rfl))
  · first
    | (exfalso; omega)
    | (refine' DT.r rfl rfl rfl ?hq ?_
       case hq =>
         refine WO.no rfl rfl ?_
         exact WO.nil ⟨rfl, rfl⟩
       refine' DT.r rfl rfl rfl ?hq ?_
       case hq =>
         refine WO.no rfl rfl ?_
         exact WO.nil ⟨rfl, rfl⟩
       refine' DT.r rfl rfl rfl ?hq ?_
       case hq =>
         refine WO.p rfl rfl ?_
         exact WO.nil ⟨rfl, rfl⟩
       refine' DT.r rfl rfl rfl ?hq ?_
       case hq =>
         refine WO.p rfl rfl ?_
         exact WO.nil ⟨rfl, rfl⟩
       refine' DT.r rfl rfl rfl ?hq ?_
       case hq =>
         refine WO.no rfl rfl ?_
         exact WO.nil ⟨rfl, rfl⟩
       refine' DT.r rfl rfl rfl ?hq ?_
       case hq =>
         refine WO.no rfl rfl ?_
         exact WO.nil ⟨rfl, rfl⟩
       refine' DT.r rfl rfl rfl ?hq ?_
       case hq =>
         refine WO.p rfl rfl ?_
         exact WO.nil ⟨rfl, rfl⟩
       refine' DT.r rfl rfl rfl ?hq ?_
       case hq =>
         refine WO.p rfl rfl ?_
         exact WO.nil ⟨rfl, rfl⟩
       refine' DT.r rfl rfl rfl ?hq ?_
       case hq =>
         refine WO.no rfl rfl ?_
         exact WO.nil ⟨rfl, rfl⟩
       refine' DT.r rfl rfl rfl ?hq ?_
       case hq =>
         refine WO.no rfl rfl ?_
         exact WO.nil ⟨rfl, rfl⟩
       refine' DT.r rfl rfl rfl ?hq ?_
       case hq =>
         refine WO.p rfl rfl ?_
         exact WO.nil ⟨rfl, rfl⟩
       refine' DT.r rfl rfl rfl ?hq ?_
       case hq =>
         refine WO.p rfl rfl ?_
         exact WO.nil ⟨rfl, rfl⟩
       refine' DT.r rfl rfl rfl ?hq ?_
       case hq =>
         refine WO.no rfl rfl ?_
         exact WO.nil ⟨rfl, rfl⟩
       refine' DT.r rfl rfl rfl ?hq ?_
       case hq =>
         refine WO.p rfl rfl ?_
         exact WO.nil ⟨rfl, rfl⟩
       refine' DT.r rfl rfl rfl ?hq ?_
       case hq =>
         refine WO.p rfl rfl ?_
         exact WO.nil ⟨rfl, rfl⟩
       refine' DT.r rfl rfl rfl ?hq ?_
       case hq =>
         refine WO.no rfl rfl ?_
         exact WO.nil ⟨rfl, rfl⟩
       refine' DT.r rfl rfl rfl ?hq ?_
       case hq =>
         refine WO.no rfl rfl ?_
         exact WO.nil ⟨rfl, rfl⟩
       refine' DT.r rfl rfl rfl ?hq ?_
       case hq =>
         refine WO.p rfl rfl ?_
         exact WO.nil ⟨rfl, rfl⟩
       refine' DT.r rfl rfl rfl ?hq ?_
       case hq =>
         refine WO.p rfl rfl ?_
         exact WO.nil ⟨rfl, rfl⟩
       refine' DT.r rfl rfl rfl ?hq ?_
       case hq =>
         refine WO.no rfl rfl ?_
         exact WO.nil ⟨rfl, rfl⟩
       refine' DT.r rfl rfl rfl ?hq ?_
       case hq =>
         refine WO.no rfl rfl ?_
         exact WO.nil ⟨rfl, rfl⟩
       refine' DT.r rfl rfl rfl ?hq ?_
       case hq =>
         refine WO.p rfl rfl ?_
         exact WO.nil ⟨rfl, rfl⟩
       refine' DT.r rfl rfl rfl ?hq ?_
       case hq =>
         refine WO.p rfl rfl ?_
         exact WO.nil ⟨rfl, rfl⟩
       refine' DT.r rfl rfl rfl ?hq ?_
       case hq =>
         refine WO.no rfl rfl ?_
         exact WO.nil ⟨rfl, rfl⟩
       refine' DT.r rfl rfl rfl ?hq ?_
       case hq =>
         refine WO.no rfl rfl ?_
         exact WO.nil ⟨rfl, rfl⟩
       refine' DT.r rfl rfl rfl ?hq ?_
       case hq =>
         refine WO.p rfl rfl ?_
         exact WO.nil ⟨rfl, rfl⟩
       refine' DT.r rfl rfl rfl ?hq ?_
       case hq =>
         refine WO.p rfl rfl ?_
         exact WO.nil ⟨rfl, rfl⟩
       refine' DT.b rfl rfl rfl ?hq ?_
       case hq =>
         refine WO.no rfl rfl ?_
         exact WO.nil ⟨rfl, rfl⟩
       refine' DT.b rfl rfl rfl ?hq ?_
       case hq =>
         refine WO.no rfl rfl ?_
         exact WO.nil ⟨rfl, rfl⟩
       refine' DT.r rfl rfl rfl ?hq ?_
       case hq =>
         refine WO.no rfl rfl ?_
         exact WO.nil ⟨rfl, rfl⟩
       refine' DT.r rfl rfl rfl ?hq ?_
       case hq =>
         refine WO.p rfl rfl ?_
         exact WO.nil ⟨rfl, rfl⟩
       refine' DT.r rfl rfl rfl ?hq ?_
       case hq =>
         refine WO.p rfl rfl ?_
         exact WO.nil ⟨rfl, rfl⟩
       refine' DT.b rfl rfl rfl ?hq ?_
       case hq =>
         refine WO.no rfl rfl ?_
         exact WO.nil ⟨rfl, rfl⟩
       refine DT.c [_, _, _, _, _] rfl rfl rfl rfl ?_
       refine WO.no rfl rfl ?_
       refine WO.nil ⟨_, [], rfl, rfl, (Keep.b (Keep.r (Keep.r (Keep.r (Keep.b (Keep.b (Keep.r (Keep.r (Keep.r (Keep.r (Keep.r (Keep.r (Keep.r (Keep.r (Keep.r (Keep.r (Keep.r (Keep.r (Keep.r (Keep.r (Keep.r (Keep.r (Keep.r (Keep.r (Keep.r (Keep.r (Keep.r (Keep.r (Keep.r (Keep.r (Keep.r (Keep.r (Keep.r (Keep.r (Keep.r (Keep.r Keep.nil)))))))))))))))))))))))))))))))))))), ?_⟩
       refine' DT.f [_, _, _, _, _] rfl rfl rfl rfl ?hq ?_
       case hq =>
         refine WO.no rfl rfl ?_
         exact WO.nil ⟨rfl, rfl⟩
       refine' DT.r rfl rfl rfl ?hq ?_
       case hq =>
         refine WO.no rfl rfl ?_
         exact WO.nil ⟨rfl, rfl⟩
       refine' DT.r rfl rfl rfl ?hq ?_
       case hq =>
         refine WO.p rfl rfl ?_
         exact WO.nil ⟨rfl, rfl⟩
       refine' DT.r rfl rfl rfl ?hq ?_
       case hq =>
         refine WO.p rfl rfl ?_
         exact WO.nil ⟨rfl, rfl⟩
       refine' DT.b rfl rfl rfl ?hq ?_
       case hq =>
         refine WO.no rfl rfl ?_
         exact WO.nil ⟨rfl, rfl⟩
       refine DT.c [_, _, _, _, _] rfl rfl rfl rfl ?_
       refine WO.no rfl rfl ?_
       refine WO.nil ⟨_, [], rfl, rfl, (Keep.b (Keep.r (Keep.r (Keep.r (Keep.f (Keep.c (Keep.b (Keep.r (Keep.r (Keep.r (Keep.b (Keep.b (Keep.r (Keep.r (Keep.r (Keep.r (Keep.r (Keep.r (Keep.r (Keep.r (Keep.r (Keep.r (Keep.r (Keep.r (Keep.r (Keep.r (Keep.r (Keep.r (Keep.r (Keep.r (Keep.r (Keep.r (Keep.r (Keep.r (Keep.r (Keep.r (Keep.r (Keep.r (Keep.r (Keep.r (Keep.r (Keep.r Keep.nil)))))))))))))))))))))))))))))))))))))))))), ?_⟩
       refine DT.nil [_, _, _, _, _] rfl ?_
       refine WO.no rfl rfl (WO.no rfl rfl (WO.p rfl rfl (WO.p rfl rfl (WO.no rfl rfl (WO.p rfl rfl (WO.p rfl rfl ?_))))))
       refine WO.nil ?_
       refine W.ret ?_
       exact fin.ret (Res.one rfl (RV.tmp rfl)) rfl)
end Go.Proofs.Ytkhplcncfogolaa
