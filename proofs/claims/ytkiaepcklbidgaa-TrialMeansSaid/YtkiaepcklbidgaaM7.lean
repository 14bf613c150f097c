/-
  What is proved here: the laws TrialWeights, TrialMeans and TrialPays, as contracts. Conditions: none.
-/
import Derived.Test.YtkiaepcklbidgaaM6
namespace Go.Proofs.Ytkiaepcklbidgaa
open Go Go.TH
attribute [local irreducible] W WO pt
set_option maxRecDepth 10000
set_option maxHeartbeats 4000000
theorem law_TrialWeights (w : World) (m : Int) (o : Value) (rs : List (Int × Int × Int)) (hR : RdF encR 3 w.heap.size w o rs) : Ret Try.prog 3 [.agg #[.int .i64 m, o]].toArray w (.bool true) := by
  refine Ret.of mixed tyTab Try.func3 rfl rfl ?_
  replace hR : RdF encR 3 (fnCx mixed tyTab Try.f3.ntmps w).B (fnCx mixed tyTab Try.f3.ntmps w).w0 o rs := hR
  have ho := hR.sl.oc
  refine W.sreg ?_
  refine WO.boxA rfl rfl (fun b1 hb1 => ?_)
  refine WO.p rfl rfl ?_
  refine WO.nil ?_
  refine W.seq ?_
  refine W.sreg ?_
  refine WO.fieldL rfl rfl rfl (WO.load rfl rfl (Cell.own Pick.head rfl) rfl ?_)
  refine' WO.len (n := _) rfl rfl ?hs rfl ?_
  case hs => (first | exact hR.sl)
  refine WO.p rfl rfl ?_
  refine WO.nil ?_
  refine W.cond_bl rfl (fun c1 => ?_) (fun c1 => ?_)
  · first
    | (exfalso; omega)
    | (refine W.sreg ?_
       refine WO.callR rfl Try.call12 (fun L w hi => law_Works w) rfl ?_
       refine WO.p rfl rfl ?_
       refine WO.nil ?_
       refine W.ret ?_
       exact fin.ret (Res.one rfl (RV.tmp rfl)) rfl)
  · first
    | (exfalso; omega)
    | (refine W.skip ?_
       refine W.sreg ?_
       refine WO.loadA rfl rfl (Cells.own Pick.head) rfl rfl ?_
       refine WO.call (Post := fun v Hq => ∃ x : Value, v = .tuple #[x, .int .i64 (chkT m rs)] ∧ Hq = [OwE encI 2 1 x (wA m rs)]) rfl Try.call13 (fun L w hi => c_Weights w m o rs (hR.later hi)) rfl ?_
       rintro _ _ ⟨wa, rfl, rfl⟩
       refine WO.p rfl rfl (WO.p rfl rfl (WO.p rfl rfl (WO.p rfl rfl (WO.p rfl rfl ?_))))
       refine WO.nil ?_
       refine W.sreg ?_
       refine WO.loadA rfl rfl (Cells.own (Pick.tail (Pick.head))) rfl rfl ?_
       refine WO.call (Post := fun v Hq => ∃ x : Value, v = .tuple #[x, .int .i64 (chkT m rs)] ∧ Hq = [OwE encI 2 1 x (wA m rs)]) rfl Try.call14 (fun L w hi => ref_Weights w m o rs (hR.later hi)) rfl ?_
       rintro _ _ ⟨wb, rfl, rfl⟩
       refine WO.p rfl rfl (WO.p rfl rfl (WO.p rfl rfl (WO.p rfl rfl (WO.p rfl rfl ?_))))
       refine WO.nil ?_
       refine W.sreg ?_
       refine WO.loadA rfl rfl (Cells.own (Pick.tail (Pick.tail (Pick.head)))) rfl rfl ?_
       refine WO.callR rfl Try.call15 (fun L w hi => c_Cancels w m o rs (hR.later hi)) rfl ?_
       refine WO.p rfl rfl (WO.p rfl rfl (WO.p rfl rfl (WO.p rfl rfl (WO.p rfl rfl ?_))))
       refine WO.nil ?_
       refine W.sreg ?_
       refine WO.loadA rfl rfl (Cells.own (Pick.tail (Pick.tail (Pick.head)))) rfl rfl ?_
       refine WO.callR rfl Try.call16 (fun L w hi => ref_Cancels w m o rs (hR.later hi)) rfl ?_
       refine WO.p rfl rfl (WO.p rfl rfl (WO.p rfl rfl (WO.p rfl rfl (WO.p rfl rfl ?_))))
       refine WO.nil ?_
       refine W.sreg ?_
       refine WO.loadA rfl rfl (Cells.own (Pick.tail (Pick.tail (Pick.head)))) rfl rfl ?_
       refine WO.callR rfl Try.call17 (fun L w hi => c_Widest w m o rs (hR.later hi)) rfl ?_
       refine WO.p rfl rfl (WO.p rfl rfl (WO.p rfl rfl (WO.p rfl rfl (WO.p rfl rfl ?_))))
       refine WO.nil ?_
       refine W.sreg ?_
       refine WO.loadA rfl rfl (Cells.own (Pick.tail (Pick.tail (Pick.head)))) rfl rfl ?_
       refine WO.callR rfl Try.call18 (fun L w hi => ref_Widest w m o rs (hR.later hi)) rfl ?_
       refine WO.p rfl rfl (WO.p rfl rfl (WO.p rfl rfl (WO.p rfl rfl (WO.p rfl rfl ?_))))
       refine WO.nil ?_
       refine W.seq ?_
       refine W.drawD 33 [.b 0 [], .b 1 [], .b 2 [], .b 3 [], .r 4 [], .r 5 [], .r 6 [], .r 7 [], .f 8 [], .r 9 [], .r 10 [], .r 11 [], .r 12 [], .r 13 [], .r 14 [], .r 15 [], .r 16 [], .r 17 [], .r 18 [], .r 19 [], .r 20 [], .r 21 [], .r 22 [], .r 23 [], .r 24 [], .r 25 [], .r 26 [], .r 27 [], .r 28 [], .r 29 [], .r 30 [], .r 31 [], .r 32 []] [] (A0 := []) (Sub.refl _) (by kernel_rfl) ?_ ?_
       · exact (ALok.b (ALok.b (ALok.b (ALok.b (ALok.r (ALok.r (ALok.r (ALok.r (ALok.f (ALok.r (ALok.r (ALok.r (ALok.r (ALok.r (ALok.r (ALok.r (ALok.r (ALok.r (ALok.r (ALok.r (ALok.r (ALok.r (ALok.r (ALok.r (ALok.r (ALok.r (ALok.r (ALok.r (ALok.r (ALok.r (ALok.r (ALok.r (ALok.r ALok.nil)))))))))))))))))))))))))))))))))
       refine' DT.b rfl rfl rfl ?hq ?_
       case hq =>
         refine WO.loadA rfl rfl (Cells.own (Pick.tail (Pick.tail (Pick.head)))) rfl rfl ?_
         exact WO.nil ⟨rfl, rfl⟩
       refine' DT.b rfl rfl rfl ?hq ?_
       case hq =>
         refine WO.callR (r := .int .i64 (chkT m rs)) rfl Try.call19 (fun L w hi => c_CheckTest w m o rs (hR.later hi)) rfl ?_
         exact WO.nil ⟨rfl, rfl⟩
       refine' DT.b rfl rfl rfl ?hq ?_
       case hq =>
         refine WO.loadA rfl rfl (Cells.own (Pick.tail (Pick.tail (Pick.head)))) rfl rfl ?_
         exact WO.nil ⟨rfl, rfl⟩
       refine' DT.b rfl rfl rfl ?hq ?_
       case hq =>
         refine WO.callR (r := .int .i64 (chkT m rs)) rfl Try.call20 (fun L w hi => ref_CheckTest w m o rs (hR.later hi)) rfl ?_
         exact WO.nil ⟨rfl, rfl⟩
       refine' DT.r rfl rfl rfl ?hq ?_
       case hq =>
         refine WO.p rfl rfl ?_
         exact WO.nil ⟨rfl, rfl⟩
       refine' DT.rB rfl rfl rfl ?hq (fun c2 => ?_) (fun c2 => ?_)
       case hq =>
         refine WO.p rfl rfl ?_
         exact WO.nil ⟨rfl, rfl⟩
       · first
         | (exfalso; omega)
         | (refine' DT.r rfl rfl rfl ?hq ?_
            case hq =>
              refine WO.pg rfl rfl rfl ?_
              exact WO.nil ⟨rfl, rfl⟩
            refine' DT.r rfl rfl rfl ?hq ?_
            case hq =>
              refine WO.pg rfl rfl rfl ?_
              exact WO.nil ⟨rfl, rfl⟩
            refine' DT.f [_, _, _] rfl rfl rfl rfl ?hq ?_
            case hq =>
              refine WO.go' rfl ?_
              refine WO.callR (r := .bool true) rfl Try.call21 (fun L w hi => longs_t (law_longs w wa wb (wA m rs) (wA m rs) (RdF.of_ow (e := 2) encI_ok (by repeat (first | exact Pick.head | apply Pick.tail)) hi) (RdF.of_ow (e := 2) encI_ok (by repeat (first | exact Pick.head | apply Pick.tail)) hi))) rfl ?_
              exact WO.nil ⟨rfl, rfl⟩
            refine' DT.r rfl rfl rfl ?hq ?_
            case hq =>
              refine WO.p rfl rfl ?_
              exact WO.nil ⟨rfl, rfl⟩
            refine' DT.r rfl rfl rfl ?hq ?_
            case hq =>
              refine WO.p rfl rfl ?_
              exact WO.nil ⟨rfl, rfl⟩
            refine' DT.r rfl rfl rfl ?hq ?_
            case hq =>
              refine WO.pg rfl rfl rfl ?_
              exact WO.nil ⟨rfl, rfl⟩
            refine' DT.r rfl rfl rfl ?hq ?_
            case hq =>
              refine WO.pg rfl rfl rfl ?_
              exact WO.nil ⟨rfl, rfl⟩
            refine' DT.r rfl rfl rfl ?hq ?_
            case hq =>
              refine WO.pg rfl rfl rfl ?_
              exact WO.nil ⟨rfl, rfl⟩
            refine' DT.r rfl rfl rfl ?hq ?_
            case hq =>
              refine WO.p rfl rfl ?_
              exact WO.nil ⟨rfl, rfl⟩
            refine' DT.rB rfl rfl rfl ?hq (fun c3 => ?_) (fun c3 => ?_)
            case hq =>
              refine WO.p rfl rfl ?_
              exact WO.nil ⟨rfl, rfl⟩
            · first
              | (exfalso; omega)
              | (refine' DT.r rfl rfl rfl ?hq ?_
                 case hq =>
                   refine WO.pg rfl rfl rfl ?_
                   exact WO.nil ⟨rfl, rfl⟩
                 refine' DT.r rfl rfl rfl ?hq ?_
                 case hq =>
                   refine WO.pg rfl rfl rfl ?_
                   exact WO.nil ⟨rfl, rfl⟩
                 refine' DT.r rfl rfl rfl ?hq ?_
                 case hq =>
                   refine WO.pg rfl rfl rfl ?_
                   exact WO.nil ⟨rfl, rfl⟩
                 refine' DT.r rfl rfl rfl ?hq ?_
                 case hq =>
                   refine WO.p rfl rfl ?_
                   exact WO.nil ⟨rfl, rfl⟩
                 refine' DT.rB rfl rfl rfl ?hq (fun c4 => ?_) (fun c4 => ?_)
                 case hq =>
                   refine WO.p rfl rfl ?_
                   exact WO.nil ⟨rfl, rfl⟩
                 · first
                   | (exfalso; omega)
                   | (refine' DT.r rfl rfl rfl ?hq ?_
                      case hq =>
                        refine WO.pg rfl rfl rfl ?_
                        exact WO.nil ⟨rfl, rfl⟩
                      refine' DT.r rfl rfl rfl ?hq ?_
                      case hq =>
                        refine WO.pg rfl rfl rfl ?_
                        exact WO.nil ⟨rfl, rfl⟩
                      refine' DT.r rfl rfl rfl ?hq ?_
                      case hq =>
                        refine WO.pg rfl rfl rfl ?_
                        exact WO.nil ⟨rfl, rfl⟩
                      refine' DT.r rfl rfl rfl ?hq ?_
                      case hq =>
                        refine WO.p rfl rfl ?_
                        exact WO.nil ⟨rfl, rfl⟩
                      refine' DT.rB rfl rfl rfl ?hq (fun c5 => ?_) (fun c5 => ?_)
                      case hq =>
                        refine WO.p rfl rfl ?_
                        exact WO.nil ⟨rfl, rfl⟩
                      · first
                        | (exfalso; omega)
                        | (refine' DT.r rfl rfl rfl ?hq ?_
                           case hq =>
                             refine WO.pg rfl rfl rfl ?_
                             exact WO.nil ⟨rfl, rfl⟩
                           refine' DT.r rfl rfl rfl ?hq ?_
                           case hq =>
                             refine WO.pg rfl rfl rfl ?_
                             exact WO.nil ⟨rfl, rfl⟩
                           refine' DT.r rfl rfl rfl ?hq ?_
                           case hq =>
                             refine WO.pg rfl rfl rfl ?_
                             exact WO.nil ⟨rfl, rfl⟩
                           refine' DT.r rfl rfl rfl ?hq ?_
                           case hq =>
                             refine WO.p rfl rfl ?_
                             exact WO.nil ⟨rfl, rfl⟩
                           refine' DT.rB rfl rfl rfl ?hq (fun c6 => ?_) (fun c6 => ?_)
                           case hq =>
                             refine WO.p rfl rfl ?_
                             exact WO.nil ⟨rfl, rfl⟩
                           · first
                             | (exfalso; omega)
                             | (refine' DT.r rfl rfl rfl ?hq ?_
                                case hq =>
                                  refine WO.pg rfl rfl rfl ?_
                                  exact WO.nil ⟨rfl, rfl⟩
                                refine' DT.r rfl rfl rfl ?hq ?_
                                case hq =>
                                  refine WO.pg rfl rfl rfl ?_
                                  exact WO.nil ⟨rfl, rfl⟩
                                refine DT.nil [_, _, _] rfl ?_
                                refine WO.pg rfl rfl rfl (WO.p rfl rfl (WO.p rfl rfl ?_))
                                refine WO.guard_bl rfl rfl (fun c7 => ?_) (fun c7 => ?_)
                                · first
                                  | (exfalso; omega)
                                  | (refine WO.go' rfl ?_
                                     refine WO.callR rfl Try.call12 (fun L w hi => law_Works w) rfl ?_
                                     refine WO.p rfl rfl (WO.p rfl rfl ?_)
                                     refine WO.nil ?_
                                     refine W.ret ?_
                                     exact fin.ret (Res.one rfl (RV.tmp rfl)) rfl)
                                · first
                                  | (exfalso; omega)
                                  | (refine WO.no rfl rfl (WO.p rfl rfl (WO.p rfl rfl ?_))
                                     refine WO.nil ?_
                                     refine W.ret ?_
                                     exact fin.ret (Res.one rfl (RV.tmp rfl)) rfl))
                           · first
                             | (exfalso; omega)
                             | (refine' DT.r rfl rfl rfl ?hq ?_
                                case hq =>
                                  refine WO.no rfl rfl ?_
                                  exact WO.nil ⟨rfl, rfl⟩
                                refine' DT.r rfl rfl rfl ?hq ?_
                                case hq =>
                                  refine WO.no rfl rfl ?_
                                  exact WO.nil ⟨rfl, rfl⟩
                                refine DT.nil [_, _, _] rfl ?_
                                refine WO.no rfl rfl (WO.p rfl rfl (WO.p rfl rfl (WO.no rfl rfl (WO.p rfl rfl (WO.p rfl rfl ?_)))))
                                refine WO.nil ?_
                                refine W.ret ?_
                                exact fin.ret (Res.one rfl (RV.tmp rfl)) rfl))
                      · first
                        | (exfalso; omega)
                        | (refine' DT.r rfl rfl rfl ?hq ?_
                           case hq =>
                             refine WO.no rfl rfl ?_
                             exact WO.nil ⟨rfl, rfl⟩
                           refine' DT.r rfl rfl rfl ?hq ?_
                           case hq =>
                             refine WO.no rfl rfl ?_
                             exact WO.nil ⟨rfl, rfl⟩
                           refine' DT.r rfl rfl rfl ?hq ?_
                           case hq =>
                             refine WO.no rfl rfl ?_
                             exact WO.nil ⟨rfl, rfl⟩
                           refine' DT.r rfl rfl rfl ?hq ?_
                           case hq =>
                             refine WO.p rfl rfl ?_
                             exact WO.nil ⟨rfl, rfl⟩
                           refine' DT.r rfl rfl rfl ?hq ?_
                           case hq =>
                             refine WO.p rfl rfl ?_
                             exact WO.nil ⟨rfl, rfl⟩
                           refine' DT.r rfl rfl rfl ?hq ?_
                           case hq =>
                             refine WO.no rfl rfl ?_
                             exact WO.nil ⟨rfl, rfl⟩
                           refine' DT.r rfl rfl rfl ?hq ?_
                           case hq =>
                             refine WO.no rfl rfl ?_
                             exact WO.nil ⟨rfl, rfl⟩
                           refine DT.nil [_, _, _] rfl ?_
                           refine WO.no rfl rfl (WO.p rfl rfl (WO.p rfl rfl (WO.no rfl rfl (WO.p rfl rfl (WO.p rfl rfl ?_)))))
                           refine WO.nil ?_
                           refine W.ret ?_
                           exact fin.ret (Res.one rfl (RV.tmp rfl)) rfl))
                 · first
                   | (exfalso; omega)
                   | (refine' DT.r rfl rfl rfl ?hq ?_
                      case hq =>
                        refine WO.no rfl rfl ?_
                        exact WO.nil ⟨rfl, rfl⟩
                      refine' DT.r rfl rfl rfl ?hq ?_
                      case hq =>
                        refine WO.no rfl rfl ?_
                        exact WO.nil ⟨rfl, rfl⟩
                      refine' DT.r rfl rfl rfl ?hq ?_
                      case hq =>
                        refine WO.no rfl rfl ?_
                        exact WO.nil ⟨rfl, rfl⟩
                      refine' DT.r rfl rfl rfl ?hq ?_
                      case hq =>
                        refine WO.p rfl rfl ?_
                        exact WO.nil ⟨rfl, rfl⟩
                      refine' DT.r rfl rfl rfl ?hq ?_
                      case hq =>
                        refine WO.p rfl rfl ?_
                        exact WO.nil ⟨rfl, rfl⟩
                      refine' DT.r rfl rfl rfl ?hq ?_
                      case hq =>
                        refine WO.no rfl rfl ?_
                        exact WO.nil ⟨rfl, rfl⟩
                      refine' DT.r rfl rfl rfl ?hq ?_
                      case hq =>
                        refine WO.no rfl rfl ?_
                        exact WO.nil ⟨rfl, rfl⟩
                      refine' DT.r rfl rfl rfl ?hq ?_
                      case hq =>
                        refine WO.no rfl rfl ?_
                        exact WO.nil ⟨rfl, rfl⟩
                      refine' DT.r rfl rfl rfl ?hq ?_
                      case hq =>
                        refine WO.p rfl rfl ?_
                        exact WO.nil ⟨rfl, rfl⟩
                      refine' DT.r rfl rfl rfl ?hq ?_
                      case hq =>
                        refine WO.p rfl rfl ?_
                        exact WO.nil ⟨rfl, rfl⟩
                      refine' DT.r rfl rfl rfl ?hq ?_
                      case hq =>
                        refine WO.no rfl rfl ?_
                        exact WO.nil ⟨rfl, rfl⟩
                      refine' DT.r rfl rfl rfl ?hq ?_
                      case hq =>
                        refine WO.no rfl rfl ?_
                        exact WO.nil ⟨rfl, rfl⟩
                      refine DT.nil [_, _, _] rfl ?_
                      refine WO.no rfl rfl (WO.p rfl rfl (WO.p rfl rfl (WO.no rfl rfl (WO.p rfl rfl (WO.p rfl rfl ?_)))))
                      refine WO.nil ?_
                      refine W.ret ?_
                      exact fin.ret (Res.one rfl (RV.tmp rfl)) rfl))
            · first
              | (exfalso; omega)
              | (refine' DT.r rfl rfl rfl ?hq ?_
                 case hq =>
                   refine WO.no rfl rfl ?_
                   exact WO.nil ⟨rfl, rfl⟩
                 refine' DT.r rfl rfl rfl ?hq ?_
                 case hq =>
                   refine WO.no rfl rfl ?_
                   exact WO.nil ⟨rfl, rfl⟩
                 refine' DT.r rfl rfl rfl ?hq ?_
                 case hq =>
                   refine WO.no rfl rfl ?_
                   exact WO.nil ⟨rfl, rfl⟩
                 refine' DT.r rfl rfl rfl ?hq ?_
                 case hq =>
                   refine WO.p rfl rfl ?_
                   exact WO.nil ⟨rfl, rfl⟩
                 refine' DT.r rfl rfl rfl ?hq ?_
                 case hq =>
                   refine WO.p rfl rfl ?_
                   exact WO.nil ⟨rfl, rfl⟩
                 refine' DT.r rfl rfl rfl ?hq ?_
                 case hq =>
                   refine WO.no rfl rfl ?_
                   exact WO.nil ⟨rfl, rfl⟩
                 refine' DT.r rfl rfl rfl ?hq ?_
                 case hq =>
                   refine WO.no rfl rfl ?_
                   exact WO.nil ⟨rfl, rfl⟩
                 refine' DT.r rfl rfl rfl ?hq ?_
                 case hq =>
                   refine WO.no rfl rfl ?_
                   exact WO.nil ⟨rfl, rfl⟩
                 refine' DT.r rfl rfl rfl ?hq ?_
                 case hq =>
                   refine WO.p rfl rfl ?_
                   exact WO.nil ⟨rfl, rfl⟩
                 refine' DT.r rfl rfl rfl ?hq ?_
                 case hq =>
                   refine WO.p rfl rfl ?_
                   exact WO.nil ⟨rfl, rfl⟩
                 refine' DT.r rfl rfl rfl ?hq ?_
                 case hq =>
                   refine WO.no rfl rfl ?_
                   exact WO.nil ⟨rfl, rfl⟩
                 refine' DT.r rfl rfl rfl ?hq ?_
                 case hq =>
                   refine WO.no rfl rfl ?_
                   exact WO.nil ⟨rfl, rfl⟩
                 refine' DT.r rfl rfl rfl ?hq ?_
                 case hq =>
                   refine WO.no rfl rfl ?_
                   exact WO.nil ⟨rfl, rfl⟩
                 refine' DT.r rfl rfl rfl ?hq ?_
                 case hq =>
                   refine WO.p rfl rfl ?_
                   exact WO.nil ⟨rfl, rfl⟩
                 refine' DT.r rfl rfl rfl ?hq ?_
                 case hq =>
                   refine WO.p rfl rfl ?_
                   exact WO.nil ⟨rfl, rfl⟩
                 refine' DT.r rfl rfl rfl ?hq ?_
                 case hq =>
                   refine WO.no rfl rfl ?_
                   exact WO.nil ⟨rfl, rfl⟩
                 refine' DT.r rfl rfl rfl ?hq ?_
                 case hq =>
                   refine WO.no rfl rfl ?_
                   exact WO.nil ⟨rfl, rfl⟩
                 refine DT.nil [_, _, _] rfl ?_
                 refine WO.no rfl rfl (WO.p rfl rfl (WO.p rfl rfl (WO.no rfl rfl (WO.p rfl rfl (WO.p rfl rfl ?_)))))
                 refine WO.nil ?_
                 refine W.ret ?_
                 exact fin.ret (Res.one rfl (RV.tmp rfl)) rfl))
       · first
         | (exfalso; omega)
         | (refine' DT.r rfl rfl rfl ?hq ?_
            case hq =>
              refine WO.no rfl rfl ?_
              exact WO.nil ⟨rfl, rfl⟩
            refine' DT.r rfl rfl rfl ?hq ?_
            case hq =>
              refine WO.no rfl rfl ?_
              exact WO.nil ⟨rfl, rfl⟩
            refine' DT.f [_, _, _] rfl rfl rfl rfl ?hq ?_
            case hq =>
              refine WO.no rfl rfl ?_
              exact WO.nil ⟨rfl, rfl⟩
            refine' DT.r rfl rfl rfl ?hq ?_
            case hq =>
              refine WO.p rfl rfl ?_
              exact WO.nil ⟨rfl, rfl⟩
            refine' DT.r rfl rfl rfl ?hq ?_
            case hq =>
              refine WO.p rfl rfl ?_
              exact WO.nil ⟨rfl, rfl⟩
            refine' DT.r rfl rfl rfl ?hq ?_
            case hq =>
              refine WO.no rfl rfl ?_
              exact WO.nil ⟨rfl, rfl⟩
            refine' DT.r rfl rfl rfl ?hq ?_
            case hq =>
              refine WO.no rfl rfl ?_
              exact WO.nil ⟨rfl, rfl⟩
            refine' DT.r rfl rfl rfl ?hq ?_
            case hq =>
              refine WO.no rfl rfl ?_
              exact WO.nil ⟨rfl, rfl⟩
            refine' DT.r rfl rfl rfl ?hq ?_
            case hq =>
              refine WO.p rfl rfl ?_
              exact WO.nil ⟨rfl, rfl⟩
            refine' DT.r rfl rfl rfl ?hq ?_
            case hq =>
              refine WO.p rfl rfl ?_
              exact WO.nil ⟨rfl, rfl⟩
            refine' DT.r rfl rfl rfl ?hq ?_
            case hq =>
              refine WO.no rfl rfl ?_
              exact WO.nil ⟨rfl, rfl⟩
            refine' DT.r rfl rfl rfl ?hq ?_
            case hq =>
              refine WO.no rfl rfl ?_
              exact WO.nil ⟨rfl, rfl⟩
            refine' DT.r rfl rfl rfl ?hq ?_
            case hq =>
              refine WO.no rfl rfl ?_
              exact WO.nil ⟨rfl, rfl⟩
            refine' DT.r rfl rfl rfl ?hq ?_
            case hq =>
              refine WO.p rfl rfl ?_
              exact WO.nil ⟨rfl, rfl⟩
            refine' DT.r rfl rfl rfl ?hq ?_
            case hq =>
              refine WO.p rfl rfl ?_
              exact WO.nil ⟨rfl, rfl⟩
            refine' DT.r rfl rfl rfl ?hq ?_
            case hq =>
              refine WO.no rfl rfl ?_
              exact WO.nil ⟨rfl, rfl⟩
            refine' DT.r rfl rfl rfl ?hq ?_
            case hq =>
              refine WO.no rfl rfl ?_
              exact WO.nil ⟨rfl, rfl⟩
            refine' DT.r rfl rfl rfl ?hq ?_
            case hq =>
              refine WO.no rfl rfl ?_
              exact WO.nil ⟨rfl, rfl⟩
            refine' DT.r rfl rfl rfl ?hq ?_
            case hq =>
              refine WO.p rfl rfl ?_
              exact WO.nil ⟨rfl, rfl⟩
            refine' DT.r rfl rfl rfl ?hq ?_
            case hq =>
              refine WO.p rfl rfl ?_
              exact WO.nil ⟨rfl, rfl⟩
            refine' DT.r rfl rfl rfl ?hq ?_
            case hq =>
              refine WO.no rfl rfl ?_
              exact WO.nil ⟨rfl, rfl⟩
            refine' DT.r rfl rfl rfl ?hq ?_
            case hq =>
              refine WO.no rfl rfl ?_
              exact WO.nil ⟨rfl, rfl⟩
            refine' DT.r rfl rfl rfl ?hq ?_
            case hq =>
              refine WO.no rfl rfl ?_
              exact WO.nil ⟨rfl, rfl⟩
            refine' DT.r rfl rfl rfl ?hq ?_
            case hq =>
              refine WO.p rfl rfl ?_
              exact WO.nil ⟨rfl, rfl⟩
            refine' DT.r rfl rfl rfl ?hq ?_
            case hq =>
              refine WO.p rfl rfl ?_
              exact WO.nil ⟨rfl, rfl⟩
            refine' DT.r rfl rfl rfl ?hq ?_
            case hq =>
              refine WO.no rfl rfl ?_
              exact WO.nil ⟨rfl, rfl⟩
            refine' DT.r rfl rfl rfl ?hq ?_
            case hq =>
              refine WO.no rfl rfl ?_
              exact WO.nil ⟨rfl, rfl⟩
            refine DT.nil [_, _, _] rfl ?_
            refine WO.no rfl rfl (WO.p rfl rfl (WO.p rfl rfl (WO.no rfl rfl (WO.p rfl rfl (WO.p rfl rfl ?_)))))
            refine WO.nil ?_
            refine W.ret ?_
            exact fin.ret (Res.one rfl (RV.tmp rfl)) rfl))
theorem law_TrialMeans (w : World) (m : Int) (o u v : Value) (rs : List (Int × Int × Int)) (xs ys : List Int) (hR : RdF encR 3 w.heap.size w o rs) (hX : RdF encI 1 w.heap.size w u xs) (hY : RdF encI 1 w.heap.size w v ys) : Ret Try.prog 4 [.agg #[.int .i64 m, o], u, v].toArray w (.bool true) := by
  refine Ret.of mixed tyTab Try.func4 rfl rfl ?_
  replace hR : RdF encR 3 (fnCx mixed tyTab Try.f4.ntmps w).B (fnCx mixed tyTab Try.f4.ntmps w).w0 o rs := hR
  replace hX : RdF encI 1 (fnCx mixed tyTab Try.f4.ntmps w).B (fnCx mixed tyTab Try.f4.ntmps w).w0 u xs := hX
  replace hY : RdF encI 1 (fnCx mixed tyTab Try.f4.ntmps w).B (fnCx mixed tyTab Try.f4.ntmps w).w0 v ys := hY
  have ho := hR.sl.oc
  obtain ⟨a1, a2, h1⟩ : ∃ a b, meanV m rs xs = (a, b) := ⟨_, _, rfl⟩
  obtain ⟨b1', b2', h2⟩ : ∃ a b, spanV m rs (loT rs) = (a, b) := ⟨_, _, rfl⟩
  obtain ⟨b3', b4', h3⟩ : ∃ a b, spanV m rs (hiT rs) = (a, b) := ⟨_, _, rfl⟩
  obtain ⟨d1, d2, h4⟩ : ∃ a b, offV m rs ys = (a, b) := ⟨_, _, rfl⟩
  have hm : meanR m rs xs = .tuple #[.agg #[.int .i64 a1, .int .i64 a2], .int .i64 (meanE m rs xs)] := by unfold meanR; rw [h1]; rfl
  have hs : spanR m rs = .tuple #[.agg #[.int .i64 b1', .int .i64 b2', .int .i64 b3', .int .i64 b4'], .int .i64 (chkT m rs)] := by unfold spanR; rw [h2, h3]; rfl
  have hf : offR m rs ys = .tuple #[.agg #[.int .i64 d1, .int .i64 d2], .int .i64 (offE m rs ys)] := by unfold offR; rw [h4]; rfl
  refine W.sreg ?_
  refine WO.boxA rfl rfl (fun b1 hb1 => ?_)
  refine WO.p rfl rfl ?_
  refine WO.nil ?_
  refine W.seq ?_
  refine W.sreg ?_
  refine WO.fieldL rfl rfl rfl (WO.load rfl rfl (Cell.own Pick.head rfl) rfl ?_)
  refine' WO.len (n := _) rfl rfl ?hs rfl ?_
  case hs => (first | exact hR.sl | exact hX.sl | exact hY.sl)
  refine WO.p rfl rfl (WO.p rfl rfl ?_)
  refine WO.guard_bl rfl rfl (fun c1 => ?_) (fun c1 => ?_)
  · first
    | (exfalso; omega)
    | (refine WO.no rfl rfl (WO.no rfl rfl (WO.no rfl rfl (WO.p rfl rfl (WO.p rfl rfl (WO.no rfl rfl (WO.no rfl rfl (WO.no rfl rfl (WO.p rfl rfl ?_))))))))
       refine WO.nil ?_
       refine W.cond_t rfl ?_
       refine W.sreg ?_
       refine WO.callR rfl Try.call12 (fun L w hi => law_Works w) rfl ?_
       refine WO.p rfl rfl ?_
       refine WO.nil ?_
       refine W.ret ?_
       exact fin.ret (Res.one rfl (RV.tmp rfl)) rfl)
  · first
    | (exfalso; omega)
    | (refine WO.pg rfl rfl rfl (WO.go' rfl ?_)
       refine' WO.len (n := _) rfl rfl ?hs rfl ?_
       case hs => (first | exact hR.sl | exact hX.sl | exact hY.sl)
       refine WO.pg rfl rfl rfl (WO.p rfl rfl (WO.p rfl rfl ?_))
       refine WO.guard_bl rfl rfl (fun c2 => ?_) (fun c2 => ?_)
       · first
         | (exfalso; omega)
         | (refine WO.no rfl rfl (WO.no rfl rfl (WO.no rfl rfl (WO.p rfl rfl ?_)))
            refine WO.nil ?_
            refine W.cond_t rfl ?_
            refine W.sreg ?_
            refine WO.callR rfl Try.call12 (fun L w hi => law_Works w) rfl ?_
            refine WO.p rfl rfl ?_
            refine WO.nil ?_
            refine W.ret ?_
            exact fin.ret (Res.one rfl (RV.tmp rfl)) rfl)
       · first
         | (exfalso; omega)
         | (refine WO.pg rfl rfl rfl (WO.go' rfl ?_)
            refine' WO.len (n := _) rfl rfl ?hs rfl ?_
            case hs => (first | exact hR.sl | exact hX.sl | exact hY.sl)
            refine WO.pg rfl rfl rfl (WO.p rfl rfl ?_)
            refine WO.nil ?_
            refine W.cond_bl rfl (fun c3 => ?_) (fun c3 => ?_)
            · first
              | (exfalso; omega)
              | (refine W.sreg ?_
                 refine WO.callR rfl Try.call12 (fun L w hi => law_Works w) rfl ?_
                 refine WO.p rfl rfl ?_
                 refine WO.nil ?_
                 refine W.ret ?_
                 exact fin.ret (Res.one rfl (RV.tmp rfl)) rfl)
            · first
              | (exfalso; omega)
              | (refine W.skip ?_
                 refine W.sreg ?_
                 refine WO.loadA rfl rfl (Cells.own Pick.head) rfl rfl (WO.p rfl rfl ?_)
                 refine WO.callR rfl Try.call22 (fun L w hi => by have h := c_Mean w m o u rs xs (hR.later hi) (hX.later hi); rw [hm] at h; exact h) rfl ?_
                 refine WO.p rfl rfl (WO.p rfl rfl (WO.p rfl rfl ?_))
                 refine WO.alloc rfl rfl rfl (fun b2 hb2 => ?_)
                 refine WO.storeA rfl rfl rfl rfl Pick.head rfl rfl (WO.p rfl rfl ?_)
                 refine WO.nil ?_
                 refine W.sreg ?_
                 refine WO.loadA rfl rfl (Cells.own (Pick.tail (Pick.head))) rfl rfl (WO.p rfl rfl ?_)
                 refine WO.callR rfl Try.call23 (fun L w hi => by have h := ref_Mean w m o u rs xs (hR.later hi) (hX.later hi); rw [hm] at h; exact h) rfl ?_
                 refine WO.p rfl rfl (WO.p rfl rfl (WO.p rfl rfl ?_))
                 refine WO.alloc rfl rfl rfl (fun b3 hb3 => ?_)
                 refine WO.storeA rfl rfl rfl rfl Pick.head rfl rfl (WO.p rfl rfl ?_)
                 refine WO.nil ?_
                 refine W.sreg ?_
                 refine WO.loadA rfl rfl (Cells.own (Pick.tail (Pick.tail (Pick.head)))) rfl rfl ?_
                 refine WO.callR rfl Try.call24 (fun L w hi => by have h := c_Span w m o rs (hR.later hi); rw [hs] at h; exact h) rfl ?_
                 refine WO.p rfl rfl (WO.p rfl rfl (WO.p rfl rfl ?_))
                 refine WO.alloc rfl rfl rfl (fun b4 hb4 => ?_)
                 refine WO.storeA rfl rfl rfl rfl Pick.head rfl rfl (WO.p rfl rfl ?_)
                 refine WO.nil ?_
                 refine W.sreg ?_
                 refine WO.loadA rfl rfl (Cells.own (Pick.tail (Pick.tail (Pick.tail (Pick.head))))) rfl rfl ?_
                 refine WO.callR rfl Try.call25 (fun L w hi => by have h := ref_Span w m o rs (hR.later hi); rw [hs] at h; exact h) rfl ?_
                 refine WO.p rfl rfl (WO.p rfl rfl (WO.p rfl rfl ?_))
                 refine WO.alloc rfl rfl rfl (fun b5 hb5 => ?_)
                 refine WO.storeA rfl rfl rfl rfl Pick.head rfl rfl (WO.p rfl rfl ?_)
                 refine WO.nil ?_
                 refine W.sreg ?_
                 refine WO.loadA rfl rfl (Cells.own (Pick.tail (Pick.tail (Pick.tail (Pick.tail (Pick.head)))))) rfl rfl (WO.p rfl rfl ?_)
                 refine WO.callR rfl Try.call26 (fun L w hi => by have h := c_Off w m o v rs ys (hR.later hi) (hY.later hi); rw [hf] at h; exact h) rfl ?_
                 refine WO.p rfl rfl (WO.p rfl rfl (WO.p rfl rfl ?_))
                 refine WO.alloc rfl rfl rfl (fun b6 hb6 => ?_)
                 refine WO.storeA rfl rfl rfl rfl Pick.head rfl rfl (WO.p rfl rfl ?_)
                 refine WO.nil ?_
                 refine W.sreg ?_
                 refine WO.loadA rfl rfl (Cells.own (Pick.tail (Pick.tail (Pick.tail (Pick.tail (Pick.tail (Pick.head))))))) rfl rfl (WO.p rfl rfl ?_)
                 refine WO.callR rfl Try.call27 (fun L w hi => by have h := ref_Off w m o v rs ys (hR.later hi) (hY.later hi); rw [hf] at h; exact h) rfl ?_
                 refine WO.p rfl rfl (WO.p rfl rfl (WO.p rfl rfl ?_))
                 refine WO.alloc rfl rfl rfl (fun b7 hb7 => ?_)
                 refine WO.storeA rfl rfl rfl rfl Pick.head rfl rfl (WO.p rfl rfl ?_)
                 refine WO.nil ?_
                 refine W.sreg ?_
                 refine WO.loadA rfl rfl (Cells.own (Pick.tail (Pick.tail (Pick.tail (Pick.tail (Pick.tail (Pick.head))))))) rfl rfl (WO.loadA rfl rfl (Cells.own (Pick.tail (Pick.tail (Pick.tail (Pick.tail (Pick.head)))))) rfl rfl ?_)
                 refine WO.eqT rfl rfl (eq36t _ _) rfl ?_
                 refine WO.p rfl rfl (WO.pg rfl rfl rfl (WO.pg rfl rfl rfl (WO.pg rfl rfl rfl (WO.p rfl rfl (WO.p rfl rfl ?_)))))
                 refine WO.guard_bl rfl rfl (fun c4 => ?_) (fun c4 => ?_)
                 · first
                   | (exfalso; omega)
                   | (refine WO.go' rfl (WO.loadA rfl rfl (Cells.own (Pick.tail (Pick.tail (Pick.tail (Pick.head))))) rfl rfl (WO.go' rfl (WO.loadA rfl rfl (Cells.own (Pick.tail (Pick.tail (Pick.head)))) rfl rfl (WO.go' rfl ?_))))
                      refine WO.eqT rfl rfl (eq40t _ _ _ _) rfl ?_
                      refine WO.p rfl rfl (WO.p rfl rfl (WO.pg rfl rfl rfl (WO.pg rfl rfl rfl (WO.pg rfl rfl rfl (WO.p rfl rfl (WO.p rfl rfl ?_))))))
                      refine WO.guard_bl rfl rfl (fun c5 => ?_) (fun c5 => ?_)
                      · first
                        | (exfalso; omega)
                        | (refine WO.go' rfl (WO.loadA rfl rfl (Cells.own (Pick.tail (Pick.head))) rfl rfl (WO.go' rfl (WO.loadA rfl rfl (Cells.own Pick.head) rfl rfl (WO.go' rfl ?_))))
                           refine WO.eqT rfl rfl (eq36t _ _) rfl ?_
                           refine WO.p rfl rfl (WO.p rfl rfl (WO.pg rfl rfl rfl (WO.pg rfl rfl rfl (WO.pg rfl rfl rfl (WO.p rfl rfl (WO.p rfl rfl ?_))))))
                           refine WO.guard_bl rfl rfl (fun c6 => ?_) (fun c6 => ?_)
                           · first
                             | (exfalso; omega)
                             | (refine WO.go' rfl ?_
                                refine WO.callR rfl Try.call12 (fun L w hi => law_Works w) rfl ?_
                                refine WO.p rfl rfl (WO.p rfl rfl ?_)
                                refine WO.nil ?_
                                refine W.ret ?_
                                exact fin.ret (Res.one rfl (RV.tmp rfl)) rfl)
                           · first
                             | (exfalso; omega)
                             | (refine WO.no rfl rfl (WO.p rfl rfl (WO.p rfl rfl ?_))
                                refine WO.nil ?_
                                refine W.ret ?_
                                exact fin.ret (Res.one rfl (RV.tmp rfl)) rfl))
                      · first
                        | (exfalso; omega)
                        | (refine WO.no rfl rfl (WO.no rfl rfl (WO.no rfl rfl (WO.p rfl rfl (WO.p rfl rfl (WO.no rfl rfl (WO.no rfl rfl (WO.no rfl rfl (WO.p rfl rfl (WO.p rfl rfl (WO.no rfl rfl (WO.p rfl rfl ?_)))))))))))
                           refine WO.p rfl rfl ?_
                           refine WO.nil ?_
                           refine W.ret ?_
                           exact fin.ret (Res.one rfl (RV.tmp rfl)) rfl))
                 · first
                   | (exfalso; omega)
                   | (refine WO.no rfl rfl (WO.no rfl rfl (WO.no rfl rfl (WO.p rfl rfl (WO.p rfl rfl (WO.no rfl rfl (WO.no rfl rfl (WO.no rfl rfl (WO.p rfl rfl (WO.p rfl rfl (WO.no rfl rfl (WO.no rfl rfl ?_)))))))))))
                      refine WO.no rfl rfl (WO.p rfl rfl (WO.p rfl rfl (WO.no rfl rfl (WO.no rfl rfl (WO.no rfl rfl (WO.p rfl rfl (WO.p rfl rfl (WO.no rfl rfl (WO.p rfl rfl (WO.p rfl rfl ?_))))))))))
                      refine WO.nil ?_
                      refine W.ret ?_
                      exact fin.ret (Res.one rfl (RV.tmp rfl)) rfl))))
theorem law_TrialPays (w : World) (c : Con) (n d m : Int) (o : Value) (rs : List (Int × Int × Int)) (hR : RdF encR 3 w.heap.size w o rs) : Ret Try.prog 5 [.agg #[.int .i64 c.sp, .int .i64 c.st, .int .i64 c.pr, .int .i64 c.pe, .int .i64 c.mo, .int .i64 c.rf, .int .i64 c.rd], .agg #[.int .i64 n, .int .i64 d], .agg #[.int .i64 m, o]].toArray w (.bool true) := by
  refine Ret.of mixed tyTab Try.func5 rfl rfl ?_
  replace hR : RdF encR 3 (fnCx mixed tyTab Try.f5.ntmps w).B (fnCx mixed tyTab Try.f5.ntmps w).w0 o rs := hR
  have ho := hR.sl.oc
  refine W.sreg ?_
  refine WO.boxA rfl rfl (fun b1 hb1 => ?_)
  refine WO.boxA rfl rfl (fun b2 hb2 => ?_)
  refine WO.boxA rfl rfl (fun b3 hb3 => ?_)
  refine WO.p rfl rfl ?_
  refine WO.nil ?_
  refine W.seq ?_
  refine W.sreg ?_
  refine WO.fieldL rfl rfl rfl (WO.load rfl rfl (Cell.own Pick.head rfl) rfl ?_)
  refine' WO.len (n := _) rfl rfl ?hs rfl ?_
  case hs => (first | exact hR.sl)
  refine WO.p rfl rfl ?_
  refine WO.nil ?_
  refine W.cond_bl rfl (fun c1 => ?_) (fun c1 => ?_)
  · first
    | (exfalso; omega)
    | (refine W.sreg ?_
       refine WO.callR rfl Try.call12 (fun L w hi => law_Works w) rfl ?_
       refine WO.p rfl rfl ?_
       refine WO.nil ?_
       refine W.ret ?_
       exact fin.ret (Res.one rfl (RV.tmp rfl)) rfl)
  · first
    | (exfalso; omega)
    | (refine W.skip ?_
       refine W.sreg ?_
       refine WO.loadA rfl rfl (Cells.own (Pick.tail (Pick.tail (Pick.head)))) rfl rfl (WO.loadA rfl rfl (Cells.own (Pick.tail (Pick.head))) rfl rfl ?_)
       refine WO.callR (r := payR c n d) rfl Try.call28 (fun L w hi => c_Pay w c n d) rfl ?_
       refine WO.p rfl rfl (WO.p rfl rfl (WO.p rfl rfl (WO.p rfl rfl (WO.p rfl rfl ?_))))
       refine WO.nil ?_
       refine W.sreg ?_
       refine WO.loadA rfl rfl (Cells.own (Pick.tail (Pick.tail (Pick.head)))) rfl rfl (WO.loadA rfl rfl (Cells.own (Pick.tail (Pick.head))) rfl rfl ?_)
       refine WO.callR (r := payR c n d) rfl Try.call29 (fun L w hi => ref_Pay w c n d) rfl ?_
       refine WO.p rfl rfl (WO.p rfl rfl (WO.p rfl rfl (WO.p rfl rfl (WO.p rfl rfl ?_))))
       refine WO.nil ?_
       refine W.sreg ?_
       refine WO.loadA rfl rfl (Cells.own (Pick.tail (Pick.tail (Pick.head)))) rfl rfl (WO.loadA rfl rfl (Cells.own Pick.head) rfl rfl ?_)
       refine WO.callR (r := paysR c m rs) rfl Try.call30 (fun L w hi => c_Pays w c m o rs (hR.later hi)) rfl ?_
       refine WO.p rfl rfl (WO.p rfl rfl (WO.p rfl rfl ?_))
       refine WO.alloc rfl rfl rfl (fun b4 hb4 => ?_)
       refine WO.storeA rfl rfl rfl rfl Pick.head rfl rfl (WO.p rfl rfl ?_)
       refine WO.nil ?_
       refine W.sreg ?_
       refine WO.loadA rfl rfl (Cells.own (Pick.tail (Pick.tail (Pick.tail (Pick.head))))) rfl rfl (WO.loadA rfl rfl (Cells.own (Pick.tail (Pick.head))) rfl rfl ?_)
       refine WO.callR (r := paysR c m rs) rfl Try.call31 (fun L w hi => ref_Pays w c m o rs (hR.later hi)) rfl ?_
       refine WO.p rfl rfl (WO.p rfl rfl (WO.p rfl rfl ?_))
       refine WO.alloc rfl rfl rfl (fun b5 hb5 => ?_)
       refine WO.storeA rfl rfl rfl rfl Pick.head rfl rfl (WO.p rfl rfl ?_)
       refine WO.nil ?_
       refine W.seq ?_
       refine W.drawD 23 [.b 0 [], .b 1 [], .b 2 [], .b 3 [], .r 4 [], .r 5 [], .r 6 [], .r 7 [], .r 8 [], .r 9 [], .r 10 [], .r 11 [], .r 12 [], .r 13 [], .r 14 [], .r 15 [], .b 16 [], .b 17 [], .r 18 [], .r 19 [], .r 20 [], .r 21 [], .r 22 []] [] (A0 := []) (Sub.refl _) (by kernel_rfl) ?_ ?_
       · exact (ALok.b (ALok.b (ALok.b (ALok.b (ALok.r (ALok.r (ALok.r (ALok.r (ALok.r (ALok.r (ALok.r (ALok.r (ALok.r (ALok.r (ALok.r (ALok.r (ALok.b (ALok.b (ALok.r (ALok.r (ALok.r (ALok.r (ALok.r ALok.nil)))))))))))))))))))))))
       refine' DT.b rfl rfl rfl ?hq ?_
       case hq =>
         refine WO.loadA rfl rfl (Cells.own (Pick.tail (Pick.tail (Pick.tail (Pick.tail (Pick.head)))))) rfl rfl ?_
         exact WO.nil ⟨rfl, rfl⟩
       refine' DT.b rfl rfl rfl ?hq ?_
       case hq =>
         refine WO.callR (r := .int .i64 (chkC c)) rfl Try.call32 (fun L w hi => c_CheckContract w c) rfl ?_
         exact WO.nil ⟨rfl, rfl⟩
       refine' DT.b rfl rfl rfl ?hq ?_
       case hq =>
         refine WO.loadA rfl rfl (Cells.own (Pick.tail (Pick.tail (Pick.tail (Pick.tail (Pick.head)))))) rfl rfl ?_
         exact WO.nil ⟨rfl, rfl⟩
       refine' DT.b rfl rfl rfl ?hq ?_
       case hq =>
         refine WO.callR (r := .int .i64 (chkC c)) rfl Try.call33 (fun L w hi => ref_CheckContract w c) rfl ?_
         exact WO.nil ⟨rfl, rfl⟩
       refine' DT.r rfl rfl rfl ?hq ?_
       case hq =>
         refine WO.p rfl rfl ?_
         exact WO.nil ⟨rfl, rfl⟩
       refine' DT.rB rfl rfl rfl ?hq (fun c2 => ?_) (fun c2 => ?_)
       case hq =>
         refine WO.p rfl rfl ?_
         exact WO.nil ⟨rfl, rfl⟩
       · first
         | (exfalso; omega)
         | (refine' DT.r rfl rfl rfl ?hq ?_
            case hq =>
              refine WO.pg rfl rfl rfl ?_
              exact WO.nil ⟨rfl, rfl⟩
            refine' DT.r rfl rfl rfl ?hq ?_
            case hq =>
              refine WO.pg rfl rfl rfl ?_
              exact WO.nil ⟨rfl, rfl⟩
            refine' DT.r rfl rfl rfl ?hq ?_
            case hq =>
              refine WO.pg rfl rfl rfl ?_
              exact WO.nil ⟨rfl, rfl⟩
            refine' DT.r rfl rfl rfl ?hq ?_
            case hq =>
              refine WO.p rfl rfl ?_
              exact WO.nil ⟨rfl, rfl⟩
            refine' DT.rB rfl rfl rfl ?hq (fun c3 => ?_) (fun c3 => ?_)
            case hq =>
              refine WO.p rfl rfl ?_
              exact WO.nil ⟨rfl, rfl⟩
            · first
              | (exfalso; omega)
              | (refine' DT.r rfl rfl rfl ?hq ?_
                 case hq =>
                   refine WO.pg rfl rfl rfl ?_
                   exact WO.nil ⟨rfl, rfl⟩
                 refine' DT.r rfl rfl rfl ?hq ?_
                 case hq =>
                   refine WO.pg rfl rfl rfl ?_
                   exact WO.nil ⟨rfl, rfl⟩
                 refine' DT.r rfl rfl rfl ?hq ?_
                 case hq =>
                   refine WO.pg rfl rfl rfl ?_
                   exact WO.nil ⟨rfl, rfl⟩
                 refine' DT.r rfl rfl rfl ?hq ?_
                 case hq =>
                   refine WO.p rfl rfl ?_
                   exact WO.nil ⟨rfl, rfl⟩
                 refine' DT.rB rfl rfl rfl ?hq (fun c4 => ?_) (fun c4 => ?_)
                 case hq =>
                   refine WO.p rfl rfl ?_
                   exact WO.nil ⟨rfl, rfl⟩
                 · first
                   | (exfalso; omega)
                   | (refine' DT.b rfl rfl rfl ?hq ?_
                      case hq =>
                        refine WO.go' rfl (WO.loadA rfl rfl (Cells.own (Pick.tail (Pick.head))) rfl rfl ?_)
                        exact WO.nil ⟨rfl, rfl⟩
                      refine' DT.b rfl rfl rfl ?hq ?_
                      case hq =>
                        refine WO.go' rfl (WO.loadA rfl rfl (Cells.own Pick.head) rfl rfl ?_)
                        exact WO.nil ⟨rfl, rfl⟩
                      refine' DT.r rfl rfl rfl ?hq ?_
                      case hq =>
                        refine WO.go' rfl ?_
                        refine WO.eqT rfl rfl (eq49t _ _) rfl ?_
                        exact WO.nil ⟨rfl, rfl⟩
                      refine' DT.r rfl rfl rfl ?hq ?_
                      case hq =>
                        refine WO.p rfl rfl ?_
                        exact WO.nil ⟨rfl, rfl⟩
                      refine' DT.r rfl rfl rfl ?hq ?_
                      case hq =>
                        refine WO.p rfl rfl ?_
                        exact WO.nil ⟨rfl, rfl⟩
                      refine' DT.r rfl rfl rfl ?hq ?_
                      case hq =>
                        refine WO.pg rfl rfl rfl ?_
                        exact WO.nil ⟨rfl, rfl⟩
                      refine' DT.r rfl rfl rfl ?hq ?_
                      case hq =>
                        refine WO.pg rfl rfl rfl ?_
                        exact WO.nil ⟨rfl, rfl⟩
                      refine DT.nil [_, _, _, _, _] rfl ?_
                      refine WO.pg rfl rfl rfl (WO.p rfl rfl (WO.p rfl rfl ?_))
                      refine WO.guard_bl rfl rfl (fun c5 => ?_) (fun c5 => ?_)
                      · first
                        | (exfalso; omega)
                        | (refine WO.go' rfl ?_
                           refine WO.callR rfl Try.call12 (fun L w hi => law_Works w) rfl ?_
                           refine WO.p rfl rfl (WO.p rfl rfl ?_)
                           refine WO.nil ?_
                           refine W.ret ?_
                           exact fin.ret (Res.one rfl (RV.tmp rfl)) rfl)
                      · first
                        | (exfalso; omega)
                        | (refine WO.no rfl rfl (WO.p rfl rfl (WO.p rfl rfl ?_))
                           refine WO.nil ?_
                           refine W.ret ?_
                           exact fin.ret (Res.one rfl (RV.tmp rfl)) rfl))
                 · first
                   | (exfalso; omega)
                   | (refine' DT.b rfl rfl rfl ?hq ?_
                      case hq =>
                        refine WO.no rfl rfl ?_
                        exact WO.nil ⟨rfl, rfl⟩
                      refine' DT.b rfl rfl rfl ?hq ?_
                      case hq =>
                        refine WO.no rfl rfl ?_
                        exact WO.nil ⟨rfl, rfl⟩
                      refine' DT.r rfl rfl rfl ?hq ?_
                      case hq =>
                        refine WO.no rfl rfl ?_
                        exact WO.nil ⟨rfl, rfl⟩
                      refine' DT.r rfl rfl rfl ?hq ?_
                      case hq =>
                        refine WO.p rfl rfl ?_
                        exact WO.nil ⟨rfl, rfl⟩
                      refine' DT.r rfl rfl rfl ?hq ?_
                      case hq =>
                        refine WO.p rfl rfl ?_
                        exact WO.nil ⟨rfl, rfl⟩
                      refine' DT.r rfl rfl rfl ?hq ?_
                      case hq =>
                        refine WO.no rfl rfl ?_
                        exact WO.nil ⟨rfl, rfl⟩
                      refine' DT.r rfl rfl rfl ?hq ?_
                      case hq =>
                        refine WO.no rfl rfl ?_
                        exact WO.nil ⟨rfl, rfl⟩
                      refine DT.nil [_, _, _, _, _] rfl ?_
                      refine WO.no rfl rfl (WO.p rfl rfl (WO.p rfl rfl (WO.no rfl rfl (WO.p rfl rfl (WO.p rfl rfl ?_)))))
                      refine WO.nil ?_
                      refine W.ret ?_
                      exact fin.ret (Res.one rfl (RV.tmp rfl)) rfl))
            · first
              | (exfalso; omega)
              | (refine' DT.r rfl rfl rfl ?hq ?_
                 case hq =>
                   refine WO.no rfl rfl ?_
                   exact WO.nil ⟨rfl, rfl⟩
                 refine' DT.r rfl rfl rfl ?hq ?_
                 case hq =>
                   refine WO.no rfl rfl ?_
                   exact WO.nil ⟨rfl, rfl⟩
                 refine' DT.r rfl rfl rfl ?hq ?_
                 case hq =>
                   refine WO.no rfl rfl ?_
                   exact WO.nil ⟨rfl, rfl⟩
                 refine' DT.r rfl rfl rfl ?hq ?_
                 case hq =>
                   refine WO.p rfl rfl ?_
                   exact WO.nil ⟨rfl, rfl⟩
                 refine' DT.r rfl rfl rfl ?hq ?_
                 case hq =>
                   refine WO.p rfl rfl ?_
                   exact WO.nil ⟨rfl, rfl⟩
                 refine' DT.b rfl rfl rfl ?hq ?_
                 case hq =>
                   refine WO.no rfl rfl ?_
                   exact WO.nil ⟨rfl, rfl⟩
                 refine' DT.b rfl rfl rfl ?hq ?_
                 case hq =>
                   refine WO.no rfl rfl ?_
                   exact WO.nil ⟨rfl, rfl⟩
                 refine' DT.r rfl rfl rfl ?hq ?_
                 case hq =>
                   refine WO.no rfl rfl ?_
                   exact WO.nil ⟨rfl, rfl⟩
                 refine' DT.r rfl rfl rfl ?hq ?_
                 case hq =>
                   refine WO.p rfl rfl ?_
                   exact WO.nil ⟨rfl, rfl⟩
                 refine' DT.r rfl rfl rfl ?hq ?_
                 case hq =>
                   refine WO.p rfl rfl ?_
                   exact WO.nil ⟨rfl, rfl⟩
                 refine' DT.r rfl rfl rfl ?hq ?_
                 case hq =>
                   refine WO.no rfl rfl ?_
                   exact WO.nil ⟨rfl, rfl⟩
                 refine' DT.r rfl rfl rfl ?hq ?_
                 case hq =>
                   refine WO.no rfl rfl ?_
                   exact WO.nil ⟨rfl, rfl⟩
                 refine DT.nil [_, _, _, _, _] rfl ?_
                 refine WO.no rfl rfl (WO.p rfl rfl (WO.p rfl rfl (WO.no rfl rfl (WO.p rfl rfl (WO.p rfl rfl ?_)))))
                 refine WO.nil ?_
                 refine W.ret ?_
                 exact fin.ret (Res.one rfl (RV.tmp rfl)) rfl))
       · first
         | (exfalso; omega)
         | (refine' DT.r rfl rfl rfl ?hq ?_
            case hq =>
              refine WO.no rfl rfl ?_
              exact WO.nil ⟨rfl, rfl⟩
            refine' DT.r rfl rfl rfl ?hq ?_
            case hq =>
              refine WO.no rfl rfl ?_
              exact WO.nil ⟨rfl, rfl⟩
            refine' DT.r rfl rfl rfl ?hq ?_
            case hq =>
              refine WO.no rfl rfl ?_
              exact WO.nil ⟨rfl, rfl⟩
            refine' DT.r rfl rfl rfl ?hq ?_
            case hq =>
              refine WO.p rfl rfl ?_
              exact WO.nil ⟨rfl, rfl⟩
            refine' DT.r rfl rfl rfl ?hq ?_
            case hq =>
              refine WO.p rfl rfl ?_
              exact WO.nil ⟨rfl, rfl⟩
            refine' DT.r rfl rfl rfl ?hq ?_
            case hq =>
              refine WO.no rfl rfl ?_
              exact WO.nil ⟨rfl, rfl⟩
            refine' DT.r rfl rfl rfl ?hq ?_
            case hq =>
              refine WO.no rfl rfl ?_
              exact WO.nil ⟨rfl, rfl⟩
            refine' DT.r rfl rfl rfl ?hq ?_
            case hq =>
              refine WO.no rfl rfl ?_
              exact WO.nil ⟨rfl, rfl⟩
            refine' DT.r rfl rfl rfl ?hq ?_
            case hq =>
              refine WO.p rfl rfl ?_
              exact WO.nil ⟨rfl, rfl⟩
            refine' DT.r rfl rfl rfl ?hq ?_
            case hq =>
              refine WO.p rfl rfl ?_
              exact WO.nil ⟨rfl, rfl⟩
            refine' DT.b rfl rfl rfl ?hq ?_
            case hq =>
              refine WO.no rfl rfl ?_
              exact WO.nil ⟨rfl, rfl⟩
            refine' DT.b rfl rfl rfl ?hq ?_
            case hq =>
              refine WO.no rfl rfl ?_
              exact WO.nil ⟨rfl, rfl⟩
            refine' DT.r rfl rfl rfl ?hq ?_
            case hq =>
              refine WO.no rfl rfl ?_
              exact WO.nil ⟨rfl, rfl⟩
            refine' DT.r rfl rfl rfl ?hq ?_
            case hq =>
              refine WO.p rfl rfl ?_
              exact WO.nil ⟨rfl, rfl⟩
            refine' DT.r rfl rfl rfl ?hq ?_
            case hq =>
              refine WO.p rfl rfl ?_
              exact WO.nil ⟨rfl, rfl⟩
            refine' DT.r rfl rfl rfl ?hq ?_
            case hq =>
              refine WO.no rfl rfl ?_
              exact WO.nil ⟨rfl, rfl⟩
            refine' DT.r rfl rfl rfl ?hq ?_
            case hq =>
              refine WO.no rfl rfl ?_
              exact WO.nil ⟨rfl, rfl⟩
            refine DT.nil [_, _, _, _, _] rfl ?_
            refine WO.no rfl rfl (WO.p rfl rfl (WO.p rfl rfl (WO.no rfl rfl (WO.p rfl rfl (WO.p rfl rfl ?_)))))
            refine WO.nil ?_
            refine W.ret ?_
            exact fin.ret (Res.one rfl (RV.tmp rfl)) rfl))
end Go.Proofs.Ytkiaepcklbidgaa
