/-
  What is proved here: the laws of waits, times, bests and tables, the known examples. Conditions: none; each contract states its own.
-/
import Derived.Test.YtkonhpcldomidaaM8
set_option linter.unusedVariables false
set_option linter.unusedSimpArgs false
namespace Go.Proofs.Ytkonhpcldomidaa
open Go Go.TH
attribute [local irreducible] W WO pt
set_option maxRecDepth 10000
set_option maxHeartbeats 1000000
theorem wtV_ex (a b : Int) (l : List Rn) (i j : Int) : wtV a b l i j = .tuple #[.int .i64 (wtN a b l i j), .int .i64 (wtE a b l i j)] := rfl
theorem ltV_ex (a b : Int) (l : List Rn) (e k m : Int) : ∃ x y, ltV a b l e k m = .tuple #[.int .i64 x, .int .i64 y] := ⟨_, _, rfl⟩
theorem law_RunWaits (w : World) (o : Value) (a b : Int) (l : List Rn) (e k m i j : Int) (hR : RdF encR 6 w.heap.size w o l) : Ret Try.prog 10 [dayV a b o, .int .i64 e, .int .i64 k, .int .i64 m, .int .i64 i, .int .i64 j].toArray w (.bool true) := by
  refine Ret.of mixed tyTab Try.func10 rfl rfl ?_
  replace hR : RdF encR 6 (fnCx mixed tyTab Try.f10.ntmps w).B (fnCx mixed tyTab Try.f10.ntmps w).w0 o l := hR
  have hoc := hR.sl.oc
  obtain ⟨p, q, hl⟩ := ltV_ex a b l e k m
  refine W.sreg ?_
  refine WO.boxA rfl rfl (fun b1 hb1 => ?_)
  refine WO.p rfl rfl ?_
  refine WO.nil ?_
  refine W.seq ?_
  refine W.sreg ?_
  refine WO.fieldL rfl rfl rfl (WO.load rfl rfl (Cell.own Pick.head rfl) rfl ?_)
  refine' WO.len (n := _) rfl rfl ?hs rfl ?_
  case hs => (first | exact hR.sl)
  refine WO.p rfl rfl ?_
  refine WO.nil ?_
  refine W.cond_bl rfl (fun c1 => ?_) (fun c1 => ?_)
  · first
    | (exfalso; omega)
    | (refine W.sreg ?_
       refine WO.callR rfl Try.call12 (fun L w hi => l_Works w) rfl ?_
       refine WO.p rfl rfl ?_
       refine WO.nil ?_
       refine W.ret ?_
       exact fin.ret (Res.one rfl (RV.tmp rfl)) rfl)
  first
  | (exfalso; omega)
  | (refine W.skip ?_
     refine W.sreg ?_
     refine WO.loadA rfl rfl (Cells.own Pick.head) rfl rfl (WO.p rfl rfl (WO.p rfl rfl (WO.p rfl rfl ?_)))
     refine WO.callR (r := .tuple #[.int .i64 p, .int .i64 q]) rfl Try.call31 (fun L w hi => by rw [← hl]; exact c_Left w o a b l e k m (hR.later hi)) rfl ?_
     refine WO.p rfl rfl (WO.p rfl rfl (WO.p rfl rfl (WO.p rfl rfl (WO.p rfl rfl ?_))))
     refine WO.nil ?_
     refine W.sreg ?_
     refine WO.loadA rfl rfl (Cells.own Pick.head) rfl rfl (WO.p rfl rfl (WO.p rfl rfl (WO.p rfl rfl ?_)))
     refine WO.callR (r := .tuple #[.int .i64 p, .int .i64 q]) rfl Try.call32 (fun L w hi => by rw [← hl]; exact ref_Left w o a b l e k m (hR.later hi)) rfl ?_
     refine WO.p rfl rfl (WO.p rfl rfl (WO.p rfl rfl (WO.p rfl rfl (WO.p rfl rfl ?_))))
     refine WO.nil ?_
     refine W.sreg ?_
     refine WO.loadA rfl rfl (Cells.own Pick.head) rfl rfl (WO.p rfl rfl (WO.p rfl rfl ?_))
     refine WO.callR (r := .tuple #[.int .i64 (wtN a b l i j), .int .i64 (wtE a b l i j)]) rfl Try.call28 (fun L w hi => c_Wait w o a b l i j (hR.later hi)) rfl ?_
     refine WO.p rfl rfl (WO.p rfl rfl (WO.p rfl rfl (WO.p rfl rfl (WO.p rfl rfl ?_))))
     refine WO.nil ?_
     refine W.sreg ?_
     refine WO.loadA rfl rfl (Cells.own Pick.head) rfl rfl (WO.p rfl rfl (WO.p rfl rfl ?_))
     refine WO.callR (r := .tuple #[.int .i64 (wtN a b l i j), .int .i64 (wtE a b l i j)]) rfl Try.call33 (fun L w hi => ref_Wait w o a b l i j (hR.later hi)) rfl ?_
     refine WO.p rfl rfl (WO.p rfl rfl (WO.p rfl rfl (WO.p rfl rfl (WO.p rfl rfl ?_))))
     refine WO.nil ?_
     refine W.seq ?_
     refine W.drawD 23 [.b 0 [], .b 1 [], .b 2 [], .b 3 [], .r 4 [], .r 5 [], .r 6 [], .r 7 [], .r 8 [], .r 9 [], .r 10 [], .r 11 [], .r 12 [], .r 13 [], .r 14 [], .r 15 [], .r 16 [], .r 17 [], .r 18 [], .r 19 [], .r 20 [], .r 21 [], .r 22 []] [] (A0 := []) (Sub.refl _) (by kernel_rfl) ?_ ?_
     · exact (ALok.b (ALok.b (ALok.b (ALok.b (ALok.r (ALok.r (ALok.r (ALok.r (ALok.r (ALok.r (ALok.r (ALok.r (ALok.r (ALok.r (ALok.r (ALok.r (ALok.r (ALok.r (ALok.r (ALok.r (ALok.r (ALok.r (ALok.r ALok.nil)))))))))))))))))))))))
     refine' DT.b rfl rfl rfl ?hq ?_
     case hq =>
       refine WO.loadA rfl rfl (Cells.own Pick.head) rfl rfl ?_
       exact WO.nil ⟨rfl, rfl⟩
     refine' DT.b rfl rfl rfl ?hq ?_
     case hq =>
       refine WO.callR rfl Try.call34 (fun L w hi => c_CheckDay w o a b l (hR.later hi)) rfl ?_
       exact WO.nil ⟨rfl, rfl⟩
     refine' DT.b rfl rfl rfl ?hq ?_
     case hq =>
       refine WO.loadA rfl rfl (Cells.own Pick.head) rfl rfl ?_
       exact WO.nil ⟨rfl, rfl⟩
     refine' DT.b rfl rfl rfl ?hq ?_
     case hq =>
       refine WO.callR rfl Try.call35 (fun L w hi => ref_CheckDay w o a b l (hR.later hi)) rfl ?_
       exact WO.nil ⟨rfl, rfl⟩
     refine' DT.r rfl rfl rfl ?hq ?_
     case hq =>
       refine WO.p rfl rfl ?_
       exact WO.nil ⟨rfl, rfl⟩
     refine' DT.rB rfl rfl rfl ?hq (fun c2 => ?_) (fun c2 => ?_)
     case hq =>
       refine WO.p rfl rfl ?_
       exact WO.nil ⟨rfl, rfl⟩
     · first
       | (exfalso; omega)
       | (refine' DT.r rfl rfl rfl ?hq ?_
          case hq =>
            refine WO.pg rfl rfl rfl ?_
            exact WO.nil ⟨rfl, rfl⟩
          refine' DT.r rfl rfl rfl ?hq ?_
          case hq =>
            refine WO.pg rfl rfl rfl ?_
            exact WO.nil ⟨rfl, rfl⟩
          refine' DT.r rfl rfl rfl ?hq ?_
          case hq =>
            refine WO.pg rfl rfl rfl ?_
            exact WO.nil ⟨rfl, rfl⟩
          refine' DT.r rfl rfl rfl ?hq ?_
          case hq =>
            refine WO.p rfl rfl ?_
            exact WO.nil ⟨rfl, rfl⟩
          refine' DT.rB rfl rfl rfl ?hq (fun c3 => ?_) (fun c3 => ?_)
          case hq =>
            refine WO.p rfl rfl ?_
            exact WO.nil ⟨rfl, rfl⟩
          · first
            | (exfalso; omega)
            | (refine' DT.r rfl rfl rfl ?hq ?_
               case hq =>
                 refine WO.pg rfl rfl rfl ?_
                 exact WO.nil ⟨rfl, rfl⟩
               refine' DT.r rfl rfl rfl ?hq ?_
               case hq =>
                 refine WO.pg rfl rfl rfl ?_
                 exact WO.nil ⟨rfl, rfl⟩
               refine' DT.r rfl rfl rfl ?hq ?_
               case hq =>
                 refine WO.pg rfl rfl rfl ?_
                 exact WO.nil ⟨rfl, rfl⟩
               refine' DT.r rfl rfl rfl ?hq ?_
               case hq =>
                 refine WO.p rfl rfl ?_
                 exact WO.nil ⟨rfl, rfl⟩
               refine' DT.rB rfl rfl rfl ?hq (fun c4 => ?_) (fun c4 => ?_)
               case hq =>
                 refine WO.p rfl rfl ?_
                 exact WO.nil ⟨rfl, rfl⟩
               · first
                 | (exfalso; omega)
                 | (refine' DT.r rfl rfl rfl ?hq ?_
                    case hq =>
                      refine WO.pg rfl rfl rfl ?_
                      exact WO.nil ⟨rfl, rfl⟩
                    refine' DT.r rfl rfl rfl ?hq ?_
                    case hq =>
                      refine WO.pg rfl rfl rfl ?_
                      exact WO.nil ⟨rfl, rfl⟩
                    refine' DT.r rfl rfl rfl ?hq ?_
                    case hq =>
                      refine WO.pg rfl rfl rfl ?_
                      exact WO.nil ⟨rfl, rfl⟩
                    refine' DT.r rfl rfl rfl ?hq ?_
                    case hq =>
                      refine WO.p rfl rfl ?_
                      exact WO.nil ⟨rfl, rfl⟩
                    refine' DT.rB rfl rfl rfl ?hq (fun c5 => ?_) (fun c5 => ?_)
                    case hq =>
                      refine WO.p rfl rfl ?_
                      exact WO.nil ⟨rfl, rfl⟩
                    · first
                      | (exfalso; omega)
                      | (refine' DT.r rfl rfl rfl ?hq ?_
                         case hq =>
                           refine WO.pg rfl rfl rfl ?_
                           exact WO.nil ⟨rfl, rfl⟩
                         refine' DT.r rfl rfl rfl ?hq ?_
                         case hq =>
                           refine WO.pg rfl rfl rfl ?_
                           exact WO.nil ⟨rfl, rfl⟩
                         refine DT.nil [_] rfl ?_
                         refine WO.pg rfl rfl rfl (WO.p rfl rfl (WO.p rfl rfl ?_))
                         refine WO.guard_bl rfl rfl (fun c6 => ?_) (fun c6 => ?_)
                         · first
                           | (exfalso; omega)
                           | (refine WO.go' rfl ?_
                              refine WO.callR rfl Try.call12 (fun L w hi => l_Works w) rfl ?_
                              refine WO.p rfl rfl (WO.p rfl rfl ?_)
                              refine WO.nil ?_
                              refine W.ret ?_
                              exact fin.ret (Res.one rfl (RV.tmp rfl)) rfl)
                         first
                         | (exfalso; omega)
                         | (refine WO.no rfl rfl (WO.p rfl rfl (WO.p rfl rfl ?_))
                            refine WO.nil ?_
                            refine W.ret ?_
                            exact fin.ret (Res.one rfl (RV.tmp rfl)) rfl))
                    first
                    | (exfalso; omega)
                    | (refine' DT.r rfl rfl rfl ?hq ?_
                       case hq =>
                         refine WO.no rfl rfl ?_
                         exact WO.nil ⟨rfl, rfl⟩
                       refine' DT.r rfl rfl rfl ?hq ?_
                       case hq =>
                         refine WO.no rfl rfl ?_
                         exact WO.nil ⟨rfl, rfl⟩
                       refine DT.nil [_] rfl ?_
                       refine WO.no rfl rfl (WO.p rfl rfl (WO.p rfl rfl (WO.no rfl rfl (WO.p rfl rfl (WO.p rfl rfl ?_)))))
                       refine WO.nil ?_
                       refine W.ret ?_
                       exact fin.ret (Res.one rfl (RV.tmp rfl)) rfl))
               first
               | (exfalso; omega)
               | (refine' DT.r rfl rfl rfl ?hq ?_
                  case hq =>
                    refine WO.no rfl rfl ?_
                    exact WO.nil ⟨rfl, rfl⟩
                  refine' DT.r rfl rfl rfl ?hq ?_
                  case hq =>
                    refine WO.no rfl rfl ?_
                    exact WO.nil ⟨rfl, rfl⟩
                  refine' DT.r rfl rfl rfl ?hq ?_
                  case hq =>
                    refine WO.no rfl rfl ?_
                    exact WO.nil ⟨rfl, rfl⟩
                  refine' DT.r rfl rfl rfl ?hq ?_
                  case hq =>
                    refine WO.p rfl rfl ?_
                    exact WO.nil ⟨rfl, rfl⟩
                  refine' DT.r rfl rfl rfl ?hq ?_
                  case hq =>
                    refine WO.p rfl rfl ?_
                    exact WO.nil ⟨rfl, rfl⟩
                  refine' DT.r rfl rfl rfl ?hq ?_
                  case hq =>
                    refine WO.no rfl rfl ?_
                    exact WO.nil ⟨rfl, rfl⟩
                  refine' DT.r rfl rfl rfl ?hq ?_
                  case hq =>
                    refine WO.no rfl rfl ?_
                    exact WO.nil ⟨rfl, rfl⟩
                  refine DT.nil [_] rfl ?_
                  refine WO.no rfl rfl (WO.p rfl rfl (WO.p rfl rfl (WO.no rfl rfl (WO.p rfl rfl (WO.p rfl rfl ?_)))))
                  refine WO.nil ?_
                  refine W.ret ?_
                  exact fin.ret (Res.one rfl (RV.tmp rfl)) rfl))
          first
          | (exfalso; omega)
          | (refine' DT.r rfl rfl rfl ?hq ?_
             case hq =>
               refine WO.no rfl rfl ?_
               exact WO.nil ⟨rfl, rfl⟩
             refine' DT.r rfl rfl rfl ?hq ?_
             case hq =>
               refine WO.no rfl rfl ?_
               exact WO.nil ⟨rfl, rfl⟩
             refine' DT.r rfl rfl rfl ?hq ?_
             case hq =>
               refine WO.no rfl rfl ?_
               exact WO.nil ⟨rfl, rfl⟩
             refine' DT.r rfl rfl rfl ?hq ?_
             case hq =>
               refine WO.p rfl rfl ?_
               exact WO.nil ⟨rfl, rfl⟩
             refine' DT.r rfl rfl rfl ?hq ?_
             case hq =>
               refine WO.p rfl rfl ?_
               exact WO.nil ⟨rfl, rfl⟩
             refine' DT.r rfl rfl rfl ?hq ?_
             case hq =>
               refine WO.no rfl rfl ?_
               exact WO.nil ⟨rfl, rfl⟩
             refine' DT.r rfl rfl rfl ?hq ?_
             case hq =>
               refine WO.no rfl rfl ?_
               exact WO.nil ⟨rfl, rfl⟩
             refine' DT.r rfl rfl rfl ?hq ?_
             case hq =>
               refine WO.no rfl rfl ?_
               exact WO.nil ⟨rfl, rfl⟩
             refine' DT.r rfl rfl rfl ?hq ?_
             case hq =>
               refine WO.p rfl rfl ?_
               exact WO.nil ⟨rfl, rfl⟩
             refine' DT.r rfl rfl rfl ?hq ?_
             case hq =>
               refine WO.p rfl rfl ?_
               exact WO.nil ⟨rfl, rfl⟩
             refine' DT.r rfl rfl rfl ?hq ?_
             case hq =>
               refine WO.no rfl rfl ?_
               exact WO.nil ⟨rfl, rfl⟩
             refine' DT.r rfl rfl rfl ?hq ?_
             case hq =>
               refine WO.no rfl rfl ?_
               exact WO.nil ⟨rfl, rfl⟩
             refine DT.nil [_] rfl ?_
             refine WO.no rfl rfl (WO.p rfl rfl (WO.p rfl rfl (WO.no rfl rfl (WO.p rfl rfl (WO.p rfl rfl ?_)))))
             refine WO.nil ?_
             refine W.ret ?_
             exact fin.ret (Res.one rfl (RV.tmp rfl)) rfl))
     first
     | (exfalso; omega)
     | (refine' DT.r rfl rfl rfl ?hq ?_
        case hq =>
          refine WO.no rfl rfl ?_
          exact WO.nil ⟨rfl, rfl⟩
        refine' DT.r rfl rfl rfl ?hq ?_
        case hq =>
          refine WO.no rfl rfl ?_
          exact WO.nil ⟨rfl, rfl⟩
        refine' DT.r rfl rfl rfl ?hq ?_
        case hq =>
          refine WO.no rfl rfl ?_
          exact WO.nil ⟨rfl, rfl⟩
        refine' DT.r rfl rfl rfl ?hq ?_
        case hq =>
          refine WO.p rfl rfl ?_
          exact WO.nil ⟨rfl, rfl⟩
        refine' DT.r rfl rfl rfl ?hq ?_
        case hq =>
          refine WO.p rfl rfl ?_
          exact WO.nil ⟨rfl, rfl⟩
        refine' DT.r rfl rfl rfl ?hq ?_
        case hq =>
          refine WO.no rfl rfl ?_
          exact WO.nil ⟨rfl, rfl⟩
        refine' DT.r rfl rfl rfl ?hq ?_
        case hq =>
          refine WO.no rfl rfl ?_
          exact WO.nil ⟨rfl, rfl⟩
        refine' DT.r rfl rfl rfl ?hq ?_
        case hq =>
          refine WO.no rfl rfl ?_
          exact WO.nil ⟨rfl, rfl⟩
        refine' DT.r rfl rfl rfl ?hq ?_
        case hq =>
          refine WO.p rfl rfl ?_
          exact WO.nil ⟨rfl, rfl⟩
        refine' DT.r rfl rfl rfl ?hq ?_
        case hq =>
          refine WO.p rfl rfl ?_
          exact WO.nil ⟨rfl, rfl⟩
        refine' DT.r rfl rfl rfl ?hq ?_
        case hq =>
          refine WO.no rfl rfl ?_
          exact WO.nil ⟨rfl, rfl⟩
        refine' DT.r rfl rfl rfl ?hq ?_
        case hq =>
          refine WO.no rfl rfl ?_
          exact WO.nil ⟨rfl, rfl⟩
        refine' DT.r rfl rfl rfl ?hq ?_
        case hq =>
          refine WO.no rfl rfl ?_
          exact WO.nil ⟨rfl, rfl⟩
        refine' DT.r rfl rfl rfl ?hq ?_
        case hq =>
          refine WO.p rfl rfl ?_
          exact WO.nil ⟨rfl, rfl⟩
        refine' DT.r rfl rfl rfl ?hq ?_
        case hq =>
          refine WO.p rfl rfl ?_
          exact WO.nil ⟨rfl, rfl⟩
        refine' DT.r rfl rfl rfl ?hq ?_
        case hq =>
          refine WO.no rfl rfl ?_
          exact WO.nil ⟨rfl, rfl⟩
        refine' DT.r rfl rfl rfl ?hq ?_
        case hq =>
          refine WO.no rfl rfl ?_
          exact WO.nil ⟨rfl, rfl⟩
        refine DT.nil [_] rfl ?_
        refine WO.no rfl rfl (WO.p rfl rfl (WO.p rfl rfl (WO.no rfl rfl (WO.p rfl rfl (WO.p rfl rfl ?_)))))
        refine WO.nil ?_
        refine W.ret ?_
        exact fin.ret (Res.one rfl (RV.tmp rfl)) rfl))
theorem law_RunTimes (w : World) (o u g e : Value) (a b : Int) (l : List Rn) (xs bs ls : List Int) (kp : Int) (hR : RdF encR 6 w.heap.size w o l) (hX : RdF encI 1 w.heap.size w u xs) (hG : RdF encI 1 w.heap.size w g bs) (hE : RdF encI 1 w.heap.size w e ls) : Ret Try.prog 3 [dayV a b o, u, g, e, .int .i64 kp].toArray w (.bool true) := by
  refine Ret.of mixed tyTab Try.func3 rfl rfl ?_
  replace hR : RdF encR 6 (fnCx mixed tyTab Try.f3.ntmps w).B (fnCx mixed tyTab Try.f3.ntmps w).w0 o l := hR
  replace hX : RdF encI 1 (fnCx mixed tyTab Try.f3.ntmps w).B (fnCx mixed tyTab Try.f3.ntmps w).w0 u xs := hX
  replace hG : RdF encI 1 (fnCx mixed tyTab Try.f3.ntmps w).B (fnCx mixed tyTab Try.f3.ntmps w).w0 g bs := hG
  replace hE : RdF encI 1 (fnCx mixed tyTab Try.f3.ntmps w).B (fnCx mixed tyTab Try.f3.ntmps w).w0 e ls := hE
  have hoc := hR.sl.oc
  refine W.sreg ?_
  refine WO.boxA rfl rfl (fun b1 hb1 => ?_)
  refine WO.p rfl rfl ?_
  refine WO.nil ?_
  refine W.seq ?_
  refine W.sreg ?_
  refine WO.fieldL rfl rfl rfl (WO.load rfl rfl (Cell.own Pick.head rfl) rfl ?_)
  refine' WO.len (n := _) rfl rfl ?hs rfl ?_
  case hs => (first | exact hR.sl)
  refine WO.p rfl rfl (WO.p rfl rfl ?_)
  refine WO.guard_bl rfl rfl (fun c1 => ?_) (fun c1 => ?_)
  · first
    | (exfalso; omega)
    | (refine WO.no rfl rfl (WO.no rfl rfl (WO.no rfl rfl (WO.p rfl rfl (WO.p rfl rfl (WO.no rfl rfl (WO.no rfl rfl (WO.no rfl rfl (WO.p rfl rfl (WO.p rfl rfl (WO.no rfl rfl (WO.no rfl rfl ?_)))))))))))
       refine WO.no rfl rfl (WO.p rfl rfl ?_)
       refine WO.nil ?_
       refine W.cond_t rfl ?_
       refine W.sreg ?_
       refine WO.callR rfl Try.call12 (fun L w hi => l_Works w) rfl ?_
       refine WO.p rfl rfl ?_
       refine WO.nil ?_
       refine W.ret ?_
       exact fin.ret (Res.one rfl (RV.tmp rfl)) rfl)
  first
  | (exfalso; omega)
  | (refine WO.pg rfl rfl rfl (WO.go' rfl ?_)
     refine' WO.len (n := _) rfl rfl ?hs rfl ?_
     case hs => (first | exact hX.sl)
     refine WO.pg rfl rfl rfl (WO.p rfl rfl (WO.p rfl rfl ?_))
     refine WO.guard_bl rfl rfl (fun c2 => ?_) (fun c2 => ?_)
     · first
       | (exfalso; omega)
       | (refine WO.no rfl rfl (WO.no rfl rfl (WO.no rfl rfl (WO.p rfl rfl (WO.p rfl rfl (WO.no rfl rfl (WO.no rfl rfl (WO.no rfl rfl (WO.p rfl rfl ?_))))))))
          refine WO.nil ?_
          refine W.cond_t rfl ?_
          refine W.sreg ?_
          refine WO.callR rfl Try.call12 (fun L w hi => l_Works w) rfl ?_
          refine WO.p rfl rfl ?_
          refine WO.nil ?_
          refine W.ret ?_
          exact fin.ret (Res.one rfl (RV.tmp rfl)) rfl)
     first
     | (exfalso; omega)
     | (refine WO.pg rfl rfl rfl (WO.go' rfl ?_)
        refine' WO.len (n := _) rfl rfl ?hs rfl ?_
        case hs => (first | exact hG.sl)
        refine WO.pg rfl rfl rfl (WO.p rfl rfl (WO.p rfl rfl ?_))
        refine WO.guard_bl rfl rfl (fun c3 => ?_) (fun c3 => ?_)
        · first
          | (exfalso; omega)
          | (refine WO.no rfl rfl (WO.no rfl rfl (WO.no rfl rfl (WO.p rfl rfl ?_)))
             refine WO.nil ?_
             refine W.cond_t rfl ?_
             refine W.sreg ?_
             refine WO.callR rfl Try.call12 (fun L w hi => l_Works w) rfl ?_
             refine WO.p rfl rfl ?_
             refine WO.nil ?_
             refine W.ret ?_
             exact fin.ret (Res.one rfl (RV.tmp rfl)) rfl)
        first
        | (exfalso; omega)
        | (refine WO.pg rfl rfl rfl (WO.go' rfl ?_)
           refine' WO.len (n := _) rfl rfl ?hs rfl ?_
           case hs => (first | exact hE.sl)
           refine WO.pg rfl rfl rfl (WO.p rfl rfl ?_)
           refine WO.nil ?_
           refine W.cond_bl rfl (fun c4 => ?_) (fun c4 => ?_)
           · first
             | (exfalso; omega)
             | (refine W.sreg ?_
                refine WO.callR rfl Try.call12 (fun L w hi => l_Works w) rfl ?_
                refine WO.p rfl rfl ?_
                refine WO.nil ?_
                refine W.ret ?_
                exact fin.ret (Res.one rfl (RV.tmp rfl)) rfl)
           first
           | (exfalso; omega)
           | (refine W.skip ?_
              refine W.sreg ?_
              refine WO.loadA rfl rfl (Cells.own Pick.head) rfl rfl (WO.p rfl rfl ?_)
              refine WO.call rfl Try.call13 (fun L w hi => c_Times w o u a b l xs (hR.later hi) (hX.later hi)) rfl ?_
              rintro _ _ ⟨r1, rfl, rfl⟩
              refine WO.p rfl rfl (WO.p rfl rfl (WO.p rfl rfl (WO.p rfl rfl (WO.p rfl rfl ?_))))
              refine WO.nil ?_
              refine W.sreg ?_
              refine WO.loadA rfl rfl (Cells.own (Pick.tail (Pick.head))) rfl rfl (WO.p rfl rfl ?_)
              refine WO.call rfl Try.call14 (fun L w hi => ref_Times w o u a b l xs (hR.later hi) (hX.later hi)) rfl ?_
              rintro _ _ ⟨r2, rfl, rfl⟩
              refine WO.p rfl rfl (WO.p rfl rfl (WO.p rfl rfl (WO.p rfl rfl (WO.p rfl rfl ?_))))
              refine WO.nil ?_
              refine W.sreg ?_
              refine WO.loadA rfl rfl (Cells.own (Pick.tail (Pick.tail (Pick.head)))) rfl rfl (WO.p rfl rfl (WO.p rfl rfl (WO.p rfl rfl (WO.p rfl rfl ?_))))
              refine WO.call rfl Try.call15 (fun L w hi => c_Play w o u g e a b l xs bs ls kp (hR.later hi) (hX.later hi) (hG.later hi) (hE.later hi)) rfl ?_
              rintro _ _ ⟨r3, rfl, rfl⟩
              refine WO.p rfl rfl (WO.p rfl rfl (WO.p rfl rfl (WO.p rfl rfl (WO.p rfl rfl ?_))))
              refine WO.nil ?_
              refine W.sreg ?_
              refine WO.loadA rfl rfl (Cells.own (Pick.tail (Pick.tail (Pick.tail (Pick.head))))) rfl rfl (WO.p rfl rfl (WO.p rfl rfl (WO.p rfl rfl (WO.p rfl rfl ?_))))
              refine WO.call rfl Try.call16 (fun L w hi => ref_Play w o u g e a b l xs bs ls kp (hR.later hi) (hX.later hi) (hG.later hi) (hE.later hi)) rfl ?_
              rintro _ _ ⟨r4, rfl, rfl⟩
              refine WO.p rfl rfl (WO.p rfl rfl (WO.p rfl rfl (WO.p rfl rfl (WO.p rfl rfl ?_))))
              refine WO.nil ?_
              refine W.sreg ?_
              refine WO.p rfl rfl (WO.p rfl rfl ?_)
              refine WO.callR (r := .bool true) rfl Try.call17 (fun L w hi => longs_t (law_longs w r1 r2 (TmL a b l xs) (TmL a b l xs) (RdF.of_ow (e := 2) encI_ok (by repeat (first | exact Pick.head | apply Pick.tail)) hi) (RdF.of_ow (e := 2) encI_ok (by repeat (first | exact Pick.head | apply Pick.tail)) hi)) rfl) rfl ?_
              refine WO.p rfl rfl (WO.pg rfl rfl rfl (WO.pg rfl rfl rfl (WO.pg rfl rfl rfl (WO.p rfl rfl (WO.p rfl rfl ?_)))))
              refine WO.guard_bl rfl rfl (fun c5 => ?_) (fun c5 => ?_)
              · first
                | (exfalso; omega)
                | (refine WO.pg rfl rfl rfl (WO.pg rfl rfl rfl (WO.go' rfl ?_))
                   refine WO.callR (r := .bool true) rfl Try.call17 (fun L w hi => longs_t (law_longs w r3 r4 (plL a b l xs bs ls kp) (plL a b l xs bs ls kp) (RdF.of_ow (e := 2) encI_ok (by repeat (first | exact Pick.head | apply Pick.tail)) hi) (RdF.of_ow (e := 2) encI_ok (by repeat (first | exact Pick.head | apply Pick.tail)) hi)) rfl) rfl ?_
                   refine WO.p rfl rfl (WO.p rfl rfl (WO.pg rfl rfl rfl (WO.pg rfl rfl rfl (WO.pg rfl rfl rfl (WO.p rfl rfl (WO.p rfl rfl ?_))))))
                   refine WO.guard_bl rfl rfl (fun c6 => ?_) (fun c6 => ?_)
                   · first
                     | (exfalso; omega)
                     | (refine WO.go' rfl ?_
                        refine WO.callR rfl Try.call12 (fun L w hi => l_Works w) rfl ?_
                        refine WO.p rfl rfl (WO.p rfl rfl ?_)
                        refine WO.nil ?_
                        refine W.ret ?_
                        exact fin.ret (Res.one rfl (RV.tmp rfl)) rfl)
                   first
                   | (exfalso; omega)
                   | (refine WO.no rfl rfl (WO.p rfl rfl (WO.p rfl rfl ?_))
                      refine WO.nil ?_
                      refine W.ret ?_
                      exact fin.ret (Res.one rfl (RV.tmp rfl)) rfl))
              first
              | (exfalso; omega)
              | (refine WO.no rfl rfl (WO.no rfl rfl (WO.no rfl rfl (WO.p rfl rfl (WO.p rfl rfl (WO.no rfl rfl (WO.no rfl rfl (WO.no rfl rfl (WO.p rfl rfl (WO.p rfl rfl (WO.no rfl rfl (WO.p rfl rfl ?_)))))))))))
                 refine WO.p rfl rfl ?_
                 refine WO.nil ?_
                 refine W.ret ?_
                 exact fin.ret (Res.one rfl (RV.tmp rfl)) rfl)))))
theorem law_RunBests (w : World) (o : Value) (a b : Int) (l : List Rn) (hR : RdF encR 6 w.heap.size w o l) : Ret Try.prog 4 [dayV a b o].toArray w (.bool true) := by
  refine Ret.of mixed tyTab Try.func4 rfl rfl ?_
  replace hR : RdF encR 6 (fnCx mixed tyTab Try.f4.ntmps w).B (fnCx mixed tyTab Try.f4.ntmps w).w0 o l := hR
  have hoc := hR.sl.oc
  refine W.sreg ?_
  refine WO.boxA rfl rfl (fun b1 hb1 => ?_)
  refine WO.p rfl rfl ?_
  refine WO.nil ?_
  refine W.seq ?_
  refine W.sreg ?_
  refine WO.loadA rfl rfl (Cells.own Pick.head) rfl rfl ?_
  refine WO.callR rfl Try.call18 (fun L w hi => law_large w o a b l (hR.later hi)) rfl ?_
  refine WO.nil ?_
  refine W.cond_bl rfl (fun c1 => ?_) (fun c1 => ?_)
  · first
    | (exfalso; omega)
    | (refine W.sreg ?_
       refine WO.callR rfl Try.call12 (fun L w hi => l_Works w) rfl ?_
       refine WO.p rfl rfl ?_
       refine WO.nil ?_
       refine W.ret ?_
       exact fin.ret (Res.one rfl (RV.tmp rfl)) rfl)
  first
  | (exfalso; omega)
  | (refine W.skip ?_
     refine W.sreg ?_
     refine WO.loadA rfl rfl (Cells.own Pick.head) rfl rfl ?_
     refine WO.call rfl Try.call19 (fun L w hi => c_Best w o a b l (hR.later hi)) rfl ?_
     rintro _ _ ⟨r1, rfl, rfl⟩
     refine WO.p rfl rfl (WO.p rfl rfl (WO.p rfl rfl (WO.p rfl rfl (WO.p rfl rfl ?_))))
     refine WO.nil ?_
     refine W.sreg ?_
     refine WO.loadA rfl rfl (Cells.own (Pick.tail (Pick.head))) rfl rfl ?_
     refine WO.call rfl Try.call20 (fun L w hi => ref_Best w o a b l (hR.later hi)) rfl ?_
     rintro _ _ ⟨r2, rfl, rfl⟩
     refine WO.p rfl rfl (WO.p rfl rfl (WO.p rfl rfl (WO.p rfl rfl (WO.p rfl rfl ?_))))
     refine WO.nil ?_
     refine W.sreg ?_
     refine WO.loadA rfl rfl (Cells.own (Pick.tail (Pick.tail (Pick.head)))) rfl rfl ?_
     refine WO.call rfl Try.call21 (fun L w hi => c_Table w o a b l (hR.later hi)) rfl ?_
     rintro _ _ ⟨r3, rfl, rfl⟩
     refine WO.p rfl rfl (WO.p rfl rfl (WO.p rfl rfl (WO.p rfl rfl (WO.p rfl rfl ?_))))
     refine WO.nil ?_
     refine W.sreg ?_
     refine WO.loadA rfl rfl (Cells.own (Pick.tail (Pick.tail (Pick.tail (Pick.head))))) rfl rfl ?_
     refine WO.call rfl Try.call22 (fun L w hi => ref_Table w o a b l (hR.later hi)) rfl ?_
     rintro _ _ ⟨r4, rfl, rfl⟩
     refine WO.p rfl rfl (WO.p rfl rfl (WO.p rfl rfl (WO.p rfl rfl (WO.p rfl rfl ?_))))
     refine WO.nil ?_
     refine W.chgE (RdP.open (v := r2) (xs := bsL a b l) (by repeat (first | exact Pick.head | apply Pick.tail))) ?_
     rintro ⟨x, n, rv, xss⟩ hro
     dsimp only at hro ⊢
     refine W.sreg ?_
     refine WO.p rfl rfl (WO.p rfl rfl ?_)
     refine WO.callR (r := .bool true) rfl Try.call23 (fun L w hi => ints_t (law_ints w r1 r2 (bsL a b l) (bsL a b l) (RdF.of_ow (e := 3) encI_ok (by repeat (first | exact Pick.head | apply Pick.tail)) hi) (RowOr.rd (x := x) (n := n) hro (by repeat (first | exact Sub.nil | refine Sub.cons (by repeat (first | exact Pick.head | apply Pick.tail)) ?_)) hi)) rfl) rfl ?_
     refine WO.p rfl rfl (WO.pg rfl rfl rfl (WO.pg rfl rfl rfl (WO.pg rfl rfl rfl (WO.p rfl rfl (WO.p rfl rfl ?_)))))
     refine WO.guard_bl rfl rfl (fun c2 => ?_) (fun c2 => ?_)
     · first
       | (exfalso; omega)
       | (refine WO.pg rfl rfl rfl (WO.pg rfl rfl rfl (WO.go' rfl ?_))
          refine WO.callR (r := .bool true) rfl Try.call17 (fun L w hi => longs_t (law_longs w r3 r4 (TbL a b l) (TbL a b l) (RdF.of_ow (e := 2) encI_ok (by repeat (first | exact Pick.head | apply Pick.tail)) hi) (RdF.of_ow (e := 2) encI_ok (by repeat (first | exact Pick.head | apply Pick.tail)) hi)) rfl) rfl ?_
          refine WO.p rfl rfl (WO.p rfl rfl (WO.pg rfl rfl rfl (WO.pg rfl rfl rfl (WO.pg rfl rfl rfl (WO.p rfl rfl (WO.p rfl rfl ?_))))))
          refine WO.guard_bl rfl rfl (fun c3 => ?_) (fun c3 => ?_)
          · first
            | (exfalso; omega)
            | (refine WO.go' rfl ?_
               refine WO.callR rfl Try.call12 (fun L w hi => l_Works w) rfl ?_
               refine WO.p rfl rfl (WO.p rfl rfl ?_)
               refine WO.nil ?_
               refine W.ret ?_
               exact fin.ret (Res.one rfl (RV.tmp rfl)) rfl)
          first
          | (exfalso; omega)
          | (refine WO.no rfl rfl (WO.p rfl rfl (WO.p rfl rfl ?_))
             refine WO.nil ?_
             refine W.ret ?_
             exact fin.ret (Res.one rfl (RV.tmp rfl)) rfl))
     first
     | (exfalso; omega)
     | (refine WO.no rfl rfl (WO.no rfl rfl (WO.no rfl rfl (WO.p rfl rfl (WO.p rfl rfl (WO.no rfl rfl (WO.no rfl rfl (WO.no rfl rfl (WO.p rfl rfl (WO.p rfl rfl (WO.no rfl rfl (WO.p rfl rfl ?_)))))))))))
        refine WO.p rfl rfl ?_
        refine WO.nil ?_
        refine W.ret ?_
        exact fin.ret (Res.one rfl (RV.tmp rfl)) rfl))
theorem ex_l1 : ltV 500 500 dyL0 100 500 0 = .tuple #[.int .i64 100, .int .i64 0] := by
  unfold ltV
  rw [show ltN 500 500 dyL0 100 500 0 = 100 by decide +kernel, show ltE 500 500 dyL0 100 500 0 = 0 by decide +kernel]
theorem ex_l2 : ltV 500 500 dyL0 100 500 3 = .tuple #[.int .i64 12, .int .i64 0] := by
  unfold ltV
  rw [show ltN 500 500 dyL0 100 500 3 = 12 by decide +kernel, show ltE 500 500 dyL0 100 500 3 = 0 by decide +kernel]
theorem ex_w1 : wtN 500 500 dyL0 0 0 = 2 ∧ wtE 500 500 dyL0 0 0 = 0 := by decide +kernel
theorem ex_w2 : wtN 500 500 dyL0 1 0 = 0 ∧ wtE 500 500 dyL0 1 0 = 0 := by decide +kernel
theorem ex_w3 : wtN 500 500 dyL0 2 2 = 7 ∧ wtE 500 500 dyL0 2 2 = 0 := by decide +kernel
theorem ex_t4 : TmE 500 500 dyL0 [1, 0] = 0 ∧ TmL 500 500 dyL0 [1, 0] = [0, 5] := by decide +kernel
theorem ex_t5 : TmE 500 500 dyL0 [0, 1, 0] = 11 ∧ TmL 500 500 dyL0 [0, 1, 0] = [] := by decide +kernel
theorem law_RunKnown (w : World) : Ret Try.prog 11 ([] : List Value).toArray w (.bool true) := by
  refine Ret.of mixed tyTab Try.func11 rfl rfl ?_
  refine W.sreg ?_
  refine WO.p rfl rfl ?_
  refine WO.nil ?_
  refine W.sreg ?_
  refine WO.call rfl Try.call36 (fun L w hi => law_Day w) rfl ?_
  rintro _ _ ⟨dv, rfl, rfl⟩
  refine WO.fact (OwE.form (enc := encR) (e := 48) (sz := 6) (xs := dyL0) (v := dv) Pick.head) (fun hdv => ?_)
  obtain ⟨da, dc, rfl⟩ := hdv
  refine WO.alloc rfl rfl rfl (fun b1 hb1 => ?_)
  refine WO.storeA rfl rfl rfl rfl Pick.head rfl rfl ?_
  refine WO.nil ?_
  refine W.sreg ?_
  refine WO.loadA rfl rfl (Cells.own Pick.head) rfl rfl ?_
  refine WO.callR (r := .tuple #[.int .i64 100, .int .i64 0]) rfl Try.call31 (fun L w hi => by have h := c_Left w (.slice da dyL0.length dc) 500 500 dyL0 100 500 0 (RdF.of_ow (e := 48) encR_ok (by repeat (first | exact Pick.head | apply Pick.tail)) hi); rw [ex_l1] at h; exact h) rfl ?_
  refine WO.p rfl rfl (WO.p rfl rfl (WO.p rfl rfl (WO.p rfl rfl (WO.p rfl rfl ?_))))
  refine WO.nil ?_
  refine W.sreg ?_
  refine WO.loadA rfl rfl (Cells.own Pick.head) rfl rfl ?_
  refine WO.callR (r := .tuple #[.int .i64 12, .int .i64 0]) rfl Try.call31 (fun L w hi => by have h := c_Left w (.slice da dyL0.length dc) 500 500 dyL0 100 500 3 (RdF.of_ow (e := 48) encR_ok (by repeat (first | exact Pick.head | apply Pick.tail)) hi); rw [ex_l2] at h; exact h) rfl ?_
  refine WO.p rfl rfl (WO.p rfl rfl (WO.p rfl rfl (WO.p rfl rfl (WO.p rfl rfl ?_))))
  refine WO.nil ?_
  refine W.sreg ?_
  refine WO.loadA rfl rfl (Cells.own Pick.head) rfl rfl ?_
  refine WO.callR (r := .tuple #[.int .i64 2, .int .i64 0]) rfl Try.call28 (fun L w hi => by have h := c_Wait w (.slice da dyL0.length dc) 500 500 dyL0 0 0 (RdF.of_ow (e := 48) encR_ok (by repeat (first | exact Pick.head | apply Pick.tail)) hi); rw [wtV_ex, ex_w1.1, ex_w1.2] at h; exact h) rfl ?_
  refine WO.p rfl rfl (WO.p rfl rfl (WO.p rfl rfl (WO.p rfl rfl (WO.p rfl rfl ?_))))
  refine WO.nil ?_
  refine W.sreg ?_
  refine WO.loadA rfl rfl (Cells.own Pick.head) rfl rfl ?_
  refine WO.callR (r := .tuple #[.int .i64 0, .int .i64 0]) rfl Try.call28 (fun L w hi => by have h := c_Wait w (.slice da dyL0.length dc) 500 500 dyL0 1 0 (RdF.of_ow (e := 48) encR_ok (by repeat (first | exact Pick.head | apply Pick.tail)) hi); rw [wtV_ex, ex_w2.1, ex_w2.2] at h; exact h) rfl ?_
  refine WO.p rfl rfl (WO.p rfl rfl (WO.p rfl rfl (WO.p rfl rfl (WO.p rfl rfl ?_))))
  refine WO.nil ?_
  refine W.sreg ?_
  refine WO.loadA rfl rfl (Cells.own Pick.head) rfl rfl ?_
  refine WO.callR (r := .tuple #[.int .i64 7, .int .i64 0]) rfl Try.call28 (fun L w hi => by have h := c_Wait w (.slice da dyL0.length dc) 500 500 dyL0 2 2 (RdF.of_ow (e := 48) encR_ok (by repeat (first | exact Pick.head | apply Pick.tail)) hi); rw [wtV_ex, ex_w3.1, ex_w3.2] at h; exact h) rfl ?_
  refine WO.p rfl rfl (WO.p rfl rfl (WO.p rfl rfl (WO.p rfl rfl (WO.p rfl rfl ?_))))
  refine WO.nil ?_
  refine W.sreg ?_
  refine WO.loadA rfl rfl (Cells.own Pick.head) rfl rfl ?_
  refine' WO.buildSl (cs := _) rfl rfl rfl rfl ?hf rfl rfl ?hl rfl (fun v2 => ?_)
  case hf => (conv => lhs; simp [-List.getD_eq_getElem?_getD, fillL, vcl, wrl, TTab.pl?.lget']) <;> rfl
  case hl => rfl
  refine WO.call (Post := fun r Hq => ∃ x : Value, r = .tuple #[x, .int .i64 0] ∧ Hq = [OwE encI 2 1 x [0, 5]]) rfl Try.call13 (fun L w hi => by have h := c_Times w (.slice da dyL0.length dc) _ 500 500 dyL0 [1, 0] (RdF.of_ow (e := 48) encR_ok (by repeat (first | exact Pick.head | apply Pick.tail)) hi) (RdF.of_ow (e := 3) encI_ok (by repeat (first | exact Pick.head | apply Pick.tail)) hi); rw [ex_t4.1, ex_t4.2] at h; exact h) rfl ?_
  rintro _ _ ⟨r1, rfl, rfl⟩
  refine WO.p rfl rfl (WO.p rfl rfl (WO.p rfl rfl (WO.p rfl rfl (WO.p rfl rfl ?_))))
  refine WO.nil ?_
  refine W.sreg ?_
  refine WO.loadA rfl rfl (Cells.own (Pick.tail (Pick.tail (Pick.head)))) rfl rfl ?_
  refine' WO.buildSl (cs := _) rfl rfl rfl rfl ?hf rfl rfl ?hl rfl (fun v3 => ?_)
  case hf => (conv => lhs; simp [-List.getD_eq_getElem?_getD, fillL, vcl, wrl, TTab.pl?.lget']) <;> rfl
  case hl => rfl
  refine WO.call (Post := fun r Hq => ∃ x : Value, r = .tuple #[x, .int .i64 11] ∧ Hq = [OwE encI 2 1 x []]) rfl Try.call13 (fun L w hi => by have h := c_Times w (.slice da dyL0.length dc) _ 500 500 dyL0 [0, 1, 0] (RdF.of_ow (e := 48) encR_ok (by repeat (first | exact Pick.head | apply Pick.tail)) hi) (RdF.of_ow (e := 3) encI_ok (by repeat (first | exact Pick.head | apply Pick.tail)) hi); rw [ex_t5.1, ex_t5.2] at h; exact h) rfl ?_
  rintro _ _ ⟨r2, rfl, rfl⟩
  refine WO.p rfl rfl (WO.p rfl rfl (WO.p rfl rfl (WO.p rfl rfl (WO.p rfl rfl ?_))))
  refine WO.nil ?_
  refine W.sreg ?_
  refine WO.p rfl rfl (WO.p rfl rfl (WO.p rfl rfl ?_))
  refine WO.guard_bl rfl rfl (fun c1 => ?_) (fun c1 => ?_)
  · first
    | (exfalso; omega)
    | (refine WO.pg rfl rfl rfl (WO.pg rfl rfl rfl (WO.p rfl rfl (WO.p rfl rfl ?_)))
       refine WO.guard_bl rfl rfl (fun c2 => ?_) (fun c2 => ?_)
       · first
         | (exfalso; omega)
         | (refine WO.pg rfl rfl rfl (WO.pg rfl rfl rfl (WO.p rfl rfl (WO.p rfl rfl ?_)))
            refine WO.guard_bl rfl rfl (fun c3 => ?_) (fun c3 => ?_)
            · first
              | (exfalso; omega)
              | (refine WO.pg rfl rfl rfl (WO.pg rfl rfl rfl (WO.p rfl rfl (WO.p rfl rfl ?_)))
                 refine WO.guard_bl rfl rfl (fun c4 => ?_) (fun c4 => ?_)
                 · first
                   | (exfalso; omega)
                   | (refine WO.pg rfl rfl rfl (WO.pg rfl rfl rfl (WO.p rfl rfl (WO.p rfl rfl ?_)))
                      refine WO.guard_bl rfl rfl (fun c5 => ?_) (fun c5 => ?_)
                      · first
                        | (exfalso; omega)
                        | (refine WO.pg rfl rfl rfl (WO.pg rfl rfl rfl (WO.p rfl rfl (WO.p rfl rfl ?_)))
                           refine WO.guard_bl rfl rfl (fun c6 => ?_) (fun c6 => ?_)
                           · first
                             | (exfalso; omega)
                             | (refine WO.pg rfl rfl rfl (WO.pg rfl rfl rfl (WO.p rfl rfl (WO.p rfl rfl ?_)))
                                refine WO.guard_bl rfl rfl (fun c7 => ?_) (fun c7 => ?_)
                                · first
                                  | (exfalso; omega)
                                  | (refine WO.pg rfl rfl rfl (WO.pg rfl rfl rfl (WO.p rfl rfl (WO.p rfl rfl ?_)))
                                     refine WO.guard_bl rfl rfl (fun c8 => ?_) (fun c8 => ?_)
                                     · first
                                       | (exfalso; omega)
                                       | (refine WO.pg rfl rfl rfl (WO.pg rfl rfl rfl (WO.p rfl rfl (WO.p rfl rfl ?_)))
                                          refine WO.guard_bl rfl rfl (fun c9 => ?_) (fun c9 => ?_)
                                          · first
                                            | (exfalso; omega)
                                            | (refine WO.pg rfl rfl rfl (WO.pg rfl rfl rfl (WO.p rfl rfl (WO.p rfl rfl ?_)))
                                               refine WO.guard_bl rfl rfl (fun c10 => ?_) (fun c10 => ?_)
                                               · first
                                                 | (exfalso; omega)
                                                 | (refine WO.pg rfl rfl rfl (WO.pg rfl rfl rfl (WO.p rfl rfl (WO.p rfl rfl ?_)))
                                                    refine WO.guard_bl rfl rfl (fun c11 => ?_) (fun c11 => ?_)
                                                    · first
                                                      | (exfalso; omega)
                                                      | (refine WO.pg rfl rfl rfl (WO.pg rfl rfl rfl (WO.p rfl rfl (WO.p rfl rfl ?_)))
                                                         refine WO.guard_bl rfl rfl (fun c12 => ?_) (fun c12 => ?_)
                                                         · first
                                                           | (exfalso; omega)
                                                           | (refine WO.pg rfl rfl rfl (WO.go' rfl ?_)
                                                              refine' WO.buildSl (cs := _) rfl rfl rfl rfl ?hf rfl rfl ?hl rfl (fun v4 => ?_)
                                                              case hf => (conv => lhs; simp [-List.getD_eq_getElem?_getD, fillL, vcl, wrl, TTab.pl?.lget']) <;> rfl
                                                              case hl => rfl
                                                              refine WO.go' rfl ?_
                                                              refine WO.callR (r := .bool true) rfl Try.call17 (fun L w hi => longs_t (law_longs w r1 _ [0, 5] [0, 5] (RdF.of_ow (e := 2) encI_ok (by repeat (first | exact Pick.head | apply Pick.tail)) hi) (RdF.of_ow (e := 2) encI_ok (by repeat (first | exact Pick.head | apply Pick.tail)) hi)) rfl) rfl ?_
                                                              refine WO.p rfl rfl (WO.p rfl rfl (WO.go' rfl ?_))
                                                              refine WO.callR rfl Try.call12 (fun L w hi => l_Works w) rfl ?_
                                                              refine WO.p rfl rfl (WO.p rfl rfl ?_)
                                                              refine WO.nil ?_
                                                              refine W.ret ?_
                                                              exact fin.ret (Res.one rfl (RV.tmp rfl)) rfl)
                                                         first
                                                         | (exfalso; omega)
                                                         | (refine WO.no rfl rfl (WO.no rfl rfl (WO.no rfl rfl (WO.p rfl rfl (WO.p rfl rfl (WO.no rfl rfl (WO.p rfl rfl (WO.p rfl rfl ?_)))))))
                                                            refine WO.nil ?_
                                                            refine W.ret ?_
                                                            exact fin.ret (Res.one rfl (RV.tmp rfl)) rfl))
                                                    first
                                                    | (exfalso; omega)
                                                    | (refine WO.no rfl rfl (WO.no rfl rfl (WO.p rfl rfl (WO.p rfl rfl (WO.no rfl rfl (WO.no rfl rfl (WO.no rfl rfl (WO.p rfl rfl (WO.p rfl rfl (WO.no rfl rfl (WO.p rfl rfl (WO.p rfl rfl ?_)))))))))))
                                                       refine WO.nil ?_
                                                       refine W.ret ?_
                                                       exact fin.ret (Res.one rfl (RV.tmp rfl)) rfl))
                                               first
                                               | (exfalso; omega)
                                               | (refine WO.no rfl rfl (WO.no rfl rfl (WO.p rfl rfl (WO.p rfl rfl (WO.no rfl rfl (WO.no rfl rfl (WO.p rfl rfl (WO.p rfl rfl (WO.no rfl rfl (WO.no rfl rfl (WO.no rfl rfl (WO.p rfl rfl ?_)))))))))))
                                                  refine WO.p rfl rfl (WO.no rfl rfl (WO.p rfl rfl (WO.p rfl rfl ?_)))
                                                  refine WO.nil ?_
                                                  refine W.ret ?_
                                                  exact fin.ret (Res.one rfl (RV.tmp rfl)) rfl))
                                          first
                                          | (exfalso; omega)
                                          | (refine WO.no rfl rfl (WO.no rfl rfl (WO.p rfl rfl (WO.p rfl rfl (WO.no rfl rfl (WO.no rfl rfl (WO.p rfl rfl (WO.p rfl rfl (WO.no rfl rfl (WO.no rfl rfl (WO.p rfl rfl (WO.p rfl rfl ?_)))))))))))
                                             refine WO.no rfl rfl (WO.no rfl rfl (WO.no rfl rfl (WO.p rfl rfl (WO.p rfl rfl (WO.no rfl rfl (WO.p rfl rfl (WO.p rfl rfl ?_)))))))
                                             refine WO.nil ?_
                                             refine W.ret ?_
                                             exact fin.ret (Res.one rfl (RV.tmp rfl)) rfl))
                                     first
                                     | (exfalso; omega)
                                     | (refine WO.no rfl rfl (WO.no rfl rfl (WO.p rfl rfl (WO.p rfl rfl (WO.no rfl rfl (WO.no rfl rfl (WO.p rfl rfl (WO.p rfl rfl (WO.no rfl rfl (WO.no rfl rfl (WO.p rfl rfl (WO.p rfl rfl ?_)))))))))))
                                        refine WO.no rfl rfl (WO.no rfl rfl (WO.p rfl rfl (WO.p rfl rfl (WO.no rfl rfl (WO.no rfl rfl (WO.no rfl rfl (WO.p rfl rfl (WO.p rfl rfl (WO.no rfl rfl (WO.p rfl rfl (WO.p rfl rfl ?_)))))))))))
                                        refine WO.nil ?_
                                        refine W.ret ?_
                                        exact fin.ret (Res.one rfl (RV.tmp rfl)) rfl))
                                first
                                | (exfalso; omega)
                                | (refine WO.no rfl rfl (WO.no rfl rfl (WO.p rfl rfl (WO.p rfl rfl (WO.no rfl rfl (WO.no rfl rfl (WO.p rfl rfl (WO.p rfl rfl (WO.no rfl rfl (WO.no rfl rfl (WO.p rfl rfl (WO.p rfl rfl ?_)))))))))))
                                   refine WO.no rfl rfl (WO.no rfl rfl (WO.p rfl rfl (WO.p rfl rfl (WO.no rfl rfl (WO.no rfl rfl (WO.p rfl rfl (WO.p rfl rfl (WO.no rfl rfl (WO.no rfl rfl (WO.no rfl rfl (WO.p rfl rfl ?_)))))))))))
                                   refine WO.p rfl rfl (WO.no rfl rfl (WO.p rfl rfl (WO.p rfl rfl ?_)))
                                   refine WO.nil ?_
                                   refine W.ret ?_
                                   exact fin.ret (Res.one rfl (RV.tmp rfl)) rfl))
                           first
                           | (exfalso; omega)
                           | (refine WO.no rfl rfl (WO.no rfl rfl (WO.p rfl rfl (WO.p rfl rfl (WO.no rfl rfl (WO.no rfl rfl (WO.p rfl rfl (WO.p rfl rfl (WO.no rfl rfl (WO.no rfl rfl (WO.p rfl rfl (WO.p rfl rfl ?_)))))))))))
                              refine WO.no rfl rfl (WO.no rfl rfl (WO.p rfl rfl (WO.p rfl rfl (WO.no rfl rfl (WO.no rfl rfl (WO.p rfl rfl (WO.p rfl rfl (WO.no rfl rfl (WO.no rfl rfl (WO.p rfl rfl (WO.p rfl rfl ?_)))))))))))
                              refine WO.no rfl rfl (WO.no rfl rfl (WO.no rfl rfl (WO.p rfl rfl (WO.p rfl rfl (WO.no rfl rfl (WO.p rfl rfl (WO.p rfl rfl ?_)))))))
                              refine WO.nil ?_
                              refine W.ret ?_
                              exact fin.ret (Res.one rfl (RV.tmp rfl)) rfl))
                      first
                      | (exfalso; omega)
                      | (refine WO.no rfl rfl (WO.no rfl rfl (WO.p rfl rfl (WO.p rfl rfl (WO.no rfl rfl (WO.no rfl rfl (WO.p rfl rfl (WO.p rfl rfl (WO.no rfl rfl (WO.no rfl rfl (WO.p rfl rfl (WO.p rfl rfl ?_)))))))))))
                         refine WO.no rfl rfl (WO.no rfl rfl (WO.p rfl rfl (WO.p rfl rfl (WO.no rfl rfl (WO.no rfl rfl (WO.p rfl rfl (WO.p rfl rfl (WO.no rfl rfl (WO.no rfl rfl (WO.p rfl rfl (WO.p rfl rfl ?_)))))))))))
                         refine WO.no rfl rfl (WO.no rfl rfl (WO.p rfl rfl (WO.p rfl rfl (WO.no rfl rfl (WO.no rfl rfl (WO.no rfl rfl (WO.p rfl rfl (WO.p rfl rfl (WO.no rfl rfl (WO.p rfl rfl (WO.p rfl rfl ?_)))))))))))
                         refine WO.nil ?_
                         refine W.ret ?_
                         exact fin.ret (Res.one rfl (RV.tmp rfl)) rfl))
                 first
                 | (exfalso; omega)
                 | (refine WO.no rfl rfl (WO.no rfl rfl (WO.p rfl rfl (WO.p rfl rfl (WO.no rfl rfl (WO.no rfl rfl (WO.p rfl rfl (WO.p rfl rfl (WO.no rfl rfl (WO.no rfl rfl (WO.p rfl rfl (WO.p rfl rfl ?_)))))))))))
                    refine WO.no rfl rfl (WO.no rfl rfl (WO.p rfl rfl (WO.p rfl rfl (WO.no rfl rfl (WO.no rfl rfl (WO.p rfl rfl (WO.p rfl rfl (WO.no rfl rfl (WO.no rfl rfl (WO.p rfl rfl (WO.p rfl rfl ?_)))))))))))
                    refine WO.no rfl rfl (WO.no rfl rfl (WO.p rfl rfl (WO.p rfl rfl (WO.no rfl rfl (WO.no rfl rfl (WO.p rfl rfl (WO.p rfl rfl (WO.no rfl rfl (WO.no rfl rfl (WO.no rfl rfl (WO.p rfl rfl ?_)))))))))))
                    refine WO.p rfl rfl (WO.no rfl rfl (WO.p rfl rfl (WO.p rfl rfl ?_)))
                    refine WO.nil ?_
                    refine W.ret ?_
                    exact fin.ret (Res.one rfl (RV.tmp rfl)) rfl))
            first
            | (exfalso; omega)
            | (refine WO.no rfl rfl (WO.no rfl rfl (WO.p rfl rfl (WO.p rfl rfl (WO.no rfl rfl (WO.no rfl rfl (WO.p rfl rfl (WO.p rfl rfl (WO.no rfl rfl (WO.no rfl rfl (WO.p rfl rfl (WO.p rfl rfl ?_)))))))))))
               refine WO.no rfl rfl (WO.no rfl rfl (WO.p rfl rfl (WO.p rfl rfl (WO.no rfl rfl (WO.no rfl rfl (WO.p rfl rfl (WO.p rfl rfl (WO.no rfl rfl (WO.no rfl rfl (WO.p rfl rfl (WO.p rfl rfl ?_)))))))))))
               refine WO.no rfl rfl (WO.no rfl rfl (WO.p rfl rfl (WO.p rfl rfl (WO.no rfl rfl (WO.no rfl rfl (WO.p rfl rfl (WO.p rfl rfl (WO.no rfl rfl (WO.no rfl rfl (WO.p rfl rfl (WO.p rfl rfl ?_)))))))))))
               refine WO.no rfl rfl (WO.no rfl rfl (WO.no rfl rfl (WO.p rfl rfl (WO.p rfl rfl (WO.no rfl rfl (WO.p rfl rfl (WO.p rfl rfl ?_)))))))
               refine WO.nil ?_
               refine W.ret ?_
               exact fin.ret (Res.one rfl (RV.tmp rfl)) rfl))
       first
       | (exfalso; omega)
       | (refine WO.no rfl rfl (WO.no rfl rfl (WO.p rfl rfl (WO.p rfl rfl (WO.no rfl rfl (WO.no rfl rfl (WO.p rfl rfl (WO.p rfl rfl (WO.no rfl rfl (WO.no rfl rfl (WO.p rfl rfl (WO.p rfl rfl ?_)))))))))))
          refine WO.no rfl rfl (WO.no rfl rfl (WO.p rfl rfl (WO.p rfl rfl (WO.no rfl rfl (WO.no rfl rfl (WO.p rfl rfl (WO.p rfl rfl (WO.no rfl rfl (WO.no rfl rfl (WO.p rfl rfl (WO.p rfl rfl ?_)))))))))))
          refine WO.no rfl rfl (WO.no rfl rfl (WO.p rfl rfl (WO.p rfl rfl (WO.no rfl rfl (WO.no rfl rfl (WO.p rfl rfl (WO.p rfl rfl (WO.no rfl rfl (WO.no rfl rfl (WO.p rfl rfl (WO.p rfl rfl ?_)))))))))))
          refine WO.no rfl rfl (WO.no rfl rfl (WO.p rfl rfl (WO.p rfl rfl (WO.no rfl rfl (WO.no rfl rfl (WO.no rfl rfl (WO.p rfl rfl (WO.p rfl rfl (WO.no rfl rfl (WO.p rfl rfl (WO.p rfl rfl ?_)))))))))))
          refine WO.nil ?_
          refine W.ret ?_
          exact fin.ret (Res.one rfl (RV.tmp rfl)) rfl))
  first
  | (exfalso; omega)
  | (refine WO.no rfl rfl (WO.no rfl rfl (WO.p rfl rfl (WO.p rfl rfl (WO.no rfl rfl (WO.no rfl rfl (WO.p rfl rfl (WO.p rfl rfl (WO.no rfl rfl (WO.no rfl rfl (WO.p rfl rfl (WO.p rfl rfl ?_)))))))))))
     refine WO.no rfl rfl (WO.no rfl rfl (WO.p rfl rfl (WO.p rfl rfl (WO.no rfl rfl (WO.no rfl rfl (WO.p rfl rfl (WO.p rfl rfl (WO.no rfl rfl (WO.no rfl rfl (WO.p rfl rfl (WO.p rfl rfl ?_)))))))))))
     refine WO.no rfl rfl (WO.no rfl rfl (WO.p rfl rfl (WO.p rfl rfl (WO.no rfl rfl (WO.no rfl rfl (WO.p rfl rfl (WO.p rfl rfl (WO.no rfl rfl (WO.no rfl rfl (WO.p rfl rfl (WO.p rfl rfl ?_)))))))))))
     refine WO.no rfl rfl (WO.no rfl rfl (WO.p rfl rfl (WO.p rfl rfl (WO.no rfl rfl (WO.no rfl rfl (WO.p rfl rfl (WO.p rfl rfl (WO.no rfl rfl (WO.no rfl rfl (WO.no rfl rfl (WO.p rfl rfl ?_)))))))))))
     refine WO.p rfl rfl (WO.no rfl rfl (WO.p rfl rfl (WO.p rfl rfl ?_)))
     refine WO.nil ?_
     refine W.ret ?_
     exact fin.ret (Res.one rfl (RV.tmp rfl)) rfl)
end Go.Proofs.Ytkonhpcldomidaa
