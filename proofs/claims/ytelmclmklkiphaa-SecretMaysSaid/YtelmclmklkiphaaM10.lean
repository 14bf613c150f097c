/-
  What is proved here: two laws. Conditions: none; each contract states its own.
-/
import Derived.Test.YtelmclmklkiphaaM9
set_option linter.unusedVariables false
set_option linter.unusedSimpArgs false
namespace Go.Proofs.Ytelmclmklkiphaa
open Go Go.TH
attribute [local irreducible] W WO pt
set_option maxRecDepth 10000
set_option maxHeartbeats 1000000
theorem prf_nil {n : Int} {rows : List (List Int)} {r : List Int} (h : proE n rows r ≠ 0) : (prfQ n rows r).length = 0 ∧ prfT n rows r = 0 := by
  obtain ⟨h1, h2⟩ := prf_1 h
  rw [h1, h2]; exact ⟨rfl, rfl⟩
theorem law_SecretMays (w : World) (n : Int) (v u o : Value) (rv qv : List Value) (rows asks : List (List Int)) (r : List Int) (hB : RdR encI 1 w.heap.size w v rv rows) (hR : RdF encI 1 w.heap.size w u r) (hQ : RdR encI 1 w.heap.size w o qv asks) (hc : CapV v rows.length) : Ret Try.prog 4 [bookV n v, u, o].toArray w (.bool true) := by
  refine Ret.of mixed tyTab Try.func4 rfl rfl ?_
  replace hB : RdR encI 1 (fnCx mixed tyTab Try.f4.ntmps w).B (fnCx mixed tyTab Try.f4.ntmps w).w0 v rv rows := hB
  replace hR : RdF encI 1 (fnCx mixed tyTab Try.f4.ntmps w).B (fnCx mixed tyTab Try.f4.ntmps w).w0 u r := hR
  replace hQ : RdR encI 1 (fnCx mixed tyTab Try.f4.ntmps w).B (fnCx mixed tyTab Try.f4.ntmps w).w0 o qv asks := hQ
  have hov := hB.sl.oc
  have hle := hQ.sl.le
  refine W.sreg ?_
  refine WO.boxA rfl rfl (fun b1 hb1 => ?_)
  refine WO.p rfl rfl ?_
  refine WO.nil ?_
  refine W.seq ?_
  refine W.sreg ?_
  refine WO.loadA rfl rfl (Cells.own Pick.head) rfl rfl ?_
  refine WO.callR rfl Try.call7 (fun L w hi => law_great w n v rv rows (hB.later hi)) rfl ?_
  refine WO.p rfl rfl ?_
  refine WO.guard_bl rfl rfl (fun c1 => ?_) (fun c1 => ?_)
  · first
    | (exfalso; omega)
    | (refine WO.no rfl rfl (WO.no rfl rfl (WO.no rfl rfl (WO.p rfl rfl (WO.p rfl rfl (WO.no rfl rfl (WO.no rfl rfl (WO.no rfl rfl (WO.no rfl rfl (WO.no rfl rfl (WO.no rfl rfl (WO.no rfl rfl ?_)))))))))))
       refine WO.no rfl rfl (WO.p rfl rfl (WO.p rfl rfl (WO.no rfl rfl (WO.no rfl rfl (WO.no rfl rfl (WO.p rfl rfl (WO.p rfl rfl (WO.no rfl rfl (WO.no rfl rfl (WO.p rfl rfl ?_))))))))))
       refine WO.nil ?_
       refine W.cond_t rfl ?_
       refine W.sreg ?_
       refine WO.callR rfl Try.call8 (fun L w hi => l_Works w) rfl ?_
       refine WO.p rfl rfl ?_
       refine WO.nil ?_
       refine W.ret ?_
       first | exact fin.ret (Res.one rfl (RV.tmp rfl)) rfl | (exfalso; omega))
  first
  | (exfalso; omega)
  | (refine WO.pg rfl rfl rfl (WO.go' rfl ?_)
     refine' WO.len (n := _) rfl rfl ?hs rfl ?_
     case hs => (first | exact hR.sl | exact hQ.sl)
     refine WO.pg rfl rfl rfl (WO.p rfl rfl (WO.p rfl rfl ?_))
     refine WO.guard_bl rfl rfl (fun c2 => ?_) (fun c2 => ?_)
     · first
       | (exfalso; omega)
       | (refine WO.no rfl rfl (WO.no rfl rfl (WO.no rfl rfl (WO.no rfl rfl (WO.no rfl rfl (WO.no rfl rfl (WO.no rfl rfl (WO.no rfl rfl (WO.p rfl rfl (WO.p rfl rfl (WO.no rfl rfl (WO.no rfl rfl ?_)))))))))))
          refine WO.no rfl rfl (WO.p rfl rfl (WO.p rfl rfl (WO.no rfl rfl (WO.no rfl rfl (WO.p rfl rfl ?_)))))
          refine WO.nil ?_
          refine W.cond_t rfl ?_
          refine W.sreg ?_
          refine WO.callR rfl Try.call8 (fun L w hi => l_Works w) rfl ?_
          refine WO.p rfl rfl ?_
          refine WO.nil ?_
          refine W.ret ?_
          first | exact fin.ret (Res.one rfl (RV.tmp rfl)) rfl | (exfalso; omega))
     first
     | (exfalso; omega)
     | (refine WO.pg rfl rfl rfl (WO.go' rfl ?_)
        refine' WO.len (n := _) rfl rfl ?hs rfl ?_
        case hs => (first | exact hR.sl | exact hQ.sl)
        refine WO.pg rfl rfl rfl (WO.pg rfl rfl rfl ?_)
        refine WO.guard_bl rfl rfl (fun c3 => ?_) (fun c3 => ?_)
        · first
          | (exfalso; omega)
          | (refine WO.pg rfl rfl rfl (WO.go' rfl ?_)
             refine' WO.len (n := _) rfl rfl ?hs rfl ?_
             case hs => (first | exact hR.sl | exact hQ.sl)
             refine WO.pg rfl rfl rfl (WO.pg rfl rfl rfl (WO.p rfl rfl (WO.p rfl rfl ?_)))
             refine WO.guard_bl rfl rfl (fun c4 => ?_) (fun c4 => ?_)
             · first
               | (exfalso; omega)
               | (refine WO.no rfl rfl (WO.no rfl rfl (WO.no rfl rfl (WO.p rfl rfl (WO.p rfl rfl (WO.no rfl rfl (WO.no rfl rfl (WO.p rfl rfl ?_)))))))
                  refine WO.nil ?_
                  refine W.cond_t rfl ?_
                  refine W.sreg ?_
                  refine WO.callR rfl Try.call8 (fun L w hi => l_Works w) rfl ?_
                  refine WO.p rfl rfl ?_
                  refine WO.nil ?_
                  refine W.ret ?_
                  first | exact fin.ret (Res.one rfl (RV.tmp rfl)) rfl | (exfalso; omega))
             first
             | (exfalso; omega)
             | (refine WO.pg rfl rfl rfl (WO.go' rfl ?_)
                refine' WO.len (n := _) rfl rfl ?hs rfl ?_
                case hs => (first | exact hR.sl | exact hQ.sl)
                refine WO.pg rfl rfl rfl (WO.p rfl rfl (WO.p rfl rfl ?_))
                refine WO.guard_bl rfl rfl (fun c5 => ?_) (fun c5 => ?_)
                · first
                  | (exfalso; omega)
                  | (refine WO.no rfl rfl (WO.no rfl rfl (WO.p rfl rfl ?_))
                     refine WO.nil ?_
                     refine W.cond_t rfl ?_
                     refine W.sreg ?_
                     refine WO.callR rfl Try.call8 (fun L w hi => l_Works w) rfl ?_
                     refine WO.p rfl rfl ?_
                     refine WO.nil ?_
                     refine W.ret ?_
                     first | exact fin.ret (Res.one rfl (RV.tmp rfl)) rfl | (exfalso; omega))
                first
                | (exfalso; omega)
                | (refine WO.pg rfl rfl rfl (WO.go' rfl ?_)
                   refine WO.callR rfl Try.call17 (fun L w hi => law_wide w o qv asks (hQ.later hi)) rfl ?_
                   refine WO.p rfl rfl ?_
                   refine WO.nil ?_
                   refine W.cond_bl rfl (fun c6 => ?_) (fun c6 => ?_)
                   · first
                     | (exfalso; omega)
                     | (refine W.sreg ?_
                        refine WO.callR rfl Try.call8 (fun L w hi => l_Works w) rfl ?_
                        refine WO.p rfl rfl ?_
                        refine WO.nil ?_
                        refine W.ret ?_
                        first | exact fin.ret (Res.one rfl (RV.tmp rfl)) rfl | (exfalso; omega))
                   first
                   | (exfalso; omega)
                   | (refine W.skip ?_
                      refine W.seq ?_
                      refine W.drawD 7 [.b 0 [], .r 1 [], .r 2 [], .b 3 [], .b 4 [], .r 5 [], .r 6 []] [] (A0 := []) (Sub.refl _) (by kernel_rfl) ?_ ?_
                      · exact (ALok.b (ALok.r (ALok.r (ALok.b (ALok.b (ALok.r (ALok.r ALok.nil)))))))
                      refine' DT.b rfl rfl rfl ?hq ?_
                      case hq =>
                        refine WO.loadA rfl rfl (Cells.own Pick.head) rfl rfl ?_
                        exact WO.nil ⟨rfl, rfl⟩
                      refine' DT.r rfl rfl rfl ?hq ?_
                      case hq =>
                        refine WO.p rfl rfl ?_
                        exact WO.nil ⟨rfl, rfl⟩
                      refine' DT.r rfl rfl rfl ?hq ?_
                      case hq =>
                        refine WO.p rfl rfl ?_
                        exact WO.nil ⟨rfl, rfl⟩
                      refine' DT.b rfl rfl rfl ?hq ?_
                      case hq =>
                        refine WO.callR rfl Try.call18 (fun L w hi => c_May w n v u o rv qv rows asks r (hB.later hi) (hR.later hi) (hQ.later hi) hc) rfl ?_
                        exact WO.nil ⟨rfl, rfl⟩
                      refine' DT.b rfl rfl rfl ?hq ?_
                      case hq =>
                        refine WO.loadA rfl rfl (Cells.own Pick.head) rfl rfl ?_
                        exact WO.nil ⟨rfl, rfl⟩
                      refine' DT.r rfl rfl rfl ?hq ?_
                      case hq =>
                        refine WO.p rfl rfl ?_
                        exact WO.nil ⟨rfl, rfl⟩
                      refine' DT.r rfl rfl rfl ?hq ?_
                      case hq =>
                        refine WO.p rfl rfl ?_
                        exact WO.nil ⟨rfl, rfl⟩
                      refine DT.nil [_] rfl ?_
                      refine WO.callR rfl Try.call19 (fun L w hi => ref_May w n v u o rv qv rows asks r (hB.later hi) (hR.later hi) (hQ.later hi)) rfl ?_
                      refine WO.p rfl rfl (WO.p rfl rfl ?_)
                      refine WO.guard_bl rfl rfl (fun c7 => ?_) (fun c7 => ?_)
                      · first
                        | (exfalso; omega)
                        | (refine WO.go' rfl ?_
                           refine WO.callR rfl Try.call8 (fun L w hi => l_Works w) rfl ?_
                           refine WO.p rfl rfl (WO.p rfl rfl ?_)
                           refine WO.nil ?_
                           refine W.ret ?_
                           first | exact fin.ret (Res.one rfl (RV.tmp rfl)) rfl | (exfalso; omega))
                      first
                      | (exfalso; omega)
                      | (refine WO.no rfl rfl (WO.p rfl rfl (WO.p rfl rfl ?_))
                         refine WO.nil ?_
                         refine W.ret ?_
                         first | exact fin.ret (Res.one rfl (RV.tmp rfl)) rfl | (exfalso; omega))))))
        first
        | (exfalso; omega)
        | (refine WO.no rfl rfl (WO.no rfl rfl (WO.no rfl rfl (WO.pg rfl rfl rfl (WO.p rfl rfl (WO.p rfl rfl (WO.pg rfl rfl rfl (WO.go' rfl ?_)))))))
           refine' WO.len (n := _) rfl rfl ?hs rfl ?_
           case hs => (first | exact hR.sl | exact hQ.sl)
           refine WO.pg rfl rfl rfl (WO.p rfl rfl (WO.p rfl rfl ?_))
           refine WO.guard_bl rfl rfl (fun c4 => ?_) (fun c4 => ?_)
           · first
             | (exfalso; omega)
             | (refine WO.no rfl rfl (WO.no rfl rfl (WO.p rfl rfl ?_))
                refine WO.nil ?_
                refine W.cond_t rfl ?_
                refine W.sreg ?_
                refine WO.callR rfl Try.call8 (fun L w hi => l_Works w) rfl ?_
                refine WO.p rfl rfl ?_
                refine WO.nil ?_
                refine W.ret ?_
                first | exact fin.ret (Res.one rfl (RV.tmp rfl)) rfl | (exfalso; omega))
           first
           | (exfalso; omega)
           | (refine WO.pg rfl rfl rfl (WO.go' rfl ?_)
              refine WO.callR rfl Try.call17 (fun L w hi => law_wide w o qv asks (hQ.later hi)) rfl ?_
              refine WO.p rfl rfl ?_
              refine WO.nil ?_
              refine W.cond_bl rfl (fun c5 => ?_) (fun c5 => ?_)
              · first
                | (exfalso; omega)
                | (refine W.sreg ?_
                   refine WO.callR rfl Try.call8 (fun L w hi => l_Works w) rfl ?_
                   refine WO.p rfl rfl ?_
                   refine WO.nil ?_
                   refine W.ret ?_
                   first | exact fin.ret (Res.one rfl (RV.tmp rfl)) rfl | (exfalso; omega))
              first
              | (exfalso; omega)
              | (refine W.skip ?_
                 refine W.seq ?_
                 refine W.drawD 7 [.b 0 [], .r 1 [], .r 2 [], .b 3 [], .b 4 [], .r 5 [], .r 6 []] [] (A0 := []) (Sub.refl _) (by kernel_rfl) ?_ ?_
                 · exact (ALok.b (ALok.r (ALok.r (ALok.b (ALok.b (ALok.r (ALok.r ALok.nil)))))))
                 refine' DT.b rfl rfl rfl ?hq ?_
                 case hq =>
                   refine WO.loadA rfl rfl (Cells.own Pick.head) rfl rfl ?_
                   exact WO.nil ⟨rfl, rfl⟩
                 refine' DT.r rfl rfl rfl ?hq ?_
                 case hq =>
                   refine WO.p rfl rfl ?_
                   exact WO.nil ⟨rfl, rfl⟩
                 refine' DT.r rfl rfl rfl ?hq ?_
                 case hq =>
                   refine WO.p rfl rfl ?_
                   exact WO.nil ⟨rfl, rfl⟩
                 refine' DT.b rfl rfl rfl ?hq ?_
                 case hq =>
                   refine WO.callR rfl Try.call18 (fun L w hi => c_May w n v u o rv qv rows asks r (hB.later hi) (hR.later hi) (hQ.later hi) hc) rfl ?_
                   exact WO.nil ⟨rfl, rfl⟩
                 refine' DT.b rfl rfl rfl ?hq ?_
                 case hq =>
                   refine WO.loadA rfl rfl (Cells.own Pick.head) rfl rfl ?_
                   exact WO.nil ⟨rfl, rfl⟩
                 refine' DT.r rfl rfl rfl ?hq ?_
                 case hq =>
                   refine WO.p rfl rfl ?_
                   exact WO.nil ⟨rfl, rfl⟩
                 refine' DT.r rfl rfl rfl ?hq ?_
                 case hq =>
                   refine WO.p rfl rfl ?_
                   exact WO.nil ⟨rfl, rfl⟩
                 refine DT.nil [_] rfl ?_
                 refine WO.callR rfl Try.call19 (fun L w hi => ref_May w n v u o rv qv rows asks r (hB.later hi) (hR.later hi) (hQ.later hi)) rfl ?_
                 refine WO.p rfl rfl (WO.p rfl rfl ?_)
                 refine WO.guard_bl rfl rfl (fun c6 => ?_) (fun c6 => ?_)
                 · first
                   | (exfalso; omega)
                   | (refine WO.go' rfl ?_
                      refine WO.callR rfl Try.call8 (fun L w hi => l_Works w) rfl ?_
                      refine WO.p rfl rfl (WO.p rfl rfl ?_)
                      refine WO.nil ?_
                      refine W.ret ?_
                      first | exact fin.ret (Res.one rfl (RV.tmp rfl)) rfl | (exfalso; omega))
                 first
                 | (exfalso; omega)
                 | (refine WO.no rfl rfl (WO.p rfl rfl (WO.p rfl rfl ?_))
                    refine WO.nil ?_
                    refine W.ret ?_
                    first | exact fin.ret (Res.one rfl (RV.tmp rfl)) rfl | (exfalso; omega)))))))
theorem law_SecretProofs (w : World) (n : Int) (v u o z : Value) (rv : List Value) (rows : List (List Int)) (r q zs : List Int) (t : Int) (hB : RdR encI 1 w.heap.size w v rv rows) (hR : RdF encI 1 w.heap.size w u r) (hQ : RdF encI 1 w.heap.size w o q) (hZ : RdF encI 1 w.heap.size w z zs) : Ret Try.prog 3 [bookV n v, u, .agg #[o, .int .i64 t], z].toArray w (.bool true) := by
  refine Ret.of mixed tyTab Try.func3 rfl rfl ?_
  replace hB : RdR encI 1 (fnCx mixed tyTab Try.f3.ntmps w).B (fnCx mixed tyTab Try.f3.ntmps w).w0 v rv rows := hB
  replace hR : RdF encI 1 (fnCx mixed tyTab Try.f3.ntmps w).B (fnCx mixed tyTab Try.f3.ntmps w).w0 u r := hR
  replace hQ : RdF encI 1 (fnCx mixed tyTab Try.f3.ntmps w).B (fnCx mixed tyTab Try.f3.ntmps w).w0 o q := hQ
  replace hZ : RdF encI 1 (fnCx mixed tyTab Try.f3.ntmps w).B (fnCx mixed tyTab Try.f3.ntmps w).w0 z zs := hZ
  have hov := hB.sl.oc
  have hoq := hQ.sl.oc
  refine W.sreg ?_
  refine WO.boxA rfl rfl (fun b1 hb1 => ?_)
  refine WO.boxA rfl rfl (fun b2 hb2 => ?_)
  refine WO.p rfl rfl ?_
  refine WO.nil ?_
  refine W.seq ?_
  refine W.sreg ?_
  refine WO.loadA rfl rfl (Cells.own (Pick.tail (Pick.head))) rfl rfl ?_
  refine WO.callR rfl Try.call7 (fun L w hi => law_great w n v rv rows (hB.later hi)) rfl ?_
  refine WO.p rfl rfl ?_
  refine WO.guard_bl rfl rfl (fun c1 => ?_) (fun c1 => ?_)
  · first
    | (exfalso; omega)
    | (refine WO.no rfl rfl (WO.no rfl rfl (WO.no rfl rfl (WO.p rfl rfl (WO.p rfl rfl (WO.no rfl rfl (WO.no rfl rfl (WO.no rfl rfl (WO.no rfl rfl (WO.p rfl rfl (WO.p rfl rfl (WO.no rfl rfl ?_)))))))))))
       refine WO.no rfl rfl (WO.no rfl rfl (WO.p rfl rfl ?_))
       refine WO.nil ?_
       refine W.cond_t rfl ?_
       refine W.sreg ?_
       refine WO.callR rfl Try.call8 (fun L w hi => l_Works w) rfl ?_
       refine WO.p rfl rfl ?_
       refine WO.nil ?_
       refine W.ret ?_
       first | exact fin.ret (Res.one rfl (RV.tmp rfl)) rfl | exact fin.ret (Res.one rfl (RV.tmp rfl)) (congrArg Value.bool (bl_t.2 (by omega))) | (exfalso; omega) | (exfalso; have hp2 := hpn (by assumption); omega))
  first
  | (exfalso; omega)
  | (refine WO.pg rfl rfl rfl (WO.go' rfl ?_)
     refine' WO.len (n := _) rfl rfl ?hs rfl ?_
     case hs => (first | exact hR.sl)
     refine WO.pg rfl rfl rfl (WO.p rfl rfl (WO.p rfl rfl ?_))
     refine WO.guard_bl rfl rfl (fun c2 => ?_) (fun c2 => ?_)
     · first
       | (exfalso; omega)
       | (refine WO.no rfl rfl (WO.no rfl rfl (WO.no rfl rfl (WO.no rfl rfl (WO.p rfl rfl (WO.p rfl rfl (WO.no rfl rfl (WO.no rfl rfl (WO.no rfl rfl (WO.p rfl rfl ?_)))))))))
          refine WO.nil ?_
          refine W.cond_t rfl ?_
          refine W.sreg ?_
          refine WO.callR rfl Try.call8 (fun L w hi => l_Works w) rfl ?_
          refine WO.p rfl rfl ?_
          refine WO.nil ?_
          refine W.ret ?_
          first | exact fin.ret (Res.one rfl (RV.tmp rfl)) rfl | exact fin.ret (Res.one rfl (RV.tmp rfl)) (congrArg Value.bool (bl_t.2 (by omega))) | (exfalso; omega) | (exfalso; have hp2 := hpn (by assumption); omega))
     first
     | (exfalso; omega)
     | (refine WO.go' rfl (WO.field0 rfl rfl rfl (WO.go' rfl (WO.load rfl rfl (Cell.own Pick.head rfl) rfl (WO.go' rfl ?_))))
        refine' WO.len (n := _) rfl rfl ?hs rfl ?_
        case hs => (first | exact hQ.sl)
        refine WO.pg rfl rfl rfl (WO.p rfl rfl (WO.p rfl rfl ?_))
        refine WO.guard_bl rfl rfl (fun c3 => ?_) (fun c3 => ?_)
        · first
          | (exfalso; omega)
          | (refine WO.no rfl rfl (WO.no rfl rfl (WO.no rfl rfl (WO.p rfl rfl ?_)))
             refine WO.nil ?_
             refine W.cond_t rfl ?_
             refine W.sreg ?_
             refine WO.callR rfl Try.call8 (fun L w hi => l_Works w) rfl ?_
             refine WO.p rfl rfl ?_
             refine WO.nil ?_
             refine W.ret ?_
             first | exact fin.ret (Res.one rfl (RV.tmp rfl)) rfl | exact fin.ret (Res.one rfl (RV.tmp rfl)) (congrArg Value.bool (bl_t.2 (by omega))) | (exfalso; omega) | (exfalso; have hp2 := hpn (by assumption); omega))
        first
        | (exfalso; omega)
        | (refine WO.pg rfl rfl rfl (WO.go' rfl ?_)
           refine' WO.len (n := _) rfl rfl ?hs rfl ?_
           case hs => (first | exact hZ.sl)
           refine WO.pg rfl rfl rfl (WO.p rfl rfl ?_)
           refine WO.nil ?_
           refine W.cond_bl rfl (fun c4 => ?_) (fun c4 => ?_)
           · first
             | (exfalso; omega)
             | (refine W.sreg ?_
                refine WO.callR rfl Try.call8 (fun L w hi => l_Works w) rfl ?_
                refine WO.p rfl rfl ?_
                refine WO.nil ?_
                refine W.ret ?_
                first | exact fin.ret (Res.one rfl (RV.tmp rfl)) rfl | exact fin.ret (Res.one rfl (RV.tmp rfl)) (congrArg Value.bool (bl_t.2 (by omega))) | (exfalso; omega) | (exfalso; have hp2 := hpn (by assumption); omega))
           first
           | (exfalso; omega)
           | (refine W.skip ?_
              refine W.seq ?_
              refine W.seq ?_
              refine W.drawD 17 [.b 0 [], .r 1 [], .b 2 [], .b 3 [], .b 4 [], .r 5 [], .b 6 [], .b 7 [], .r 8 [], .r 9 [], .b 10 [], .r 11 [], .r 12 [], .b 13 [], .b 14 [], .r 15 [], .r 16 []] [] (A0 := []) (Sub.refl _) (by kernel_rfl) ?_ ?_
              · exact (ALok.b (ALok.r (ALok.b (ALok.b (ALok.b (ALok.r (ALok.b (ALok.b (ALok.r (ALok.r (ALok.b (ALok.r (ALok.r (ALok.b (ALok.b (ALok.r (ALok.r ALok.nil)))))))))))))))))
              refine' DT.b rfl rfl rfl ?hq ?_
              case hq =>
                refine WO.loadA rfl rfl (Cells.own (Pick.tail (Pick.head))) rfl rfl ?_
                exact WO.nil ⟨rfl, rfl⟩
              refine' DT.r rfl rfl rfl ?hq ?_
              case hq =>
                refine WO.p rfl rfl ?_
                exact WO.nil ⟨rfl, rfl⟩
              refine' DT.b rfl rfl rfl ?hq ?_
              case hq =>
                refine WO.loadA rfl rfl (Cells.own Pick.head) rfl rfl ?_
                exact WO.nil ⟨rfl, rfl⟩
              refine' DT.b rfl rfl rfl ?hq ?_
              case hq =>
                refine WO.callR rfl Try.call9 (fun L w hi => c_CheckProof w n v u o rv rows r q t (hB.later hi) (hR.later hi) (hQ.later hi)) rfl ?_
                exact WO.nil ⟨rfl, rfl⟩
              refine' DT.b rfl rfl rfl ?hq ?_
              case hq =>
                refine WO.loadA rfl rfl (Cells.own (Pick.tail (Pick.head))) rfl rfl ?_
                exact WO.nil ⟨rfl, rfl⟩
              refine' DT.r rfl rfl rfl ?hq ?_
              case hq =>
                refine WO.p rfl rfl ?_
                exact WO.nil ⟨rfl, rfl⟩
              refine' DT.b rfl rfl rfl ?hq ?_
              case hq =>
                refine WO.loadA rfl rfl (Cells.own Pick.head) rfl rfl ?_
                exact WO.nil ⟨rfl, rfl⟩
              refine' DT.b rfl rfl rfl ?hq ?_
              case hq =>
                refine WO.callR rfl Try.call10 (fun L w hi => ref_CheckProof w n v u o rv rows r q t (hB.later hi) (hR.later hi) (hQ.later hi)) rfl ?_
                exact WO.nil ⟨rfl, rfl⟩
              refine' DT.r rfl rfl rfl ?hq ?_
              case hq =>
                refine WO.p rfl rfl ?_
                exact WO.nil ⟨rfl, rfl⟩
              refine' DT.rB rfl rfl rfl ?hq (fun c5 => ?_) (fun c5 => ?_)
              case hq =>
                refine WO.p rfl rfl ?_
                exact WO.nil ⟨rfl, rfl⟩
              · first
                | (exfalso; omega)
                | (refine' DT.b rfl rfl rfl ?hq ?_
                   case hq =>
                     refine WO.no rfl rfl ?_
                     exact WO.nil ⟨rfl, rfl⟩
                   refine' DT.r rfl rfl rfl ?hq ?_
                   case hq =>
                     refine WO.no rfl rfl ?_
                     exact WO.nil ⟨rfl, rfl⟩
                   refine' DT.r rfl rfl rfl ?hq ?_
                   case hq =>
                     refine WO.no rfl rfl ?_
                     exact WO.nil ⟨rfl, rfl⟩
                   refine' DT.b rfl rfl rfl ?hq ?_
                   case hq =>
                     refine WO.no rfl rfl ?_
                     exact WO.nil ⟨rfl, rfl⟩
                   refine' DT.b rfl rfl rfl ?hq ?_
                   case hq =>
                     refine WO.no rfl rfl ?_
                     exact WO.nil ⟨rfl, rfl⟩
                   refine' DT.r rfl rfl rfl ?hq ?_
                   case hq =>
                     refine WO.no rfl rfl ?_
                     exact WO.nil ⟨rfl, rfl⟩
                   refine' DT.r rfl rfl rfl ?hq ?_
                   case hq =>
                     refine WO.no rfl rfl ?_
                     exact WO.nil ⟨rfl, rfl⟩
                   refine DT.nil [_, _] rfl ?_
                   refine WO.no rfl rfl (WO.no rfl rfl (WO.p rfl rfl ?_))
                   refine WO.nil ?_
                   refine W.cond_t rfl ?_
                   refine W.sreg ?_
                   refine WO.p rfl rfl ?_
                   refine WO.nil ?_
                   refine W.ret ?_
                   first | exact fin.ret (Res.one rfl (RV.tmp rfl)) rfl | exact fin.ret (Res.one rfl (RV.tmp rfl)) (congrArg Value.bool (bl_t.2 (by omega))) | (exfalso; omega) | (exfalso; have hp2 := hpn (by assumption); omega))
              first
              | (exfalso; omega)
              | (refine' DT.b rfl rfl rfl ?hq ?_
                 case hq =>
                   refine WO.go' rfl (WO.loadA rfl rfl (Cells.own (Pick.tail (Pick.head))) rfl rfl ?_)
                   exact WO.nil ⟨rfl, rfl⟩
                 refine' DT.r rfl rfl rfl ?hq ?_
                 case hq =>
                   refine WO.pg rfl rfl rfl ?_
                   exact WO.nil ⟨rfl, rfl⟩
                 refine' DT.r rfl rfl rfl ?hq ?_
                 case hq =>
                   refine WO.pg rfl rfl rfl ?_
                   exact WO.nil ⟨rfl, rfl⟩
                 refine' DT.b rfl rfl rfl ?hq ?_
                 case hq =>
                   refine WO.go' rfl ?_
                   refine WO.callR rfl Try.call11 (fun L w hi => c_CheckTwin w n v u z rv rows r zs (hB.later hi) (hR.later hi) (hZ.later hi)) rfl ?_
                   exact WO.nil ⟨rfl, rfl⟩
                 refine' DT.b rfl rfl rfl ?hq ?_
                 case hq =>
                   refine WO.go' rfl (WO.loadA rfl rfl (Cells.own (Pick.tail (Pick.head))) rfl rfl ?_)
                   exact WO.nil ⟨rfl, rfl⟩
                 refine' DT.r rfl rfl rfl ?hq ?_
                 case hq =>
                   refine WO.pg rfl rfl rfl ?_
                   exact WO.nil ⟨rfl, rfl⟩
                 refine' DT.r rfl rfl rfl ?hq ?_
                 case hq =>
                   refine WO.pg rfl rfl rfl ?_
                   exact WO.nil ⟨rfl, rfl⟩
                 refine DT.nil [_, _] rfl ?_
                 refine WO.go' rfl ?_
                 refine WO.callR rfl Try.call12 (fun L w hi => ref_CheckTwin w n v u z rv rows r zs (hB.later hi) (hR.later hi) (hZ.later hi)) rfl ?_
                 refine WO.pg rfl rfl rfl (WO.p rfl rfl ?_)
                 refine WO.nil ?_
                 refine W.cond_bl rfl (fun c6 => ?_) (fun c6 => ?_)
                 · first
                   | (exfalso; omega)
                   | (refine W.sreg ?_
                      refine WO.p rfl rfl ?_
                      refine WO.nil ?_
                      refine W.ret ?_
                      first | exact fin.ret (Res.one rfl (RV.tmp rfl)) rfl | exact fin.ret (Res.one rfl (RV.tmp rfl)) (congrArg Value.bool (bl_t.2 (by omega))) | (exfalso; omega) | (exfalso; have hp2 := hpn (by assumption); omega))
                 first
                 | (exfalso; omega)
                 | (refine W.skip ?_
                    refine W.sreg ?_
                    refine WO.loadA rfl rfl (Cells.own (Pick.tail (Pick.head))) rfl rfl (WO.p rfl rfl ?_)
                    refine WO.call rfl Try.call13 (fun L w' hi => c_Proof w' n v u rv rows r (hB.later hi) (hR.later hi)) rfl ?_
                    rintro _ _ ⟨y1, rfl, rfl⟩
                    refine WO.fact (OwE.form (enc := encI) (e := 2) (sz := 1) (xs := prfQ n rows r) (v := y1) Pick.head) (fun hy1 => ?_)
                    obtain ⟨ya, yc, rfl⟩ := hy1
                    refine WO.fact (OwE.sl (enc := encI) (e := 2) (sz := 1) (xs := prfQ n rows r) (v := .slice ya (prfQ n rows r).length yc) Pick.head) (fun hys => ?_)
                    refine WO.p rfl rfl (WO.p rfl rfl (WO.p rfl rfl ?_))
                    refine WO.alloc rfl rfl rfl (fun b3 hb3 => ?_)
                    refine WO.storeA rfl rfl rfl rfl Pick.head rfl rfl (WO.p rfl rfl ?_)
                    refine WO.nil ?_
                    refine W.sreg ?_
                    refine WO.loadA rfl rfl (Cells.own (Pick.tail (Pick.tail (Pick.tail (Pick.head))))) rfl rfl (WO.p rfl rfl ?_)
                    refine WO.call rfl Try.call14 (fun L w' hi => c_Twin w' n v u rv rows r (hB.later hi) (hR.later hi)) rfl ?_
                    rintro _ _ ⟨⟨z1, zl⟩, ⟨rfl, hz1, hz2⟩, rfl⟩
                    dsimp only at hz1 hz2 ⊢
                    refine WO.fact (OwE.sl (enc := encI) (e := 2) (sz := 1) (xs := zl) (v := z1) Pick.head) (fun hzs => ?_)
                    refine WO.p rfl rfl (WO.p rfl rfl (WO.p rfl rfl (WO.p rfl rfl (WO.p rfl rfl ?_))))
                    refine WO.nil ?_
                    refine W.seq ?_
                    refine W.sreg ?_
                    refine WO.p rfl rfl (WO.loadA rfl rfl (Cells.own (Pick.tail (Pick.tail (Pick.tail (Pick.tail (Pick.head)))))) rfl rfl (WO.p rfl rfl ?_))
                    refine WO.callR rfl Try.call15 (fun L w hi => ref_ProofError w n v u rv rows r (hB.later hi) (hR.later hi)) rfl ?_
                    refine WO.p rfl rfl (WO.p rfl rfl ?_)
                    refine WO.guard_bl rfl rfl (fun c7 => ?_) (fun c7 => ?_)
                    · first
                      | (exfalso; omega)
                      | (refine WO.no rfl rfl (WO.no rfl rfl (WO.no rfl rfl (WO.no rfl rfl (WO.no rfl rfl (WO.p rfl rfl ?_)))))
                         refine WO.nil ?_
                         refine W.cond_t rfl ?_
                         refine W.sreg ?_
                         refine WO.p rfl rfl ?_
                         refine WO.nil ?_
                         refine W.ret ?_
                         first | exact fin.ret (Res.one rfl (RV.tmp rfl)) rfl | exact fin.ret (Res.one rfl (RV.tmp rfl)) (congrArg Value.bool (bl_t.2 (by omega))) | (exfalso; omega) | (exfalso; have hp2 := hpn (by assumption); omega))
                    first
                    | (exfalso; omega)
                    | (refine WO.pg rfl rfl rfl (WO.go' rfl (WO.loadA rfl rfl (Cells.own (Pick.tail (Pick.tail (Pick.tail (Pick.tail (Pick.head)))))) rfl rfl (WO.pg rfl rfl rfl (WO.go' rfl ?_))))
                       refine WO.callR rfl Try.call16 (fun L w hi => ref_TwinError w n v u rv rows r (hB.later hi) (hR.later hi)) rfl ?_
                       refine WO.pg rfl rfl rfl (WO.p rfl rfl ?_)
                       refine WO.nil ?_
                       refine W.cond_bl rfl (fun c8 => ?_) (fun c8 => ?_)
                       · first
                         | (exfalso; omega)
                         | (refine W.sreg ?_
                            refine WO.p rfl rfl ?_
                            refine WO.nil ?_
                            refine W.ret ?_
                            first | exact fin.ret (Res.one rfl (RV.tmp rfl)) rfl | exact fin.ret (Res.one rfl (RV.tmp rfl)) (congrArg Value.bool (bl_t.2 (by omega))) | (exfalso; omega) | (exfalso; have hp2 := hpn (by assumption); omega))
                       first
                       | (exfalso; omega)
                       | (refine W.skip ?_
                          refine W.seq ?_
                          have hpn := prf_nil (n := n) (rows := rows) (r := r)
                          refine W.sreg ?_
                          refine WO.p rfl rfl (WO.p rfl rfl (WO.p rfl rfl ?_))
                          refine WO.guard_bl rfl rfl (fun c9 => ?_) (fun c9 => ?_)
                          · first
                            | (exfalso; omega)
                            | (refine WO.go' rfl (WO.loadA rfl rfl (Cells.own (Pick.tail (Pick.tail (Pick.tail (Pick.tail (Pick.head)))))) rfl rfl (WO.pg rfl rfl rfl (WO.go' rfl (WO.loadA rfl rfl (Cells.own (Pick.tail (Pick.head))) rfl rfl (WO.go' rfl ?_)))))
                               refine WO.callR rfl Try.call10 (fun L w hi => ref_CheckProof w n v u _ rv rows r (prfQ n rows r) (prfT n rows r) (hB.later hi) (hR.later hi) (RdF.of_ow (e := 2) (xs := prfQ n rows r) encI_ok (by repeat (first | exact Pick.head | apply Pick.tail)) hi)) rfl ?_
                               rw [show cpE n rows r (prfQ n rows r) (prfT n rows r) = 0 from prf_right (by assumption)]
                               refine WO.pg rfl rfl rfl (WO.p rfl rfl (WO.p rfl rfl ?_))
                               refine WO.guard_bl rfl rfl (fun c10 => ?_) (fun c10 => ?_)
                               · first
                                 | (exfalso; omega)
                                 | (refine WO.no rfl rfl (WO.no rfl rfl (WO.no rfl rfl (WO.no rfl rfl (WO.no rfl rfl (WO.no rfl rfl (WO.no rfl rfl (WO.no rfl rfl (WO.no rfl rfl (WO.no rfl rfl (WO.no rfl rfl (WO.no rfl rfl ?_)))))))))))
                                    refine WO.no rfl rfl (WO.p rfl rfl ?_)
                                    refine WO.nil ?_
                                    refine W.cond_t rfl ?_
                                    refine W.sreg ?_
                                    refine WO.p rfl rfl ?_
                                    refine WO.nil ?_
                                    refine W.ret ?_
                                    first | exact fin.ret (Res.one rfl (RV.tmp rfl)) rfl | exact fin.ret (Res.one rfl (RV.tmp rfl)) (congrArg Value.bool (bl_t.2 (by omega))) | (exfalso; omega) | (exfalso; have hp2 := hpn (by assumption); omega))
                               first
                               | (exfalso; omega)
                               | (refine WO.pg rfl rfl rfl (WO.pg rfl rfl rfl (WO.pg rfl rfl rfl ?_))
                                  refine WO.guard_bl rfl rfl (fun c11 => ?_) (fun c11 => ?_)
                                  · first
                                    | (exfalso; omega)
                                    | (refine WO.go' rfl (WO.field0 rfl rfl rfl (WO.go' rfl (WO.load rfl rfl (Cell.own (Pick.tail (Pick.head)) rfl) rfl (WO.go' rfl ?_))))
                                       refine' WO.len (n := _) rfl rfl ?hs rfl ?_
                                       case hs => (first | exact hys)
                                       refine WO.pg rfl rfl rfl (WO.pg rfl rfl rfl ?_)
                                       refine WO.guard_bl rfl rfl (fun c12 => ?_) (fun c12 => ?_)
                                       · first
                                         | (exfalso; omega)
                                         | (refine WO.no rfl rfl (WO.no rfl rfl (WO.no rfl rfl (WO.pg rfl rfl rfl (WO.pg rfl rfl rfl (WO.p rfl rfl ?_)))))
                                            refine WO.nil ?_
                                            refine W.cond_t rfl ?_
                                            refine W.sreg ?_
                                            refine WO.p rfl rfl ?_
                                            refine WO.nil ?_
                                            refine W.ret ?_
                                            first | exact fin.ret (Res.one rfl (RV.tmp rfl)) rfl | exact fin.ret (Res.one rfl (RV.tmp rfl)) (congrArg Value.bool (bl_t.2 (by omega))) | (exfalso; omega) | (exfalso; have hp2 := hpn (by assumption); omega))
                                       first
                                       | (exfalso; omega)
                                       | (refine WO.go' rfl (WO.fieldL rfl rfl rfl (WO.go' rfl (WO.load rfl rfl (Cell.own (Pick.tail (Pick.head)) rfl) rfl (WO.pg rfl rfl rfl (WO.pg rfl rfl rfl (WO.pg rfl rfl rfl (WO.p rfl rfl ?_)))))))
                                          refine WO.nil ?_
                                          refine W.cond_bl rfl (fun c13 => ?_) (fun c13 => ?_)
                                          · first
                                            | (exfalso; omega)
                                            | (refine W.sreg ?_
                                               refine WO.p rfl rfl ?_
                                               refine WO.nil ?_
                                               refine W.ret ?_
                                               first | exact fin.ret (Res.one rfl (RV.tmp rfl)) rfl | exact fin.ret (Res.one rfl (RV.tmp rfl)) (congrArg Value.bool (bl_t.2 (by omega))) | (exfalso; omega) | (exfalso; have hp2 := hpn (by assumption); omega))
                                          first
                                          | (exfalso; omega)
                                          | (refine W.skip ?_
                                             refine W.seq ?_
                                             refine W.sreg ?_
                                             refine WO.p rfl rfl (WO.p rfl rfl ?_)
                                             refine WO.nil ?_
                                             refine W.cond_bl rfl (fun c14 => ?_) (fun c14 => ?_)
                                             · first
                                               | (exfalso; omega)
                                               | (refine W.sreg ?_
                                                  refine WO.loadA rfl rfl (Cells.own (Pick.tail (Pick.tail (Pick.tail (Pick.tail (Pick.head)))))) rfl rfl (WO.p rfl rfl (WO.p rfl rfl ?_))
                                                  refine WO.callR rfl Try.call12 (fun L w hi => ref_CheckTwin w n v u z1 rv rows r zl (hB.later hi) (hR.later hi) (RdF.of_ow (e := 2) (xs := zl) encI_ok (by repeat (first | exact Pick.head | apply Pick.tail)) hi)) rfl ?_
                                                  rw [hz2 (by assumption)]
                                                  refine WO.p rfl rfl (WO.p rfl rfl ?_)
                                                  refine WO.guard_bl rfl rfl (fun c15 => ?_) (fun c15 => ?_)
                                                  · first
                                                    | (exfalso; omega)
                                                    | (refine WO.go' rfl ?_
                                                       refine WO.callR rfl Try.call8 (fun L w hi => l_Works w) rfl ?_
                                                       refine WO.p rfl rfl (WO.p rfl rfl ?_)
                                                       refine WO.nil ?_
                                                       refine W.ret ?_
                                                       first | exact fin.ret (Res.one rfl (RV.tmp rfl)) rfl | exact fin.ret (Res.one rfl (RV.tmp rfl)) (congrArg Value.bool (bl_t.2 (by omega))) | (exfalso; omega) | (exfalso; have hp2 := hpn (by assumption); omega))
                                                  first
                                                  | (exfalso; omega)
                                                  | (refine WO.no rfl rfl (WO.p rfl rfl (WO.p rfl rfl ?_))
                                                     refine WO.nil ?_
                                                     refine W.ret ?_
                                                     first | exact fin.ret (Res.one rfl (RV.tmp rfl)) rfl | exact fin.ret (Res.one rfl (RV.tmp rfl)) (congrArg Value.bool (bl_t.2 (by omega))) | (exfalso; omega) | (exfalso; have hp2 := hpn (by assumption); omega)))
                                             first
                                             | (exfalso; omega)
                                             | (refine W.skip ?_
                                                have hz0 : zl.length = 0 := by rw [hz1 (by assumption)]; rfl
                                                refine W.sreg ?_
                                                refine WO.p rfl rfl ?_
                                                refine' WO.len (n := _) rfl rfl ?hs rfl ?_
                                                case hs => (first | exact hzs)
                                                refine WO.p rfl rfl (WO.p rfl rfl ?_)
                                                refine WO.guard_bl rfl rfl (fun c15 => ?_) (fun c15 => ?_)
                                                · first
                                                  | (exfalso; omega)
                                                  | (refine WO.go' rfl ?_
                                                     refine WO.callR rfl Try.call8 (fun L w hi => l_Works w) rfl ?_
                                                     refine WO.p rfl rfl (WO.p rfl rfl ?_)
                                                     refine WO.nil ?_
                                                     refine W.ret ?_
                                                     first | exact fin.ret (Res.one rfl (RV.tmp rfl)) rfl | exact fin.ret (Res.one rfl (RV.tmp rfl)) (congrArg Value.bool (bl_t.2 (by omega))) | (exfalso; omega) | (exfalso; have hp2 := hpn (by assumption); omega))
                                                first
                                                | (exfalso; omega)
                                                | (refine WO.no rfl rfl (WO.p rfl rfl (WO.p rfl rfl ?_))
                                                   refine WO.nil ?_
                                                   refine W.ret ?_
                                                   first | exact fin.ret (Res.one rfl (RV.tmp rfl)) rfl | exact fin.ret (Res.one rfl (RV.tmp rfl)) (congrArg Value.bool (bl_t.2 (by omega))) | (exfalso; omega) | (exfalso; have hp2 := hpn (by assumption); omega))))))
                                  first
                                  | (exfalso; omega)
                                  | (refine WO.no rfl rfl (WO.no rfl rfl (WO.no rfl rfl (WO.no rfl rfl (WO.no rfl rfl (WO.no rfl rfl (WO.no rfl rfl (WO.no rfl rfl (WO.no rfl rfl (WO.pg rfl rfl rfl (WO.p rfl rfl ?_))))))))))
                                     refine WO.nil ?_
                                     refine W.cond_f rfl ?_
                                     refine W.skip ?_
                                     refine W.seq ?_
                                     refine W.sreg ?_
                                     refine WO.p rfl rfl (WO.p rfl rfl ?_)
                                     refine WO.nil ?_
                                     refine W.cond_bl rfl (fun c12 => ?_) (fun c12 => ?_)
                                     · first
                                       | (exfalso; omega)
                                       | (refine W.sreg ?_
                                          refine WO.loadA rfl rfl (Cells.own (Pick.tail (Pick.tail (Pick.tail (Pick.tail (Pick.head)))))) rfl rfl (WO.p rfl rfl (WO.p rfl rfl ?_))
                                          refine WO.callR rfl Try.call12 (fun L w hi => ref_CheckTwin w n v u z1 rv rows r zl (hB.later hi) (hR.later hi) (RdF.of_ow (e := 2) (xs := zl) encI_ok (by repeat (first | exact Pick.head | apply Pick.tail)) hi)) rfl ?_
                                          rw [hz2 (by assumption)]
                                          refine WO.p rfl rfl (WO.p rfl rfl ?_)
                                          refine WO.guard_bl rfl rfl (fun c13 => ?_) (fun c13 => ?_)
                                          · first
                                            | (exfalso; omega)
                                            | (refine WO.go' rfl ?_
                                               refine WO.callR rfl Try.call8 (fun L w hi => l_Works w) rfl ?_
                                               refine WO.p rfl rfl (WO.p rfl rfl ?_)
                                               refine WO.nil ?_
                                               refine W.ret ?_
                                               first | exact fin.ret (Res.one rfl (RV.tmp rfl)) rfl | exact fin.ret (Res.one rfl (RV.tmp rfl)) (congrArg Value.bool (bl_t.2 (by omega))) | (exfalso; omega) | (exfalso; have hp2 := hpn (by assumption); omega))
                                          first
                                          | (exfalso; omega)
                                          | (refine WO.no rfl rfl (WO.p rfl rfl (WO.p rfl rfl ?_))
                                             refine WO.nil ?_
                                             refine W.ret ?_
                                             first | exact fin.ret (Res.one rfl (RV.tmp rfl)) rfl | exact fin.ret (Res.one rfl (RV.tmp rfl)) (congrArg Value.bool (bl_t.2 (by omega))) | (exfalso; omega) | (exfalso; have hp2 := hpn (by assumption); omega)))
                                     first
                                     | (exfalso; omega)
                                     | (refine W.skip ?_
                                        have hz0 : zl.length = 0 := by rw [hz1 (by assumption)]; rfl
                                        refine W.sreg ?_
                                        refine WO.p rfl rfl ?_
                                        refine' WO.len (n := _) rfl rfl ?hs rfl ?_
                                        case hs => (first | exact hzs)
                                        refine WO.p rfl rfl (WO.p rfl rfl ?_)
                                        refine WO.guard_bl rfl rfl (fun c13 => ?_) (fun c13 => ?_)
                                        · first
                                          | (exfalso; omega)
                                          | (refine WO.go' rfl ?_
                                             refine WO.callR rfl Try.call8 (fun L w hi => l_Works w) rfl ?_
                                             refine WO.p rfl rfl (WO.p rfl rfl ?_)
                                             refine WO.nil ?_
                                             refine W.ret ?_
                                             first | exact fin.ret (Res.one rfl (RV.tmp rfl)) rfl | exact fin.ret (Res.one rfl (RV.tmp rfl)) (congrArg Value.bool (bl_t.2 (by omega))) | (exfalso; omega) | (exfalso; have hp2 := hpn (by assumption); omega))
                                        first
                                        | (exfalso; omega)
                                        | (refine WO.no rfl rfl (WO.p rfl rfl (WO.p rfl rfl ?_))
                                           refine WO.nil ?_
                                           refine W.ret ?_
                                           first | exact fin.ret (Res.one rfl (RV.tmp rfl)) rfl | exact fin.ret (Res.one rfl (RV.tmp rfl)) (congrArg Value.bool (bl_t.2 (by omega))) | (exfalso; omega) | (exfalso; have hp2 := hpn (by assumption); omega))))))
                          first
                          | (exfalso; omega)
                          | (refine WO.no rfl rfl (WO.no rfl rfl (WO.no rfl rfl (WO.no rfl rfl (WO.no rfl rfl (WO.p rfl rfl (WO.p rfl rfl (WO.pg rfl rfl rfl (WO.pg rfl rfl rfl (WO.pg rfl rfl rfl ?_)))))))))
                             refine WO.guard_bl rfl rfl (fun c10 => ?_) (fun c10 => ?_)
                             · first
                               | (exfalso; omega)
                               | (refine WO.go' rfl (WO.field0 rfl rfl rfl (WO.go' rfl (WO.load rfl rfl (Cell.own (Pick.tail (Pick.head)) rfl) rfl (WO.go' rfl ?_))))
                                  refine' WO.len (n := _) rfl rfl ?hs rfl ?_
                                  case hs => (first | exact hys)
                                  refine WO.pg rfl rfl rfl (WO.pg rfl rfl rfl ?_)
                                  refine WO.guard_bl rfl rfl (fun c11 => ?_) (fun c11 => ?_)
                                  · first
                                    | (exfalso; omega)
                                    | (refine WO.no rfl rfl (WO.no rfl rfl (WO.no rfl rfl (WO.pg rfl rfl rfl (WO.pg rfl rfl rfl (WO.p rfl rfl ?_)))))
                                       refine WO.nil ?_
                                       refine W.cond_t rfl ?_
                                       refine W.sreg ?_
                                       refine WO.p rfl rfl ?_
                                       refine WO.nil ?_
                                       refine W.ret ?_
                                       first | exact fin.ret (Res.one rfl (RV.tmp rfl)) rfl | exact fin.ret (Res.one rfl (RV.tmp rfl)) (congrArg Value.bool (bl_t.2 (by omega))) | (exfalso; omega) | (exfalso; have hp2 := hpn (by assumption); omega))
                                  first
                                  | (exfalso; omega)
                                  | (refine WO.go' rfl (WO.fieldL rfl rfl rfl (WO.go' rfl (WO.load rfl rfl (Cell.own (Pick.tail (Pick.head)) rfl) rfl (WO.pg rfl rfl rfl (WO.pg rfl rfl rfl (WO.pg rfl rfl rfl (WO.p rfl rfl ?_)))))))
                                     refine WO.nil ?_
                                     refine W.cond_bl rfl (fun c12 => ?_) (fun c12 => ?_)
                                     · first
                                       | (exfalso; omega)
                                       | (refine W.sreg ?_
                                          refine WO.p rfl rfl ?_
                                          refine WO.nil ?_
                                          refine W.ret ?_
                                          first | exact fin.ret (Res.one rfl (RV.tmp rfl)) rfl | exact fin.ret (Res.one rfl (RV.tmp rfl)) (congrArg Value.bool (bl_t.2 (by omega))) | (exfalso; omega) | (exfalso; have hp2 := hpn (by assumption); omega))
                                     first
                                     | (exfalso; omega)
                                     | (refine W.skip ?_
                                        refine W.seq ?_
                                        refine W.sreg ?_
                                        refine WO.p rfl rfl (WO.p rfl rfl ?_)
                                        refine WO.nil ?_
                                        refine W.cond_bl rfl (fun c13 => ?_) (fun c13 => ?_)
                                        · first
                                          | (exfalso; omega)
                                          | (refine W.sreg ?_
                                             refine WO.loadA rfl rfl (Cells.own (Pick.tail (Pick.tail (Pick.tail (Pick.tail (Pick.head)))))) rfl rfl (WO.p rfl rfl (WO.p rfl rfl ?_))
                                             refine WO.callR rfl Try.call12 (fun L w hi => ref_CheckTwin w n v u z1 rv rows r zl (hB.later hi) (hR.later hi) (RdF.of_ow (e := 2) (xs := zl) encI_ok (by repeat (first | exact Pick.head | apply Pick.tail)) hi)) rfl ?_
                                             rw [hz2 (by assumption)]
                                             refine WO.p rfl rfl (WO.p rfl rfl ?_)
                                             refine WO.guard_bl rfl rfl (fun c14 => ?_) (fun c14 => ?_)
                                             · first
                                               | (exfalso; omega)
                                               | (refine WO.go' rfl ?_
                                                  refine WO.callR rfl Try.call8 (fun L w hi => l_Works w) rfl ?_
                                                  refine WO.p rfl rfl (WO.p rfl rfl ?_)
                                                  refine WO.nil ?_
                                                  refine W.ret ?_
                                                  first | exact fin.ret (Res.one rfl (RV.tmp rfl)) rfl | exact fin.ret (Res.one rfl (RV.tmp rfl)) (congrArg Value.bool (bl_t.2 (by omega))) | (exfalso; omega) | (exfalso; have hp2 := hpn (by assumption); omega))
                                             first
                                             | (exfalso; omega)
                                             | (refine WO.no rfl rfl (WO.p rfl rfl (WO.p rfl rfl ?_))
                                                refine WO.nil ?_
                                                refine W.ret ?_
                                                first | exact fin.ret (Res.one rfl (RV.tmp rfl)) rfl | exact fin.ret (Res.one rfl (RV.tmp rfl)) (congrArg Value.bool (bl_t.2 (by omega))) | (exfalso; omega) | (exfalso; have hp2 := hpn (by assumption); omega)))
                                        first
                                        | (exfalso; omega)
                                        | (refine W.skip ?_
                                           have hz0 : zl.length = 0 := by rw [hz1 (by assumption)]; rfl
                                           refine W.sreg ?_
                                           refine WO.p rfl rfl ?_
                                           refine' WO.len (n := _) rfl rfl ?hs rfl ?_
                                           case hs => (first | exact hzs)
                                           refine WO.p rfl rfl (WO.p rfl rfl ?_)
                                           refine WO.guard_bl rfl rfl (fun c14 => ?_) (fun c14 => ?_)
                                           · first
                                             | (exfalso; omega)
                                             | (refine WO.go' rfl ?_
                                                refine WO.callR rfl Try.call8 (fun L w hi => l_Works w) rfl ?_
                                                refine WO.p rfl rfl (WO.p rfl rfl ?_)
                                                refine WO.nil ?_
                                                refine W.ret ?_
                                                first | exact fin.ret (Res.one rfl (RV.tmp rfl)) rfl | exact fin.ret (Res.one rfl (RV.tmp rfl)) (congrArg Value.bool (bl_t.2 (by omega))) | (exfalso; omega) | (exfalso; have hp2 := hpn (by assumption); omega))
                                           first
                                           | (exfalso; omega)
                                           | (refine WO.no rfl rfl (WO.p rfl rfl (WO.p rfl rfl ?_))
                                              refine WO.nil ?_
                                              refine W.ret ?_
                                              first | exact fin.ret (Res.one rfl (RV.tmp rfl)) rfl | exact fin.ret (Res.one rfl (RV.tmp rfl)) (congrArg Value.bool (bl_t.2 (by omega))) | (exfalso; omega) | (exfalso; have hp2 := hpn (by assumption); omega))))))
                             first
                             | (exfalso; omega)
                             | (refine WO.no rfl rfl (WO.no rfl rfl (WO.no rfl rfl (WO.no rfl rfl (WO.no rfl rfl (WO.no rfl rfl (WO.no rfl rfl (WO.no rfl rfl (WO.no rfl rfl (WO.pg rfl rfl rfl (WO.p rfl rfl ?_))))))))))
                                refine WO.nil ?_
                                refine W.cond_f rfl ?_
                                refine W.skip ?_
                                refine W.seq ?_
                                refine W.sreg ?_
                                refine WO.p rfl rfl (WO.p rfl rfl ?_)
                                refine WO.nil ?_
                                refine W.cond_bl rfl (fun c11 => ?_) (fun c11 => ?_)
                                · first
                                  | (exfalso; omega)
                                  | (refine W.sreg ?_
                                     refine WO.loadA rfl rfl (Cells.own (Pick.tail (Pick.tail (Pick.tail (Pick.tail (Pick.head)))))) rfl rfl (WO.p rfl rfl (WO.p rfl rfl ?_))
                                     refine WO.callR rfl Try.call12 (fun L w hi => ref_CheckTwin w n v u z1 rv rows r zl (hB.later hi) (hR.later hi) (RdF.of_ow (e := 2) (xs := zl) encI_ok (by repeat (first | exact Pick.head | apply Pick.tail)) hi)) rfl ?_
                                     rw [hz2 (by assumption)]
                                     refine WO.p rfl rfl (WO.p rfl rfl ?_)
                                     refine WO.guard_bl rfl rfl (fun c12 => ?_) (fun c12 => ?_)
                                     · first
                                       | (exfalso; omega)
                                       | (refine WO.go' rfl ?_
                                          refine WO.callR rfl Try.call8 (fun L w hi => l_Works w) rfl ?_
                                          refine WO.p rfl rfl (WO.p rfl rfl ?_)
                                          refine WO.nil ?_
                                          refine W.ret ?_
                                          first | exact fin.ret (Res.one rfl (RV.tmp rfl)) rfl | exact fin.ret (Res.one rfl (RV.tmp rfl)) (congrArg Value.bool (bl_t.2 (by omega))) | (exfalso; omega) | (exfalso; have hp2 := hpn (by assumption); omega))
                                     first
                                     | (exfalso; omega)
                                     | (refine WO.no rfl rfl (WO.p rfl rfl (WO.p rfl rfl ?_))
                                        refine WO.nil ?_
                                        refine W.ret ?_
                                        first | exact fin.ret (Res.one rfl (RV.tmp rfl)) rfl | exact fin.ret (Res.one rfl (RV.tmp rfl)) (congrArg Value.bool (bl_t.2 (by omega))) | (exfalso; omega) | (exfalso; have hp2 := hpn (by assumption); omega)))
                                first
                                | (exfalso; omega)
                                | (refine W.skip ?_
                                   have hz0 : zl.length = 0 := by rw [hz1 (by assumption)]; rfl
                                   refine W.sreg ?_
                                   refine WO.p rfl rfl ?_
                                   refine' WO.len (n := _) rfl rfl ?hs rfl ?_
                                   case hs => (first | exact hzs)
                                   refine WO.p rfl rfl (WO.p rfl rfl ?_)
                                   refine WO.guard_bl rfl rfl (fun c12 => ?_) (fun c12 => ?_)
                                   · first
                                     | (exfalso; omega)
                                     | (refine WO.go' rfl ?_
                                        refine WO.callR rfl Try.call8 (fun L w hi => l_Works w) rfl ?_
                                        refine WO.p rfl rfl (WO.p rfl rfl ?_)
                                        refine WO.nil ?_
                                        refine W.ret ?_
                                        first | exact fin.ret (Res.one rfl (RV.tmp rfl)) rfl | exact fin.ret (Res.one rfl (RV.tmp rfl)) (congrArg Value.bool (bl_t.2 (by omega))) | (exfalso; omega) | (exfalso; have hp2 := hpn (by assumption); omega))
                                   first
                                   | (exfalso; omega)
                                   | (refine WO.no rfl rfl (WO.p rfl rfl (WO.p rfl rfl ?_))
                                      refine WO.nil ?_
                                      refine W.ret ?_
                                      first | exact fin.ret (Res.one rfl (RV.tmp rfl)) rfl | exact fin.ret (Res.one rfl (RV.tmp rfl)) (congrArg Value.bool (bl_t.2 (by omega))) | (exfalso; omega) | (exfalso; have hp2 := hpn (by assumption); omega)))))))))))))
end Go.Proofs.Ytelmclmklkiphaa
