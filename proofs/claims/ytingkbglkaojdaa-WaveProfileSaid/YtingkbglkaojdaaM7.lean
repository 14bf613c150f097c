/-
  What is proved here: the law WaveProfile, as a contract. Conditions: none; each contract states its own.
  What is proved here: the complexity of a sum of bits (no program in sight), and the law WaveTogether as a contract. Conditions: none; each theorem states its own.
-/
import Derived.Test.YtingkbglkaojdaaM6
set_option linter.unusedVariables false
set_option linter.unusedSimpArgs false
namespace Go.Proofs.Ytingkbglkaojdaa
open Go Go.TH Go.TH.Wv
attribute [local irreducible] W WO pt
set_option maxRecDepth 10000
set_option maxHeartbeats 2000000
theorem stp_long (S : St) (n : Nat) (b : Int) : (stp S n b).long = S.long ∨ ((stp S n b).long = n + 1 - S.long ∧ 2 * S.long ≤ n) := by
  unfold stp
  split
  · exact .inl rfl
  · split
    · exact .inr ⟨rfl, by assumption⟩
    · exact .inl rfl
theorem lc_jump {l : List Int} (h : chkB l = 0) {n : Nat} (hn : n < l.length) : LC (bt l) (n + 1) = LC (bt l) n ∨ (LC (bt l) (n + 1) + LC (bt l) n = n + 1 ∧ LC (bt l) n ≤ LC (bt l) (n + 1)) := by
  have h1 := chkB0.1 h
  have f1 := (FI.all h1.2 h1.1 n (by omega)).lc
  have f2 := (FI.all h1.2 h1.1 (n + 1) (by omega)).lc
  rw [f1, f2]
  rcases stp_long (runS l n) n (l.getD n 0) with e | ⟨e, e2⟩
  · exact .inl e
  · have e' : (runS l (n + 1)).long = n + 1 - (runS l n).long := e
    exact .inr ⟨by omega, by omega⟩
theorem proV_get {l : List Int} (h : chkB l = 0) {n : Nat} (hn : n ≤ l.length) : (LC (bt l) n : Int) = (proV l).getD n 0 := by
  unfold proV
  rw [if_pos h]
  unfold proL
  rw [mapR_get 0 (by omega)]
theorem chk_take {l : List Int} (h : chkB l = 0) (n : Nat) : chkB (l.take n) = 0 := by
  have h1 := chkB0.1 h
  exact chkB0.2 ⟨by rw [List.length_take]; omega, fun x hx => h1.2 x (List.mem_of_mem_take hx)⟩
theorem short_take {l : List Int} (h : chkB l = 0) {n : Nat} (hn : n ≤ l.length) : (shortL (l.take n)).length = LC (bt l) n := by
  rw [short_len (chk_take h n), take_len hn, lc_take]
theorem law_WaveProfile (w : World) (v : Value) (l : List Int) (many : Nat) (hR : RdF encI 1 w.heap.size w v l) (hv : HasCap v l.length) (hm : many ≤ 255) : Ret Try.prog 5 [v, .int .u8 (many : Int)].toArray w (.bool true) := by
  refine Ret.of mixed tyTab Try.func5 rfl rfl ?_
  obtain ⟨va, vc, rfl, hcap⟩ := hv
  replace hR : RdF encI 1 (fnCx mixed tyTab Try.f5.ntmps w).B (fnCx mixed tyTab Try.f5.ntmps w).w0 (.slice va l.length vc) l := hR
  refine W.sreg ?_
  refine WO.p rfl rfl ?_
  refine WO.nil ?_
  refine W.seq ?_
  refine W.sreg ?_
  refine WO.p rfl rfl ?_
  refine WO.callR (r := .bool (bl (chkB l = 0))) rfl Try.call28 (fun L w hi => l_fine w _ l (hR.later hi)) rfl ?_
  refine WO.p rfl rfl ?_
  refine WO.nil ?_
  refine W.cond_nbl rfl (fun c1 => ?_) (fun c1 => ?_)
  · first
    | (exfalso; omega)
    | (refine W.sreg ?_
       refine WO.callR rfl Try.call15 (fun L w hi => l_Works w) rfl ?_
       refine WO.p rfl rfl ?_
       refine WO.nil ?_
       refine W.ret ?_
       first | exact fin.ret (Res.one rfl (RV.tmp rfl)) rfl | (exfalso; simp_all; done) | (exfalso; omega))
  · first
    | (exfalso; omega)
    | (refine W.skip ?_
       have hok : chkB l = 0 := by omega
       have h1 := chkB0.1 hok
       have hpl := proV_len hok
       have hl0 := lc_len (bt l) 0
       refine W.sreg ?_
       refine WO.p rfl rfl ?_
       refine WO.call (Post := fun r Hq => ∃ x : Value, r = .tuple #[x, .int .i64 0] ∧ Hq = [OwE encI 3 1 x (proV l)]) rfl Try.call16 (fun L w hi => by have h := c_Profile w _ l (hR.later hi); rw [prof_is, hok] at h; exact h) rfl ?_
       rintro _ _ ⟨r1, rfl, rfl⟩
       refine WO.p rfl rfl (WO.p rfl rfl (WO.p rfl rfl (WO.p rfl rfl (WO.p rfl rfl ?_))))
       refine WO.nil ?_
       refine W.seq ?_
       refine W.fact (OwE.sl (enc := encI) (e := 3) (sz := 1) (v := r1) (xs := proV l) (by repeat (first | exact Pick.head | apply Pick.tail))) ?_
       intro hsl1
       rw [hpl] at hsl1
       refine W.sreg ?_
       refine WO.p rfl rfl (WO.p rfl rfl (WO.p rfl rfl ?_))
       refine WO.guard_bl rfl rfl (fun c2 => ?_) (fun c2 => ?_)
       · first
         | (exfalso; omega)
         | (refine WO.no rfl rfl (WO.no rfl rfl (WO.no rfl rfl (WO.no rfl rfl (WO.no rfl rfl (WO.no rfl rfl (WO.p rfl rfl (WO.p rfl rfl (WO.no rfl rfl (WO.no rfl rfl (WO.no rfl rfl (WO.no rfl rfl ?_)))))))))))
            refine WO.p rfl rfl ?_
            refine WO.nil ?_
            refine W.cond_t rfl ?_
            refine W.sreg ?_
            refine WO.p rfl rfl ?_
            refine WO.nil ?_
            refine W.ret ?_
            first | exact fin.ret (Res.one rfl (RV.tmp rfl)) rfl | (exfalso; simp_all; done) | (exfalso; omega))
       · first
         | (exfalso; omega)
         | (refine WO.pg rfl rfl rfl (WO.go' rfl ?_)
            refine' WO.len (n := _) rfl rfl ?hs rfl ?_
            case hs => (first | exact hsl1)
            refine WO.pg rfl rfl rfl (WO.go' rfl ?_)
            refine' WO.len (n := _) rfl rfl ?hs rfl ?_
            case hs => (first | exact hR.sl)
            refine WO.go' rfl (WO.ar rfl rfl rfl (by (first | (unfold in64; omega) | (unfold in64; omega))) rfl (WO.pg rfl rfl rfl (WO.p rfl rfl (WO.p rfl rfl ?_))))
            refine WO.guard_bl rfl rfl (fun c3 => ?_) (fun c3 => ?_)
            · first
              | (exfalso; omega)
              | (refine WO.no rfl rfl (WO.no rfl rfl (WO.no rfl rfl (WO.no rfl rfl (WO.p rfl rfl ?_))))
                 refine WO.nil ?_
                 refine W.cond_t rfl ?_
                 refine W.sreg ?_
                 refine WO.p rfl rfl ?_
                 refine WO.nil ?_
                 refine W.ret ?_
                 first | exact fin.ret (Res.one rfl (RV.tmp rfl)) rfl | (exfalso; simp_all; done) | (exfalso; omega))
            · first
              | (exfalso; omega)
              | (refine WO.pg rfl rfl rfl (WO.go' rfl ?_)
                 refine' WO.indexAddr (n := _) (i := 0) rfl rfl rfl ?hs ?h1 rfl ?_
                 case hs => (first | exact hsl1)
                 case h1 => (first | omega | (simp; omega))
                 refine WO.go' rfl ?_
                 refine' WO.load (v := _) rfl rfl ?hc rfl ?_
                 case hc => (first | (refine cellI2 (e := 3) (xs := proV l) (i := 0) (j := 0) (z := (LC (bt l) 0 : Int)) ?_ (by omega) (proV_get hok (by omega)) rfl; exact (by repeat (first | exact Sub.nil | refine Sub.cons (by repeat (first | exact Pick.head | apply Pick.tail)) ?_))))
                 refine WO.pg rfl rfl rfl (WO.p rfl rfl ?_)
                 refine WO.nil ?_
                 refine W.cond_bl rfl (fun c4 => ?_) (fun c4 => ?_)
                 · first
                   | (exfalso; omega)
                   | (refine W.sreg ?_
                      refine WO.p rfl rfl ?_
                      refine WO.nil ?_
                      refine W.ret ?_
                      first | exact fin.ret (Res.one rfl (RV.tmp rfl)) rfl | (exfalso; simp_all; done) | (exfalso; omega))
                 · first
                   | (exfalso; omega)
                   | (refine W.skip ?_
                      refine W.seq ?_
                      refine W.sreg ?_
                      refine WO.p rfl rfl ?_
                      refine WO.nil ?_
                      refine W.block ?_
                      refine W.loop (fun (n : Nat) => n ≤ l.length)
                        (fun (n : Nat) => [(7, .int .i64 (n : Int)), (5, r1), (1, .int .u8 (many : Int)), (0, .slice va l.length vc)])
                        (fun (n : Nat) => [OwE encI 3 1 r1 (proV l)])
                        (fun (n : Nat) => l.length - n) 0
                        (by omega) ⟨rfl, rfl, rfl, rfl, trivial⟩ (by repeat (first | exact Sub.nil | refine Sub.cons (by repeat (first | exact Pick.head | apply Pick.tail)) ?_)) ?_
                      rintro n hn0
                      refine W.seq ?_
                      refine W.sreg ?_
                      refine WO.p rfl rfl (WO.p rfl rfl ?_)
                      refine' WO.len (n := _) rfl rfl ?hs rfl ?_
                      case hs => (first | exact hR.sl)
                      refine WO.p rfl rfl ?_
                      refine WO.nil ?_
                      refine W.cond_bl rfl (fun c5 => ?_) (fun c5 => ?_)
                      · first
                        | (exfalso; omega)
                        | (refine W.skip ?_
                           refine W.seq ?_
                           refine W.block ?_
                           refine W.seq ?_
                           have hj := lc_jump hok (show n < l.length by omega)
                           have hln := lc_len (bt l) n
                           have hln1 := lc_len (bt l) (n + 1)
                           refine W.drawD 34 [.r 0 [], .r 1 [], .r 2 [], .r 3 [], .b 4 [], .r 5 [], .r 6 [], .r 7 [], .b 8 [], .r 9 [], .r 10 [], .r 11 [], .r 12 [], .r 13 [], .r 14 [], .b 15 [], .r 16 [], .r 17 [], .r 18 [], .b 19 [], .r 20 [], .r 21 [], .r 22 [], .r 23 [], .r 24 [], .r 25 [], .b 26 [], .r 27 [], .r 28 [], .r 29 [], .r 30 [], .r 31 [], .b 32 [], .r 33 []] [] (A0 := []) (Sub.refl _) (by kernel_rfl) ?_ ?_
                           · exact (ALok.r (ALok.r (ALok.r (ALok.r (ALok.b (ALok.r (ALok.r (ALok.r (ALok.b (ALok.r (ALok.r (ALok.r (ALok.r (ALok.r (ALok.r (ALok.b (ALok.r (ALok.r (ALok.r (ALok.b (ALok.r (ALok.r (ALok.r (ALok.r (ALok.r (ALok.r (ALok.b (ALok.r (ALok.r (ALok.r (ALok.r (ALok.r (ALok.b (ALok.r ALok.nil))))))))))))))))))))))))))))))))))
                           refine' DT.r rfl rfl rfl ?hq ?_
                           case hq =>
                             refine WO.p rfl rfl ?_
                             exact WO.nil ⟨rfl, rfl⟩
                           refine' DT.r rfl rfl rfl ?hq ?_
                           case hq =>
                             refine WO.p rfl rfl ?_
                             exact WO.nil ⟨rfl, rfl⟩
                           refine' DT.r rfl rfl rfl ?hq ?_
                           case hq =>
                             refine WO.ar rfl rfl rfl (by (first | (unfold in64; omega) | (unfold in64; omega))) rfl ?_
                             exact WO.nil ⟨rfl, rfl⟩
                           refine' DT.r rfl rfl rfl ?hq ?_
                           case hq =>
                             refine' WO.indexAddrZ (n := _) rfl rfl rfl ?hs ?h00 ?h1 rfl ?_
                             case hs => (first | exact hsl1)
                             case h00 => omega
                             case h1 => (first | omega | (simp; omega))
                             exact WO.nil ⟨rfl, rfl⟩
                           refine' DT.b rfl rfl rfl ?hq ?_
                           case hq =>
                             refine' WO.load (v := _) rfl rfl ?hc rfl ?_
                             case hc => (first | (refine cellI2 (e := 3) (xs := proV l) (i := n + 1) (j := ((n : Int) + 1).toNat) (z := (LC (bt l) (n + 1) : Int)) ?_ (by omega) (proV_get hok (by omega)) (by omega); exact (by repeat (first | exact Sub.nil | refine Sub.cons (by repeat (first | exact Pick.head | apply Pick.tail)) ?_))))
                             exact WO.nil ⟨rfl, rfl⟩
                           refine' DT.r rfl rfl rfl ?hq ?_
                           case hq =>
                             refine WO.p rfl rfl ?_
                             exact WO.nil ⟨rfl, rfl⟩
                           refine' DT.r rfl rfl rfl ?hq ?_
                           case hq =>
                             refine WO.p rfl rfl ?_
                             exact WO.nil ⟨rfl, rfl⟩
                           refine' DT.r rfl rfl rfl ?hq ?_
                           case hq =>
                             refine' WO.indexAddr (n := _) (i := _) rfl rfl rfl ?hs ?h1 rfl ?_
                             case hs => (first | exact hsl1)
                             case h1 => (first | omega | (simp; omega))
                             exact WO.nil ⟨rfl, rfl⟩
                           refine' DT.b rfl rfl rfl ?hq ?_
                           case hq =>
                             refine' WO.load (v := _) rfl rfl ?hc rfl ?_
                             case hc => (first | (refine cellI2 (e := 3) (xs := proV l) (i := n) (j := n) (z := (LC (bt l) n : Int)) ?_ (by omega) (proV_get hok (by omega)) rfl; exact (by repeat (first | exact Sub.nil | refine Sub.cons (by repeat (first | exact Pick.head | apply Pick.tail)) ?_))))
                             exact WO.nil ⟨rfl, rfl⟩
                           refine' DT.r rfl rfl rfl ?hq ?_
                           case hq =>
                             refine WO.p rfl rfl ?_
                             exact WO.nil ⟨rfl, rfl⟩
                           refine' DT.rB rfl rfl rfl ?hq (fun c6 => ?_) (fun c6 => ?_)
                           case hq =>
                             refine WO.p rfl rfl ?_
                             exact WO.nil ⟨rfl, rfl⟩
                           · first
                             | (exfalso; omega)
                             | (refine' DT.r rfl rfl rfl ?hq ?_
                                case hq =>
                                  refine WO.no rfl rfl ?_
                                  exact WO.nil ⟨rfl, rfl⟩
                                refine' DT.r rfl rfl rfl ?hq ?_
                                case hq =>
                                  refine WO.no rfl rfl ?_
                                  exact WO.nil ⟨rfl, rfl⟩
                                refine' DT.r rfl rfl rfl ?hq ?_
                                case hq =>
                                  refine WO.no rfl rfl ?_
                                  exact WO.nil ⟨rfl, rfl⟩
                                refine' DT.r rfl rfl rfl ?hq ?_
                                case hq =>
                                  refine WO.no rfl rfl ?_
                                  exact WO.nil ⟨rfl, rfl⟩
                                refine' DT.b rfl rfl rfl ?hq ?_
                                case hq =>
                                  refine WO.no rfl rfl ?_
                                  exact WO.nil ⟨rfl, rfl⟩
                                refine' DT.r rfl rfl rfl ?hq ?_
                                case hq =>
                                  refine WO.no rfl rfl ?_
                                  exact WO.nil ⟨rfl, rfl⟩
                                refine' DT.r rfl rfl rfl ?hq ?_
                                case hq =>
                                  refine WO.no rfl rfl ?_
                                  exact WO.nil ⟨rfl, rfl⟩
                                refine' DT.r rfl rfl rfl ?hq ?_
                                case hq =>
                                  refine WO.no rfl rfl ?_
                                  exact WO.nil ⟨rfl, rfl⟩
                                refine' DT.b rfl rfl rfl ?hq ?_
                                case hq =>
                                  refine WO.no rfl rfl ?_
                                  exact WO.nil ⟨rfl, rfl⟩
                                refine' DT.r rfl rfl rfl ?hq ?_
                                case hq =>
                                  refine WO.no rfl rfl ?_
                                  exact WO.nil ⟨rfl, rfl⟩
                                refine' DT.r rfl rfl rfl ?hq ?_
                                case hq =>
                                  refine WO.no rfl rfl ?_
                                  exact WO.nil ⟨rfl, rfl⟩
                                refine' DT.r rfl rfl rfl ?hq ?_
                                case hq =>
                                  refine WO.no rfl rfl ?_
                                  exact WO.nil ⟨rfl, rfl⟩
                                refine' DT.r rfl rfl rfl ?hq ?_
                                case hq =>
                                  refine WO.no rfl rfl ?_
                                  exact WO.nil ⟨rfl, rfl⟩
                                refine' DT.r rfl rfl rfl ?hq ?_
                                case hq =>
                                  refine WO.no rfl rfl ?_
                                  exact WO.nil ⟨rfl, rfl⟩
                                refine' DT.r rfl rfl rfl ?hq ?_
                                case hq =>
                                  refine WO.no rfl rfl ?_
                                  exact WO.nil ⟨rfl, rfl⟩
                                refine' DT.b rfl rfl rfl ?hq ?_
                                case hq =>
                                  refine WO.no rfl rfl ?_
                                  exact WO.nil ⟨rfl, rfl⟩
                                refine' DT.r rfl rfl rfl ?hq ?_
                                case hq =>
                                  refine WO.no rfl rfl ?_
                                  exact WO.nil ⟨rfl, rfl⟩
                                refine' DT.r rfl rfl rfl ?hq ?_
                                case hq =>
                                  refine WO.no rfl rfl ?_
                                  exact WO.nil ⟨rfl, rfl⟩
                                refine' DT.r rfl rfl rfl ?hq ?_
                                case hq =>
                                  refine WO.no rfl rfl ?_
                                  exact WO.nil ⟨rfl, rfl⟩
                                refine' DT.r rfl rfl rfl ?hq ?_
                                case hq =>
                                  refine WO.no rfl rfl ?_
                                  exact WO.nil ⟨rfl, rfl⟩
                                refine' DT.r rfl rfl rfl ?hq ?_
                                case hq =>
                                  refine WO.no rfl rfl ?_
                                  exact WO.nil ⟨rfl, rfl⟩
                                refine' DT.b rfl rfl rfl ?hq ?_
                                case hq =>
                                  refine WO.no rfl rfl ?_
                                  exact WO.nil ⟨rfl, rfl⟩
                                refine' DT.r rfl rfl rfl ?hq ?_
                                case hq =>
                                  refine WO.no rfl rfl ?_
                                  exact WO.nil ⟨rfl, rfl⟩
                                refine DT.nil [_] rfl ?_
                                refine WO.no rfl rfl (WO.no rfl rfl (WO.p rfl rfl ?_))
                                refine WO.nil ?_
                                refine W.cond_t rfl ?_
                                refine W.sreg ?_
                                refine WO.p rfl rfl ?_
                                refine WO.nil ?_
                                refine W.ret ?_
                                first | exact fin.ret (Res.one rfl (RV.tmp rfl)) rfl | (exfalso; simp_all; done) | (exfalso; omega))
                           · first
                             | (exfalso; omega)
                             | (refine' DT.r rfl rfl rfl ?hq ?_
                                case hq =>
                                  refine WO.pg rfl rfl rfl ?_
                                  exact WO.nil ⟨rfl, rfl⟩
                                refine' DT.r rfl rfl rfl ?hq ?_
                                case hq =>
                                  refine WO.pg rfl rfl rfl ?_
                                  exact WO.nil ⟨rfl, rfl⟩
                                refine' DT.r rfl rfl rfl ?hq ?_
                                case hq =>
                                  refine WO.go' rfl (WO.ar rfl rfl rfl (by (first | (unfold in64; omega) | (unfold in64; omega))) rfl ?_)
                                  exact WO.nil ⟨rfl, rfl⟩
                                refine' DT.r rfl rfl rfl ?hq ?_
                                case hq =>
                                  refine WO.go' rfl ?_
                                  refine' WO.indexAddrZ (n := _) rfl rfl rfl ?hs ?h00 ?h1 rfl ?_
                                  case hs => (first | exact hsl1)
                                  case h00 => omega
                                  case h1 => (first | omega | (simp; omega))
                                  exact WO.nil ⟨rfl, rfl⟩
                                refine' DT.b rfl rfl rfl ?hq ?_
                                case hq =>
                                  refine WO.go' rfl ?_
                                  refine' WO.load (v := _) rfl rfl ?hc rfl ?_
                                  case hc => (first | (refine cellI2 (e := 3) (xs := proV l) (i := n + 1) (j := ((n : Int) + 1).toNat) (z := (LC (bt l) (n + 1) : Int)) ?_ (by omega) (proV_get hok (by omega)) (by omega); exact (by repeat (first | exact Sub.nil | refine Sub.cons (by repeat (first | exact Pick.head | apply Pick.tail)) ?_))))
                                  exact WO.nil ⟨rfl, rfl⟩
                                refine' DT.r rfl rfl rfl ?hq ?_
                                case hq =>
                                  refine WO.pg rfl rfl rfl ?_
                                  exact WO.nil ⟨rfl, rfl⟩
                                refine' DT.r rfl rfl rfl ?hq ?_
                                case hq =>
                                  refine WO.pg rfl rfl rfl ?_
                                  exact WO.nil ⟨rfl, rfl⟩
                                refine' DT.r rfl rfl rfl ?hq ?_
                                case hq =>
                                  refine WO.go' rfl ?_
                                  refine' WO.indexAddr (n := _) (i := _) rfl rfl rfl ?hs ?h1 rfl ?_
                                  case hs => (first | exact hsl1)
                                  case h1 => (first | omega | (simp; omega))
                                  exact WO.nil ⟨rfl, rfl⟩
                                refine' DT.b rfl rfl rfl ?hq ?_
                                case hq =>
                                  refine WO.go' rfl ?_
                                  refine' WO.load (v := _) rfl rfl ?hc rfl ?_
                                  case hc => (first | (refine cellI2 (e := 3) (xs := proV l) (i := n) (j := n) (z := (LC (bt l) n : Int)) ?_ (by omega) (proV_get hok (by omega)) rfl; exact (by repeat (first | exact Sub.nil | refine Sub.cons (by repeat (first | exact Pick.head | apply Pick.tail)) ?_))))
                                  exact WO.nil ⟨rfl, rfl⟩
                                refine' DT.r rfl rfl rfl ?hq ?_
                                case hq =>
                                  refine WO.pg rfl rfl rfl ?_
                                  exact WO.nil ⟨rfl, rfl⟩
                                refine' DT.rB rfl rfl rfl ?hq (fun c7 => ?_) (fun c7 => ?_)
                                case hq =>
                                  refine WO.pg rfl rfl rfl ?_
                                  exact WO.nil ⟨rfl, rfl⟩
                                · first
                                  | (exfalso; omega)
                                  | (refine' DT.r rfl rfl rfl ?hq ?_
                                     case hq =>
                                       refine WO.pg rfl rfl rfl ?_
                                       exact WO.nil ⟨rfl, rfl⟩
                                     refine' DT.r rfl rfl rfl ?hq ?_
                                     case hq =>
                                       refine WO.pg rfl rfl rfl ?_
                                       exact WO.nil ⟨rfl, rfl⟩
                                     refine' DT.r rfl rfl rfl ?hq ?_
                                     case hq =>
                                       refine WO.go' rfl (WO.ar rfl rfl rfl (by (first | (unfold in64; omega) | (unfold in64; omega))) rfl ?_)
                                       exact WO.nil ⟨rfl, rfl⟩
                                     refine' DT.r rfl rfl rfl ?hq ?_
                                     case hq =>
                                       refine WO.go' rfl ?_
                                       refine' WO.indexAddrZ (n := _) rfl rfl rfl ?hs ?h00 ?h1 rfl ?_
                                       case hs => (first | exact hsl1)
                                       case h00 => omega
                                       case h1 => (first | omega | (simp; omega))
                                       exact WO.nil ⟨rfl, rfl⟩
                                     refine' DT.b rfl rfl rfl ?hq ?_
                                     case hq =>
                                       refine WO.go' rfl ?_
                                       refine' WO.load (v := _) rfl rfl ?hc rfl ?_
                                       case hc => (first | (refine cellI2 (e := 3) (xs := proV l) (i := n + 1) (j := ((n : Int) + 1).toNat) (z := (LC (bt l) (n + 1) : Int)) ?_ (by omega) (proV_get hok (by omega)) (by omega); exact (by repeat (first | exact Sub.nil | refine Sub.cons (by repeat (first | exact Pick.head | apply Pick.tail)) ?_))))
                                       exact WO.nil ⟨rfl, rfl⟩
                                     refine' DT.r rfl rfl rfl ?hq ?_
                                     case hq =>
                                       refine WO.pg rfl rfl rfl ?_
                                       exact WO.nil ⟨rfl, rfl⟩
                                     refine' DT.r rfl rfl rfl ?hq ?_
                                     case hq =>
                                       refine WO.go' rfl (WO.ar rfl rfl rfl (by (first | (unfold in64; omega) | (unfold in64; omega))) rfl ?_)
                                       exact WO.nil ⟨rfl, rfl⟩
                                     refine' DT.r rfl rfl rfl ?hq ?_
                                     case hq =>
                                       refine WO.pg rfl rfl rfl ?_
                                       exact WO.nil ⟨rfl, rfl⟩
                                     refine' DT.r rfl rfl rfl ?hq ?_
                                     case hq =>
                                       refine WO.pg rfl rfl rfl ?_
                                       exact WO.nil ⟨rfl, rfl⟩
                                     refine' DT.r rfl rfl rfl ?hq ?_
                                     case hq =>
                                       refine WO.go' rfl ?_
                                       refine' WO.indexAddr (n := _) (i := _) rfl rfl rfl ?hs ?h1 rfl ?_
                                       case hs => (first | exact hsl1)
                                       case h1 => (first | omega | (simp; omega))
                                       exact WO.nil ⟨rfl, rfl⟩
                                     refine' DT.b rfl rfl rfl ?hq ?_
                                     case hq =>
                                       refine WO.go' rfl ?_
                                       refine' WO.load (v := _) rfl rfl ?hc rfl ?_
                                       case hc => (first | (refine cellI2 (e := 3) (xs := proV l) (i := n) (j := n) (z := (LC (bt l) n : Int)) ?_ (by omega) (proV_get hok (by omega)) rfl; exact (by repeat (first | exact Sub.nil | refine Sub.cons (by repeat (first | exact Pick.head | apply Pick.tail)) ?_))))
                                       exact WO.nil ⟨rfl, rfl⟩
                                     refine' DT.r rfl rfl rfl ?hq ?_
                                     case hq =>
                                       refine WO.go' rfl (WO.ar rfl rfl rfl (by (first | (unfold in64; omega) | (unfold in64; omega))) rfl ?_)
                                       exact WO.nil ⟨rfl, rfl⟩
                                     refine DT.nil [_] rfl ?_
                                     refine WO.pg rfl rfl rfl (WO.pg rfl rfl rfl (WO.p rfl rfl ?_))
                                     refine WO.nil ?_
                                     refine W.cond_bl rfl (fun c8 => ?_) (fun c8 => ?_)
                                     · first
                                       | (exfalso; omega)
                                       | (refine W.sreg ?_
                                          refine WO.p rfl rfl ?_
                                          refine WO.nil ?_
                                          refine W.ret ?_
                                          first | exact fin.ret (Res.one rfl (RV.tmp rfl)) rfl | (exfalso; simp_all; done) | (exfalso; omega))
                                     · first
                                       | (exfalso; omega)
                                       | (refine W.skip ?_
                                          refine W.region ?_
                                          refine WO.p rfl rfl (WO.ar rfl rfl rfl (by (first | (unfold in64; omega) | (unfold in64; omega))) rfl (WO.p rfl rfl ?_))
                                          refine WO.nil ?_
                                          refine' ⟨n + 1, ?hp, ?hmu, ⟨rfl, rfl, rfl, rfl, trivial⟩, ?hS⟩
                                          case hS => repeat (first | exact Sub.nil | refine Sub.cons (by repeat (first | exact Pick.head | apply Pick.tail)) ?_)
                                          case hp => omega
                                          case hmu => omega))
                                · first
                                  | (exfalso; omega)
                                  | (refine' DT.r rfl rfl rfl ?hq ?_
                                     case hq =>
                                       refine WO.no rfl rfl ?_
                                       exact WO.nil ⟨rfl, rfl⟩
                                     refine' DT.r rfl rfl rfl ?hq ?_
                                     case hq =>
                                       refine WO.no rfl rfl ?_
                                       exact WO.nil ⟨rfl, rfl⟩
                                     refine' DT.r rfl rfl rfl ?hq ?_
                                     case hq =>
                                       refine WO.no rfl rfl ?_
                                       exact WO.nil ⟨rfl, rfl⟩
                                     refine' DT.r rfl rfl rfl ?hq ?_
                                     case hq =>
                                       refine WO.no rfl rfl ?_
                                       exact WO.nil ⟨rfl, rfl⟩
                                     refine' DT.b rfl rfl rfl ?hq ?_
                                     case hq =>
                                       refine WO.no rfl rfl ?_
                                       exact WO.nil ⟨rfl, rfl⟩
                                     refine' DT.r rfl rfl rfl ?hq ?_
                                     case hq =>
                                       refine WO.no rfl rfl ?_
                                       exact WO.nil ⟨rfl, rfl⟩
                                     refine' DT.r rfl rfl rfl ?hq ?_
                                     case hq =>
                                       refine WO.no rfl rfl ?_
                                       exact WO.nil ⟨rfl, rfl⟩
                                     refine' DT.r rfl rfl rfl ?hq ?_
                                     case hq =>
                                       refine WO.no rfl rfl ?_
                                       exact WO.nil ⟨rfl, rfl⟩
                                     refine' DT.r rfl rfl rfl ?hq ?_
                                     case hq =>
                                       refine WO.no rfl rfl ?_
                                       exact WO.nil ⟨rfl, rfl⟩
                                     refine' DT.r rfl rfl rfl ?hq ?_
                                     case hq =>
                                       refine WO.no rfl rfl ?_
                                       exact WO.nil ⟨rfl, rfl⟩
                                     refine' DT.b rfl rfl rfl ?hq ?_
                                     case hq =>
                                       refine WO.no rfl rfl ?_
                                       exact WO.nil ⟨rfl, rfl⟩
                                     refine' DT.r rfl rfl rfl ?hq ?_
                                     case hq =>
                                       refine WO.no rfl rfl ?_
                                       exact WO.nil ⟨rfl, rfl⟩
                                     refine DT.nil [_] rfl ?_
                                     refine WO.no rfl rfl (WO.pg rfl rfl rfl (WO.p rfl rfl ?_))
                                     refine WO.nil ?_
                                     refine W.cond_f rfl ?_
                                     refine W.skip ?_
                                     refine W.region ?_
                                     refine WO.p rfl rfl (WO.ar rfl rfl rfl (by (first | (unfold in64; omega) | (unfold in64; omega))) rfl (WO.p rfl rfl ?_))
                                     refine WO.nil ?_
                                     refine' ⟨n + 1, ?hp, ?hmu, ⟨rfl, rfl, rfl, rfl, trivial⟩, ?hS⟩
                                     case hS => repeat (first | exact Sub.nil | refine Sub.cons (by repeat (first | exact Pick.head | apply Pick.tail)) ?_)
                                     case hp => omega
                                     case hmu => omega)))
                      · first
                        | (exfalso; omega)
                        | (refine W.exit (blk_same ?_)
                           refine W.sreg ?_
                           refine WO.p rfl rfl (WO.conv64 rfl rfl rfl (by (first | (unfold in64; omega) | (unfold in64; omega))) rfl (WO.p rfl rfl ?_))
                           refine' WO.len (n := _) rfl rfl ?hs rfl ?_
                           case hs => (first | exact hsl1)
                           refine WO.rem rfl rfl (by first | omega | assumption) rfl (WO.p rfl rfl ?_)
                           refine WO.nil ?_
                           obtain ⟨m, hmd⟩ : ∃ m, m = many % (l.length + 1) := ⟨_, rfl⟩
                           have hml : m < l.length + 1 := by rw [hmd]; exact Nat.mod_lt _ (by omega)
                           have hmz : (many : Int).tmod ((l.length + 1 : Nat) : Int) = (m : Int) := by rw [hmd, Int.tmod_eq_emod_of_nonneg (by omega)]; simp
                           have hst := short_take hok (show m ≤ l.length by omega)
                           have hct := chk_take hok m
                           refine W.sreg ?_
                           refine WO.p rfl rfl (WO.p rfl rfl ?_)
                           refine WO.slSl (lo := 0) (hi := m) (mx := vc) rfl rfl bnd.no (bnd.atZ rfl hmz) bnd.no (by simp) (by omega) (by omega) (by omega) rfl ?_
                           refine WO.call (Post := fun r Hq => ∃ x : Value, r = .tuple #[x, .int .i64 0] ∧ Hq = [OwE encI 3 1 x (shortL (l.take m))]) rfl Try.call18 (fun L w hi => by have h := c_Shortest w _ (l.take m) ((hR.sub (lo := 0) (hi := m) (mx := vc) (by omega) (by omega) (by omega)).later hi); rw [hct, if_pos rfl] at h; exact h) rfl ?_
                           rintro _ _ ⟨r2, rfl, rfl⟩
                           refine WO.p rfl rfl (WO.p rfl rfl (WO.p rfl rfl (WO.p rfl rfl (WO.p rfl rfl ?_))))
                           refine WO.nil ?_
                           refine W.fact (OwE.sl (enc := encI) (e := 3) (sz := 1) (v := r2) (xs := shortL (l.take m)) (by repeat (first | exact Pick.head | apply Pick.tail))) ?_
                           intro hsl2
                           rw [hst] at hsl2
                           refine W.sreg ?_
                           refine WO.p rfl rfl (WO.p rfl rfl (WO.p rfl rfl ?_))
                           refine WO.guard_bl rfl rfl (fun c9 => ?_) (fun c9 => ?_)
                           · first
                             | (exfalso; omega)
                             | (refine WO.pg rfl rfl rfl (WO.go' rfl ?_)
                                refine' WO.len (n := _) rfl rfl ?hs rfl ?_
                                case hs => (first | exact hsl2)
                                refine WO.pg rfl rfl rfl (WO.pg rfl rfl rfl (WO.go' rfl ?_))
                                refine' WO.indexAddrZ (n := _) rfl rfl rfl ?hs ?h00 ?h1 rfl ?_
                                case hs => (first | exact hsl1)
                                case h00 => omega
                                case h1 => (first | omega | (simp; omega))
                                refine WO.go' rfl ?_
                                refine' WO.load (v := _) rfl rfl ?hc rfl ?_
                                case hc => (first | (refine cellI2 (e := 3) (xs := proV l) (i := m) (j := ((many : Int).tmod ((l.length + 1 : Nat) : Int)).toNat) (z := (LC (bt l) m : Int)) ?_ (by omega) (proV_get hok (by omega)) (by rw [hmz]; rfl); exact (by repeat (first | exact Sub.nil | refine Sub.cons (by repeat (first | exact Pick.head | apply Pick.tail)) ?_))))
                                refine WO.pg rfl rfl rfl (WO.p rfl rfl (WO.p rfl rfl ?_))
                                refine WO.guard_bl rfl rfl (fun c10 => ?_) (fun c10 => ?_)
                                · first
                                  | (exfalso; omega)
                                  | (refine WO.pg rfl rfl rfl (WO.pg rfl rfl rfl (WO.go' rfl ?_))
                                     refine WO.slSl (lo := 0) (hi := m) (mx := vc) rfl rfl bnd.no (bnd.atZ rfl hmz) bnd.no (by simp) (by omega) (by omega) (by omega) rfl ?_
                                     refine WO.pg rfl rfl rfl (WO.go' rfl ?_)
                                     refine WO.callR (r := .bool true) rfl Try.call29 (fun L w hi => by have h := ref_Makes w _ r2 (l.take m) (shortL (l.take m)) ((hR.sub (lo := 0) (hi := m) (mx := vc) (by omega) (by omega) (by omega)).later hi) (RdF.of_ow (e := 3) encI_ok (by repeat (first | exact Pick.head | apply Pick.tail)) hi) ⟨_, _, by rw [take_len (show m ≤ l.length by omega)]; rfl, by rw [take_len (show m ≤ l.length by omega)]; omega⟩ (chkB0.1 hct).2 (short_ok _); rw [bl_t.2 (short_mk hct)] at h; exact h) rfl ?_
                                     refine WO.p rfl rfl (WO.p rfl rfl (WO.go' rfl ?_))
                                     refine WO.callR rfl Try.call15 (fun L w hi => l_Works w) rfl ?_
                                     refine WO.p rfl rfl (WO.p rfl rfl ?_)
                                     refine WO.nil ?_
                                     refine W.ret ?_
                                     first | exact fin.ret (Res.one rfl (RV.tmp rfl)) rfl | (exfalso; simp_all; done) | (exfalso; omega))
                                · first
                                  | (exfalso; omega)
                                  | (refine WO.no rfl rfl (WO.no rfl rfl (WO.no rfl rfl (WO.no rfl rfl (WO.no rfl rfl (WO.p rfl rfl (WO.p rfl rfl (WO.no rfl rfl (WO.p rfl rfl (WO.p rfl rfl ?_)))))))))
                                     refine WO.nil ?_
                                     refine W.ret ?_
                                     first | exact fin.ret (Res.one rfl (RV.tmp rfl)) rfl | (exfalso; simp_all; done) | (exfalso; omega)))
                           · first
                             | (exfalso; omega)
                             | (refine WO.no rfl rfl (WO.no rfl rfl (WO.no rfl rfl (WO.no rfl rfl (WO.no rfl rfl (WO.no rfl rfl (WO.no rfl rfl (WO.p rfl rfl (WO.p rfl rfl (WO.no rfl rfl (WO.no rfl rfl (WO.no rfl rfl ?_)))))))))))
                                refine WO.no rfl rfl (WO.no rfl rfl (WO.p rfl rfl (WO.p rfl rfl (WO.no rfl rfl (WO.p rfl rfl (WO.p rfl rfl ?_))))))
                                refine WO.nil ?_
                                refine W.ret ?_
                                first | exact fin.ret (Res.one rfl (RV.tmp rfl)) rfl | (exfalso; simp_all; done) | (exfalso; omega)))))))
end Go.Proofs.Ytingkbglkaojdaa
namespace Go.Proofs.Ytingkbglkaojdaa
open Go Go.TH Go.TH.Wv
attribute [local irreducible] W WO pt
set_option maxRecDepth 10000
set_option maxHeartbeats 2000000
/-- a product of polynomials -/
def cv (C D : Nat → Int) (L k : Nat) : Int := sm (L + 1) fun u => C u * mv D u k
theorem fu_cv {C D : Nat → Int} {L1 L2 i : Nat} {s : Nat → Int} (hD : ∀ j, L2 < j → D j = 0) : fu (cv C D L1) (L1 + L2) s i = sm (L1 + 1) fun u => C u * fu D L2 s (i - u) := by
  have e1 : fu (cv C D L1) (L1 + L2) s i = sm (L1 + 1) fun u => sm (L1 + L2 + 1) fun k => C u * mv D u k * s (i - k) := by
    unfold fu
    rw [← sm_swap]
    refine sm_congr fun k _ => ?_
    unfold cv
    rw [sm_mul']
  rw [e1]
  refine sm_congr fun u hu => ?_
  have e2 : (sm (L1 + L2 + 1) fun k => C u * mv D u k * s (i - k)) = C u * fu (mv D u) (L1 + L2) s i := by
    unfold fu
    rw [← sm_mul]
    exact sm_congr fun k _ => Int.mul_assoc _ _ _
  rw [e2, fu_up (show u + L2 ≤ L1 + L2 by omega) (fun j hj => by
    unfold mv
    split
    · exact hD _ (by omega)
    · rfl), fu_mv]
theorem fu_cv' {C D : Nat → Int} {L1 L2 i : Nat} {s : Nat → Int} (hD : ∀ j, L2 < j → D j = 0) : fu (cv C D L1) (L1 + L2) s i = sm (L2 + 1) fun v => D v * fu C L1 s (i - v) := by
  rw [fu_cv hD]
  have e1 : (sm (L1 + 1) fun u => C u * fu D L2 s (i - u)) = sm (L1 + 1) fun u => sm (L2 + 1) fun v => D v * (C u * s (i - v - u)) := sm_congr fun u _ => by
    unfold fu
    rw [← sm_mul]
    refine sm_congr fun v _ => ?_
    rw [show i - u - v = i - v - u by omega, ← Int.mul_assoc, ← Int.mul_assoc, Int.mul_comm (C u)]
  rw [e1, sm_swap]
  refine sm_congr fun v _ => ?_
  unfold fu
  rw [sm_mul]
/-- the polynomial of a register -/
def polR (c : Nat → Int) (L j : Nat) : Int := if j = 0 then 1 else if j ≤ L then c (j - 1) else 0
theorem polR_one (c : Nat → Int) (L : Nat) : polR c L 0 = 1 := rfl
theorem polR_zero {c : Nat → Int} {L j : Nat} (h : L < j) : polR c L j = 0 := by unfold polR; rw [if_neg (by omega), if_neg (by omega)]
theorem polR_mk {c : Nat → Int} {L n : Nat} {s : Nat → Int} : MkP (polR c L) L s n ↔ Mk c L s n := by
  rw [mkP_iff (polR_one c L)]
  have e : ∀ j, j < L → polR c L (j + 1) = c j := fun j hj => by unfold polR; rw [if_neg (by omega), if_pos (by omega)]; rfl
  exact ⟨fun h => h.congr e (fun _ _ => rfl), fun h => h.congr (fun j hj => (e j hj).symm) (fun _ _ => rfl)⟩
theorem sm_zero2 {n : Nat} {f : Nat → Int} (h : ∀ i, i < n → Eq2 (f i) 0) : Eq2 (sm n f) 0 := by
  have := sm_eq2 (n := n) (f := f) (g := fun _ => 0) h
  rwa [sm_zero (fun _ _ => rfl)] at this
theorem eq2_mul0 {a b : Int} (h : Eq2 b 0) : Eq2 (a * b) 0 := by
  have := h.mul a
  rwa [Int.mul_zero] at this
theorem sol_add {a b : Nat → Int} {L1 L2 n : Nat} (ha : Sol L1 a n) (hb : Sol L2 b n) : Sol (L1 + L2) (fun i => (a i + b i) % 2) n := by
  obtain ⟨c, hc⟩ := ha
  obtain ⟨d, hd⟩ := hb
  have hc' := polR_mk.2 hc
  have hd' := polR_mk.2 hd
  have h0 : cv (polR c L1) (polR d L2) L1 0 = 1 := by
    unfold cv
    rw [sm_front]
    have e : sm L1 (fun j => polR c L1 (j + 1) * mv (polR d L2) (j + 1) 0) = 0 := sm_zero fun j _ => by
      unfold mv; rw [if_neg (by omega), Int.mul_zero]
    rw [e]
    rfl
  have hmk : MkP (cv (polR c L1) (polR d L2) L1) (L1 + L2) (fun i => (a i + b i) % 2) n := fun i h1 h2 => by
    have e1 : Eq2 (fu (cv (polR c L1) (polR d L2) L1) (L1 + L2) (fun i => (a i + b i) % 2) i) (fu (cv (polR c L1) (polR d L2) L1) (L1 + L2) (fun i => a i + b i) i) := sm_eq2 fun j _ => (Eq2.mod _).mul _
    have e2 : fu (cv (polR c L1) (polR d L2) L1) (L1 + L2) (fun i => a i + b i) i = fu (cv (polR c L1) (polR d L2) L1) (L1 + L2) a i + fu (cv (polR c L1) (polR d L2) L1) (L1 + L2) b i := by
      unfold fu
      rw [← sm_add]
      exact sm_congr fun j _ => Int.mul_add _ _ _
    rw [e2] at e1
    have g1 : Eq2 (fu (cv (polR c L1) (polR d L2) L1) (L1 + L2) a i) 0 := by
      rw [fu_cv' (fun j hj => polR_zero hj)]
      exact sm_zero2 fun v hv => eq2_mul0 (hc' (i - v) (by omega) (by omega))
    have g2 : Eq2 (fu (cv (polR c L1) (polR d L2) L1) (L1 + L2) b i) 0 := by
      rw [fu_cv (fun j hj => polR_zero hj)]
      exact sm_zero2 fun u hu => eq2_mul0 (hd' (i - u) (by omega) (by omega))
    exact e1.trans (g1.add g2)
  exact solP hmk h0
theorem lc_add (a b : Nat → Int) (n : Nat) : LC (fun i => (a i + b i) % 2) n ≤ LC a n + LC b n := lc_le (sol_add (lc_is a n).1 (lc_is b n).1)
theorem lc_sub {a b : Nat → Int} (ha : ∀ i, a i = 0 ∨ a i = 1) (n : Nat) : LC a n ≤ LC (fun i => (a i + b i) % 2) n + LC b n := by
  have h := lc_add (fun i => (a i + b i) % 2) b n
  rwa [show (fun i => ((fun i => (a i + b i) % 2) i + b i) % 2) = a from funext fun i => by
    have := ha i
    show ((a i + b i) % 2 + b i) % 2 = a i
    omega] at h
theorem sumL_bt {a b : List Int} {n i : Nat} (h : i < n) : bt (sumL a b n) i = (bt a i + bt b i) % 2 := mapR_get 0 h
theorem sumL_ok (a b : List Int) (n : Nat) : OkBs (sumL a b n) := fun x hx => by
  unfold sumL at hx
  obtain ⟨i, _, rfl⟩ := List.mem_map.1 hx
  show _ = 0 ∨ _ = 1
  omega
theorem together {a b : List Int} (ha : OkBs a) (hb : OkBs b) (n : Nat) : LC (bt (sumL a b n)) n ≤ LC (bt a) n + LC (bt b) n ∧ LC (bt a) n ≤ LC (bt (sumL a b n)) n + LC (bt b) n ∧ LC (bt b) n ≤ LC (bt (sumL a b n)) n + LC (bt a) n := by
  rw [lc_congr (s' := fun i => (bt a i + bt b i) % 2) (fun i hi => sumL_bt hi)]
  refine ⟨lc_add _ _ n, lc_sub (bt_ok ha) n, ?_⟩
  have := lc_sub (b := bt a) (bt_ok hb) n
  rwa [show (fun i => (bt b i + bt a i) % 2) = fun i => (bt a i + bt b i) % 2 from funext fun i => by rw [Int.add_comm]] at this
theorem law_WaveTogether (w : World) (v u : Value) (a b : List Int) (hR : RdF encI 1 w.heap.size w v a) (hU : RdF encI 1 w.heap.size w u b) (hv : HasCap v a.length) (hu : HasCap u b.length) : Ret Try.prog 6 [v, u].toArray w (.bool true) := by
  refine Ret.of mixed tyTab Try.func6 rfl rfl ?_
  obtain ⟨va, vc, rfl, hcv⟩ := hv
  obtain ⟨ua, uc, rfl, hcu⟩ := hu
  replace hR : RdF encI 1 (fnCx mixed tyTab Try.f6.ntmps w).B (fnCx mixed tyTab Try.f6.ntmps w).w0 (.slice va a.length vc) a := hR
  replace hU : RdF encI 1 (fnCx mixed tyTab Try.f6.ntmps w).B (fnCx mixed tyTab Try.f6.ntmps w).w0 (.slice ua b.length uc) b := hU
  refine W.sreg ?_
  refine WO.p rfl rfl ?_
  refine WO.nil ?_
  refine W.seq ?_
  refine W.sreg ?_
  refine WO.p rfl rfl ?_
  refine WO.callR (r := .bool (bl (chkB a = 0))) rfl Try.call28 (fun L w hi => l_fine w _ a (hR.later hi)) rfl ?_
  refine WO.p rfl rfl (WO.p rfl rfl ?_)
  refine WO.guard_nbl rfl rfl (fun c1 => ?_) (fun c1 => ?_)
  · first
    | (exfalso; omega)
    | (refine WO.no rfl rfl (WO.no rfl rfl (WO.no rfl rfl (WO.p rfl rfl ?_)))
       refine WO.nil ?_
       refine W.cond_t rfl ?_
       refine W.sreg ?_
       refine WO.callR rfl Try.call15 (fun L w hi => l_Works w) rfl ?_
       refine WO.p rfl rfl ?_
       refine WO.nil ?_
       refine W.ret ?_
       first | exact fin.ret (Res.one rfl (RV.tmp rfl)) rfl | (exfalso; omega))
  · first
    | (exfalso; omega)
    | (refine WO.pg rfl rfl rfl (WO.go' rfl ?_)
       refine WO.callR (r := .bool (bl (chkB b = 0))) rfl Try.call28 (fun L w hi => l_fine w _ b (hU.later hi)) rfl ?_
       refine WO.pg rfl rfl rfl (WO.p rfl rfl ?_)
       refine WO.nil ?_
       refine W.cond_nbl rfl (fun c2 => ?_) (fun c2 => ?_)
       · first
         | (exfalso; omega)
         | (refine W.sreg ?_
            refine WO.callR rfl Try.call15 (fun L w hi => l_Works w) rfl ?_
            refine WO.p rfl rfl ?_
            refine WO.nil ?_
            refine W.ret ?_
            first | exact fin.ret (Res.one rfl (RV.tmp rfl)) rfl | (exfalso; omega))
       · first
         | (exfalso; omega)
         | (refine W.skip ?_
            have hoka : chkB a = 0 := by omega
            have hokb : chkB b = 0 := by omega
            have h1 := chkB0.1 hoka
            have h2 := chkB0.1 hokb
            refine W.sreg ?_
            refine WO.p rfl rfl ?_
            refine' WO.len (n := _) rfl rfl ?hs rfl ?_
            case hs => (first | exact hR.sl)
            refine WO.p rfl rfl ?_
            refine' WO.len (n := _) rfl rfl ?hs rfl ?_
            case hs => (first | exact hU.sl)
            refine WO.min2 rfl rfl rfl ?_
            refine WO.p rfl rfl ?_
            refine WO.nil ?_
            obtain ⟨n, hn⟩ : ∃ n, n = min a.length b.length := ⟨_, rfl⟩
            have hnz : min (a.length : Int) (b.length : Int) = (n : Int) := by omega
            have hst1 := short_take hoka (show n ≤ a.length by omega)
            have hst2 := short_take hokb (show n ≤ b.length by omega)
            have hok3 : chkB (sumL a b n) = 0 := chkB0.2 ⟨by rw [sumL_len]; omega, sumL_ok a b n⟩
            have hst3 := short_len hok3
            rw [sumL_len] at hst3
            obtain ⟨hT1, hT2, hT3⟩ := together h1.2 h2.2 n
            refine W.sreg ?_
            refine WO.p rfl rfl (WO.p rfl rfl ?_)
            refine WO.slSl (lo := 0) (hi := n) (mx := vc) rfl rfl bnd.no (bnd.atZ rfl hnz) bnd.no (by simp) (by omega) (by omega) (by omega) rfl ?_
            refine WO.call (Post := fun r Hq => ∃ x : Value, r = .tuple #[x, .int .i64 0] ∧ Hq = [OwE encI 3 1 x (shortL (a.take n))]) rfl Try.call18 (fun L w hi => by have h := c_Shortest w _ (a.take n) ((hR.sub (lo := 0) (hi := n) (mx := vc) (by omega) (by omega) (by omega)).later hi); rw [chk_take hoka n, if_pos rfl] at h; exact h) rfl ?_
            rintro _ _ ⟨r1, rfl, rfl⟩
            refine WO.p rfl rfl (WO.p rfl rfl (WO.p rfl rfl (WO.p rfl rfl (WO.p rfl rfl ?_))))
            refine WO.nil ?_
            refine W.sreg ?_
            refine WO.p rfl rfl (WO.p rfl rfl ?_)
            refine WO.slSl (lo := 0) (hi := n) (mx := uc) rfl rfl bnd.no (bnd.atZ rfl hnz) bnd.no (by simp) (by omega) (by omega) (by omega) rfl ?_
            refine WO.call (Post := fun r Hq => ∃ x : Value, r = .tuple #[x, .int .i64 0] ∧ Hq = [OwE encI 3 1 x (shortL (b.take n))]) rfl Try.call18 (fun L w hi => by have h := c_Shortest w _ (b.take n) ((hU.sub (lo := 0) (hi := n) (mx := uc) (by omega) (by omega) (by omega)).later hi); rw [chk_take hokb n, if_pos rfl] at h; exact h) rfl ?_
            rintro _ _ ⟨r2, rfl, rfl⟩
            refine WO.p rfl rfl (WO.p rfl rfl (WO.p rfl rfl (WO.p rfl rfl (WO.p rfl rfl ?_))))
            refine WO.nil ?_
            refine W.sreg ?_
            refine WO.p rfl rfl (WO.p rfl rfl ?_)
            refine WO.call (Post := fun r Hq => Hq = [OwE encI 3 1 r (sumL a b n)]) rfl Try.call30 (fun L w hi => by rw [hn]; exact l_sum w _ _ a b (hR.later hi) (hU.later hi) h1.2 h2.2 h1.1) rfl ?_
            rintro sv _ rfl
            refine WO.call (Post := fun r Hq => ∃ x : Value, r = .tuple #[x, .int .i64 0] ∧ Hq = [OwE encI 3 1 x (shortL (sumL a b n))]) rfl Try.call18 (fun L w hi => by have h := c_Shortest w sv (sumL a b n) (RdF.of_ow (e := 3) encI_ok (by repeat (first | exact Pick.head | apply Pick.tail)) hi); rw [hok3, if_pos rfl] at h; exact h) rfl ?_
            rintro _ _ ⟨r3, rfl, rfl⟩
            refine WO.p rfl rfl (WO.p rfl rfl (WO.p rfl rfl (WO.p rfl rfl (WO.p rfl rfl ?_))))
            refine WO.nil ?_
            refine W.fact (OwE.sl (enc := encI) (e := 3) (sz := 1) (v := r1) (xs := shortL (a.take n)) (by repeat (first | exact Pick.head | apply Pick.tail))) ?_
            intro hs1
            rw [hst1] at hs1
            refine W.fact (OwE.sl (enc := encI) (e := 3) (sz := 1) (v := r2) (xs := shortL (b.take n)) (by repeat (first | exact Pick.head | apply Pick.tail))) ?_
            intro hs2
            rw [hst2] at hs2
            refine W.fact (OwE.sl (enc := encI) (e := 3) (sz := 1) (v := r3) (xs := shortL (sumL a b n)) (by repeat (first | exact Pick.head | apply Pick.tail))) ?_
            intro hs3
            rw [hst3] at hs3
            have hq1 := lc_len (bt a) n
            have hq2 := lc_len (bt b) n
            refine W.sreg ?_
            refine WO.p rfl rfl (WO.p rfl rfl (WO.p rfl rfl ?_))
            refine WO.guard_bl rfl rfl (fun c3 => ?_) (fun c3 => ?_)
            · first
              | (exfalso; omega)
              | (refine WO.pg rfl rfl rfl (WO.pg rfl rfl rfl (WO.p rfl rfl (WO.p rfl rfl ?_)))
                 refine WO.guard_bl rfl rfl (fun c4 => ?_) (fun c4 => ?_)
                 · first
                   | (exfalso; omega)
                   | (refine WO.pg rfl rfl rfl (WO.pg rfl rfl rfl (WO.p rfl rfl (WO.p rfl rfl ?_)))
                      refine WO.guard_bl rfl rfl (fun c5 => ?_) (fun c5 => ?_)
                      · first
                        | (exfalso; omega)
                        | (refine WO.pg rfl rfl rfl (WO.go' rfl ?_)
                           refine' WO.len (n := _) rfl rfl ?hs rfl ?_
                           case hs => (first | exact hs3)
                           refine WO.pg rfl rfl rfl (WO.go' rfl ?_)
                           refine' WO.len (n := _) rfl rfl ?hs rfl ?_
                           case hs => (first | exact hs1)
                           refine WO.pg rfl rfl rfl (WO.go' rfl ?_)
                           refine' WO.len (n := _) rfl rfl ?hs rfl ?_
                           case hs => (first | exact hs2)
                           refine WO.go' rfl (WO.ar rfl rfl rfl (by (first | (unfold in64; omega) | (unfold in64; omega))) rfl (WO.pg rfl rfl rfl (WO.p rfl rfl (WO.p rfl rfl ?_))))
                           refine WO.guard_bl rfl rfl (fun c6 => ?_) (fun c6 => ?_)
                           · first
                             | (exfalso; omega)
                             | (refine WO.pg rfl rfl rfl (WO.go' rfl ?_)
                                refine' WO.len (n := _) rfl rfl ?hs rfl ?_
                                case hs => (first | exact hs3)
                                refine WO.pg rfl rfl rfl (WO.go' rfl ?_)
                                refine' WO.len (n := _) rfl rfl ?hs rfl ?_
                                case hs => (first | exact hs1)
                                refine WO.pg rfl rfl rfl (WO.go' rfl ?_)
                                refine' WO.len (n := _) rfl rfl ?hs rfl ?_
                                case hs => (first | exact hs2)
                                refine WO.go' rfl (WO.ar rfl rfl rfl (by (first | (unfold in64; omega) | (unfold in64; omega))) rfl (WO.pg rfl rfl rfl (WO.p rfl rfl (WO.p rfl rfl ?_))))
                                refine WO.guard_bl rfl rfl (fun c7 => ?_) (fun c7 => ?_)
                                · first
                                  | (exfalso; omega)
                                  | (refine WO.pg rfl rfl rfl (WO.go' rfl ?_)
                                     refine' WO.len (n := _) rfl rfl ?hs rfl ?_
                                     case hs => (first | exact hs3)
                                     refine WO.pg rfl rfl rfl (WO.go' rfl ?_)
                                     refine' WO.len (n := _) rfl rfl ?hs rfl ?_
                                     case hs => (first | exact hs2)
                                     refine WO.pg rfl rfl rfl (WO.go' rfl ?_)
                                     refine' WO.len (n := _) rfl rfl ?hs rfl ?_
                                     case hs => (first | exact hs1)
                                     refine WO.go' rfl (WO.ar rfl rfl rfl (by (first | (unfold in64; omega) | (unfold in64; omega))) rfl (WO.pg rfl rfl rfl (WO.p rfl rfl (WO.p rfl rfl ?_))))
                                     refine WO.guard_bl rfl rfl (fun c8 => ?_) (fun c8 => ?_)
                                     · first
                                       | (exfalso; omega)
                                       | (refine WO.go' rfl ?_
                                          refine WO.callR rfl Try.call15 (fun L w hi => l_Works w) rfl ?_
                                          refine WO.p rfl rfl (WO.p rfl rfl ?_)
                                          refine WO.nil ?_
                                          refine W.ret ?_
                                          first | exact fin.ret (Res.one rfl (RV.tmp rfl)) rfl | (exfalso; omega))
                                     · first
                                       | (exfalso; omega)
                                       | (refine WO.no rfl rfl (WO.p rfl rfl (WO.p rfl rfl ?_))
                                          refine WO.nil ?_
                                          refine W.ret ?_
                                          first | exact fin.ret (Res.one rfl (RV.tmp rfl)) rfl | (exfalso; omega)))
                                · first
                                  | (exfalso; omega)
                                  | (refine WO.no rfl rfl (WO.no rfl rfl (WO.no rfl rfl (WO.no rfl rfl (WO.no rfl rfl (WO.no rfl rfl (WO.no rfl rfl (WO.no rfl rfl (WO.p rfl rfl (WO.p rfl rfl (WO.no rfl rfl (WO.p rfl rfl ?_)))))))))))
                                     refine WO.p rfl rfl ?_
                                     refine WO.nil ?_
                                     refine W.ret ?_
                                     first | exact fin.ret (Res.one rfl (RV.tmp rfl)) rfl | (exfalso; omega)))
                           · first
                             | (exfalso; omega)
                             | (refine WO.no rfl rfl (WO.no rfl rfl (WO.no rfl rfl (WO.no rfl rfl (WO.no rfl rfl (WO.no rfl rfl (WO.no rfl rfl (WO.no rfl rfl (WO.p rfl rfl (WO.p rfl rfl (WO.no rfl rfl (WO.no rfl rfl ?_)))))))))))
                                refine WO.no rfl rfl (WO.no rfl rfl (WO.no rfl rfl (WO.no rfl rfl (WO.no rfl rfl (WO.no rfl rfl (WO.p rfl rfl (WO.p rfl rfl (WO.no rfl rfl (WO.p rfl rfl (WO.p rfl rfl ?_))))))))))
                                refine WO.nil ?_
                                refine W.ret ?_
                                first | exact fin.ret (Res.one rfl (RV.tmp rfl)) rfl | (exfalso; omega)))
                      · first
                        | (exfalso; omega)
                        | (refine WO.no rfl rfl (WO.no rfl rfl (WO.no rfl rfl (WO.no rfl rfl (WO.no rfl rfl (WO.no rfl rfl (WO.no rfl rfl (WO.no rfl rfl (WO.p rfl rfl (WO.p rfl rfl (WO.no rfl rfl (WO.no rfl rfl ?_)))))))))))
                           refine WO.no rfl rfl (WO.no rfl rfl (WO.no rfl rfl (WO.no rfl rfl (WO.no rfl rfl (WO.no rfl rfl (WO.p rfl rfl (WO.p rfl rfl (WO.no rfl rfl (WO.no rfl rfl (WO.no rfl rfl (WO.no rfl rfl ?_)))))))))))
                           refine WO.no rfl rfl (WO.no rfl rfl (WO.no rfl rfl (WO.no rfl rfl (WO.p rfl rfl (WO.p rfl rfl (WO.no rfl rfl (WO.p rfl rfl (WO.p rfl rfl ?_))))))))
                           refine WO.nil ?_
                           refine W.ret ?_
                           first | exact fin.ret (Res.one rfl (RV.tmp rfl)) rfl | (exfalso; omega)))
                 · first
                   | (exfalso; omega)
                   | (refine WO.no rfl rfl (WO.no rfl rfl (WO.p rfl rfl (WO.p rfl rfl (WO.no rfl rfl (WO.no rfl rfl (WO.no rfl rfl (WO.no rfl rfl (WO.no rfl rfl (WO.no rfl rfl (WO.no rfl rfl (WO.no rfl rfl ?_)))))))))))
                      refine WO.p rfl rfl (WO.p rfl rfl (WO.no rfl rfl (WO.no rfl rfl (WO.no rfl rfl (WO.no rfl rfl (WO.no rfl rfl (WO.no rfl rfl (WO.no rfl rfl (WO.no rfl rfl (WO.p rfl rfl (WO.p rfl rfl ?_)))))))))))
                      refine WO.no rfl rfl (WO.no rfl rfl (WO.no rfl rfl (WO.no rfl rfl (WO.no rfl rfl (WO.no rfl rfl (WO.no rfl rfl (WO.no rfl rfl (WO.p rfl rfl (WO.p rfl rfl (WO.no rfl rfl (WO.p rfl rfl ?_)))))))))))
                      refine WO.p rfl rfl ?_
                      refine WO.nil ?_
                      refine W.ret ?_
                      first | exact fin.ret (Res.one rfl (RV.tmp rfl)) rfl | (exfalso; omega)))
            · first
              | (exfalso; omega)
              | (refine WO.no rfl rfl (WO.no rfl rfl (WO.p rfl rfl (WO.p rfl rfl (WO.no rfl rfl (WO.no rfl rfl (WO.p rfl rfl (WO.p rfl rfl (WO.no rfl rfl (WO.no rfl rfl (WO.no rfl rfl (WO.no rfl rfl ?_)))))))))))
                 refine WO.no rfl rfl (WO.no rfl rfl (WO.no rfl rfl (WO.no rfl rfl (WO.p rfl rfl (WO.p rfl rfl (WO.no rfl rfl (WO.no rfl rfl (WO.no rfl rfl (WO.no rfl rfl (WO.no rfl rfl (WO.no rfl rfl ?_)))))))))))
                 refine WO.no rfl rfl (WO.no rfl rfl (WO.p rfl rfl (WO.p rfl rfl (WO.no rfl rfl (WO.no rfl rfl (WO.no rfl rfl (WO.no rfl rfl (WO.no rfl rfl (WO.no rfl rfl (WO.no rfl rfl (WO.no rfl rfl ?_)))))))))))
                 refine WO.p rfl rfl (WO.p rfl rfl (WO.no rfl rfl (WO.p rfl rfl (WO.p rfl rfl ?_))))
                 refine WO.nil ?_
                 refine W.ret ?_
                 first | exact fin.ret (Res.one rfl (RV.tmp rfl)) rfl | (exfalso; omega))))
end Go.Proofs.Ytingkbglkaojdaa
