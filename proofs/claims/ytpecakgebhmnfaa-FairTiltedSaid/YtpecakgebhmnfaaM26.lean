/-
  What is proved here: the stage's theorem. Conditions: none; each contract states its own.
-/
import Derived.Test.YtpecakgebhmnfaaM6
set_option linter.unusedVariables false
set_option linter.unusedSimpArgs false
namespace Go.Proofs.Ytpecakgebhmnfaa
open Go Go.TH
attribute [local irreducible] W WO pt
set_option maxRecDepth 10000
set_option maxHeartbeats 1000000
theorem bfB_irr : ∀ x : List Int, bfB x x = false
  | [] => rfl
  | a :: x => by unfold bfB; rw [if_neg (by simp)]; exact bfB_irr x
theorem bfB_asym : ∀ {x y : List Int}, bfB x y = true → bfB y x = false
  | [], _, h => by simp [bfB] at h
  | _ :: _, [], h => by simp [bfB] at h
  | a :: x, b :: y, h => by
    unfold bfB at h ⊢
    by_cases e : a = b
    · subst e
      rw [if_neg (by simp)] at h ⊢
      exact bfB_asym h
    · rw [if_pos e] at h
      rw [if_pos (fun e2 => e e2.symm)]
      have := of_decide_eq_true h
      simp; omega
theorem lin_pw : ∀ l : List (Int × Int), (lin l).Pairwise (fun x y => bfB x y = true)
  | [] => by unfold lin; exact List.pairwise_singleton _ _
  | r :: rs => by
    rw [lin_cons, List.pairwise_flatMap]
    refine ⟨fun c _ => ?_, ?_⟩
    · rw [List.pairwise_map]
      exact (lin_pw rs).imp fun h => by unfold bfB; rw [if_neg (by simp)]; exact h
    · refine List.pairwise_lt_range.imp fun {a b} hab x hx y hy => ?_
      obtain ⟨x', _, rfl⟩ := List.mem_map.1 hx
      obtain ⟨y', _, rfl⟩ := List.mem_map.1 hy
      unfold bfB
      rw [if_pos (by omega)]
      simp; omega
theorem best_first {l : List (Int × Int)} {t : Int} (hg : OkS l) (h1 : 1 ≤ l.length) {x : List Int} (hx : InS l x) : bestC 1 t l ≤ costL t x ∧ (costL t x = bestC 1 t l → bfB x (bestL 1 t l) = false) := by
  obtain ⟨⟨i, hi, hm⟩, hc⟩ := best_fm (B := 1) (T := t) hg h1
  obtain ⟨j, hj⟩ := List.getElem?_of_mem (mem_lin.2 hx)
  have h2 := hm j x hj
  rw [hc, costG_1] at h2
  refine ⟨h2.1, fun e => ?_⟩
  cases hb : bfB x (bestL 1 t l) with
  | false => rfl
  | true =>
    exfalso
    have hp := lin_pw l
    rw [List.pairwise_iff_getElem] at hp
    obtain ⟨hil, hie⟩ := List.getElem?_eq_some_iff.1 hi
    obtain ⟨hjl, hje⟩ := List.getElem?_eq_some_iff.1 hj
    rcases Nat.lt_trichotomy i j with g | g | g
    · have := hp i j hil hjl g
      rw [hie, hje] at this
      rw [bfB_asym this] at hb; cases hb
    · subst g
      rw [hie] at hje
      rw [hje, bfB_irr] at hb; cases hb
    · have := h2.2 g
      omega
theorem ckV_line {l : List (Int × Int)} {t : Int} {x : List Int} (hc : chkF l t = 0) (hx : InS l x) : ckV l t x = .tuple #[.int .i64 (costL t x), .int .i64 0] := if_pos (ckE0.2 ⟨hc, hx⟩)
theorem best_in {l : List (Int × Int)} {t : Int} (hc : chkF l t = 0) : InS l (faL l t) ∧ costL t (faL l t) = faC l t := by
  have hcf := chkF0.1 hc
  have h := best_fm (B := 1) (T := t) hcf.2.2 hcf.1.1
  have e1 : faL l t = bestL 1 t l := if_pos hc
  have e2 : faC l t = bestC 1 t l := if_pos hc
  rw [e1, e2]
  exact ⟨mem_lin.1 h.1.mem, by rw [← costG_1]; exact h.2⟩
theorem law_FairProved (w : World) (o u v : Value) (l : List (Int × Int)) (t : Int) (bs labs : List Int) (hR : RdF encP 2 w.heap.size w o l) (hB : RdF encU 1 w.heap.size w u bs) (hb : ∀ x ∈ bs, 0 ≤ x ∧ x ≤ 255) (hX : RdF encI 1 w.heap.size w v labs) : Ret Try.prog 7 [.agg #[o, .int .i64 t], u, v].toArray w (.bool true) := by
  refine Ret.of mixed tyTab Try.func7 rfl rfl ?_
  replace hR : RdF encP 2 (fnCx mixed tyTab Try.f7.ntmps w).B (fnCx mixed tyTab Try.f7.ntmps w).w0 o l := hR
  replace hB : RdF encU 1 (fnCx mixed tyTab Try.f7.ntmps w).B (fnCx mixed tyTab Try.f7.ntmps w).w0 u bs := hB
  replace hX : RdF encI 1 (fnCx mixed tyTab Try.f7.ntmps w).B (fnCx mixed tyTab Try.f7.ntmps w).w0 v labs := hX
  have hoc := hR.sl.oc
  refine W.sreg ?_
  refine WO.boxA rfl rfl (fun b1 hb1 => ?_)
  refine WO.p rfl rfl ?_
  refine WO.nil ?_
  refine W.seq ?_
  refine W.sreg ?_
  refine WO.loadA rfl rfl (Cells.own Pick.head) rfl rfl ?_
  refine WO.callR rfl Try.call32 (fun L w hi => law_fine w o l t (hR.later hi)) rfl ?_
  refine WO.p rfl rfl (WO.p rfl rfl ?_)
  refine WO.guard_nbl rfl rfl (fun c1 => ?_) (fun c1 => ?_)
  · first
    | (exfalso; omega)
    | (refine WO.no rfl rfl (WO.no rfl rfl (WO.no rfl rfl (WO.p rfl rfl (WO.p rfl rfl (WO.no rfl rfl (WO.no rfl rfl (WO.no rfl rfl (WO.p rfl rfl ?_))))))))
       refine WO.nil ?_
       refine W.cond_t rfl ?_
       refine W.sreg ?_
       refine WO.callR rfl Try.call13 (fun L w hi => l_Works w) rfl ?_
       refine WO.p rfl rfl ?_
       refine WO.nil ?_
       refine W.ret ?_
       exact fin.ret (Res.one rfl (RV.tmp rfl)) rfl)
  · first
    | (exfalso; omega)
    | (refine WO.pg rfl rfl rfl (WO.go' rfl ?_)
       refine' WO.len (n := _) rfl rfl ?hs rfl ?_
       case hs => (first | exact hB.sl)
       refine WO.pg rfl rfl rfl (WO.p rfl rfl (WO.p rfl rfl ?_))
       refine WO.guard_bl rfl rfl (fun c2 => ?_) (fun c2 => ?_)
       · first
         | (exfalso; omega)
         | (refine WO.no rfl rfl (WO.no rfl rfl (WO.no rfl rfl (WO.p rfl rfl ?_)))
            refine WO.nil ?_
            refine W.cond_t rfl ?_
            refine W.sreg ?_
            refine WO.callR rfl Try.call13 (fun L w hi => l_Works w) rfl ?_
            refine WO.p rfl rfl ?_
            refine WO.nil ?_
            refine W.ret ?_
            exact fin.ret (Res.one rfl (RV.tmp rfl)) rfl)
       · first
         | (exfalso; omega)
         | (refine WO.pg rfl rfl rfl (WO.go' rfl ?_)
            refine' WO.len (n := _) rfl rfl ?hs rfl ?_
            case hs => (first | exact hX.sl)
            refine WO.pg rfl rfl rfl (WO.p rfl rfl ?_)
            refine WO.nil ?_
            refine W.cond_bl rfl (fun c3 => ?_) (fun c3 => ?_)
            · first
              | (exfalso; omega)
              | (refine W.sreg ?_
                 refine WO.callR rfl Try.call13 (fun L w hi => l_Works w) rfl ?_
                 refine WO.p rfl rfl ?_
                 refine WO.nil ?_
                 refine W.ret ?_
                 exact fin.ret (Res.one rfl (RV.tmp rfl)) rfl)
            · first
              | (exfalso; omega)
              | (refine W.skip ?_
                 have hc0 : chkF l t = 0 := by omega
                 have hcf := chkF0.1 hc0
                 have hbi := best_in hc0
                 have hfa : faC l t = bestC 1 t l := if_pos hc0
                 have hfl : faL l t = bestL 1 t l := if_pos hc0
                 have hk1 := ckV_line hc0 hbi.1
                 rw [hbi.2] at hk1
                 have hlg := lb_good hc0
                 rw [← hfa] at hlg
                 have hin := liL_in hcf.2.2 hb
                 have hk2 := ckV_line hc0 hin
                 have hfirst := best_first (t := t) hcf.2.2 hcf.1.1 hin
                 rw [← hfa, ← hfl] at hfirst
                 have hlk : lkE l t labs = 0 → lkV l t labs ≤ faC l t := fun h => by rw [hfa]; exact lk_le h
                 obtain ⟨hf1, hf2⟩ := hfirst
                 refine W.sreg ?_
                 refine WO.loadA rfl rfl (Cells.own Pick.head) rfl rfl ?_
                 refine WO.call rfl Try.call21 (fun L w hi => c_Fairest w o l t (hR.later hi)) rfl ?_
                 rintro _ _ ⟨r1, rfl, rfl⟩
                 refine WO.p rfl rfl (WO.p rfl rfl (WO.p rfl rfl (WO.p rfl rfl (WO.p rfl rfl (WO.p rfl rfl (WO.p rfl rfl ?_))))))
                 refine WO.nil ?_
                 refine W.sreg ?_
                 refine WO.loadA rfl rfl (Cells.own (Pick.tail (Pick.head))) rfl rfl (WO.p rfl rfl ?_)
                 refine WO.callR (r := .tuple #[.int .i64 (faC l t), .int .i64 0]) rfl Try.call16 (fun L w hi => by rw [← hk1]; exact c_Check w o r1 l t (faL l t) (hR.later hi) (RdF.of_ow (e := 2) encI_ok (by repeat (first | exact Pick.head | apply Pick.tail)) hi)) rfl ?_
                 refine WO.p rfl rfl (WO.p rfl rfl (WO.p rfl rfl (WO.p rfl rfl (WO.p rfl rfl ?_))))
                 refine WO.nil ?_
                 refine W.sreg ?_
                 refine WO.loadA rfl rfl (Cells.own (Pick.tail (Pick.head))) rfl rfl (WO.p rfl rfl ?_)
                 refine WO.callR (r := .tuple #[.int .i64 (faC l t), .int .i64 0]) rfl Try.call17 (fun L w hi => by rw [← hk1]; exact ref_Check w o r1 l t (faL l t) (hR.later hi) (RdF.of_ow (e := 2) encI_ok (by repeat (first | exact Pick.head | apply Pick.tail)) hi)) rfl ?_
                 refine WO.p rfl rfl (WO.p rfl rfl (WO.p rfl rfl (WO.p rfl rfl (WO.p rfl rfl ?_))))
                 refine WO.nil ?_
                 refine W.sreg ?_
                 refine WO.loadA rfl rfl (Cells.own (Pick.tail (Pick.head))) rfl rfl ?_
                 refine WO.call rfl Try.call27 (fun L w hi => c_Labels w o l t (hR.later hi)) rfl ?_
                 rintro _ _ ⟨r2, rfl, rfl⟩
                 refine WO.p rfl rfl (WO.p rfl rfl (WO.p rfl rfl (WO.p rfl rfl (WO.p rfl rfl ?_))))
                 refine WO.nil ?_
                 refine W.sreg ?_
                 refine WO.loadA rfl rfl (Cells.own (Pick.tail (Pick.tail (Pick.head)))) rfl rfl (WO.p rfl rfl ?_)
                 refine WO.callR (r := .tuple #[.int .i64 (faC l t), .int .i64 0]) rfl Try.call25 (fun L w hi => by have h := c_CheckLabels w o l t r2 (lbL l t) (hR.later hi) (RdF.of_ow (e := 2) encI_ok (by repeat (first | exact Pick.head | apply Pick.tail)) hi); rw [hlg.1, hlg.2] at h; exact h) rfl ?_
                 refine WO.p rfl rfl (WO.p rfl rfl (WO.p rfl rfl (WO.p rfl rfl (WO.p rfl rfl ?_))))
                 refine WO.nil ?_
                 refine W.seq ?_
                 refine W.sreg ?_
                 refine WO.p rfl rfl (WO.p rfl rfl (WO.p rfl rfl ?_))
                 refine WO.guard_bl rfl rfl (fun c4 => ?_) (fun c4 => ?_)
                 · first
                   | (exfalso; omega)
                   | (refine WO.no rfl rfl (WO.no rfl rfl (WO.p rfl rfl (WO.p rfl rfl (WO.no rfl rfl (WO.no rfl rfl (WO.p rfl rfl (WO.p rfl rfl (WO.no rfl rfl (WO.no rfl rfl (WO.p rfl rfl (WO.p rfl rfl ?_)))))))))))
                      refine WO.no rfl rfl (WO.no rfl rfl (WO.p rfl rfl (WO.p rfl rfl (WO.no rfl rfl (WO.no rfl rfl (WO.no rfl rfl (WO.p rfl rfl (WO.p rfl rfl (WO.no rfl rfl (WO.no rfl rfl (WO.no rfl rfl ?_)))))))))))
                      refine WO.p rfl rfl (WO.p rfl rfl (WO.no rfl rfl (WO.no rfl rfl (WO.no rfl rfl (WO.p rfl rfl ?_)))))
                      refine WO.nil ?_
                      refine W.cond_t rfl ?_
                      refine W.sreg ?_
                      refine WO.p rfl rfl ?_
                      refine WO.nil ?_
                      refine W.ret ?_
                      exact fin.ret (Res.one rfl (RV.tmp rfl)) rfl)
                 · first
                   | (exfalso; omega)
                   | (refine WO.pg rfl rfl rfl (WO.pg rfl rfl rfl (WO.p rfl rfl (WO.p rfl rfl ?_)))
                      refine WO.guard_bl rfl rfl (fun c5 => ?_) (fun c5 => ?_)
                      · first
                        | (exfalso; omega)
                        | (refine WO.no rfl rfl (WO.no rfl rfl (WO.p rfl rfl (WO.p rfl rfl (WO.no rfl rfl (WO.no rfl rfl (WO.p rfl rfl (WO.p rfl rfl (WO.no rfl rfl (WO.no rfl rfl (WO.p rfl rfl (WO.p rfl rfl ?_)))))))))))
                           refine WO.no rfl rfl (WO.no rfl rfl (WO.no rfl rfl (WO.p rfl rfl (WO.p rfl rfl (WO.no rfl rfl (WO.no rfl rfl (WO.no rfl rfl (WO.p rfl rfl (WO.p rfl rfl (WO.no rfl rfl (WO.no rfl rfl ?_)))))))))))
                           refine WO.no rfl rfl (WO.p rfl rfl ?_)
                           refine WO.nil ?_
                           refine W.cond_t rfl ?_
                           refine W.sreg ?_
                           refine WO.p rfl rfl ?_
                           refine WO.nil ?_
                           refine W.ret ?_
                           exact fin.ret (Res.one rfl (RV.tmp rfl)) rfl)
                      · first
                        | (exfalso; omega)
                        | (refine WO.pg rfl rfl rfl (WO.pg rfl rfl rfl (WO.p rfl rfl (WO.p rfl rfl ?_)))
                           refine WO.guard_bl rfl rfl (fun c6 => ?_) (fun c6 => ?_)
                           · first
                             | (exfalso; omega)
                             | (refine WO.no rfl rfl (WO.no rfl rfl (WO.p rfl rfl (WO.p rfl rfl (WO.no rfl rfl (WO.no rfl rfl (WO.p rfl rfl (WO.p rfl rfl (WO.no rfl rfl (WO.no rfl rfl (WO.no rfl rfl (WO.p rfl rfl ?_)))))))))))
                                refine WO.p rfl rfl (WO.no rfl rfl (WO.no rfl rfl (WO.no rfl rfl (WO.p rfl rfl (WO.p rfl rfl (WO.no rfl rfl (WO.no rfl rfl (WO.no rfl rfl (WO.p rfl rfl ?_)))))))))
                                refine WO.nil ?_
                                refine W.cond_t rfl ?_
                                refine W.sreg ?_
                                refine WO.p rfl rfl ?_
                                refine WO.nil ?_
                                refine W.ret ?_
                                exact fin.ret (Res.one rfl (RV.tmp rfl)) rfl)
                           · first
                             | (exfalso; omega)
                             | (refine WO.pg rfl rfl rfl (WO.pg rfl rfl rfl (WO.p rfl rfl (WO.p rfl rfl ?_)))
                                refine WO.guard_bl rfl rfl (fun c7 => ?_) (fun c7 => ?_)
                                · first
                                  | (exfalso; omega)
                                  | (refine WO.no rfl rfl (WO.no rfl rfl (WO.p rfl rfl (WO.p rfl rfl (WO.no rfl rfl (WO.no rfl rfl (WO.no rfl rfl (WO.p rfl rfl (WO.p rfl rfl (WO.no rfl rfl (WO.no rfl rfl (WO.no rfl rfl ?_)))))))))))
                                     refine WO.p rfl rfl (WO.p rfl rfl (WO.no rfl rfl (WO.no rfl rfl (WO.no rfl rfl (WO.p rfl rfl ?_)))))
                                     refine WO.nil ?_
                                     refine W.cond_t rfl ?_
                                     refine W.sreg ?_
                                     refine WO.p rfl rfl ?_
                                     refine WO.nil ?_
                                     refine W.ret ?_
                                     exact fin.ret (Res.one rfl (RV.tmp rfl)) rfl)
                                · first
                                  | (exfalso; omega)
                                  | (refine WO.pg rfl rfl rfl (WO.pg rfl rfl rfl (WO.p rfl rfl (WO.p rfl rfl ?_)))
                                     refine WO.guard_bl rfl rfl (fun c8 => ?_) (fun c8 => ?_)
                                     · first
                                       | (exfalso; omega)
                                       | (refine WO.no rfl rfl (WO.no rfl rfl (WO.no rfl rfl (WO.p rfl rfl (WO.p rfl rfl (WO.no rfl rfl (WO.no rfl rfl (WO.no rfl rfl (WO.p rfl rfl (WO.p rfl rfl (WO.no rfl rfl (WO.no rfl rfl ?_)))))))))))
                                          refine WO.no rfl rfl (WO.p rfl rfl ?_)
                                          refine WO.nil ?_
                                          refine W.cond_t rfl ?_
                                          refine W.sreg ?_
                                          refine WO.p rfl rfl ?_
                                          refine WO.nil ?_
                                          refine W.ret ?_
                                          exact fin.ret (Res.one rfl (RV.tmp rfl)) rfl)
                                     · first
                                       | (exfalso; omega)
                                       | (refine WO.pg rfl rfl rfl (WO.pg rfl rfl rfl (WO.pg rfl rfl rfl (WO.p rfl rfl (WO.p rfl rfl ?_))))
                                          refine WO.guard_bl rfl rfl (fun c9 => ?_) (fun c9 => ?_)
                                          · first
                                            | (exfalso; omega)
                                            | (refine WO.no rfl rfl (WO.no rfl rfl (WO.no rfl rfl (WO.p rfl rfl (WO.p rfl rfl (WO.no rfl rfl (WO.no rfl rfl (WO.no rfl rfl (WO.p rfl rfl ?_))))))))
                                               refine WO.nil ?_
                                               refine W.cond_t rfl ?_
                                               refine W.sreg ?_
                                               refine WO.p rfl rfl ?_
                                               refine WO.nil ?_
                                               refine W.ret ?_
                                               exact fin.ret (Res.one rfl (RV.tmp rfl)) rfl)
                                          · first
                                            | (exfalso; omega)
                                            | (refine WO.pg rfl rfl rfl (WO.pg rfl rfl rfl (WO.pg rfl rfl rfl (WO.p rfl rfl (WO.p rfl rfl ?_))))
                                               refine WO.guard_bl rfl rfl (fun c10 => ?_) (fun c10 => ?_)
                                               · first
                                                 | (exfalso; omega)
                                                 | (refine WO.no rfl rfl (WO.no rfl rfl (WO.no rfl rfl (WO.p rfl rfl ?_)))
                                                    refine WO.nil ?_
                                                    refine W.cond_t rfl ?_
                                                    refine W.sreg ?_
                                                    refine WO.p rfl rfl ?_
                                                    refine WO.nil ?_
                                                    refine W.ret ?_
                                                    exact fin.ret (Res.one rfl (RV.tmp rfl)) rfl)
                                               · first
                                                 | (exfalso; omega)
                                                 | (refine WO.pg rfl rfl rfl (WO.pg rfl rfl rfl (WO.pg rfl rfl rfl (WO.p rfl rfl ?_)))
                                                    refine WO.nil ?_
                                                    refine W.cond_bl rfl (fun c11 => ?_) (fun c11 => ?_)
                                                    · first
                                                      | (exfalso; omega)
                                                      | (refine W.sreg ?_
                                                         refine WO.p rfl rfl ?_
                                                         refine WO.nil ?_
                                                         refine W.ret ?_
                                                         exact fin.ret (Res.one rfl (RV.tmp rfl)) rfl)
                                                    · first
                                                      | (exfalso; omega)
                                                      | (refine W.skip ?_
                                                         refine W.sreg ?_
                                                         refine WO.loadA rfl rfl (Cells.own (Pick.tail (Pick.tail (Pick.head)))) rfl rfl (WO.p rfl rfl ?_)
                                                         refine WO.call rfl Try.call33 (fun L w hi => law_Line w o u l t bs (hR.later hi) (hB.later hi) hb hcf.2.2 hcf.1.2) rfl ?_
                                                         rintro r3 _ ⟨_, rfl, rfl⟩
                                                         refine WO.p rfl rfl ?_
                                                         refine WO.nil ?_
                                                         refine W.sreg ?_
                                                         refine WO.loadA rfl rfl (Cells.own (Pick.tail (Pick.tail (Pick.tail (Pick.head))))) rfl rfl (WO.p rfl rfl ?_)
                                                         refine WO.callR (r := .tuple #[.int .i64 (costL t (liL l bs)), .int .i64 0]) rfl Try.call16 (fun L w hi => by rw [← hk2]; exact c_Check w o r3 l t (liL l bs) (hR.later hi) (RdF.of_ow (e := 2) encI_ok (by repeat (first | exact Pick.head | apply Pick.tail)) hi)) rfl ?_
                                                         refine WO.p rfl rfl (WO.p rfl rfl (WO.p rfl rfl (WO.p rfl rfl (WO.p rfl rfl ?_))))
                                                         refine WO.nil ?_
                                                         refine W.seq ?_
                                                         refine W.sreg ?_
                                                         refine WO.p rfl rfl (WO.p rfl rfl (WO.p rfl rfl ?_))
                                                         refine WO.guard_bl rfl rfl (fun c12 => ?_) (fun c12 => ?_)
                                                         · first
                                                           | (exfalso; omega)
                                                           | (refine WO.no rfl rfl (WO.no rfl rfl (WO.no rfl rfl (WO.no rfl rfl (WO.no rfl rfl (WO.p rfl rfl (WO.p rfl rfl (WO.no rfl rfl (WO.no rfl rfl (WO.no rfl rfl (WO.p rfl rfl (WO.p rfl rfl ?_)))))))))))
                                                              refine WO.no rfl rfl (WO.no rfl rfl (WO.no rfl rfl (WO.no rfl rfl (WO.no rfl rfl (WO.no rfl rfl (WO.no rfl rfl (WO.no rfl rfl (WO.p rfl rfl ?_))))))))
                                                              refine WO.nil ?_
                                                              refine W.cond_t rfl ?_
                                                              refine W.sreg ?_
                                                              refine WO.p rfl rfl ?_
                                                              refine WO.nil ?_
                                                              refine W.ret ?_
                                                              exact fin.ret (Res.one rfl (RV.tmp rfl)) rfl)
                                                         · first
                                                           | (exfalso; omega)
                                                           | (refine WO.pg rfl rfl rfl (WO.go' rfl (WO.loadA rfl rfl (Cells.own (Pick.tail (Pick.tail (Pick.tail (Pick.head))))) rfl rfl (WO.pg rfl rfl rfl (WO.go' rfl ?_))))
                                                              refine WO.callR (r := .int .i64 (costL t (liL l bs))) rfl Try.call34 (fun L w hi => ref_Cost w o r3 l t (liL l bs) hoc (RdF.of_ow (e := 2) encI_ok (by repeat (first | exact Pick.head | apply Pick.tail)) hi) (InS.ok hin hcf.2.2) (by rw [liL_len]; omega) hcf.2.1) rfl ?_
                                                              refine WO.pg rfl rfl rfl (WO.p rfl rfl (WO.p rfl rfl ?_))
                                                              refine WO.guard_bl rfl rfl (fun c13 => ?_) (fun c13 => ?_)
                                                              · first
                                                                | (exfalso; omega)
                                                                | (refine WO.no rfl rfl (WO.no rfl rfl (WO.no rfl rfl (WO.p rfl rfl (WO.p rfl rfl (WO.no rfl rfl (WO.no rfl rfl (WO.no rfl rfl (WO.no rfl rfl (WO.no rfl rfl (WO.no rfl rfl (WO.no rfl rfl ?_)))))))))))
                                                                   refine WO.no rfl rfl (WO.p rfl rfl ?_)
                                                                   refine WO.nil ?_
                                                                   refine W.cond_t rfl ?_
                                                                   refine W.sreg ?_
                                                                   refine WO.p rfl rfl ?_
                                                                   refine WO.nil ?_
                                                                   refine W.ret ?_
                                                                   exact fin.ret (Res.one rfl (RV.tmp rfl)) rfl)
                                                              · first
                                                                | (exfalso; omega)
                                                                | (refine WO.pg rfl rfl rfl (WO.pg rfl rfl rfl (WO.pg rfl rfl rfl (WO.p rfl rfl (WO.p rfl rfl ?_))))
                                                                   refine WO.guard_bl rfl rfl (fun c14 => ?_) (fun c14 => ?_)
                                                                   · first
                                                                     | (exfalso; omega)
                                                                     | (refine WO.no rfl rfl (WO.no rfl rfl (WO.no rfl rfl (WO.no rfl rfl (WO.no rfl rfl (WO.no rfl rfl (WO.no rfl rfl (WO.no rfl rfl (WO.p rfl rfl ?_))))))))
                                                                        refine WO.nil ?_
                                                                        refine W.cond_t rfl ?_
                                                                        refine W.sreg ?_
                                                                        refine WO.p rfl rfl ?_
                                                                        refine WO.nil ?_
                                                                        refine W.ret ?_
                                                                        exact fin.ret (Res.one rfl (RV.tmp rfl)) rfl)
                                                                   · first
                                                                     | (exfalso; omega)
                                                                     | (refine WO.pg rfl rfl rfl (WO.pg rfl rfl rfl (WO.pg rfl rfl rfl (WO.pg rfl rfl rfl ?_)))
                                                                        refine WO.guard_bl rfl rfl (fun c15 => ?_) (fun c15 => ?_)
                                                                        · first
                                                                          | (exfalso; omega)
                                                                          | (refine WO.pg rfl rfl rfl (WO.pg rfl rfl rfl (WO.go' rfl ?_))
                                                                             refine WO.callR (r := .bool false) rfl Try.call35 (fun L w hi => by have h := law_before w r3 r1 (liL l bs) (faL l t) (RdF.of_ow (e := 2) encI_ok (by repeat (first | exact Pick.head | apply Pick.tail)) hi) (RdF.of_ow (e := 2) encI_ok (by repeat (first | exact Pick.head | apply Pick.tail)) hi); rw [hf2 (by assumption), show bl (false = true) = false from bl_f.2 (by simp)] at h; exact h) rfl ?_
                                                                             refine WO.pg rfl rfl rfl (WO.p rfl rfl ?_)
                                                                             refine WO.nil ?_
                                                                             refine W.cond_f rfl ?_
                                                                             refine W.skip ?_
                                                                             refine W.sreg ?_
                                                                             refine WO.loadA rfl rfl (Cells.own (Pick.tail (Pick.tail (Pick.tail (Pick.head))))) rfl rfl (WO.p rfl rfl ?_)
                                                                             refine WO.callR rfl Try.call25 (fun L w hi => c_CheckLabels w o l t v labs (hR.later hi) (hX.later hi)) rfl ?_
                                                                             refine WO.p rfl rfl (WO.p rfl rfl (WO.p rfl rfl (WO.p rfl rfl (WO.p rfl rfl ?_))))
                                                                             refine WO.nil ?_
                                                                             refine W.sreg ?_
                                                                             refine WO.p rfl rfl (WO.p rfl rfl (WO.p rfl rfl ?_))
                                                                             refine WO.guard_bl rfl rfl (fun c16 => ?_) (fun c16 => ?_)
                                                                             · first
                                                                               | (exfalso; omega)
                                                                               | (refine WO.no rfl rfl (WO.no rfl rfl (WO.no rfl rfl (WO.p rfl rfl (WO.p rfl rfl (WO.go' rfl ?_)))))
                                                                                  refine WO.callR rfl Try.call13 (fun L w hi => l_Works w) rfl ?_
                                                                                  refine WO.p rfl rfl (WO.p rfl rfl ?_)
                                                                                  refine WO.nil ?_
                                                                                  refine W.ret ?_
                                                                                  exact fin.ret (Res.one rfl (RV.tmp rfl)) rfl)
                                                                             · first
                                                                               | (exfalso; omega)
                                                                               | (refine WO.pg rfl rfl rfl (WO.pg rfl rfl rfl (WO.pg rfl rfl rfl (WO.p rfl rfl (WO.p rfl rfl ?_))))
                                                                                  refine WO.guard_bl rfl rfl (fun c17 => ?_) (fun c17 => ?_)
                                                                                  · first
                                                                                    | (exfalso; omega)
                                                                                    | (refine WO.go' rfl ?_
                                                                                       refine WO.callR rfl Try.call13 (fun L w hi => l_Works w) rfl ?_
                                                                                       refine WO.p rfl rfl (WO.p rfl rfl ?_)
                                                                                       refine WO.nil ?_
                                                                                       refine W.ret ?_
                                                                                       exact fin.ret (Res.one rfl (RV.tmp rfl)) rfl)
                                                                                  · first
                                                                                    | (exfalso; omega)
                                                                                    | (refine WO.no rfl rfl (WO.p rfl rfl (WO.p rfl rfl ?_))
                                                                                       refine WO.nil ?_
                                                                                       refine W.ret ?_
                                                                                       exact fin.ret (Res.one rfl (RV.tmp rfl)) rfl)))
                                                                        · first
                                                                          | (exfalso; omega)
                                                                          | (refine WO.no rfl rfl (WO.no rfl rfl (WO.no rfl rfl (WO.pg rfl rfl rfl (WO.p rfl rfl ?_))))
                                                                             refine WO.nil ?_
                                                                             refine W.cond_f rfl ?_
                                                                             refine W.skip ?_
                                                                             refine W.sreg ?_
                                                                             refine WO.loadA rfl rfl (Cells.own (Pick.tail (Pick.tail (Pick.tail (Pick.head))))) rfl rfl (WO.p rfl rfl ?_)
                                                                             refine WO.callR rfl Try.call25 (fun L w hi => c_CheckLabels w o l t v labs (hR.later hi) (hX.later hi)) rfl ?_
                                                                             refine WO.p rfl rfl (WO.p rfl rfl (WO.p rfl rfl (WO.p rfl rfl (WO.p rfl rfl ?_))))
                                                                             refine WO.nil ?_
                                                                             refine W.sreg ?_
                                                                             refine WO.p rfl rfl (WO.p rfl rfl (WO.p rfl rfl ?_))
                                                                             refine WO.guard_bl rfl rfl (fun c16 => ?_) (fun c16 => ?_)
                                                                             · first
                                                                               | (exfalso; omega)
                                                                               | (refine WO.no rfl rfl (WO.no rfl rfl (WO.no rfl rfl (WO.p rfl rfl (WO.p rfl rfl (WO.go' rfl ?_)))))
                                                                                  refine WO.callR rfl Try.call13 (fun L w hi => l_Works w) rfl ?_
                                                                                  refine WO.p rfl rfl (WO.p rfl rfl ?_)
                                                                                  refine WO.nil ?_
                                                                                  refine W.ret ?_
                                                                                  exact fin.ret (Res.one rfl (RV.tmp rfl)) rfl)
                                                                             · first
                                                                               | (exfalso; omega)
                                                                               | (refine WO.pg rfl rfl rfl (WO.pg rfl rfl rfl (WO.pg rfl rfl rfl (WO.p rfl rfl (WO.p rfl rfl ?_))))
                                                                                  refine WO.guard_bl rfl rfl (fun c17 => ?_) (fun c17 => ?_)
                                                                                  · first
                                                                                    | (exfalso; omega)
                                                                                    | (refine WO.go' rfl ?_
                                                                                       refine WO.callR rfl Try.call13 (fun L w hi => l_Works w) rfl ?_
                                                                                       refine WO.p rfl rfl (WO.p rfl rfl ?_)
                                                                                       refine WO.nil ?_
                                                                                       refine W.ret ?_
                                                                                       exact fin.ret (Res.one rfl (RV.tmp rfl)) rfl)
                                                                                  · first
                                                                                    | (exfalso; omega)
                                                                                    | (refine WO.no rfl rfl (WO.p rfl rfl (WO.p rfl rfl ?_))
                                                                                       refine WO.nil ?_
                                                                                       refine W.ret ?_
                                                                                       exact fin.ret (Res.one rfl (RV.tmp rfl)) rfl)))))))))))))))))
end Go.Proofs.Ytpecakgebhmnfaa
