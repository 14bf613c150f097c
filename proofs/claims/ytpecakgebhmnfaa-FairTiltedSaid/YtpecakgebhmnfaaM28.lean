/-
  What is proved here: the law of wider spots. Conditions: none; each contract states its own.
-/
import Derived.Test.YtpecakgebhmnfaaM27
set_option linter.unusedVariables false
set_option linter.unusedSimpArgs false
namespace Go.Proofs.Ytpecakgebhmnfaa
open Go Go.TH
attribute [local irreducible] W WO pt
set_option maxRecDepth 10000
set_option maxHeartbeats 1000000
theorem costL_mono {t t' : Int} (h : t' ≤ t) (x : List Int) : costL t' x ≤ costL t x := by
  have := Int.mul_le_mul_of_nonneg_right h (Int.natCast_nonneg (chL x))
  unfold costL; omega
theorem costL_0 (x : List Int) : costL 0 x = beL x := by unfold costL; omega
theorem chk_turn {l : List (Int × Int)} {t t' : Int} (h : chkF l t = 0) (h1 : 0 ≤ t') (h2 : t' ≤ t) : chkF l t' = 0 := by
  have h := chkF0.1 h
  exact chkF0.2 ⟨h.1, by omega, h.2.2⟩
theorem fa_turn {l : List (Int × Int)} {t t' : Int} (h : chkF l t = 0) (h1 : 0 ≤ t') (h2 : t' ≤ t) : faC l t' ≤ faC l t := by
  have hi := faC_in h
  have := faC_le (chk_turn h h1 h2) hi.1
  have := costL_mono h2 (faL l t)
  omega
theorem InS_wide {l : List (Int × Int)} {x : List Int} {k : Nat} {a b : Int} (ha : 0 ≤ a) (hb : 0 ≤ b) (h : InS l x) : InS (l.set k ((l.getD k (0, 0)).1 - a, (l.getD k (0, 0)).2 + b)) x := by
  refine ⟨by rw [List.length_set]; exact h.1, fun i hi => ?_⟩
  rw [List.length_set] at hi
  have := h.2 i hi
  rw [List.getD_eq_getElem?_getD, List.getElem?_set]
  by_cases g : k = i
  · subst g; rw [if_pos rfl, if_pos hi]; simp only [Option.getD_some]; omega
  · rw [if_neg g, ← List.getD_eq_getElem?_getD]; exact this
theorem fa_wide {l : List (Int × Int)} {t : Int} {k : Nat} {a b : Int} (ha : 0 ≤ a) (hb : 0 ≤ b) (h : chkF l t = 0) (h2 : chkF (l.set k ((l.getD k (0, 0)).1 - a, (l.getD k (0, 0)).2 + b)) t = 0) : faC (l.set k ((l.getD k (0, 0)).1 - a, (l.getD k (0, 0)).2 + b)) t ≤ faC l t := by
  have hi := faC_in h
  have := faC_le h2 (InS_wide ha hb hi.1)
  omega
theorem fa_least {l : List (Int × Int)} {t : Int} (h : chkF l t = 0) : beL (faL l 0) = faC l 0 ∧ ∀ x, InS l x → faC l 0 ≤ beL x := by
  have h0 := chk_turn h (Int.le_refl 0) (chkF0.1 h).2.1.1
  have hi := faC_in h0
  exact ⟨by rw [← costL_0]; exact hi.2, fun x hx => by rw [← costL_0]; exact faC_le h0 hx⟩
theorem meaV_in {l : List (Int × Int)} {t : Int} (h : chkF l t = 0) {x : List Int} (hx : InS l x) : meaV x = .tuple #[.int .i64 (chL x : Int), .int .i64 (beL x), .int .i64 0] := by
  have hcf := chkF0.1 h
  exact meaV_ok (by rw [hx.1]; omega) (InS.ok hx hcf.2.2)
theorem ownLo {C : Cx Try.prog} {H : List HP} {e : Nat} {v : Value} {xs : List (Int × Int)} {i j : Nat} {x : Int} (s : Sub H [OwE encP e 2 v xs]) (hi : i < xs.length) (hx : x = (xs.getD i (0, 0)).1) (hj : j = i) : Cell C H (elt v j 2) (.int .i64 x) := by
  subst hj
  cases s with
  | cons p _ => exact OwE.cell0 encP_ok p hi (0, 0) (by rw [hx]; rfl)
theorem ownHi {C : Cx Try.prog} {H : List HP} {e : Nat} {v : Value} {xs : List (Int × Int)} {i j : Nat} {x : Int} (s : Sub H [OwE encP e 2 v xs]) (hi : i < xs.length) (hx : x = (xs.getD i (0, 0)).2) (hj : j = i) : Cell C H (prt (elt v j 2) 1) (.int .i64 x) := by
  subst hj
  cases s with
  | cons p _ => exact OwE.cellAt encP_ok p hi (0, 0) (by rw [hx]; rfl)
theorem law_FairWider (w : World) (o u : Value) (l : List (Int × Int)) (t : Int) (wh a b : Nat) (less : Int) (bs : List Int) (hR : RdF encP 2 w.heap.size w o l) (hv : CapS o l.length) (hB : RdF encU 1 w.heap.size w u bs) (hb : ∀ x ∈ bs, 0 ≤ x ∧ x ≤ 255) (hwh : wh ≤ 255) (ha : a ≤ 255) (hbb : b ≤ 255) (hless : 0 ≤ less ∧ less ≤ 4294967295) : Ret Try.prog 9 [.agg #[o, .int .i64 t], .int .u8 (wh : Int), .agg #[.int .u8 (a : Int), .int .u8 (b : Int)], .int .u32 less, u].toArray w (.bool true) := by
  refine Ret.of mixed tyTab Try.func9 rfl rfl ?_
  obtain ⟨va, vc, rfl, hcap⟩ := hv
  replace hR : RdF encP 2 (fnCx mixed tyTab Try.f9.ntmps w).B (fnCx mixed tyTab Try.f9.ntmps w).w0 (.slice va l.length vc) l := hR
  replace hB : RdF encU 1 (fnCx mixed tyTab Try.f9.ntmps w).B (fnCx mixed tyTab Try.f9.ntmps w).w0 u bs := hB
  have hoc := hR.sl.oc
  refine W.sreg ?_
  refine WO.boxA rfl rfl (fun b1 hb1 => ?_)
  refine WO.boxA rfl rfl (fun b2 hb2 => ?_)
  refine WO.p rfl rfl ?_
  refine WO.nil ?_
  refine W.seq ?_
  refine W.sreg ?_
  refine WO.loadA rfl rfl (Cells.own (Pick.tail (Pick.head))) rfl rfl ?_
  refine WO.callR rfl Try.call32 (fun L w hi => law_fine w _ l t (hR.later hi)) rfl ?_
  refine WO.p rfl rfl (WO.p rfl rfl ?_)
  refine WO.guard_nbl rfl rfl (fun c1 => ?_) (fun c1 => ?_)
  · first
    | (exfalso; omega)
    | (refine WO.no rfl rfl (WO.no rfl rfl (WO.no rfl rfl (WO.p rfl rfl ?_)))
       refine WO.nil ?_
       refine W.cond_t rfl ?_
       refine W.sreg ?_
       refine WO.callR rfl Try.call13 (fun L w hi => l_Works w) rfl ?_
       refine WO.p rfl rfl ?_
       refine WO.nil ?_
       refine W.ret ?_
       first | exact fin.ret (Res.one rfl (RV.tmp rfl)) rfl | (exfalso; omega))
  · first
    | (exfalso; omega)
    | (refine WO.pg rfl rfl rfl (WO.go' rfl ?_)
       refine' WO.len (n := _) rfl rfl ?hs rfl ?_
       case hs => (first | exact hB.sl)
       refine WO.pg rfl rfl rfl (WO.p rfl rfl ?_)
       refine WO.nil ?_
       refine W.cond_bl rfl (fun c2 => ?_) (fun c2 => ?_)
       · first
         | (exfalso; omega)
         | (refine W.sreg ?_
            refine WO.callR rfl Try.call13 (fun L w hi => l_Works w) rfl ?_
            refine WO.p rfl rfl ?_
            refine WO.nil ?_
            refine W.ret ?_
            first | exact fin.ret (Res.one rfl (RV.tmp rfl)) rfl | (exfalso; omega))
       · first
         | (exfalso; omega)
         | (refine W.skip ?_
            have hc0 : chkF l t = 0 := by omega
            have hcf := chkF0.1 hc0
            obtain ⟨k, hk⟩ : ∃ k, k = wh % l.length := ⟨_, rfl⟩
            have hkl : k < l.length := by rw [hk]; exact Nat.mod_lt _ (by omega)
            refine W.sreg ?_
            refine WO.loadA rfl rfl (Cells.own (Pick.tail (Pick.head))) rfl rfl ?_
            refine WO.call (Post := fun r Hq => ∃ x : Value, r = .tuple #[x, .int .i64 (faC l t), .int .i64 0] ∧ Hq = [OwE encI 2 1 x (faL l t)]) rfl Try.call21 (fun L w hi => by have h := c_Fairest w _ l t (hR.later hi); rw [hc0] at h; exact h) rfl ?_
            rintro _ _ ⟨f1, rfl, rfl⟩
            refine WO.p rfl rfl (WO.p rfl rfl (WO.p rfl rfl (WO.p rfl rfl (WO.p rfl rfl (WO.p rfl rfl (WO.p rfl rfl ?_))))))
            refine WO.nil ?_
            refine W.seq ?_
            refine W.drawD 8 [.r 1 [], .b 2 [], .r 4 [], .b 5 [], .c 0 [], .c 3 [], .r 6 [], .a 7 14 (.cells #[.slice none 0 0, .int .i64 0] 24 (0, 0))] [] (A0 := []) (Sub.refl _) (by kernel_rfl) ?_ ?_
            · exact (ALok.r (ALok.b (ALok.r (ALok.b (ALok.c (ALok.c (ALok.r (ALok.cons rfl rfl rfl rfl rfl ALok.nil))))))))
            refine' DT.r rfl rfl rfl ?hq ?_
            case hq =>
              refine WO.field0 rfl rfl rfl ?_
              exact WO.nil ⟨rfl, rfl⟩
            refine' DT.b rfl rfl rfl ?hq ?_
            case hq =>
              refine WO.load rfl rfl (Cell.own (Pick.tail (Pick.tail (Pick.head))) rfl) rfl ?_
              exact WO.nil ⟨rfl, rfl⟩
            refine' DT.r rfl rfl rfl ?hq ?_
            case hq =>
              refine WO.fieldL rfl rfl rfl ?_
              exact WO.nil ⟨rfl, rfl⟩
            refine' DT.b rfl rfl rfl ?hq ?_
            case hq =>
              refine WO.load rfl rfl (Cell.own (Pick.tail (Pick.tail (Pick.head))) rfl) rfl ?_
              exact WO.nil ⟨rfl, rfl⟩
            refine DT.c [_, _, _] rfl rfl rfl rfl ?_
            refine WO.buildSl0 rfl rfl (fun b0 => ?_)
            refine WO.nil ⟨_, [_], rfl, rfl, (Keep.b (Keep.r (Keep.b (Keep.r Keep.nil)))), ?_⟩
            refine DT.c [_, _, _, _] rfl rfl rfl rfl ?_
            refine WO.appendEZ (enc := encP) (m := l.length) (xs := []) (ys := l) encP_ok rfl rfl rfl rfl rfl (by repeat (first | exact Pick.head | apply Pick.tail)) hR.sl rfl (hR.flat encP_ok) (by simp; omega) (by simp; omega) rfl (fun v1 => ?_)
            refine WO.fact (OwE.form (enc := encP) (e := 51) (sz := 2) (xs := [] ++ l) (v := v1) Pick.head) (fun hv1 => ?_)
            obtain ⟨xa, xc, rfl⟩ := hv1
            rw [List.nil_append]
            refine WO.fact (OwE.sl (enc := encP) (e := 51) (sz := 2) (xs := l) (v := .slice xa l.length xc) Pick.head) (fun hxs => ?_)
            refine WO.nil ⟨_, [_], rfl, rfl, (Keep.c (Keep.b (Keep.r (Keep.b (Keep.r Keep.nil))))), ?_⟩
            refine' DT.r rfl rfl rfl ?hq ?_
            case hq =>
              refine' WO.build (cs := _) rfl rfl rfl ?hf rfl ?_
              case hf => (conv => lhs; simp [-List.getD_eq_getElem?_getD, fillL, vcl, wrl, TTab.pl?.lget']) <;> rfl
              exact WO.nil ⟨rfl, rfl⟩
            refine DT.a (fun b3 => ?_)
            refine DT.nil [_, _, _, _, _] rfl ?_
            refine WO.storeA rfl rfl rfl rfl Pick.head rfl rfl ?_
            refine WO.nil ?_
            refine W.sreg ?_
            refine WO.p rfl rfl (WO.conv64 rfl rfl rfl (by (first | (unfold in64; omega) | (unfold in64; omega))) rfl (WO.field0 rfl rfl rfl (WO.load rfl rfl (Cell.own Pick.head rfl) rfl ?_)))
            refine' WO.len (n := _) rfl rfl ?hs rfl ?_
            case hs => (first | exact hxs)
            refine WO.remN rfl rfl (by omega) rfl ?_
            rw [← hk]
            refine WO.p rfl rfl ?_
            refine WO.nil ?_
            refine W.seq ?_
            have hgi := hcf.2.2 _ (getD_mem (l := l) (i := k) hkl (0, 0))
            unfold OkG at hgi
            obtain ⟨a5, ha5⟩ : ∃ a5, a5 = a % 5 := ⟨_, rfl⟩
            obtain ⟨b5, hb5⟩ : ∃ b5, b5 = b % 5 := ⟨_, rfl⟩
            have hal : a5 < 5 := by rw [ha5]; exact Nat.mod_lt _ (by omega)
            have hbl : b5 < 5 := by rw [hb5]; exact Nat.mod_lt _ (by omega)
            obtain ⟨x2, hx2⟩ : ∃ x2, x2 = l.set k ((l.getD k (0, 0)).1 - (a5 : Int), (l.getD k (0, 0)).2 + (b5 : Int)) := ⟨_, rfl⟩
            have hwd := fun h => fa_wide (t := t) (k := k) (a := (a5 : Int)) (b := (b5 : Int)) (by omega) (by omega) hc0 h
            rw [← hx2] at hwd
            have hxn : x2.length = l.length := by rw [hx2, List.length_set]
            refine W.drawD 26 [.r 0 [], .b 1 [], .r 2 [], .r 3 [], .b 4 [], .r 5 [], .r 6 [], .r 7 [], .b 8 [], .r 9 [], .b 10 [], .r 11 [], .r 12 [], .r 13 [], .r 14 [], .b 15 [], .r 16 [], .r 17 [], .r 18 [], .b 19 [], .r 20 [], .b 21 [], .r 22 [], .r 23 [], .r 24 [], .r 25 []] [] (A0 := []) (Sub.refl _) (by kernel_rfl) ?_ ?_
            · exact (ALok.r (ALok.b (ALok.r (ALok.r (ALok.b (ALok.r (ALok.r (ALok.r (ALok.b (ALok.r (ALok.b (ALok.r (ALok.r (ALok.r (ALok.r (ALok.b (ALok.r (ALok.r (ALok.r (ALok.b (ALok.r (ALok.b (ALok.r (ALok.r (ALok.r (ALok.r ALok.nil))))))))))))))))))))))))))
            refine' DT.r rfl rfl rfl ?hq ?_
            case hq =>
              refine WO.field0 rfl rfl rfl ?_
              exact WO.nil ⟨rfl, rfl⟩
            refine' DT.b rfl rfl rfl ?hq ?_
            case hq =>
              refine WO.load rfl rfl (Cell.own Pick.head rfl) rfl ?_
              exact WO.nil ⟨rfl, rfl⟩
            refine' DT.r rfl rfl rfl ?hq ?_
            case hq =>
              refine WO.p rfl rfl ?_
              exact WO.nil ⟨rfl, rfl⟩
            refine' DT.r rfl rfl rfl ?hq ?_
            case hq =>
              refine WO.field0 rfl rfl rfl ?_
              exact WO.nil ⟨rfl, rfl⟩
            refine' DT.b rfl rfl rfl ?hq ?_
            case hq =>
              refine WO.load rfl rfl (Cell.own Pick.head rfl) rfl ?_
              exact WO.nil ⟨rfl, rfl⟩
            refine' DT.r rfl rfl rfl ?hq ?_
            case hq =>
              refine WO.p rfl rfl ?_
              exact WO.nil ⟨rfl, rfl⟩
            refine' DT.r rfl rfl rfl ?hq ?_
            case hq =>
              refine' WO.indexAddr (n := _) (i := _) rfl rfl rfl ?hs ?h1 rfl ?_
              case hs => (first | exact hxs)
              case h1 => (first | omega | (simp; omega))
              exact WO.nil ⟨rfl, rfl⟩
            refine' DT.r rfl rfl rfl ?hq ?_
            case hq =>
              refine WO.field0 rfl rfl rfl ?_
              exact WO.nil ⟨rfl, rfl⟩
            refine' DT.b rfl rfl rfl ?hq ?_
            case hq =>
              refine' WO.load (v := _) rfl rfl ?hc rfl ?_
              case hc => (first | (refine ownLo (e := 51) (xs := l) (i := k) (x := (l.getD k (0, 0)).1) ?_ hkl rfl rfl; exact (by repeat (first | exact Sub.nil | refine Sub.cons (by repeat (first | exact Pick.head | apply Pick.tail)) ?_))))
              exact WO.nil ⟨rfl, rfl⟩
            refine' DT.r rfl rfl rfl ?hq ?_
            case hq =>
              refine WO.indexArrL (o' := 0) rfl rfl rfl (by decide) rfl rfl ?_
              exact WO.nil ⟨rfl, rfl⟩
            refine' DT.b rfl rfl rfl ?hq ?_
            case hq =>
              refine WO.load rfl rfl (Cell.own (Pick.tail (Pick.tail (Pick.tail (Pick.head)))) rfl) rfl ?_
              exact WO.nil ⟨rfl, rfl⟩
            refine' DT.r rfl rfl rfl ?hq ?_
            case hq =>
              refine WO.remN (b := 5) rfl rfl (by omega) rfl ?_
              rw [← ha5]
              exact WO.nil ⟨rfl, rfl⟩
            refine' DT.r rfl rfl rfl ?hq ?_
            case hq =>
              refine WO.conv64 rfl rfl rfl (by (first | (unfold in64; omega) | (unfold in64; omega))) rfl ?_
              exact WO.nil ⟨rfl, rfl⟩
            refine' DT.r rfl rfl rfl ?hq ?_
            case hq =>
              refine WO.ar rfl rfl rfl (by (first | (unfold in64; omega) | (unfold in64; omega))) rfl ?_
              exact WO.nil ⟨rfl, rfl⟩
            refine' DT.r rfl rfl rfl ?hq ?_
            case hq =>
              refine WO.field0 rfl rfl rfl ?_
              exact WO.nil ⟨rfl, rfl⟩
            refine' DT.b rfl rfl rfl ?hq ?_
            case hq =>
              refine WO.load rfl rfl (Cell.own Pick.head rfl) rfl ?_
              exact WO.nil ⟨rfl, rfl⟩
            refine' DT.r rfl rfl rfl ?hq ?_
            case hq =>
              refine WO.p rfl rfl ?_
              exact WO.nil ⟨rfl, rfl⟩
            refine' DT.r rfl rfl rfl ?hq ?_
            case hq =>
              refine' WO.indexAddr (n := _) (i := _) rfl rfl rfl ?hs ?h1 rfl ?_
              case hs => (first | exact hxs)
              case h1 => (first | omega | (simp; omega))
              exact WO.nil ⟨rfl, rfl⟩
            refine' DT.r rfl rfl rfl ?hq ?_
            case hq =>
              refine WO.field rfl rfl rfl ?_
              exact WO.nil ⟨rfl, rfl⟩
            refine' DT.b rfl rfl rfl ?hq ?_
            case hq =>
              refine' WO.load (v := _) rfl rfl ?hc rfl ?_
              case hc => (first | (refine ownHi (e := 51) (xs := l) (i := k) (x := (l.getD k (0, 0)).2) ?_ hkl rfl rfl; exact (by repeat (first | exact Sub.nil | refine Sub.cons (by repeat (first | exact Pick.head | apply Pick.tail)) ?_))))
              exact WO.nil ⟨rfl, rfl⟩
            refine' DT.r rfl rfl rfl ?hq ?_
            case hq =>
              refine WO.indexArrL (o' := 1) rfl rfl rfl (by decide) rfl rfl ?_
              exact WO.nil ⟨rfl, rfl⟩
            refine' DT.b rfl rfl rfl ?hq ?_
            case hq =>
              refine WO.load rfl rfl (Cell.own (Pick.tail (Pick.tail (Pick.tail (Pick.head)))) rfl) rfl ?_
              exact WO.nil ⟨rfl, rfl⟩
            refine' DT.r rfl rfl rfl ?hq ?_
            case hq =>
              refine WO.remN (b := 5) rfl rfl (by omega) rfl ?_
              rw [← hb5]
              exact WO.nil ⟨rfl, rfl⟩
            refine' DT.r rfl rfl rfl ?hq ?_
            case hq =>
              refine WO.conv64 rfl rfl rfl (by (first | (unfold in64; omega) | (unfold in64; omega))) rfl ?_
              exact WO.nil ⟨rfl, rfl⟩
            refine' DT.r rfl rfl rfl ?hq ?_
            case hq =>
              refine WO.ar rfl rfl rfl (by (first | (unfold in64; omega) | (unfold in64; omega))) rfl ?_
              exact WO.nil ⟨rfl, rfl⟩
            refine' DT.r rfl rfl rfl ?hq ?_
            case hq =>
              refine' WO.build (cs := _) rfl rfl rfl ?hf rfl ?_
              case hf => (conv => lhs; simp [-List.getD_eq_getElem?_getD, fillL, vcl, wrl, TTab.pl?.lget']) <;> rfl
              exact WO.nil ⟨rfl, rfl⟩
            refine DT.nil [_, _, _, _, _] rfl ?_
            refine' WO.indexAddr (n := _) (i := _) rfl rfl rfl ?hs ?h1 rfl ?_
            case hs => (first | exact hxs)
            case h1 => (first | omega | (simp; omega))
            refine WO.storeEN (n := ((l.getD k (0, 0)).1 - (a5 : Int), (l.getD k (0, 0)).2 + (b5 : Int))) (i := k) encP_ok rfl rfl rfl rfl (by repeat (first | exact Pick.head | apply Pick.tail)) (by omega) ?_
            rw [← hx2]
            refine WO.nil ?_
            refine W.seq ?_
            refine W.sreg ?_
            refine WO.p rfl rfl (WO.p rfl rfl ?_)
            refine WO.nil ?_
            refine W.cond_bl rfl (fun c3 => ?_) (fun c3 => ?_)
            · first
              | (exfalso; omega)
              | (refine W.sreg ?_
                 refine WO.p rfl rfl ?_
                 refine WO.nil ?_
                 refine W.ret ?_
                 first | exact fin.ret (Res.one rfl (RV.tmp rfl)) rfl | (exfalso; omega))
            · first
              | (exfalso; omega)
              | (refine W.skip ?_
                 refine W.seq ?_
                 refine W.sreg ?_
                 refine WO.loadA rfl rfl (Cells.own (Pick.tail (Pick.head))) rfl rfl ?_
                 refine WO.callR rfl Try.call32 (fun L w hi => law_fine w _ x2 t (RdF.of_ow (e := 51) encP_ok (by repeat (first | exact Pick.head | apply Pick.tail)) hi)) rfl ?_
                 refine WO.nil ?_
                 refine W.cond_bl rfl (fun c4 => ?_) (fun c4 => ?_)
                 · first
                   | (exfalso; omega)
                   | (have hc2 : chkF x2 t = 0 := by assumption
                      have hwd2 := hwd hc2
                      refine W.sreg ?_
                      refine WO.loadA rfl rfl (Cells.own (Pick.tail (Pick.head))) rfl rfl ?_
                      refine WO.call (Post := fun r Hq => ∃ x : Value, r = .tuple #[x, .int .i64 (faC x2 t), .int .i64 0] ∧ Hq = [OwE encI 2 1 x (faL x2 t)]) rfl Try.call21 (fun L w hi => by have h := c_Fairest w _ x2 t (RdF.of_ow (e := 51) encP_ok (by repeat (first | exact Pick.head | apply Pick.tail)) hi); rw [hc2] at h; exact h) rfl ?_
                      rintro _ _ ⟨f2, rfl, rfl⟩
                      refine WO.p rfl rfl (WO.p rfl rfl (WO.p rfl rfl (WO.p rfl rfl (WO.p rfl rfl (WO.p rfl rfl (WO.p rfl rfl ?_))))))
                      refine WO.nil ?_
                      refine W.sreg ?_
                      refine WO.p rfl rfl (WO.p rfl rfl (WO.p rfl rfl ?_))
                      refine WO.guard_bl rfl rfl (fun c5 => ?_) (fun c5 => ?_)
                      · first
                        | (exfalso; omega)
                        | (refine WO.no rfl rfl (WO.no rfl rfl (WO.no rfl rfl (WO.p rfl rfl ?_)))
                           refine WO.nil ?_
                           refine W.cond_t rfl ?_
                           refine W.sreg ?_
                           refine WO.p rfl rfl ?_
                           refine WO.nil ?_
                           refine W.ret ?_
                           first | exact fin.ret (Res.one rfl (RV.tmp rfl)) rfl | (exfalso; omega))
                      · first
                        | (exfalso; omega)
                        | (refine WO.pg rfl rfl rfl (WO.pg rfl rfl rfl (WO.pg rfl rfl rfl (WO.p rfl rfl ?_)))
                           refine WO.nil ?_
                           refine W.cond_bl rfl (fun c6 => ?_) (fun c6 => ?_)
                           · first
                             | (exfalso; omega)
                             | (refine W.sreg ?_
                                refine WO.p rfl rfl ?_
                                refine WO.nil ?_
                                refine W.ret ?_
                                first | exact fin.ret (Res.one rfl (RV.tmp rfl)) rfl | (exfalso; omega))
                           · first
                             | (exfalso; omega)
                             | (refine W.skip ?_
                                obtain ⟨t2, ht2⟩ : ∃ t2, t2 = max 0 (t - less) := ⟨_, rfl⟩
                                have hct := chk_turn hc0 (t' := t2) (by omega) (by omega)
                                have hct0 := chk_turn hc0 (t' := 0) (by omega) (by omega)
                                have hft := fa_turn hc0 (t' := t2) (by omega) (by omega)
                                have hf0 := fa_turn hct (t' := 0) (by omega) (by omega)
                                have hle := fa_least hc0
                                have hin := liL_in hcf.2.2 hb
                                have hot := hle.2 _ hin
                                have hm1 := meaV_in hct0 (faC_in hct0).1
                                have hm2 := meaV_in hct0 hin
                                refine W.sreg ?_
                                refine WO.field0 rfl rfl rfl (WO.load rfl rfl (Cell.own (Pick.tail (Pick.tail (Pick.tail (Pick.tail (Pick.tail (Pick.head)))))) rfl) rfl (WO.fieldL rfl rfl rfl (WO.load rfl rfl (Cell.own (Pick.tail (Pick.tail (Pick.tail (Pick.tail (Pick.tail (Pick.head)))))) rfl) rfl (WO.p rfl rfl (WO.conv64 rfl rfl rfl (by (first | (unfold in64; omega) | (unfold in64; omega))) rfl (WO.ar rfl rfl rfl (by (first | (unfold in64; omega) | (unfold in64; omega))) rfl ?_))))))
                                refine WO.max2 rfl rfl rfl ?_
                                rw [← ht2]
                                refine' WO.build (cs := _) rfl rfl rfl ?hf rfl ?_
                                case hf => (conv => lhs; simp [-List.getD_eq_getElem?_getD, fillL, vcl, wrl, TTab.pl?.lget']) <;> rfl
                                refine WO.alloc rfl rfl rfl (fun b4 hb4 => ?_)
                                refine WO.storeA rfl rfl rfl rfl Pick.head rfl rfl ?_
                                refine WO.nil ?_
                                refine W.sreg ?_
                                refine WO.loadA rfl rfl (Cells.own Pick.head) rfl rfl ?_
                                refine WO.call (Post := fun r Hq => ∃ x : Value, r = .tuple #[x, .int .i64 (faC l t2), .int .i64 0] ∧ Hq = [OwE encI 2 1 x (faL l t2)]) rfl Try.call21 (fun L w hi => by have h := c_Fairest w _ l t2 (hR.later hi); rw [hct] at h; exact h) rfl ?_
                                rintro _ _ ⟨f3, rfl, rfl⟩
                                refine WO.p rfl rfl (WO.p rfl rfl (WO.p rfl rfl (WO.p rfl rfl (WO.p rfl rfl (WO.p rfl rfl (WO.p rfl rfl ?_))))))
                                refine WO.nil ?_
                                refine W.sreg ?_
                                refine WO.field0 rfl rfl rfl (WO.load rfl rfl (Cell.own (Pick.tail (Pick.tail (Pick.tail (Pick.tail (Pick.tail (Pick.tail (Pick.tail (Pick.head)))))))) rfl) rfl ?_)
                                refine' WO.build (cs := _) rfl rfl rfl ?hf rfl ?_
                                case hf => (conv => lhs; simp [-List.getD_eq_getElem?_getD, fillL, vcl, wrl, TTab.pl?.lget']) <;> rfl
                                refine WO.call (Post := fun r Hq => ∃ x : Value, r = .tuple #[x, .int .i64 (faC l 0), .int .i64 0] ∧ Hq = [OwE encI 2 1 x (faL l 0)]) rfl Try.call21 (fun L w hi => by have h := c_Fairest w _ l 0 (hR.later hi); rw [hct0] at h; exact h) rfl ?_
                                rintro _ _ ⟨f4, rfl, rfl⟩
                                refine WO.p rfl rfl (WO.p rfl rfl (WO.p rfl rfl (WO.p rfl rfl (WO.p rfl rfl (WO.p rfl rfl (WO.p rfl rfl ?_))))))
                                refine WO.nil ?_
                                refine W.seq ?_
                                refine W.sreg ?_
                                refine WO.p rfl rfl (WO.p rfl rfl (WO.p rfl rfl ?_))
                                refine WO.guard_bl rfl rfl (fun c7 => ?_) (fun c7 => ?_)
                                · first
                                  | (exfalso; omega)
                                  | (refine WO.no rfl rfl (WO.no rfl rfl (WO.p rfl rfl (WO.p rfl rfl (WO.no rfl rfl (WO.no rfl rfl (WO.no rfl rfl (WO.p rfl rfl (WO.p rfl rfl (WO.no rfl rfl (WO.no rfl rfl (WO.no rfl rfl ?_)))))))))))
                                     refine WO.p rfl rfl ?_
                                     refine WO.nil ?_
                                     refine W.cond_t rfl ?_
                                     refine W.sreg ?_
                                     refine WO.p rfl rfl ?_
                                     refine WO.nil ?_
                                     refine W.ret ?_
                                     first | exact fin.ret (Res.one rfl (RV.tmp rfl)) rfl | (exfalso; omega))
                                · first
                                  | (exfalso; omega)
                                  | (refine WO.pg rfl rfl rfl (WO.pg rfl rfl rfl (WO.p rfl rfl (WO.p rfl rfl ?_)))
                                     refine WO.guard_bl rfl rfl (fun c8 => ?_) (fun c8 => ?_)
                                     · first
                                       | (exfalso; omega)
                                       | (refine WO.no rfl rfl (WO.no rfl rfl (WO.no rfl rfl (WO.p rfl rfl (WO.p rfl rfl (WO.no rfl rfl (WO.no rfl rfl (WO.no rfl rfl (WO.p rfl rfl ?_))))))))
                                          refine WO.nil ?_
                                          refine W.cond_t rfl ?_
                                          refine W.sreg ?_
                                          refine WO.p rfl rfl ?_
                                          refine WO.nil ?_
                                          refine W.ret ?_
                                          first | exact fin.ret (Res.one rfl (RV.tmp rfl)) rfl | (exfalso; omega))
                                     · first
                                       | (exfalso; omega)
                                       | (refine WO.pg rfl rfl rfl (WO.pg rfl rfl rfl (WO.pg rfl rfl rfl (WO.p rfl rfl (WO.p rfl rfl ?_))))
                                          refine WO.guard_bl rfl rfl (fun c9 => ?_) (fun c9 => ?_)
                                          · first
                                            | (exfalso; omega)
                                            | (refine WO.no rfl rfl (WO.no rfl rfl (WO.no rfl rfl (WO.p rfl rfl ?_)))
                                               refine WO.nil ?_
                                               refine W.cond_t rfl ?_
                                               refine W.sreg ?_
                                               refine WO.p rfl rfl ?_
                                               refine WO.nil ?_
                                               refine W.ret ?_
                                               first | exact fin.ret (Res.one rfl (RV.tmp rfl)) rfl | (exfalso; omega))
                                          · first
                                            | (exfalso; omega)
                                            | (refine WO.pg rfl rfl rfl (WO.pg rfl rfl rfl (WO.pg rfl rfl rfl (WO.p rfl rfl ?_)))
                                               refine WO.nil ?_
                                               refine W.cond_bl rfl (fun c10 => ?_) (fun c10 => ?_)
                                               · first
                                                 | (exfalso; omega)
                                                 | (refine W.sreg ?_
                                                    refine WO.p rfl rfl ?_
                                                    refine WO.nil ?_
                                                    refine W.ret ?_
                                                    first | exact fin.ret (Res.one rfl (RV.tmp rfl)) rfl | (exfalso; omega))
                                               · first
                                                 | (exfalso; omega)
                                                 | (refine W.skip ?_
                                                    refine W.sreg ?_
                                                    refine WO.p rfl rfl ?_
                                                    refine WO.callR (r := .tuple #[.int .i64 (chL (faL l 0) : Int), .int .i64 (beL (faL l 0)), .int .i64 0]) rfl Try.call14 (fun L w hi => by rw [← hm1]; exact c_Measure w _ (faL l 0) (RdF.of_ow (e := 2) encI_ok (by repeat (first | exact Pick.head | apply Pick.tail)) hi)) rfl ?_
                                                    refine WO.p rfl rfl (WO.p rfl rfl (WO.p rfl rfl (WO.p rfl rfl (WO.p rfl rfl (WO.p rfl rfl (WO.p rfl rfl ?_))))))
                                                    refine WO.nil ?_
                                                    refine W.sreg ?_
                                                    refine WO.loadA rfl rfl (Cells.own (Pick.tail (Pick.tail (Pick.tail (Pick.tail (Pick.tail (Pick.tail (Pick.tail (Pick.tail (Pick.head)))))))))) rfl rfl (WO.p rfl rfl ?_)
                                                    refine WO.call rfl Try.call33 (fun L w hi => law_Line w _ u l t bs (hR.later hi) (hB.later hi) hb hcf.2.2 hcf.1.2) rfl ?_
                                                    rintro r3 _ ⟨_, rfl, rfl⟩
                                                    refine WO.callR (r := .tuple #[.int .i64 (chL (liL l bs) : Int), .int .i64 (beL (liL l bs)), .int .i64 0]) rfl Try.call14 (fun L w hi => by rw [← hm2]; exact c_Measure w _ (liL l bs) (RdF.of_ow (e := 2) encI_ok (by repeat (first | exact Pick.head | apply Pick.tail)) hi)) rfl ?_
                                                    refine WO.p rfl rfl (WO.p rfl rfl (WO.p rfl rfl (WO.p rfl rfl (WO.p rfl rfl (WO.p rfl rfl (WO.p rfl rfl ?_))))))
                                                    refine WO.nil ?_
                                                    refine W.sreg ?_
                                                    refine WO.p rfl rfl (WO.p rfl rfl (WO.p rfl rfl ?_))
                                                    refine WO.guard_bl rfl rfl (fun c11 => ?_) (fun c11 => ?_)
                                                    · first
                                                      | (exfalso; omega)
                                                      | (refine WO.pg rfl rfl rfl (WO.pg rfl rfl rfl (WO.p rfl rfl (WO.p rfl rfl ?_)))
                                                         refine WO.guard_bl rfl rfl (fun c12 => ?_) (fun c12 => ?_)
                                                         · first
                                                           | (exfalso; omega)
                                                           | (refine WO.pg rfl rfl rfl (WO.pg rfl rfl rfl (WO.pg rfl rfl rfl (WO.p rfl rfl (WO.p rfl rfl ?_))))
                                                              refine WO.guard_bl rfl rfl (fun c13 => ?_) (fun c13 => ?_)
                                                              · first
                                                                | (exfalso; omega)
                                                                | (refine WO.pg rfl rfl rfl (WO.pg rfl rfl rfl (WO.pg rfl rfl rfl (WO.p rfl rfl (WO.p rfl rfl ?_))))
                                                                   refine WO.guard_bl rfl rfl (fun c14 => ?_) (fun c14 => ?_)
                                                                   · first
                                                                     | (exfalso; omega)
                                                                     | (refine WO.go' rfl ?_
                                                                        refine WO.callR rfl Try.call13 (fun L w hi => l_Works w) rfl ?_
                                                                        refine WO.p rfl rfl (WO.p rfl rfl ?_)
                                                                        refine WO.nil ?_
                                                                        refine W.ret ?_
                                                                        first | exact fin.ret (Res.one rfl (RV.tmp rfl)) rfl | (exfalso; omega))
                                                                   · first
                                                                     | (exfalso; omega)
                                                                     | (refine WO.no rfl rfl (WO.p rfl rfl (WO.p rfl rfl ?_))
                                                                        refine WO.nil ?_
                                                                        refine W.ret ?_
                                                                        first | exact fin.ret (Res.one rfl (RV.tmp rfl)) rfl | (exfalso; omega)))
                                                              · first
                                                                | (exfalso; omega)
                                                                | (refine WO.no rfl rfl (WO.no rfl rfl (WO.no rfl rfl (WO.p rfl rfl (WO.p rfl rfl (WO.no rfl rfl (WO.p rfl rfl (WO.p rfl rfl ?_)))))))
                                                                   refine WO.nil ?_
                                                                   refine W.ret ?_
                                                                   first | exact fin.ret (Res.one rfl (RV.tmp rfl)) rfl | (exfalso; omega)))
                                                         · first
                                                           | (exfalso; omega)
                                                           | (refine WO.no rfl rfl (WO.no rfl rfl (WO.no rfl rfl (WO.p rfl rfl (WO.p rfl rfl (WO.no rfl rfl (WO.no rfl rfl (WO.no rfl rfl (WO.p rfl rfl (WO.p rfl rfl (WO.no rfl rfl (WO.p rfl rfl ?_)))))))))))
                                                              refine WO.p rfl rfl ?_
                                                              refine WO.nil ?_
                                                              refine W.ret ?_
                                                              first | exact fin.ret (Res.one rfl (RV.tmp rfl)) rfl | (exfalso; omega)))
                                                    · first
                                                      | (exfalso; omega)
                                                      | (refine WO.no rfl rfl (WO.no rfl rfl (WO.p rfl rfl (WO.p rfl rfl (WO.no rfl rfl (WO.no rfl rfl (WO.no rfl rfl (WO.p rfl rfl (WO.p rfl rfl (WO.no rfl rfl (WO.no rfl rfl (WO.no rfl rfl ?_)))))))))))
                                                         refine WO.p rfl rfl (WO.p rfl rfl (WO.no rfl rfl (WO.p rfl rfl (WO.p rfl rfl ?_))))
                                                         refine WO.nil ?_
                                                         refine W.ret ?_
                                                         first | exact fin.ret (Res.one rfl (RV.tmp rfl)) rfl | (exfalso; omega)))))))))
                 · first
                   | (exfalso; omega)
                   | (refine W.skip ?_
                      obtain ⟨t2, ht2⟩ : ∃ t2, t2 = max 0 (t - less) := ⟨_, rfl⟩
                      have hct := chk_turn hc0 (t' := t2) (by omega) (by omega)
                      have hct0 := chk_turn hc0 (t' := 0) (by omega) (by omega)
                      have hft := fa_turn hc0 (t' := t2) (by omega) (by omega)
                      have hf0 := fa_turn hct (t' := 0) (by omega) (by omega)
                      have hle := fa_least hc0
                      have hin := liL_in hcf.2.2 hb
                      have hot := hle.2 _ hin
                      have hm1 := meaV_in hct0 (faC_in hct0).1
                      have hm2 := meaV_in hct0 hin
                      refine W.sreg ?_
                      refine WO.field0 rfl rfl rfl (WO.load rfl rfl (Cell.own (Pick.tail (Pick.tail (Pick.tail (Pick.tail (Pick.head))))) rfl) rfl (WO.fieldL rfl rfl rfl (WO.load rfl rfl (Cell.own (Pick.tail (Pick.tail (Pick.tail (Pick.tail (Pick.head))))) rfl) rfl (WO.p rfl rfl (WO.conv64 rfl rfl rfl (by (first | (unfold in64; omega) | (unfold in64; omega))) rfl (WO.ar rfl rfl rfl (by (first | (unfold in64; omega) | (unfold in64; omega))) rfl ?_))))))
                      refine WO.max2 rfl rfl rfl ?_
                      rw [← ht2]
                      refine' WO.build (cs := _) rfl rfl rfl ?hf rfl ?_
                      case hf => (conv => lhs; simp [-List.getD_eq_getElem?_getD, fillL, vcl, wrl, TTab.pl?.lget']) <;> rfl
                      refine WO.alloc rfl rfl rfl (fun b4 hb4 => ?_)
                      refine WO.storeA rfl rfl rfl rfl Pick.head rfl rfl ?_
                      refine WO.nil ?_
                      refine W.sreg ?_
                      refine WO.loadA rfl rfl (Cells.own Pick.head) rfl rfl ?_
                      refine WO.call (Post := fun r Hq => ∃ x : Value, r = .tuple #[x, .int .i64 (faC l t2), .int .i64 0] ∧ Hq = [OwE encI 2 1 x (faL l t2)]) rfl Try.call21 (fun L w hi => by have h := c_Fairest w _ l t2 (hR.later hi); rw [hct] at h; exact h) rfl ?_
                      rintro _ _ ⟨f3, rfl, rfl⟩
                      refine WO.p rfl rfl (WO.p rfl rfl (WO.p rfl rfl (WO.p rfl rfl (WO.p rfl rfl (WO.p rfl rfl (WO.p rfl rfl ?_))))))
                      refine WO.nil ?_
                      refine W.sreg ?_
                      refine WO.field0 rfl rfl rfl (WO.load rfl rfl (Cell.own (Pick.tail (Pick.tail (Pick.tail (Pick.tail (Pick.tail (Pick.tail (Pick.head))))))) rfl) rfl ?_)
                      refine' WO.build (cs := _) rfl rfl rfl ?hf rfl ?_
                      case hf => (conv => lhs; simp [-List.getD_eq_getElem?_getD, fillL, vcl, wrl, TTab.pl?.lget']) <;> rfl
                      refine WO.call (Post := fun r Hq => ∃ x : Value, r = .tuple #[x, .int .i64 (faC l 0), .int .i64 0] ∧ Hq = [OwE encI 2 1 x (faL l 0)]) rfl Try.call21 (fun L w hi => by have h := c_Fairest w _ l 0 (hR.later hi); rw [hct0] at h; exact h) rfl ?_
                      rintro _ _ ⟨f4, rfl, rfl⟩
                      refine WO.p rfl rfl (WO.p rfl rfl (WO.p rfl rfl (WO.p rfl rfl (WO.p rfl rfl (WO.p rfl rfl (WO.p rfl rfl ?_))))))
                      refine WO.nil ?_
                      refine W.seq ?_
                      refine W.sreg ?_
                      refine WO.p rfl rfl (WO.p rfl rfl (WO.p rfl rfl ?_))
                      refine WO.guard_bl rfl rfl (fun c5 => ?_) (fun c5 => ?_)
                      · first
                        | (exfalso; omega)
                        | (refine WO.no rfl rfl (WO.no rfl rfl (WO.p rfl rfl (WO.p rfl rfl (WO.no rfl rfl (WO.no rfl rfl (WO.no rfl rfl (WO.p rfl rfl (WO.p rfl rfl (WO.no rfl rfl (WO.no rfl rfl (WO.no rfl rfl ?_)))))))))))
                           refine WO.p rfl rfl ?_
                           refine WO.nil ?_
                           refine W.cond_t rfl ?_
                           refine W.sreg ?_
                           refine WO.p rfl rfl ?_
                           refine WO.nil ?_
                           refine W.ret ?_
                           first | exact fin.ret (Res.one rfl (RV.tmp rfl)) rfl | (exfalso; omega))
                      · first
                        | (exfalso; omega)
                        | (refine WO.pg rfl rfl rfl (WO.pg rfl rfl rfl (WO.p rfl rfl (WO.p rfl rfl ?_)))
                           refine WO.guard_bl rfl rfl (fun c6 => ?_) (fun c6 => ?_)
                           · first
                             | (exfalso; omega)
                             | (refine WO.no rfl rfl (WO.no rfl rfl (WO.no rfl rfl (WO.p rfl rfl (WO.p rfl rfl (WO.no rfl rfl (WO.no rfl rfl (WO.no rfl rfl (WO.p rfl rfl ?_))))))))
                                refine WO.nil ?_
                                refine W.cond_t rfl ?_
                                refine W.sreg ?_
                                refine WO.p rfl rfl ?_
                                refine WO.nil ?_
                                refine W.ret ?_
                                first | exact fin.ret (Res.one rfl (RV.tmp rfl)) rfl | (exfalso; omega))
                           · first
                             | (exfalso; omega)
                             | (refine WO.pg rfl rfl rfl (WO.pg rfl rfl rfl (WO.pg rfl rfl rfl (WO.p rfl rfl (WO.p rfl rfl ?_))))
                                refine WO.guard_bl rfl rfl (fun c7 => ?_) (fun c7 => ?_)
                                · first
                                  | (exfalso; omega)
                                  | (refine WO.no rfl rfl (WO.no rfl rfl (WO.no rfl rfl (WO.p rfl rfl ?_)))
                                     refine WO.nil ?_
                                     refine W.cond_t rfl ?_
                                     refine W.sreg ?_
                                     refine WO.p rfl rfl ?_
                                     refine WO.nil ?_
                                     refine W.ret ?_
                                     first | exact fin.ret (Res.one rfl (RV.tmp rfl)) rfl | (exfalso; omega))
                                · first
                                  | (exfalso; omega)
                                  | (refine WO.pg rfl rfl rfl (WO.pg rfl rfl rfl (WO.pg rfl rfl rfl (WO.p rfl rfl ?_)))
                                     refine WO.nil ?_
                                     refine W.cond_bl rfl (fun c8 => ?_) (fun c8 => ?_)
                                     · first
                                       | (exfalso; omega)
                                       | (refine W.sreg ?_
                                          refine WO.p rfl rfl ?_
                                          refine WO.nil ?_
                                          refine W.ret ?_
                                          first | exact fin.ret (Res.one rfl (RV.tmp rfl)) rfl | (exfalso; omega))
                                     · first
                                       | (exfalso; omega)
                                       | (refine W.skip ?_
                                          refine W.sreg ?_
                                          refine WO.p rfl rfl ?_
                                          refine WO.callR (r := .tuple #[.int .i64 (chL (faL l 0) : Int), .int .i64 (beL (faL l 0)), .int .i64 0]) rfl Try.call14 (fun L w hi => by rw [← hm1]; exact c_Measure w _ (faL l 0) (RdF.of_ow (e := 2) encI_ok (by repeat (first | exact Pick.head | apply Pick.tail)) hi)) rfl ?_
                                          refine WO.p rfl rfl (WO.p rfl rfl (WO.p rfl rfl (WO.p rfl rfl (WO.p rfl rfl (WO.p rfl rfl (WO.p rfl rfl ?_))))))
                                          refine WO.nil ?_
                                          refine W.sreg ?_
                                          refine WO.loadA rfl rfl (Cells.own (Pick.tail (Pick.tail (Pick.tail (Pick.tail (Pick.tail (Pick.tail (Pick.tail (Pick.head))))))))) rfl rfl (WO.p rfl rfl ?_)
                                          refine WO.call rfl Try.call33 (fun L w hi => law_Line w _ u l t bs (hR.later hi) (hB.later hi) hb hcf.2.2 hcf.1.2) rfl ?_
                                          rintro r3 _ ⟨_, rfl, rfl⟩
                                          refine WO.callR (r := .tuple #[.int .i64 (chL (liL l bs) : Int), .int .i64 (beL (liL l bs)), .int .i64 0]) rfl Try.call14 (fun L w hi => by rw [← hm2]; exact c_Measure w _ (liL l bs) (RdF.of_ow (e := 2) encI_ok (by repeat (first | exact Pick.head | apply Pick.tail)) hi)) rfl ?_
                                          refine WO.p rfl rfl (WO.p rfl rfl (WO.p rfl rfl (WO.p rfl rfl (WO.p rfl rfl (WO.p rfl rfl (WO.p rfl rfl ?_))))))
                                          refine WO.nil ?_
                                          refine W.sreg ?_
                                          refine WO.p rfl rfl (WO.p rfl rfl (WO.p rfl rfl ?_))
                                          refine WO.guard_bl rfl rfl (fun c9 => ?_) (fun c9 => ?_)
                                          · first
                                            | (exfalso; omega)
                                            | (refine WO.pg rfl rfl rfl (WO.pg rfl rfl rfl (WO.p rfl rfl (WO.p rfl rfl ?_)))
                                               refine WO.guard_bl rfl rfl (fun c10 => ?_) (fun c10 => ?_)
                                               · first
                                                 | (exfalso; omega)
                                                 | (refine WO.pg rfl rfl rfl (WO.pg rfl rfl rfl (WO.pg rfl rfl rfl (WO.p rfl rfl (WO.p rfl rfl ?_))))
                                                    refine WO.guard_bl rfl rfl (fun c11 => ?_) (fun c11 => ?_)
                                                    · first
                                                      | (exfalso; omega)
                                                      | (refine WO.pg rfl rfl rfl (WO.pg rfl rfl rfl (WO.pg rfl rfl rfl (WO.p rfl rfl (WO.p rfl rfl ?_))))
                                                         refine WO.guard_bl rfl rfl (fun c12 => ?_) (fun c12 => ?_)
                                                         · first
                                                           | (exfalso; omega)
                                                           | (refine WO.go' rfl ?_
                                                              refine WO.callR rfl Try.call13 (fun L w hi => l_Works w) rfl ?_
                                                              refine WO.p rfl rfl (WO.p rfl rfl ?_)
                                                              refine WO.nil ?_
                                                              refine W.ret ?_
                                                              first | exact fin.ret (Res.one rfl (RV.tmp rfl)) rfl | (exfalso; omega))
                                                         · first
                                                           | (exfalso; omega)
                                                           | (refine WO.no rfl rfl (WO.p rfl rfl (WO.p rfl rfl ?_))
                                                              refine WO.nil ?_
                                                              refine W.ret ?_
                                                              first | exact fin.ret (Res.one rfl (RV.tmp rfl)) rfl | (exfalso; omega)))
                                                    · first
                                                      | (exfalso; omega)
                                                      | (refine WO.no rfl rfl (WO.no rfl rfl (WO.no rfl rfl (WO.p rfl rfl (WO.p rfl rfl (WO.no rfl rfl (WO.p rfl rfl (WO.p rfl rfl ?_)))))))
                                                         refine WO.nil ?_
                                                         refine W.ret ?_
                                                         first | exact fin.ret (Res.one rfl (RV.tmp rfl)) rfl | (exfalso; omega)))
                                               · first
                                                 | (exfalso; omega)
                                                 | (refine WO.no rfl rfl (WO.no rfl rfl (WO.no rfl rfl (WO.p rfl rfl (WO.p rfl rfl (WO.no rfl rfl (WO.no rfl rfl (WO.no rfl rfl (WO.p rfl rfl (WO.p rfl rfl (WO.no rfl rfl (WO.p rfl rfl ?_)))))))))))
                                                    refine WO.p rfl rfl ?_
                                                    refine WO.nil ?_
                                                    refine W.ret ?_
                                                    first | exact fin.ret (Res.one rfl (RV.tmp rfl)) rfl | (exfalso; omega)))
                                          · first
                                            | (exfalso; omega)
                                            | (refine WO.no rfl rfl (WO.no rfl rfl (WO.p rfl rfl (WO.p rfl rfl (WO.no rfl rfl (WO.no rfl rfl (WO.no rfl rfl (WO.p rfl rfl (WO.p rfl rfl (WO.no rfl rfl (WO.no rfl rfl (WO.no rfl rfl ?_)))))))))))
                                               refine WO.p rfl rfl (WO.p rfl rfl (WO.no rfl rfl (WO.p rfl rfl (WO.p rfl rfl ?_))))
                                               refine WO.nil ?_
                                               refine W.ret ?_
                                               first | exact fin.ret (Res.one rfl (RV.tmp rfl)) rfl | (exfalso; omega))))))))))
end Go.Proofs.Ytpecakgebhmnfaa
