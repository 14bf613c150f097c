/-
  What is proved here: the law TrialBoxed, as a contract. Conditions: none.
-/
import Derived.Test.YtkiaepcklbidgaaM8
import Derived.Test.YtkiaepcklbidgaaM10
namespace Go.Proofs.Ytkiaepcklbidgaa
open Go Go.TH
attribute [local irreducible] W WO pt
set_option maxRecDepth 10000
set_option maxHeartbeats 8000000
section
variable {m : Int} {rs : List (Int × Int × Int)} {ys : List Int}
theorem msum_mono (hv : VT m rs) {g g' : Int → Int} (h : ∀ i : Nat, i < rs.length → g i ≤ g' i) : ∀ {i : Nat}, i ≤ rs.length → msum m rs g i ≤ msum m rs g' i
  | 0, _ => Int.le_refl _
  | i + 1, hi => by
    have ih := msum_mono hv h (i := i) (by omega)
    have h1 := h i (by omega)
    have h2 := wts_lt hv (i := i) (by omega)
    have h3 : wts m rs i * g (i : Int) ≤ wts m rs i * g' (i : Int) := Int.mul_le_mul_of_nonneg_left h1 (by omega)
    show msum m rs g i + wts m rs i * g (i : Int) ≤ msum m rs g' i + wts m rs i * g' (i : Int)
    omega
theorem msum_b (hv : VT m rs) {g : Int → Int} (hg : ∀ i : Nat, i < rs.length → 0 ≤ g i ∧ g i ≤ 20000) {i : Nat} (hi : i < rs.length) : 0 ≤ msum m rs g i ∧ msum m rs g i ≤ 160000000000000 ∧ 0 ≤ wts m rs i * g (i : Int) ∧ wts m rs i * g (i : Int) ≤ 34000000000000 := by
  have hn := hv.n
  have h1 := msum_span hv hg (i := i) (by omega)
  have h2 := wsum_lt hv (i := i) (by omega)
  have h3 := wts_lt hv hi
  have h4 := hg i hi
  have h5 : wts m rs i * g (i : Int) ≤ 1670880000 * 20000 := Int.mul_le_mul h3.2 h4.2 h4.1 (by omega)
  have h6 : 0 ≤ wts m rs i * g (i : Int) := Int.mul_nonneg (by omega) h4.1
  omega
theorem sum_SpB (hv : VT m rs) {g : Int → Int} (hg : ∀ i : Nat, i < rs.length → 0 ≤ g i ∧ g i ≤ 20000) : SpB (msum m rs g rs.length) (wsum m rs rs.length) := by
  have hn := hv.n
  have h1 := msum_span hv hg (i := rs.length) (Nat.le_refl _)
  have h2 := wsum_lt hv (i := rs.length) (Nat.le_refl _)
  exact ⟨⟨by omega, by omega⟩, h1.1, h1.2⟩
theorem true_gX (hv : VT m rs) (hy : ∀ x ∈ ys, 0 ≤ x ∧ x ≤ 4294967295) {i : Nat} (hi : i < rs.length) : loT rs i ≤ gX (trueL rs ys) i ∧ gX (trueL rs ys) i ≤ hiT rs i := by
  have := trueV_in hv ys hy hi
  rw [gX_at, trueL_at hi]
  unfold loT hiT
  rw [Int.toNat_natCast]
  exact this
theorem true_meanR (hv : VT m rs) (hy : ∀ x ∈ ys, 0 ≤ x ∧ x ≤ 4294967295) : meanR m rs (trueL rs ys) = .tuple #[.agg (encP (meanQ m rs (gX (trueL rs ys)))).toArray, .int .i64 0] :=
  (meanR_0 (by rw [hv.to]; simp) (by rw [trueL_len]; simp) (fun i hi => by rw [trueL_at hi]; exact trueV_in hv ys hy hi)).symm
theorem mean_isS (hv : VT m rs) {g : Int → Int} (hg : ∀ i : Nat, i < rs.length → 0 ≤ g i ∧ g i ≤ 20000) : isS (meanQ m rs g).1 (meanQ m rs g).2 := red_isS (sum_SpB hv hg)
theorem pay_mean {c : Con} (hc : OkC c) (hv : VT m rs) {g g' : Int → Int} (hg : ∀ i : Nat, i < rs.length → 0 ≤ g i ∧ g i ≤ 20000) (hg' : ∀ i : Nat, i < rs.length → 0 ≤ g' i ∧ g' i ≤ 20000) (h : ∀ i : Nat, i < rs.length → g i ≤ g' i) : payV c (meanQ m rs g).1 (meanQ m rs g).2 ≤ payV c (meanQ m rs g').1 (meanQ m rs g').2 := by
  have hn := hv.n
  have hw := wsum_lt hv (i := rs.length) (Nat.le_refl _)
  exact payV_mono hc (mean_isS hv hg).1 (mean_isS hv hg').1 (red_cross (by omega) (by omega) (Int.mul_le_mul_of_nonneg_right (msum_mono hv h (Nat.le_refl _)) (by omega)))
end
theorem law_TrialBoxed (w : World) (m : Int) (o v : Value) (rs : List (Int × Int × Int)) (ys : List Int) (c : Con) (hR : RdF encR 3 w.heap.size w o rs) (hY : RdF encU32 1 w.heap.size w v ys) (hy : ∀ x ∈ ys, 0 ≤ x ∧ x ≤ 4294967295) : Ret Try.prog 8 [.agg #[.int .i64 m, o], v, .agg #[.int .i64 c.sp, .int .i64 c.st, .int .i64 c.pr, .int .i64 c.pe, .int .i64 c.mo, .int .i64 c.rf, .int .i64 c.rd]].toArray w (.bool true) := by
  refine Ret.of mixed tyTab Try.func8 rfl rfl ?_
  replace hR : RdF encR 3 (fnCx mixed tyTab Try.f8.ntmps w).B (fnCx mixed tyTab Try.f8.ntmps w).w0 o rs := hR
  replace hY : RdF encU32 1 (fnCx mixed tyTab Try.f8.ntmps w).B (fnCx mixed tyTab Try.f8.ntmps w).w0 v ys := hY
  have ho := hR.sl.oc
  have hoy := hY.sl.oc
  refine W.sreg ?_
  refine WO.boxA rfl rfl (fun b1 hb1 => ?_)
  refine WO.boxA rfl rfl (fun b2 hb2 => ?_)
  refine WO.p rfl rfl ?_
  refine WO.nil ?_
  refine W.seq ?_
  refine W.sreg ?_
  refine WO.loadA rfl rfl (Cells.own (Pick.tail (Pick.head))) rfl rfl ?_
  refine WO.callR rfl Try.call34 (fun L w hi => law_fine w m o rs (hR.later hi)) rfl ?_
  refine WO.p rfl rfl (WO.p rfl rfl ?_)
  refine WO.guard_nbl rfl rfl (fun c1 => ?_) (fun c1 => ?_)
  · first
    | (exfalso; omega)
    | (refine WO.no rfl rfl (WO.no rfl rfl (WO.no rfl rfl (WO.p rfl rfl ?_)))
       refine WO.nil ?_
       refine W.cond_t rfl ?_
       refine W.sreg ?_
       refine WO.callR rfl Try.call12 (fun L w hi => law_Works w) rfl ?_
       refine WO.p rfl rfl ?_
       refine WO.nil ?_
       refine W.ret ?_
       first | exact fin.ret (Res.one rfl (RV.tmp rfl)) rfl | (exfalso; omega))
  · first
    | (exfalso; omega)
    | (refine WO.pg rfl rfl rfl (WO.go' rfl ?_)
       refine' WO.len (n := _) rfl rfl ?hs rfl ?_
       case hs => (first | exact hY.sl | exact hR.sl | exact hws | exact hys)
       refine WO.pg rfl rfl rfl (WO.p rfl rfl ?_)
       refine WO.nil ?_
       refine W.cond_bl rfl (fun c2 => ?_) (fun c2 => ?_)
       · first
         | (exfalso; omega)
         | (refine W.sreg ?_
            refine WO.callR rfl Try.call12 (fun L w hi => law_Works w) rfl ?_
            refine WO.p rfl rfl ?_
            refine WO.nil ?_
            refine W.ret ?_
            first | exact fin.ret (Res.one rfl (RV.tmp rfl)) rfl | (exfalso; omega))
       · first
         | (exfalso; omega)
         | (refine W.skip ?_
            refine W.seq ?_
            have hv : VT m rs := VT.of (by omega)
            have hn := hv.n
            have hto := hv.to
            have hT : ∀ i : Nat, i < rs.length → loT rs i ≤ gX (trueL rs ys) i ∧ gX (trueL rs ys) i ≤ hiT rs i := fun i hi => true_gX hv hy hi
            have hT2 : ∀ i : Nat, i < rs.length → 0 ≤ gX (trueL rs ys) i ∧ gX (trueL rs ys) i ≤ 20000 := fun i hi => by have h1 := hT i hi; have h2 := loT_in hv i hi; have h3 := hiT_in hv i hi; omega
            have w2 := wsum_lt hv (i := rs.length) (Nat.le_refl _)
            have u1 := sum_SpB hv (loT_in hv)
            have u2 := sum_SpB hv (hiT_in hv)
            have u3 := sum_SpB hv hT2
            have o1 := msum_mono hv (fun i hi => (hT i hi).1) (Nat.le_refl _)
            have o2 := msum_mono hv (fun i hi => (hT i hi).2) (Nat.le_refl _)
            have j1 := mean_isS hv (loT_in hv)
            have j2 := mean_isS hv (hiT_in hv)
            have j3 := mean_isS hv hT2
            have p1 : OkC c → payV c (meanQ m rs (loT rs)).1 (meanQ m rs (loT rs)).2 ≤ payV c (meanQ m rs (gX (trueL rs ys))).1 (meanQ m rs (gX (trueL rs ys))).2 := fun hc => pay_mean hc hv (loT_in hv) hT2 (fun i hi => (hT i hi).1)
            have p2 : OkC c → payV c (meanQ m rs (gX (trueL rs ys))).1 (meanQ m rs (gX (trueL rs ys))).2 ≤ payV c (meanQ m rs (hiT rs)).1 (meanQ m rs (hiT rs)).2 := fun hc => pay_mean hc hv hT2 (hiT_in hv) (fun i hi => (hT i hi).2)
            have hmr := true_meanR (ys := ys) hv hy
            have hsr := (spanR_0 hto).symm
            obtain ⟨l1, l2, hl⟩ : ∃ a b, meanQ m rs (loT rs) = (a, b) := ⟨_, _, rfl⟩
            obtain ⟨h1, h2, hh⟩ : ∃ a b, meanQ m rs (hiT rs) = (a, b) := ⟨_, _, rfl⟩
            obtain ⟨a1, a2, ha⟩ : ∃ a b, meanQ m rs (gX (trueL rs ys)) = (a, b) := ⟨_, _, rfl⟩
            rw [hl] at j1 p1 hsr
            rw [hh] at j2 p2 hsr
            rw [ha] at j3 p1 p2 hmr
            dsimp only at j1 j2 j3 p1 p2
            refine W.drawD 10 [.b 0 [], .b 1 [], .r 2 [], .c 3 [], .f 4 [], .r 5 [], .r 6 [], .r 7 [], .a 8 7 (.cells #[.int .i64 0, .int .i64 0] 36 (0, 0)), .s 9 []] [] (A0 := []) (Sub.refl _) (by kernel_rfl) ?_ ?_
            · exact (ALok.b (ALok.b (ALok.r (ALok.c (ALok.f (ALok.r (ALok.r (ALok.r (ALok.cons rfl rfl rfl rfl rfl (ALok.s ALok.nil))))))))))
            refine' DT.b rfl rfl rfl ?hq ?_
            case hq =>
              refine WO.loadA rfl rfl (Cells.own (Pick.tail (Pick.head))) rfl rfl ?_
              exact WO.nil ⟨rfl, rfl⟩
            refine' DT.b rfl rfl rfl ?hq ?_
            case hq =>
              refine WO.loadA rfl rfl (Cells.own (Pick.tail (Pick.head))) rfl rfl ?_
              exact WO.nil ⟨rfl, rfl⟩
            refine' DT.r rfl rfl rfl ?hq ?_
            case hq =>
              refine WO.p rfl rfl ?_
              exact WO.nil ⟨rfl, rfl⟩
            refine DT.c [_, _] rfl rfl rfl rfl ?_
            refine WO.call (Post := fun r Hq => Hq = [OwE encI 2 1 r (trueL rs ys)]) rfl Try.call40 (fun L w hi => law_True w m o v rs ys (hR.later hi) (hY.later hi) hv (by omega) hy) rfl ?_
            rintro yv _ rfl
            refine WO.nil ⟨_, [_], rfl, rfl, (Keep.r (Keep.b (Keep.b Keep.nil))), ?_⟩
            refine' DT.f [_, _, _] rfl rfl rfl rfl ?hq ?_
            case hq =>
              refine WO.callR (r := .tuple #[.agg #[.int .i64 a1, .int .i64 a2], .int .i64 0]) rfl Try.call22 (fun L w hi => by have h := c_Mean w m o yv rs (trueL rs ys) (hR.later hi) (RdF.of_ow (e := 2) encI_ok (by repeat (first | exact Pick.head | apply Pick.tail)) hi); rw [hmr] at h; exact h) rfl ?_
              exact WO.nil ⟨rfl, rfl⟩
            refine' DT.r rfl rfl rfl ?hq ?_
            case hq =>
              refine WO.p rfl rfl ?_
              exact WO.nil ⟨rfl, rfl⟩
            refine' DT.r rfl rfl rfl ?hq ?_
            case hq =>
              refine WO.p rfl rfl ?_
              exact WO.nil ⟨rfl, rfl⟩
            refine' DT.r rfl rfl rfl ?hq ?_
            case hq =>
              refine WO.p rfl rfl ?_
              exact WO.nil ⟨rfl, rfl⟩
            refine DT.a (fun b3 => ?_)
            refine DT.s [_, _, _, _] rfl rfl rfl ?_
            refine WO.storeA rfl rfl rfl rfl Pick.head rfl rfl ?_
            refine WO.nil ⟨[_, _], rfl, rfl, (Keep.a (Keep.r (Keep.r (Keep.r (Keep.f (Keep.c (Keep.r (Keep.b (Keep.b Keep.nil))))))))), ?_⟩
            refine DT.nil [_, _, _, _] rfl ?_
            refine WO.p rfl rfl ?_
            refine WO.nil ?_
            refine W.sreg ?_
            refine WO.loadA rfl rfl (Cells.own (Pick.tail (Pick.tail (Pick.tail (Pick.head))))) rfl rfl ?_
            refine WO.callR (r := .tuple #[.agg #[.int .i64 l1, .int .i64 l2, .int .i64 h1, .int .i64 h2], .int .i64 0]) rfl Try.call24 (fun L w hi => by have h := c_Span w m o rs (hR.later hi); rw [hsr] at h; exact h) rfl ?_
            refine WO.p rfl rfl (WO.p rfl rfl (WO.p rfl rfl ?_))
            refine WO.alloc rfl rfl rfl (fun b4 hb4 => ?_)
            refine WO.storeA rfl rfl rfl rfl Pick.head rfl rfl (WO.p rfl rfl ?_)
            refine WO.nil ?_
            refine W.sreg ?_
            refine WO.loadA rfl rfl (Cells.own (Pick.tail (Pick.tail (Pick.tail (Pick.tail (Pick.head)))))) rfl rfl ?_
            refine WO.call (Post := fun r Hq => ∃ x : Value, r = .tuple #[x, .int .i64 0] ∧ Hq = [OwE encI 2 1 x (wL m rs)]) rfl Try.call13 (fun L w hi => by have h := c_Weights w m o rs (hR.later hi); rw [hto, show wA m rs = wL m rs by unfold wA; rw [if_pos hto]] at h; exact h) rfl ?_
            rintro _ _ ⟨wv, rfl, rfl⟩
            refine WO.p rfl rfl (WO.p rfl rfl (WO.p rfl rfl (WO.p rfl rfl (WO.p rfl rfl ?_))))
            refine WO.nil ?_
            refine W.seq ?_
            refine W.fact (OwE.sl (enc := encI) (e := 2) (sz := 1) (xs := wL m rs) (by repeat (first | exact Pick.head | apply Pick.tail))) (fun hws => ?_)
            rw [wL_len] at hws
            refine W.sreg ?_
            refine WO.p rfl rfl (WO.p rfl rfl (WO.p rfl rfl ?_))
            refine WO.guard_bl rfl rfl (fun c3 => ?_) (fun c3 => ?_)
            · first
              | (exfalso; omega)
              | (refine WO.no rfl rfl (WO.no rfl rfl (WO.p rfl rfl (WO.p rfl rfl (WO.no rfl rfl (WO.no rfl rfl (WO.p rfl rfl (WO.p rfl rfl (WO.no rfl rfl (WO.no rfl rfl (WO.no rfl rfl (WO.no rfl rfl ?_)))))))))))
                 refine WO.no rfl rfl (WO.no rfl rfl (WO.p rfl rfl (WO.p rfl rfl (WO.no rfl rfl (WO.no rfl rfl (WO.no rfl rfl (WO.p rfl rfl (WO.p rfl rfl (WO.no rfl rfl (WO.no rfl rfl (WO.no rfl rfl ?_)))))))))))
                 refine WO.no rfl rfl (WO.p rfl rfl (WO.p rfl rfl (WO.no rfl rfl (WO.no rfl rfl (WO.no rfl rfl (WO.no rfl rfl (WO.p rfl rfl ?_)))))))
                 refine WO.nil ?_
                 refine W.cond_t rfl ?_
                 refine W.sreg ?_
                 refine WO.p rfl rfl ?_
                 refine WO.nil ?_
                 refine W.ret ?_
                 first | exact fin.ret (Res.one rfl (RV.tmp rfl)) rfl | (exfalso; omega))
            · first
              | (exfalso; omega)
              | (refine WO.pg rfl rfl rfl (WO.pg rfl rfl rfl (WO.p rfl rfl (WO.p rfl rfl ?_)))
                 refine WO.guard_bl rfl rfl (fun c4 => ?_) (fun c4 => ?_)
                 · first
                   | (exfalso; omega)
                   | (refine WO.no rfl rfl (WO.no rfl rfl (WO.p rfl rfl (WO.p rfl rfl (WO.no rfl rfl (WO.no rfl rfl (WO.no rfl rfl (WO.no rfl rfl (WO.no rfl rfl (WO.no rfl rfl (WO.p rfl rfl (WO.p rfl rfl ?_)))))))))))
                      refine WO.no rfl rfl (WO.no rfl rfl (WO.no rfl rfl (WO.p rfl rfl (WO.p rfl rfl (WO.no rfl rfl (WO.no rfl rfl (WO.no rfl rfl (WO.no rfl rfl (WO.p rfl rfl (WO.p rfl rfl (WO.no rfl rfl ?_)))))))))))
                      refine WO.no rfl rfl (WO.no rfl rfl (WO.no rfl rfl (WO.p rfl rfl ?_)))
                      refine WO.nil ?_
                      refine W.cond_t rfl ?_
                      refine W.sreg ?_
                      refine WO.p rfl rfl ?_
                      refine WO.nil ?_
                      refine W.ret ?_
                      first | exact fin.ret (Res.one rfl (RV.tmp rfl)) rfl | (exfalso; omega))
                 · first
                   | (exfalso; omega)
                   | (refine WO.pg rfl rfl rfl (WO.pg rfl rfl rfl (WO.p rfl rfl (WO.p rfl rfl ?_)))
                      refine WO.guard_bl rfl rfl (fun c5 => ?_) (fun c5 => ?_)
                      · first
                        | (exfalso; omega)
                        | (refine WO.no rfl rfl (WO.no rfl rfl (WO.no rfl rfl (WO.no rfl rfl (WO.no rfl rfl (WO.no rfl rfl (WO.p rfl rfl (WO.p rfl rfl (WO.no rfl rfl (WO.no rfl rfl (WO.no rfl rfl (WO.p rfl rfl ?_)))))))))))
                           refine WO.p rfl rfl (WO.no rfl rfl (WO.no rfl rfl (WO.no rfl rfl (WO.no rfl rfl (WO.p rfl rfl (WO.p rfl rfl (WO.no rfl rfl (WO.no rfl rfl (WO.no rfl rfl (WO.no rfl rfl (WO.p rfl rfl ?_)))))))))))
                           refine WO.nil ?_
                           refine W.cond_t rfl ?_
                           refine W.sreg ?_
                           refine WO.p rfl rfl ?_
                           refine WO.nil ?_
                           refine W.ret ?_
                           first | exact fin.ret (Res.one rfl (RV.tmp rfl)) rfl | (exfalso; omega))
                      · first
                        | (exfalso; omega)
                        | (refine WO.pg rfl rfl rfl (WO.go' rfl ?_)
                           refine' WO.len (n := _) rfl rfl ?hs rfl ?_
                           case hs => (first | exact hY.sl | exact hR.sl | exact hws | exact hys)
                           refine WO.go' rfl (WO.fieldL rfl rfl rfl (WO.go' rfl (WO.load rfl rfl (Cell.own (Pick.tail (Pick.tail (Pick.tail (Pick.tail (Pick.tail (Pick.head)))))) rfl) rfl (WO.go' rfl ?_))))
                           refine' WO.len (n := _) rfl rfl ?hs rfl ?_
                           case hs => (first | exact hY.sl | exact hR.sl | exact hws | exact hys)
                           refine WO.pg rfl rfl rfl (WO.p rfl rfl (WO.p rfl rfl ?_))
                           refine WO.guard_bl rfl rfl (fun c6 => ?_) (fun c6 => ?_)
                           · first
                             | (exfalso; omega)
                             | (refine WO.no rfl rfl (WO.no rfl rfl (WO.no rfl rfl (WO.p rfl rfl (WO.p rfl rfl (WO.no rfl rfl (WO.no rfl rfl (WO.no rfl rfl (WO.no rfl rfl (WO.p rfl rfl (WO.p rfl rfl (WO.no rfl rfl ?_)))))))))))
                                refine WO.no rfl rfl (WO.no rfl rfl (WO.no rfl rfl (WO.p rfl rfl ?_)))
                                refine WO.nil ?_
                                refine W.cond_t rfl ?_
                                refine W.sreg ?_
                                refine WO.p rfl rfl ?_
                                refine WO.nil ?_
                                refine W.ret ?_
                                first | exact fin.ret (Res.one rfl (RV.tmp rfl)) rfl | (exfalso; omega))
                           · first
                             | (exfalso; omega)
                             | (refine WO.go' rfl (WO.loadA rfl rfl (Cells.own (Pick.tail (Pick.tail (Pick.head)))) rfl rfl (WO.go' rfl ?_))
                                refine WO.callR (r := .bool true) rfl Try.call41 (fun L w hi => by have h := ref_IsSpeed w a1 a2; rw [isSB_t.2 j3] at h; exact h) rfl ?_
                                refine WO.pg rfl rfl rfl (WO.p rfl rfl (WO.p rfl rfl (WO.go' rfl (WO.field0 rfl rfl rfl (WO.go' rfl (WO.loadA rfl rfl (Cells.ownAt (n := 2) (Pick.tail (Pick.head)) rfl) rfl rfl (WO.go' rfl ?_)))))))
                                refine WO.callR (r := .bool true) rfl Try.call41 (fun L w hi => by have h := ref_IsSpeed w l1 l2; rw [isSB_t.2 j1] at h; exact h) rfl ?_
                                refine WO.pg rfl rfl rfl (WO.p rfl rfl (WO.p rfl rfl (WO.go' rfl (WO.fieldL rfl rfl rfl (WO.go' rfl (WO.loadA rfl rfl (Cells.ownAt (n := 2) (Pick.tail (Pick.head)) rfl) rfl rfl (WO.go' rfl ?_)))))))
                                refine WO.callR (r := .bool true) rfl Try.call41 (fun L w hi => by have h := ref_IsSpeed w h1 h2; rw [isSB_t.2 j2] at h; exact h) rfl ?_
                                refine WO.pg rfl rfl rfl (WO.p rfl rfl ?_)
                                refine WO.nil ?_
                                refine W.cond_f rfl ?_
                                refine W.skip ?_
                                refine W.sreg ?_
                                refine WO.p rfl rfl (WO.p rfl rfl (WO.p rfl rfl (WO.p rfl rfl ?_)))
                                refine WO.nil ?_
                                refine W.sreg ?_
                                refine WO.loadA rfl rfl (Cells.own (Pick.tail (Pick.tail (Pick.tail (Pick.tail (Pick.tail (Pick.head))))))) rfl rfl (WO.p rfl rfl ?_)
                                refine WO.call (Post := fun r Hq => Hq = [OwE encI 2 1 r (trueL rs ys)]) rfl Try.call40 (fun L w hi => law_True w m o v rs ys (hR.later hi) (hY.later hi) hv (by omega) hy) rfl ?_
                                rintro zv _ rfl
                                refine WO.p rfl rfl ?_
                                refine WO.nil ?_
                                refine W.seq ?_
                                refine W.fact (OwE.sl (enc := encI) (e := 2) (sz := 1) (v := zv) (xs := trueL rs ys) (by repeat (first | exact Pick.head | apply Pick.tail))) (fun hys => ?_)
                                rw [trueL_len] at hys
                                refine W.sreg ?_
                                refine WO.p rfl rfl ?_
                                refine WO.nil ?_
                                refine W.block ?_
                                refine W.loop5 (fun (i : Nat) (tot : Int) (lo : Int) (hi : Int) (mid : Int) => i ≤ rs.length ∧ tot = wsum m rs i ∧ lo = msum m rs (loT rs) i ∧ hi = msum m rs (hiT rs) i ∧ mid = msum m rs (gX (trueL rs ys)) i)
                                  (fun (i : Nat) (tot : Int) (lo : Int) (hi : Int) (mid : Int) => [(18, .int .i64 (i : Int)), (17, zv), (16, .int .i64 mid), (15, .int .i64 hi), (14, .int .i64 lo), (13, .int .i64 tot), (11, wv), (9, .pointer (some ⟨b4, 0, none⟩)), (7, .pointer (some ⟨b3, 0, none⟩)), (5, .pointer (some ⟨b2, 0, none⟩)), (3, .pointer (some ⟨b1, 0, none⟩))])
                                  (fun (i : Nat) (tot : Int) (lo : Int) (hi : Int) (mid : Int) => [pt b1 (.cells #[.int .i64 m, o] 24 (0, 0)), pt b2 (.cells #[.int .i64 c.sp, .int .i64 c.st, .int .i64 c.pr, .int .i64 c.pe, .int .i64 c.mo, .int .i64 c.rf, .int .i64 c.rd] 45 (0, 0)), pt b3 (.cells #[.int .i64 a1, .int .i64 a2] 36 (0, 0)), pt b4 (.cells #[.int .i64 l1, .int .i64 l2, .int .i64 h1, .int .i64 h2] 40 (0, 0)), OwE encI 2 1 wv (wL m rs), OwE encI 2 1 zv (trueL rs ys)])
                                  (fun (i : Nat) (tot : Int) (lo : Int) (hi : Int) (mid : Int) => rs.length - i) 0 0 0 0 0
                                  (by exact ⟨by omega, rfl, rfl, rfl, rfl⟩) ⟨rfl, rfl, rfl, rfl, rfl, rfl, rfl, rfl, rfl, rfl, rfl, trivial⟩ (by repeat (first | exact Sub.nil | refine Sub.cons (by repeat (first | exact Pick.head | apply Pick.tail)) ?_)) ?_
                                rintro i tot lo hi mid ⟨hi0, e1, e2, e3, e4⟩
                                refine W.seq ?_
                                refine W.sreg ?_
                                refine WO.p rfl rfl (WO.p rfl rfl ?_)
                                refine' WO.len (n := _) rfl rfl ?hs rfl ?_
                                case hs => (first | exact hY.sl | exact hR.sl | exact hws | exact hys)
                                refine WO.p rfl rfl ?_
                                refine WO.nil ?_
                                refine W.cond_bl rfl (fun c7 => ?_) (fun c7 => ?_)
                                · first
                                  | (exfalso; omega)
                                  | (refine W.skip ?_
                                     refine W.seq ?_
                                     refine W.block ?_
                                     refine W.seq ?_
                                     have hw := wts_lt hv (i := i) (by omega)
                                     have k0 := wsum_lt hv (i := i) (by omega)
                                     have k1 := msum_b hv (loT_in hv) (i := i) (by omega)
                                     have k2 := msum_b hv (hiT_in hv) (i := i) (by omega)
                                     have k3 := msum_b hv hT2 (i := i) (by omega)
                                     rw [show loT rs (i : Int) = (rs.getD i r0).2.1 from rfl] at k1
                                     rw [show hiT rs (i : Int) = (rs.getD i r0).2.2 from rfl] at k2
                                     rw [gX_at, trueL_at (by omega)] at k3
                                     refine W.sreg ?_
                                     refine WO.p rfl rfl (WO.p rfl rfl ?_)
                                     refine' WO.indexAddr (n := _) (i := _) rfl rfl rfl ?hs ?h1 rfl ?_
                                     case hs => (first | exact hY.sl | exact hR.sl | exact hws | exact hys)
                                     case h1 => (first | omega | (simp; omega))
                                     refine' WO.load (v := _) rfl rfl ?hc rfl ?_
                                     case hc => (first | (refine owE_cellS (e := 2) (i := i) (xs := wL m rs) (x := wts m rs i) ?_ (by rw [wL_len]; omega) (wL_at (by omega)); (repeat (first | exact Sub.nil | refine Sub.cons (by repeat (first | exact Pick.head | apply Pick.tail)) ?_))))
                                     refine WO.p rfl rfl (WO.p rfl rfl ?_)
                                     refine WO.guard_bl rfl rfl (fun c8 => ?_) (fun c8 => ?_)
                                     · first
                                       | (exfalso; omega)
                                       | (refine WO.no rfl rfl (WO.no rfl rfl (WO.no rfl rfl (WO.no rfl rfl (WO.no rfl rfl (WO.p rfl rfl ?_)))))
                                          refine WO.nil ?_
                                          refine W.cond_t rfl ?_
                                          refine W.sreg ?_
                                          refine WO.p rfl rfl ?_
                                          refine WO.nil ?_
                                          refine W.ret ?_
                                          first | exact fin.ret (Res.one rfl (RV.tmp rfl)) rfl | (exfalso; omega))
                                     · first
                                       | (exfalso; omega)
                                       | (refine WO.pg rfl rfl rfl (WO.pg rfl rfl rfl (WO.go' rfl ?_))
                                          refine' WO.indexAddr (n := _) (i := _) rfl rfl rfl ?hs ?h1 rfl ?_
                                          case hs => (first | exact hY.sl | exact hR.sl | exact hws | exact hys)
                                          case h1 => (first | omega | (simp; omega))
                                          refine WO.go' rfl ?_
                                          refine' WO.load (v := _) rfl rfl ?hc rfl ?_
                                          case hc => (first | (refine owE_cellS (e := 2) (i := i) (xs := wL m rs) (x := wts m rs i) ?_ (by rw [wL_len]; omega) (wL_at (by omega)); (repeat (first | exact Sub.nil | refine Sub.cons (by repeat (first | exact Pick.head | apply Pick.tail)) ?_))))
                                          refine WO.pg rfl rfl rfl (WO.p rfl rfl ?_)
                                          refine WO.nil ?_
                                          refine W.cond_bl rfl (fun c9 => ?_) (fun c9 => ?_)
                                          · first
                                            | (exfalso; omega)
                                            | (refine W.sreg ?_
                                               refine WO.p rfl rfl ?_
                                               refine WO.nil ?_
                                               refine W.ret ?_
                                               first | exact fin.ret (Res.one rfl (RV.tmp rfl)) rfl | (exfalso; omega))
                                          · first
                                            | (exfalso; omega)
                                            | (refine W.skip ?_
                                               refine W.sreg ?_
                                               refine WO.p rfl rfl (WO.p rfl rfl (WO.p rfl rfl ?_))
                                               refine' WO.indexAddr (n := _) (i := _) rfl rfl rfl ?hs ?h1 rfl ?_
                                               case hs => (first | exact hY.sl | exact hR.sl | exact hws | exact hys)
                                               case h1 => (first | omega | (simp; omega))
                                               refine' WO.load (v := _) rfl rfl ?hc rfl ?_
                                               case hc => (first | (refine owE_cellS (e := 2) (i := i) (xs := wL m rs) (x := wts m rs i) ?_ (by rw [wL_len]; omega) (wL_at (by omega)); (repeat (first | exact Sub.nil | refine Sub.cons (by repeat (first | exact Pick.head | apply Pick.tail)) ?_))))
                                               refine WO.ar rfl rfl rfl (by (first | (unfold in64; omega) | (unfold in64; omega))) rfl (WO.p rfl rfl ?_)
                                               refine WO.nil ?_
                                               refine W.seq ?_
                                               refine W.drawD 13 [.r 0 [], .r 1 [], .r 2 [], .r 3 [], .b 4 [], .r 5 [], .b 6 [], .r 7 [], .r 8 [], .r 9 [], .r 10 [], .b 11 [], .r 12 []] [] (A0 := []) (Sub.refl _) (by kernel_rfl) ?_ ?_
                                               · exact (ALok.r (ALok.r (ALok.r (ALok.r (ALok.b (ALok.r (ALok.b (ALok.r (ALok.r (ALok.r (ALok.r (ALok.b (ALok.r ALok.nil)))))))))))))
                                               refine' DT.r rfl rfl rfl ?hq ?_
                                               case hq =>
                                                 refine WO.p rfl rfl ?_
                                                 exact WO.nil ⟨rfl, rfl⟩
                                               refine' DT.r rfl rfl rfl ?hq ?_
                                               case hq =>
                                                 refine WO.p rfl rfl ?_
                                                 exact WO.nil ⟨rfl, rfl⟩
                                               refine' DT.r rfl rfl rfl ?hq ?_
                                               case hq =>
                                                 refine WO.p rfl rfl ?_
                                                 exact WO.nil ⟨rfl, rfl⟩
                                               refine' DT.r rfl rfl rfl ?hq ?_
                                               case hq =>
                                                 refine' WO.indexAddr (n := _) (i := _) rfl rfl rfl ?hs ?h1 rfl ?_
                                                 case hs => (first | exact hY.sl | exact hR.sl | exact hws | exact hys)
                                                 case h1 => (first | omega | (simp; omega))
                                                 exact WO.nil ⟨rfl, rfl⟩
                                               refine' DT.b rfl rfl rfl ?hq ?_
                                               case hq =>
                                                 refine' WO.load (v := _) rfl rfl ?hc rfl ?_
                                                 case hc => (first | (refine owE_cellS (e := 2) (i := i) (xs := wL m rs) (x := wts m rs i) ?_ (by rw [wL_len]; omega) (wL_at (by omega)); (repeat (first | exact Sub.nil | refine Sub.cons (by repeat (first | exact Pick.head | apply Pick.tail)) ?_))))
                                                 exact WO.nil ⟨rfl, rfl⟩
                                               refine' DT.r rfl rfl rfl ?hq ?_
                                               case hq =>
                                                 refine WO.fieldL rfl rfl rfl ?_
                                                 exact WO.nil ⟨rfl, rfl⟩
                                               refine' DT.b rfl rfl rfl ?hq ?_
                                               case hq =>
                                                 refine WO.load rfl rfl (Cell.own Pick.head rfl) rfl ?_
                                                 exact WO.nil ⟨rfl, rfl⟩
                                               refine' DT.r rfl rfl rfl ?hq ?_
                                               case hq =>
                                                 refine WO.p rfl rfl ?_
                                                 exact WO.nil ⟨rfl, rfl⟩
                                               refine' DT.r rfl rfl rfl ?hq ?_
                                               case hq =>
                                                 refine' WO.indexAddr (n := _) (i := _) rfl rfl rfl ?hs ?h1 rfl ?_
                                                 case hs => (first | exact hY.sl | exact hR.sl | exact hws | exact hys)
                                                 case h1 => (first | omega | (simp; omega))
                                                 exact WO.nil ⟨rfl, rfl⟩
                                               refine' DT.r rfl rfl rfl ?hq ?_
                                               case hq =>
                                                 refine WO.field rfl rfl rfl ?_
                                                 exact WO.nil ⟨rfl, rfl⟩
                                               refine' DT.r rfl rfl rfl ?hq ?_
                                               case hq =>
                                                 refine WO.field0 rfl rfl rfl ?_
                                                 exact WO.nil ⟨rfl, rfl⟩
                                               refine' DT.b rfl rfl rfl ?hq ?_
                                               case hq =>
                                                 refine' WO.load (v := _) rfl rfl ?hc rfl ?_
                                                 case hc => (first | (refine hR.cellAt ?_ r0 ?_ <;> first | rfl | omega))
                                                 exact WO.nil ⟨rfl, rfl⟩
                                               refine' DT.r rfl rfl rfl ?hq ?_
                                               case hq =>
                                                 refine WO.ar rfl rfl rfl (by (first | (unfold in64; omega) | (unfold in64; omega))) rfl ?_
                                                 exact WO.nil ⟨rfl, rfl⟩
                                               refine DT.nil [_, _, _, _, _, _] rfl ?_
                                               refine WO.ar rfl rfl rfl (by (first | (unfold in64; omega) | (unfold in64; omega))) rfl (WO.p rfl rfl ?_)
                                               refine WO.nil ?_
                                               refine W.seq ?_
                                               refine W.drawD 13 [.r 0 [], .r 1 [], .r 2 [], .r 3 [], .b 4 [], .r 5 [], .b 6 [], .r 7 [], .r 8 [], .r 9 [], .r 10 [], .b 11 [], .r 12 []] [] (A0 := []) (Sub.refl _) (by kernel_rfl) ?_ ?_
                                               · exact (ALok.r (ALok.r (ALok.r (ALok.r (ALok.b (ALok.r (ALok.b (ALok.r (ALok.r (ALok.r (ALok.r (ALok.b (ALok.r ALok.nil)))))))))))))
                                               refine' DT.r rfl rfl rfl ?hq ?_
                                               case hq =>
                                                 refine WO.p rfl rfl ?_
                                                 exact WO.nil ⟨rfl, rfl⟩
                                               refine' DT.r rfl rfl rfl ?hq ?_
                                               case hq =>
                                                 refine WO.p rfl rfl ?_
                                                 exact WO.nil ⟨rfl, rfl⟩
                                               refine' DT.r rfl rfl rfl ?hq ?_
                                               case hq =>
                                                 refine WO.p rfl rfl ?_
                                                 exact WO.nil ⟨rfl, rfl⟩
                                               refine' DT.r rfl rfl rfl ?hq ?_
                                               case hq =>
                                                 refine' WO.indexAddr (n := _) (i := _) rfl rfl rfl ?hs ?h1 rfl ?_
                                                 case hs => (first | exact hY.sl | exact hR.sl | exact hws | exact hys)
                                                 case h1 => (first | omega | (simp; omega))
                                                 exact WO.nil ⟨rfl, rfl⟩
                                               refine' DT.b rfl rfl rfl ?hq ?_
                                               case hq =>
                                                 refine' WO.load (v := _) rfl rfl ?hc rfl ?_
                                                 case hc => (first | (refine owE_cellS (e := 2) (i := i) (xs := wL m rs) (x := wts m rs i) ?_ (by rw [wL_len]; omega) (wL_at (by omega)); (repeat (first | exact Sub.nil | refine Sub.cons (by repeat (first | exact Pick.head | apply Pick.tail)) ?_))))
                                                 exact WO.nil ⟨rfl, rfl⟩
                                               refine' DT.r rfl rfl rfl ?hq ?_
                                               case hq =>
                                                 refine WO.fieldL rfl rfl rfl ?_
                                                 exact WO.nil ⟨rfl, rfl⟩
                                               refine' DT.b rfl rfl rfl ?hq ?_
                                               case hq =>
                                                 refine WO.load rfl rfl (Cell.own Pick.head rfl) rfl ?_
                                                 exact WO.nil ⟨rfl, rfl⟩
                                               refine' DT.r rfl rfl rfl ?hq ?_
                                               case hq =>
                                                 refine WO.p rfl rfl ?_
                                                 exact WO.nil ⟨rfl, rfl⟩
                                               refine' DT.r rfl rfl rfl ?hq ?_
                                               case hq =>
                                                 refine' WO.indexAddr (n := _) (i := _) rfl rfl rfl ?hs ?h1 rfl ?_
                                                 case hs => (first | exact hY.sl | exact hR.sl | exact hws | exact hys)
                                                 case h1 => (first | omega | (simp; omega))
                                                 exact WO.nil ⟨rfl, rfl⟩
                                               refine' DT.r rfl rfl rfl ?hq ?_
                                               case hq =>
                                                 refine WO.field rfl rfl rfl ?_
                                                 exact WO.nil ⟨rfl, rfl⟩
                                               refine' DT.r rfl rfl rfl ?hq ?_
                                               case hq =>
                                                 refine WO.field rfl rfl rfl ?_
                                                 exact WO.nil ⟨rfl, rfl⟩
                                               refine' DT.b rfl rfl rfl ?hq ?_
                                               case hq =>
                                                 refine' WO.load (v := _) rfl rfl ?hc rfl ?_
                                                 case hc => (first | (refine hR.cellAt2 ?_ r0 ?_ <;> first | rfl | omega))
                                                 exact WO.nil ⟨rfl, rfl⟩
                                               refine' DT.r rfl rfl rfl ?hq ?_
                                               case hq =>
                                                 refine WO.ar rfl rfl rfl (by (first | (unfold in64; omega) | (unfold in64; omega))) rfl ?_
                                                 exact WO.nil ⟨rfl, rfl⟩
                                               refine DT.nil [_, _, _, _, _, _] rfl ?_
                                               refine WO.ar rfl rfl rfl (by (first | (unfold in64; omega) | (unfold in64; omega))) rfl (WO.p rfl rfl ?_)
                                               refine WO.nil ?_
                                               refine W.drawD 10 [.r 0 [], .r 1 [], .r 2 [], .r 3 [], .b 4 [], .r 5 [], .r 6 [], .r 7 [], .b 8 [], .r 9 []] [] (A0 := []) (Sub.refl _) (by kernel_rfl) ?_ ?_
                                               · exact (ALok.r (ALok.r (ALok.r (ALok.r (ALok.b (ALok.r (ALok.r (ALok.r (ALok.b (ALok.r ALok.nil))))))))))
                                               refine' DT.r rfl rfl rfl ?hq ?_
                                               case hq =>
                                                 refine WO.p rfl rfl ?_
                                                 exact WO.nil ⟨rfl, rfl⟩
                                               refine' DT.r rfl rfl rfl ?hq ?_
                                               case hq =>
                                                 refine WO.p rfl rfl ?_
                                                 exact WO.nil ⟨rfl, rfl⟩
                                               refine' DT.r rfl rfl rfl ?hq ?_
                                               case hq =>
                                                 refine WO.p rfl rfl ?_
                                                 exact WO.nil ⟨rfl, rfl⟩
                                               refine' DT.r rfl rfl rfl ?hq ?_
                                               case hq =>
                                                 refine' WO.indexAddr (n := _) (i := _) rfl rfl rfl ?hs ?h1 rfl ?_
                                                 case hs => (first | exact hY.sl | exact hR.sl | exact hws | exact hys)
                                                 case h1 => (first | omega | (simp; omega))
                                                 exact WO.nil ⟨rfl, rfl⟩
                                               refine' DT.b rfl rfl rfl ?hq ?_
                                               case hq =>
                                                 refine' WO.load (v := _) rfl rfl ?hc rfl ?_
                                                 case hc => (first | (refine owE_cellS (e := 2) (i := i) (xs := wL m rs) (x := wts m rs i) ?_ (by rw [wL_len]; omega) (wL_at (by omega)); (repeat (first | exact Sub.nil | refine Sub.cons (by repeat (first | exact Pick.head | apply Pick.tail)) ?_))))
                                                 exact WO.nil ⟨rfl, rfl⟩
                                               refine' DT.r rfl rfl rfl ?hq ?_
                                               case hq =>
                                                 refine WO.p rfl rfl ?_
                                                 exact WO.nil ⟨rfl, rfl⟩
                                               refine' DT.r rfl rfl rfl ?hq ?_
                                               case hq =>
                                                 refine WO.p rfl rfl ?_
                                                 exact WO.nil ⟨rfl, rfl⟩
                                               refine' DT.r rfl rfl rfl ?hq ?_
                                               case hq =>
                                                 refine' WO.indexAddr (n := _) (i := _) rfl rfl rfl ?hs ?h1 rfl ?_
                                                 case hs => (first | exact hys)
                                                 case h1 => (first | omega | (simp; omega))
                                                 exact WO.nil ⟨rfl, rfl⟩
                                               refine' DT.b rfl rfl rfl ?hq ?_
                                               case hq =>
                                                 refine' WO.load (v := _) rfl rfl ?hc rfl ?_
                                                 case hc => (first | (refine owE_cellS (e := 2) (i := i) (xs := trueL rs ys) (x := trueV rs ys i) ?_ (by rw [trueL_len]; omega) (trueL_at (by omega)); (repeat (first | exact Sub.nil | refine Sub.cons (by repeat (first | exact Pick.head | apply Pick.tail)) ?_))))
                                                 exact WO.nil ⟨rfl, rfl⟩
                                               refine' DT.r rfl rfl rfl ?hq ?_
                                               case hq =>
                                                 refine WO.ar rfl rfl rfl (by (first | (unfold in64; omega) | (unfold in64; omega))) rfl ?_
                                                 exact WO.nil ⟨rfl, rfl⟩
                                               refine DT.nil [_, _, _, _, _, _] rfl ?_
                                               refine WO.ar rfl rfl rfl (by (first | (unfold in64; omega) | (unfold in64; omega))) rfl (WO.p rfl rfl ?_)
                                               refine WO.nil ?_
                                               refine W.region ?_
                                               refine WO.p rfl rfl (WO.ar rfl rfl rfl (by (first | (unfold in64; omega) | (unfold in64; omega))) rfl (WO.p rfl rfl ?_))
                                               refine WO.nil ?_
                                               refine' ⟨i + 1, _, _, _, _, ?hp, ?hmu, ⟨rfl, rfl, rfl, rfl, rfl, rfl, rfl, rfl, rfl, rfl, rfl, trivial⟩, ?hS⟩
                                               case hS => repeat (first | exact Sub.nil | refine Sub.cons (by repeat (first | exact Pick.head | apply Pick.tail)) ?_)
                                               case hp => exact ⟨by omega, by rw [e1]; rfl, by rw [e2]; rfl, by rw [e3]; rfl, by rw [e4, ← trueL_at (ys := ys) (show i < rs.length by omega), ← gX_at]; rfl⟩
                                               case hmu => omega)))
                                · first
                                  | (exfalso; omega)
                                  | (refine W.exit (blk_same ?_)
                                     refine W.seq ?_
                                     refine W.seq ?_
                                     obtain rfl : i = rs.length := by omega
                                     subst e1
                                     subst e2
                                     subst e3
                                     subst e4
                                     have q1 := u1.1
                                     have q2 := u1.2
                                     have q3 := u2.2
                                     have q4 := u3.2
                                     refine W.drawD 29 [.r 0 [], .b 1 [], .r 2 [], .r 3 [], .b 4 [], .r 5 [], .r 6 [], .r 7 [], .b 8 [], .r 9 [], .r 10 [], .b 11 [], .r 12 [], .r 13 [], .r 14 [], .b 15 [], .r 16 [], .r 17 [], .b 18 [], .r 19 [], .r 20 [], .r 21 [], .r 22 [], .r 23 [], .r 24 [], .r 25 [], .r 26 [], .r 27 [], .r 28 []] [] (A0 := []) (Sub.refl _) (by kernel_rfl) ?_ ?_
                                     · exact (ALok.r (ALok.b (ALok.r (ALok.r (ALok.b (ALok.r (ALok.r (ALok.r (ALok.b (ALok.r (ALok.r (ALok.b (ALok.r (ALok.r (ALok.r (ALok.b (ALok.r (ALok.r (ALok.b (ALok.r (ALok.r (ALok.r (ALok.r (ALok.r (ALok.r (ALok.r (ALok.r (ALok.r (ALok.r ALok.nil)))))))))))))))))))))))))))))
                                     refine' DT.r rfl rfl rfl ?hq ?_
                                     case hq =>
                                       refine WO.field0 rfl rfl rfl ?_
                                       exact WO.nil ⟨rfl, rfl⟩
                                     refine' DT.b rfl rfl rfl ?hq ?_
                                     case hq =>
                                       refine WO.loadA rfl rfl (Cells.ownAt (n := 2) (Pick.tail (Pick.tail (Pick.tail (Pick.head)))) rfl) rfl rfl ?_
                                       exact WO.nil ⟨rfl, rfl⟩
                                     refine' DT.r rfl rfl rfl ?hq ?_
                                     case hq =>
                                       refine WO.p rfl rfl ?_
                                       exact WO.nil ⟨rfl, rfl⟩
                                     refine' DT.r rfl rfl rfl ?hq ?_
                                     case hq =>
                                       refine WO.p rfl rfl ?_
                                       exact WO.nil ⟨rfl, rfl⟩
                                     refine' DT.b rfl rfl rfl ?hq ?_
                                     case hq =>
                                       refine WO.callR (r := .agg #[.int .i64 l1, .int .i64 l2]) rfl Try.call42 (fun L w hi => by have h := ref_Fraction w (msum m rs (loT rs) rs.length) (wsum m rs rs.length) (by unfold ab; omega) (by omega) (by unfold in64; omega); rw [show red (msum m rs (loT rs) rs.length) (wsum m rs rs.length) = (l1, l2) from hl] at h; exact h) rfl ?_
                                       exact WO.nil ⟨rfl, rfl⟩
                                     refine' DT.r rfl rfl rfl ?hq ?_
                                     case hq =>
                                       refine WO.eqT rfl rfl (ne36f _ _) rfl ?_
                                       exact WO.nil ⟨rfl, rfl⟩
                                     refine' DT.r rfl rfl rfl ?hq ?_
                                     case hq =>
                                       refine WO.p rfl rfl ?_
                                       exact WO.nil ⟨rfl, rfl⟩
                                     refine' DT.r rfl rfl rfl ?hq ?_
                                     case hq =>
                                       refine WO.go' rfl (WO.fieldL rfl rfl rfl ?_)
                                       exact WO.nil ⟨rfl, rfl⟩
                                     refine' DT.b rfl rfl rfl ?hq ?_
                                     case hq =>
                                       refine WO.go' rfl (WO.loadA rfl rfl (Cells.ownAt (n := 2) (Pick.tail (Pick.tail (Pick.tail (Pick.head)))) rfl) rfl rfl ?_)
                                       exact WO.nil ⟨rfl, rfl⟩
                                     refine' DT.r rfl rfl rfl ?hq ?_
                                     case hq =>
                                       refine WO.pg rfl rfl rfl ?_
                                       exact WO.nil ⟨rfl, rfl⟩
                                     refine' DT.r rfl rfl rfl ?hq ?_
                                     case hq =>
                                       refine WO.pg rfl rfl rfl ?_
                                       exact WO.nil ⟨rfl, rfl⟩
                                     refine' DT.b rfl rfl rfl ?hq ?_
                                     case hq =>
                                       refine WO.go' rfl ?_
                                       refine WO.callR (r := .agg #[.int .i64 h1, .int .i64 h2]) rfl Try.call42 (fun L w hi => by have h := ref_Fraction w (msum m rs (hiT rs) rs.length) (wsum m rs rs.length) (by unfold ab; omega) (by omega) (by unfold in64; omega); rw [show red (msum m rs (hiT rs) rs.length) (wsum m rs rs.length) = (h1, h2) from hh] at h; exact h) rfl ?_
                                       exact WO.nil ⟨rfl, rfl⟩
                                     refine' DT.r rfl rfl rfl ?hq ?_
                                     case hq =>
                                       refine WO.go' rfl ?_
                                       refine WO.eqT rfl rfl (ne36f _ _) rfl ?_
                                       exact WO.nil ⟨rfl, rfl⟩
                                     refine' DT.r rfl rfl rfl ?hq ?_
                                     case hq =>
                                       refine WO.p rfl rfl ?_
                                       exact WO.nil ⟨rfl, rfl⟩
                                     refine' DT.r rfl rfl rfl ?hq ?_
                                     case hq =>
                                       refine WO.p rfl rfl ?_
                                       exact WO.nil ⟨rfl, rfl⟩
                                     refine' DT.b rfl rfl rfl ?hq ?_
                                     case hq =>
                                       refine WO.go' rfl (WO.loadA rfl rfl (Cells.own (Pick.tail (Pick.tail (Pick.head)))) rfl rfl ?_)
                                       exact WO.nil ⟨rfl, rfl⟩
                                     refine' DT.r rfl rfl rfl ?hq ?_
                                     case hq =>
                                       refine WO.pg rfl rfl rfl ?_
                                       exact WO.nil ⟨rfl, rfl⟩
                                     refine' DT.r rfl rfl rfl ?hq ?_
                                     case hq =>
                                       refine WO.pg rfl rfl rfl ?_
                                       exact WO.nil ⟨rfl, rfl⟩
                                     refine' DT.b rfl rfl rfl ?hq ?_
                                     case hq =>
                                       refine WO.go' rfl ?_
                                       refine WO.callR (r := .agg #[.int .i64 a1, .int .i64 a2]) rfl Try.call42 (fun L w hi => by have h := ref_Fraction w (msum m rs (gX (trueL rs ys)) rs.length) (wsum m rs rs.length) (by unfold ab; omega) (by omega) (by unfold in64; omega); rw [show red (msum m rs (gX (trueL rs ys)) rs.length) (wsum m rs rs.length) = (a1, a2) from ha] at h; exact h) rfl ?_
                                       exact WO.nil ⟨rfl, rfl⟩
                                     refine' DT.r rfl rfl rfl ?hq ?_
                                     case hq =>
                                       refine WO.go' rfl ?_
                                       refine WO.eqT rfl rfl (ne36f _ _) rfl ?_
                                       exact WO.nil ⟨rfl, rfl⟩
                                     refine' DT.r rfl rfl rfl ?hq ?_
                                     case hq =>
                                       refine WO.p rfl rfl ?_
                                       exact WO.nil ⟨rfl, rfl⟩
                                     refine' DT.r rfl rfl rfl ?hq ?_
                                     case hq =>
                                       refine WO.p rfl rfl ?_
                                       exact WO.nil ⟨rfl, rfl⟩
                                     refine' DT.r rfl rfl rfl ?hq ?_
                                     case hq =>
                                       refine WO.pg rfl rfl rfl ?_
                                       exact WO.nil ⟨rfl, rfl⟩
                                     refine' DT.r rfl rfl rfl ?hq ?_
                                     case hq =>
                                       refine WO.pg rfl rfl rfl ?_
                                       exact WO.nil ⟨rfl, rfl⟩
                                     refine' DT.r rfl rfl rfl ?hq ?_
                                     case hq =>
                                       refine WO.pg rfl rfl rfl ?_
                                       exact WO.nil ⟨rfl, rfl⟩
                                     refine' DT.r rfl rfl rfl ?hq ?_
                                     case hq =>
                                       refine WO.p rfl rfl ?_
                                       exact WO.nil ⟨rfl, rfl⟩
                                     refine' DT.rB rfl rfl rfl ?hq (fun c10 => ?_) (fun c10 => ?_)
                                     case hq =>
                                       refine WO.p rfl rfl ?_
                                       exact WO.nil ⟨rfl, rfl⟩
                                     · first
                                       | (exfalso; omega)
                                       | (refine' DT.r rfl rfl rfl ?hq ?_
                                          case hq =>
                                            refine WO.no rfl rfl ?_
                                            exact WO.nil ⟨rfl, rfl⟩
                                          refine' DT.r rfl rfl rfl ?hq ?_
                                          case hq =>
                                            refine WO.no rfl rfl ?_
                                            exact WO.nil ⟨rfl, rfl⟩
                                          refine DT.nil [_, _, _, _, _, _] rfl ?_
                                          refine WO.no rfl rfl (WO.p rfl rfl ?_)
                                          refine WO.nil ?_
                                          refine W.cond_t rfl ?_
                                          refine W.sreg ?_
                                          refine WO.p rfl rfl ?_
                                          refine WO.nil ?_
                                          refine W.ret ?_
                                          first | exact fin.ret (Res.one rfl (RV.tmp rfl)) rfl | (exfalso; omega))
                                     · first
                                       | (exfalso; omega)
                                       | (refine' DT.r rfl rfl rfl ?hq ?_
                                          case hq =>
                                            refine WO.pg rfl rfl rfl ?_
                                            exact WO.nil ⟨rfl, rfl⟩
                                          refine' DT.r rfl rfl rfl ?hq ?_
                                          case hq =>
                                            refine WO.pg rfl rfl rfl ?_
                                            exact WO.nil ⟨rfl, rfl⟩
                                          refine DT.nil [_, _, _, _, _, _] rfl ?_
                                          refine WO.pg rfl rfl rfl (WO.p rfl rfl ?_)
                                          refine WO.nil ?_
                                          refine W.cond_bl rfl (fun c11 => ?_) (fun c11 => ?_)
                                          · first
                                            | (exfalso; omega)
                                            | (refine W.sreg ?_
                                               refine WO.p rfl rfl ?_
                                               refine WO.nil ?_
                                               refine W.ret ?_
                                               first | exact fin.ret (Res.one rfl (RV.tmp rfl)) rfl | (exfalso; omega))
                                          · first
                                            | (exfalso; omega)
                                            | (refine W.skip ?_
                                               refine W.seq ?_
                                               refine W.sreg ?_
                                               refine WO.loadA rfl rfl (Cells.own (Pick.tail (Pick.head))) rfl rfl ?_
                                               refine WO.callR (r := .int .i64 (chkC c)) rfl Try.call33 (fun L w hi => ref_CheckContract w c) rfl ?_
                                               refine WO.p rfl rfl ?_
                                               refine WO.nil ?_
                                               refine W.cond_bl rfl (fun c12 => ?_) (fun c12 => ?_)
                                               · first
                                                 | (exfalso; omega)
                                                 | (refine W.sreg ?_
                                                    refine WO.callR rfl Try.call12 (fun L w hi => law_Works w) rfl ?_
                                                    refine WO.p rfl rfl ?_
                                                    refine WO.nil ?_
                                                    refine W.ret ?_
                                                    first | exact fin.ret (Res.one rfl (RV.tmp rfl)) rfl | (exfalso; omega))
                                               · first
                                                 | (exfalso; omega)
                                                 | (refine W.skip ?_
                                                    have hc0 : chkC c = 0 := by omega
                                                    have hc := chkC_of hc0
                                                    have r1 := p1 hc
                                                    have r2 := p2 hc
                                                    refine W.sreg ?_
                                                    refine WO.loadA rfl rfl (Cells.own (Pick.tail (Pick.head))) rfl rfl (WO.loadA rfl rfl (Cells.own (Pick.tail (Pick.tail (Pick.head)))) rfl rfl ?_)
                                                    refine WO.callR (r := .tuple #[.int .i64 (payV c a1 a2), .int .i64 0]) rfl Try.call28 (fun L w hi => by have h := c_Pay w c a1 a2; rw [payR_ok hc0 j3] at h; exact h) rfl ?_
                                                    refine WO.p rfl rfl (WO.p rfl rfl (WO.p rfl rfl (WO.p rfl rfl (WO.p rfl rfl ?_))))
                                                    refine WO.nil ?_
                                                    refine W.sreg ?_
                                                    refine WO.loadA rfl rfl (Cells.own (Pick.tail (Pick.head))) rfl rfl (WO.loadA rfl rfl (Cells.own Pick.head) rfl rfl ?_)
                                                    refine WO.callR (r := .tuple #[.agg #[.int .i64 (payV c l1 l2), .int .i64 (payV c h1 h2)], .int .i64 0]) rfl Try.call30 (fun L w hi => by have h := c_Pays w c m o rs (hR.later hi); rw [← paysR_0 (by omega) (by omega), hl, hh] at h; exact h) rfl ?_
                                                    refine WO.p rfl rfl (WO.p rfl rfl (WO.p rfl rfl ?_))
                                                    refine WO.alloc rfl rfl rfl (fun b5 hb5 => ?_)
                                                    refine WO.storeA rfl rfl rfl rfl Pick.head rfl rfl (WO.p rfl rfl ?_)
                                                    refine WO.nil ?_
                                                    refine W.sreg ?_
                                                    refine WO.p rfl rfl (WO.p rfl rfl (WO.p rfl rfl ?_))
                                                    refine WO.guard_bl rfl rfl (fun c13 => ?_) (fun c13 => ?_)
                                                    · first
                                                      | (exfalso; omega)
                                                      | (refine WO.pg rfl rfl rfl (WO.pg rfl rfl rfl (WO.p rfl rfl (WO.p rfl rfl ?_)))
                                                         refine WO.guard_bl rfl rfl (fun c14 => ?_) (fun c14 => ?_)
                                                         · first
                                                           | (exfalso; omega)
                                                           | (refine WO.pg rfl rfl rfl (WO.go' rfl (WO.field0 rfl rfl rfl (WO.go' rfl (WO.load rfl rfl (Cell.own Pick.head rfl) rfl (WO.pg rfl rfl rfl (WO.p rfl rfl (WO.p rfl rfl ?_)))))))
                                                              refine WO.guard_bl rfl rfl (fun c15 => ?_) (fun c15 => ?_)
                                                              · first
                                                                | (exfalso; omega)
                                                                | (refine WO.pg rfl rfl rfl (WO.go' rfl (WO.fieldL rfl rfl rfl (WO.go' rfl (WO.load rfl rfl (Cell.own Pick.head rfl) rfl (WO.pg rfl rfl rfl (WO.p rfl rfl (WO.p rfl rfl ?_)))))))
                                                                   refine WO.guard_bl rfl rfl (fun c16 => ?_) (fun c16 => ?_)
                                                                   · first
                                                                     | (exfalso; omega)
                                                                     | (refine WO.go' rfl ?_
                                                                        refine WO.callR rfl Try.call12 (fun L w hi => law_Works w) rfl ?_
                                                                        refine WO.p rfl rfl (WO.p rfl rfl ?_)
                                                                        refine WO.nil ?_
                                                                        refine W.ret ?_
                                                                        first | exact fin.ret (Res.one rfl (RV.tmp rfl)) rfl | (exfalso; omega))
                                                                   · first
                                                                     | (exfalso; omega)
                                                                     | (refine WO.no rfl rfl (WO.p rfl rfl (WO.p rfl rfl ?_))
                                                                        refine WO.nil ?_
                                                                        refine W.ret ?_
                                                                        first | exact fin.ret (Res.one rfl (RV.tmp rfl)) rfl | (exfalso; omega)))
                                                              · first
                                                                | (exfalso; omega)
                                                                | (refine WO.no rfl rfl (WO.no rfl rfl (WO.no rfl rfl (WO.no rfl rfl (WO.p rfl rfl (WO.p rfl rfl (WO.no rfl rfl (WO.p rfl rfl (WO.p rfl rfl ?_))))))))
                                                                   refine WO.nil ?_
                                                                   refine W.ret ?_
                                                                   first | exact fin.ret (Res.one rfl (RV.tmp rfl)) rfl | (exfalso; omega)))
                                                         · first
                                                           | (exfalso; omega)
                                                           | (refine WO.no rfl rfl (WO.no rfl rfl (WO.no rfl rfl (WO.no rfl rfl (WO.p rfl rfl (WO.p rfl rfl (WO.no rfl rfl (WO.no rfl rfl (WO.no rfl rfl (WO.no rfl rfl (WO.p rfl rfl (WO.p rfl rfl ?_)))))))))))
                                                              refine WO.no rfl rfl (WO.p rfl rfl (WO.p rfl rfl ?_))
                                                              refine WO.nil ?_
                                                              refine W.ret ?_
                                                              first | exact fin.ret (Res.one rfl (RV.tmp rfl)) rfl | (exfalso; omega)))
                                                    · first
                                                      | (exfalso; omega)
                                                      | (refine WO.no rfl rfl (WO.no rfl rfl (WO.p rfl rfl (WO.p rfl rfl (WO.no rfl rfl (WO.no rfl rfl (WO.no rfl rfl (WO.no rfl rfl (WO.p rfl rfl (WO.p rfl rfl (WO.no rfl rfl (WO.no rfl rfl ?_)))))))))))
                                                         refine WO.no rfl rfl (WO.no rfl rfl (WO.p rfl rfl (WO.p rfl rfl (WO.no rfl rfl (WO.p rfl rfl (WO.p rfl rfl ?_))))))
                                                         refine WO.nil ?_
                                                         refine W.ret ?_
                                                         first | exact fin.ret (Res.one rfl (RV.tmp rfl)) rfl | (exfalso; omega))))))))))))
end Go.Proofs.Ytkiaepcklbidgaa
