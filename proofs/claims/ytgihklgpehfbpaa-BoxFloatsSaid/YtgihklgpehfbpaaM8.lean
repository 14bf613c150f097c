/-
  What is proved here: the law BoxBoxed, as a contract. Conditions: none.
-/
import Derived.Test.YtgihklgpehfbpaaM7
namespace Go.Proofs.Ytgihklgpehfbpaa
open Go Go.TH
attribute [local irreducible] W WO pt
set_option maxRecDepth 10000
set_option maxHeartbeats 4000000
section
variable {sp st what num den : Int} {high : Bool} {rows : List (List (Int × Int))} {ys zs : List (List Int)}
theorem all_mono (hv : HV sp st rows) (ty : TV rows ys) (tz : TV rows zs) (h : ∀ i k, i < rows.length → k < (rows.getD i []).length → yy ys i k ≤ yy zs i k) : sAll ys ys.length ≤ sAll zs zs.length := by
  have e1 : tD st ys 0 = sAll ys ys.length := rfl
  have e2 : tD st zs 0 = sAll zs zs.length := rfl
  rw [← e1, ← e2, ← tBP_all ty (by omega), ← tBP_all tz (by omega)]
  refine pSum_mono fun x hx => ?_
  have hm := plc_mem hx
  have := h x.1 x.2 hm.1 hm.2
  have w1 := wgt_pos x.1 rows.length
  have w2 := wgt_pos x.2 (rows.getD x.1 []).length
  unfold tBP tB
  rw [if_neg (by omega), if_neg (by omega)]
  exact Int.mul_le_mul_of_nonneg_left this (Int.mul_nonneg (by omega) (by omega))
theorem all_ends (hv : HV sp st rows) (tv : TV rows ys) : sAll (endsOf false rows) (endsOf false rows).length ≤ sAll ys ys.length ∧ sAll ys ys.length ≤ sAll (endsOf true rows) (endsOf true rows).length := by
  have hl := tv.len
  refine ⟨all_mono hv (ends_tv hv false) tv fun i k hi hk => ?_, all_mono hv tv (ends_tv hv true) fun i k hi hk => ?_⟩
  · have := tv.within i k (by omega) (by rw [tv.row i (by omega)]; exact hk)
    rw [ends_y rows false hk]; unfold pickE; simp only [if_false, Bool.false_eq_true]; omega
  · have := tv.within i k (by omega) (by rw [tv.row i (by omega)]; exact hk)
    rw [ends_y rows true hk]; unfold pickE; simp only [if_true]; omega
theorem vol_fact (hv : HV sp st rows) (tv : TV rows ys) {a b : Int} (h : volQ sp st ys = (a, b)) : 0 ≤ a ∧ a ≤ 10000000000000 ∧ 1 ≤ b ∧ b ≤ 2 ∧ (2 * a).tdiv b = sp * st * sAll ys ys.length := by
  obtain ⟨_, a2, a2'⟩ := tN_bound hv tv 0
  have e1 : tD st ys 0 = sAll ys ys.length := rfl
  rw [e1] at a2 a2'
  have h1 := hv.sp
  have h2 := hv.st
  have hm : 0 ≤ sp * st ∧ sp * st ≤ 100000 := mulB (A := 1000) (B := 100) ⟨by omega, by omega⟩ ⟨by omega, by omega⟩
  have hm2 : 0 ≤ sp * st * sAll ys ys.length ∧ sp * st * sAll ys ys.length ≤ 10000000000000 := mulB (A := 100000) (B := 100000000) hm ⟨by omega, a2'⟩
  obtain ⟨x1, x2, x3, x4, x5⟩ := red_cross (n := sp * st * sAll ys ys.length) (d := 2) hm2.1 (by omega)
  have e : red (sp * st * sAll ys ys.length) 2 = (a, b) := h
  rw [e] at x1 x2 x3 x4 x5
  dsimp only at x1 x2 x3 x4 x5
  refine ⟨x3, by omega, by omega, x5, ?_⟩
  rw [show 2 * a = sp * st * sAll ys ys.length * b by omega]
  exact Int.mul_tdiv_cancel _ (by omega)
theorem quo_in {a b : Int} (h0 : 0 ≤ a) (h1 : a ≤ 10000000000000) (hb : 1 ≤ b) : 0 ≤ (2 * a).tdiv b ∧ (2 * a).tdiv b ≤ 20000000000000 := by
  have h2 := Int.tdiv_nonneg (a := 2 * a) (b := b) (by omega) (by omega)
  have h3 := Int.tdiv_le_self (a := 2 * a) b (by omega)
  omega
theorem vol_ord (hv : HV sp st rows) (h : sAll ys ys.length ≤ sAll zs zs.length) : sp * st * sAll ys ys.length ≤ sp * st * sAll zs zs.length := by
  have h1 := hv.sp
  have h2 := hv.st
  exact Int.mul_le_mul_of_nonneg_left h (Int.mul_nonneg (by omega) (by omega))
theorem end_val (hv : HV sp st rows) (hw : 0 ≤ what ∧ what ≤ 2) (tv : TV rows ys) : lessQ (valQ sp st ys what) (endV sp st what false rows) = false ∧ lessQ (endV sp st what true rows) (valQ sp st ys what) = false := by
  obtain ⟨zs, he⟩ := exists_end hv hw true
  obtain ⟨xs, hz⟩ := exists_end hv hw false
  rw [← endV_eq hv he, ← endV_eq hv hz]
  have b1 := he.best ys tv
  have b2 := hz.best ys tv
  have l1 := less_val (what := what) hv he.tv tv
  have l2 := less_val (what := what) hv tv hz.tv
  simp only [sgn, if_true, Int.one_mul] at b1
  simp only [sgn, if_false, Bool.false_eq_true] at b2
  constructor
  · cases hx : lessQ (valQ sp st ys what) (valQ sp st xs what)
    · rfl
    · have := l2.1 hx; omega
  · cases hx : lessQ (valQ sp st zs what) (valQ sp st ys what)
    · rfl
    · have := l1.1 hx; omega
theorem val_ins (hv : HV sp st rows) (hw : 0 ≤ what ∧ what ≤ 2) (tv : TV rows ys) : insQ (valQ sp st ys what) (endV sp st what false rows) (endV sp st what true rows) = true := by
  unfold insQ
  rw [val_isB hv tv, end_isB hv hw false, end_isB hv hw true, (end_val hv hw tv).1, (end_val hv hw tv).2]; rfl
/-- a bound that holds holds of each true hull -/
theorem chk_all (hv : HV sp st rows) (hw : 0 ≤ what ∧ what ≤ 2) (hb : isB (num, den) = true) (tv : TV rows ys) : (chkBound sp st what num den true rows = 0 → lessQ (num, den) (valQ sp st ys what) = false) ∧ (chkBound sp st what num den false rows = 0 → lessQ (valQ sp st ys what) (num, den) = false) := by
  obtain ⟨b1, b2, _⟩ := isB_p hb
  have hl := less_bound (what := what) hv tv b1 b2
  have m1 := ex_max (high := true) (num := num) (den := den) hv tv hw
  have m2 := ex_max (high := false) (num := num) (den := den) hv tv hw
  simp only [sgn, if_true, Int.one_mul] at m1
  simp only [sgn, if_false, Bool.false_eq_true] at m2
  have h0 := hv.to
  constructor
  · intro h
    rw [chkBound, if_neg (by rw [h0]; simp), if_neg (by omega), if_neg (by rw [hb]; simp)] at h
    simp only [true_and, Bool.true_eq_false, false_and, or_false] at h
    cases hx : lessQ (num, den) (valQ sp st ys what)
    · rfl
    · have := hl.1.1 hx; split at h <;> omega
  · intro h
    rw [chkBound, if_neg (by rw [h0]; simp), if_neg (by omega), if_neg (by rw [hb]; simp)] at h
    simp only [true_and, Bool.false_eq_true, false_and, false_or] at h
    cases hx : lessQ (valQ sp st ys what) (num, den)
    · rfl
    · have := hl.2.1 hx; split at h <;> omega
end
theorem law_BoxBoxed (w : World) (sp st n num den : Int) (o o' : Value) (rv : List Value) (rows : List (List (Int × Int))) (by' : List Int) (hR : RdR encP 2 w.heap.size w o rv rows) (hB : RdF encU 1 w.heap.size w o' by') (hb8 : ∀ x ∈ by', 0 ≤ x ∧ x ≤ 255) (hn8 : 0 ≤ n ∧ n ≤ 255) :
    Ret Try.prog 10 [.agg #[.int .i64 sp, .int .i64 st, o], .int .u8 n, o', .agg #[.int .i64 num, .int .i64 den]].toArray w (.bool true) := by
  refine Ret.of mixed tyTab Try.func10 rfl rfl ?_
  replace hR : RdR encP 2 (fnCx mixed tyTab Try.f10.ntmps w).B (fnCx mixed tyTab Try.f10.ntmps w).w0 o rv rows := hR
  replace hB : RdF encU 1 (fnCx mixed tyTab Try.f10.ntmps w).B (fnCx mixed tyTab Try.f10.ntmps w).w0 o' by' := hB
  have hw : 0 ≤ n.tmod 3 ∧ n.tmod 3 ≤ 2 := tmod_in hn8.1 (by omega)
  refine W.sreg ?_
  refine WO.boxA rfl rfl (fun b1 hb1 => ?_)
  refine WO.boxA rfl rfl (fun b2 hb2 => ?_)
  refine WO.p rfl rfl ?_
  refine WO.nil ?_
  refine W.seq ?_
  refine W.sreg ?_
  refine WO.loadA rfl rfl (Cells.own (Pick.tail (Pick.head))) rfl rfl ?_
  refine WO.callR (r := .bool (!grt rows [] && decide (chkHull sp st rows = 0))) rfl Try.call24 (fun L w hi => law_fine w sp st o rv rows (hR.later hi)) rfl ?_
  refine WO.p rfl rfl (WO.p rfl rfl ?_)
  refine WO.guard_b rfl rfl (fun c1 => ?_) (fun c1 => ?_)
  · first
    | (exfalso; omega)
    | (refine WO.no rfl rfl (WO.no rfl rfl (WO.no rfl rfl (WO.p rfl rfl ?_)))
       refine WO.nil ?_
       refine W.cond_t rfl ?_
       refine W.sreg ?_
       refine WO.callR rfl Try.call13 (fun L w hi => law_Works w) rfl ?_
       refine WO.p rfl rfl ?_
       refine WO.nil ?_
       refine W.ret ?_
       exact fin.ret (Res.one rfl (RV.tmp rfl)) rfl)
  · first
    | (exfalso; omega)
    | (refine WO.pg rfl rfl rfl (WO.go' rfl ?_)
       refine' WO.len (n := _) rfl rfl ?hs rfl ?_
       case hs => (first | exact hB.sl)
       refine WO.pg rfl rfl rfl (WO.p rfl rfl ?_)
       refine WO.nil ?_
       refine W.cond_bl rfl (fun c2 => ?_) (fun c2 => ?_)
       · first
         | (exfalso; omega)
         | (refine W.sreg ?_
            refine WO.callR rfl Try.call13 (fun L w hi => law_Works w) rfl ?_
            refine WO.p rfl rfl ?_
            refine WO.nil ?_
            refine W.ret ?_
            exact fin.ret (Res.one rfl (RV.tmp rfl)) rfl)
       · first
         | (exfalso; omega)
         | (refine W.skip ?_
            refine W.sreg ?_
            refine WO.p rfl rfl (WO.conv64 rfl rfl rfl (by (first | (unfold in64; omega) | (unfold in64; omega))) rfl (WO.rem rfl rfl (by first | omega | assumption) rfl (WO.p rfl rfl ?_)))
            refine WO.nil ?_
            have hv : HV sp st rows := (fun (hh : (!(!grt rows [] && decide (chkHull sp st rows = 0))) = false) => HV.of (by simp at hh; exact hh.2)) (by assumption)
            refine W.sreg ?_
            refine WO.loadA rfl rfl (Cells.own (Pick.tail (Pick.head))) rfl rfl (WO.p rfl rfl ?_)
            refine WO.call (Post := fun v Hq => ∃ x : List Value × List (List Int), TV rows x.2 ∧ Hq = [OwC 53 1 v rows.length x.1, RowsE encI 2 1 x.1 x.2]) rfl Try.call29 (fun L w hi => law_True w sp st o o' rv rows by' (hR.later hi) (hB.later hi) hb8 hv) rfl ?_
            rintro vT _ ⟨⟨rv1, ys⟩, htv, rfl⟩
            refine WO.p rfl rfl ?_
            refine WO.nil ?_
            replace htv : TV rows ys := htv
            obtain ⟨vn, vd, hvq⟩ : ∃ a b, volQ sp st ys = (a, b) := ⟨_, _, rfl⟩
            obtain ⟨ln, ld, hlq⟩ : ∃ a b, volQ sp st (endsOf false rows) = (a, b) := ⟨_, _, rfl⟩
            obtain ⟨un, ud, huq⟩ : ∃ a b, volQ sp st (endsOf true rows) = (a, b) := ⟨_, _, rfl⟩
            obtain ⟨fv1, fv2, fv3, fv4, fv5⟩ := vol_fact hv htv hvq
            obtain ⟨fl1, fl2, fl3, fl4, fl5⟩ := vol_fact hv (ends_tv hv false) hlq
            obtain ⟨fu1, fu2, fu3, fu4, fu5⟩ := vol_fact hv (ends_tv hv true) huq
            have ho1 := vol_ord hv (all_ends hv htv).1
            have ho2 := vol_ord hv (all_ends hv htv).2
            rw [← fv5, ← fl5] at ho1
            rw [← fv5, ← fu5] at ho2
            clear fv5 fl5 fu5
            have qv := quo_in fv1 fv2 fv3
            have ql := quo_in fl1 fl2 fl3
            have qu := quo_in fu1 fu2 fu3
            obtain ⟨qn, qd, hqq⟩ : ∃ a b, valQ sp st ys (n.tmod 3) = (a, b) := ⟨_, _, rfl⟩
            obtain ⟨a, b, hlo⟩ : ∃ a b, endV sp st (n.tmod 3) false rows = (a, b) := ⟨_, _, rfl⟩
            obtain ⟨c, d, hhi⟩ : ∃ c d, endV sp st (n.tmod 3) true rows = (c, d) := ⟨_, _, rfl⟩
            have hins := val_ins hv hw htv
            rw [hqq, hlo, hhi] at hins
            have hqb := val_isB (what := n.tmod 3) hv htv
            rw [hqq] at hqb
            refine W.sreg ?_
            refine WO.loadA rfl rfl (Cells.own (Pick.tail (Pick.tail (Pick.tail (Pick.head))))) rfl rfl (WO.p rfl rfl ?_)
            refine WO.callR (r := .tuple #[.agg #[.int .i64 vn, .int .i64 vd], .int .i64 0]) rfl Try.call14 (fun L w hi => by have h := c_Volume w sp st o vT rv rv1 rows ys (hR.later hi) (RdR.of_ow (e := 2) (e' := 53) (n := rows.length) encI_ok (by repeat (first | exact Pick.head | apply Pick.tail)) (by repeat (first | exact Pick.head | apply Pick.tail)) hi); rw [← volR_0 (TV.to hv htv), hvq] at h; exact h) rfl ?_
            refine WO.p rfl rfl (WO.p rfl rfl (WO.p rfl rfl ?_))
            refine WO.alloc rfl rfl rfl (fun b3 hb3 => ?_)
            refine WO.storeA rfl rfl rfl rfl Pick.head rfl rfl (WO.p rfl rfl ?_)
            refine WO.nil ?_
            refine W.sreg ?_
            refine WO.loadA rfl rfl (Cells.own (Pick.tail (Pick.tail (Pick.tail (Pick.tail (Pick.head)))))) rfl rfl ?_
            refine WO.callR (r := .tuple #[.agg #[.int .i64 ln, .int .i64 ld, .int .i64 un, .int .i64 ud], .int .i64 0]) rfl Try.call34 (fun L w hi => by have h := c_Volumes w sp st o rv rows (hR.later hi); rw [← vols_o hv, hlq, huq] at h; exact h) rfl ?_
            refine WO.p rfl rfl (WO.p rfl rfl (WO.p rfl rfl ?_))
            refine WO.alloc rfl rfl rfl (fun b4 hb4 => ?_)
            refine WO.storeA rfl rfl rfl rfl Pick.head rfl rfl (WO.p rfl rfl ?_)
            refine WO.nil ?_
            refine W.sreg ?_
            refine WO.loadA rfl rfl (Cells.own (Pick.tail (Pick.tail (Pick.tail (Pick.tail (Pick.tail (Pick.head))))))) rfl rfl (WO.p rfl rfl (WO.p rfl rfl ?_))
            refine WO.callR (r := .tuple #[.agg #[.int .i64 qn, .int .i64 qd], .int .i64 0]) rfl Try.call16 (fun L w hi => by have h := c_Value w sp st o vT rv rv1 rows ys (n.tmod 3) (hR.later hi) (RdR.of_ow (e := 2) (e' := 53) (n := rows.length) encI_ok (by repeat (first | exact Pick.head | apply Pick.tail)) (by repeat (first | exact Pick.head | apply Pick.tail)) hi); rw [← valR_o (by rw [TV.to hv htv]; simp) (by rw [plan_0 hv hw]; simp), hqq] at h; exact h) rfl ?_
            refine WO.p rfl rfl (WO.p rfl rfl (WO.p rfl rfl ?_))
            refine WO.alloc rfl rfl rfl (fun b5 hb5 => ?_)
            refine WO.storeA rfl rfl rfl rfl Pick.head rfl rfl (WO.p rfl rfl ?_)
            refine WO.nil ?_
            refine W.sreg ?_
            refine WO.loadA rfl rfl (Cells.own (Pick.tail (Pick.tail (Pick.tail (Pick.tail (Pick.tail (Pick.tail (Pick.head)))))))) rfl rfl (WO.p rfl rfl ?_)
            refine WO.callR (r := .tuple #[.agg #[.int .i64 a, .int .i64 b, .int .i64 c, .int .i64 d], .int .i64 0]) rfl Try.call25 (fun L w hi => by have h := c_Span w sp st (n.tmod 3) o rv rows (hR.later hi); rw [← spanR_0 (by rw [plan_0 hv hw]; simp), hlo, hhi] at h; exact h) rfl ?_
            refine WO.p rfl rfl (WO.p rfl rfl (WO.p rfl rfl ?_))
            refine WO.alloc rfl rfl rfl (fun b6 hb6 => ?_)
            refine WO.storeA rfl rfl rfl rfl Pick.head rfl rfl (WO.p rfl rfl ?_)
            refine WO.nil ?_
            refine W.seq ?_
            refine W.seq ?_
            refine W.drawD 73 [.r 0 [], .r 1 [], .r 2 [], .r 3 [], .r 4 [], .r 5 [], .r 6 [], .r 7 [], .r 8 [], .r 9 [], .r 10 [], .r 11 [], .r 12 [], .r 13 [], .r 14 [], .r 15 [], .b 16 [], .r 17 [], .r 18 [], .r 19 [], .r 20 [], .b 21 [], .r 22 [], .r 23 [], .r 24 [], .r 25 [], .r 26 [], .b 27 [], .r 28 [], .r 29 [], .r 30 [], .r 31 [], .r 32 [], .b 33 [], .r 34 [], .r 35 [], .r 36 [], .r 37 [], .b 38 [], .r 39 [], .r 40 [], .b 41 [], .r 42 [], .r 43 [], .r 44 [], .b 45 [], .r 46 [], .r 47 [], .r 48 [], .b 49 [], .r 50 [], .r 51 [], .r 52 [], .r 53 [], .r 54 [], .b 55 [], .r 56 [], .r 57 [], .b 58 [], .r 59 [], .r 60 [], .r 61 [], .b 62 [], .r 63 [], .r 64 [], .r 65 [], .b 66 [], .r 67 [], .r 68 [], .r 69 [], .r 70 [], .b 71 [], .b 72 []] [] (A0 := []) (Sub.refl _) (by kernel_rfl) ?_ ?_
            · exact (ALok.r (ALok.r (ALok.r (ALok.r (ALok.r (ALok.r (ALok.r (ALok.r (ALok.r (ALok.r (ALok.r (ALok.r (ALok.r (ALok.r (ALok.r (ALok.r (ALok.b (ALok.r (ALok.r (ALok.r (ALok.r (ALok.b (ALok.r (ALok.r (ALok.r (ALok.r (ALok.r (ALok.b (ALok.r (ALok.r (ALok.r (ALok.r (ALok.r (ALok.b (ALok.r (ALok.r (ALok.r (ALok.r (ALok.b (ALok.r (ALok.r (ALok.b (ALok.r (ALok.r (ALok.r (ALok.b (ALok.r (ALok.r (ALok.r (ALok.b (ALok.r (ALok.r (ALok.r (ALok.r (ALok.r (ALok.b (ALok.r (ALok.r (ALok.b (ALok.r (ALok.r (ALok.r (ALok.b (ALok.r (ALok.r (ALok.r (ALok.b (ALok.r (ALok.r (ALok.r (ALok.r (ALok.b (ALok.b ALok.nil)))))))))))))))))))))))))))))))))))))))))))))))))))))))))))))))))))))))))
            refine' DT.r rfl rfl rfl ?hq ?_
            case hq =>
              refine WO.p rfl rfl ?_
              exact WO.nil ⟨rfl, rfl⟩
            refine' DT.r rfl rfl rfl ?hq ?_
            case hq =>
              refine WO.p rfl rfl ?_
              exact WO.nil ⟨rfl, rfl⟩
            refine' DT.rB rfl rfl rfl ?hq (fun c3 => ?_) (fun c3 => ?_)
            case hq =>
              refine WO.p rfl rfl ?_
              exact WO.nil ⟨rfl, rfl⟩
            · first
              | (exfalso; omega)
              | (refine' DT.r rfl rfl rfl ?hq ?_
                 case hq =>
                   refine WO.no rfl rfl ?_
                   exact WO.nil ⟨rfl, rfl⟩
                 refine' DT.r rfl rfl rfl ?hq ?_
                 case hq =>
                   refine WO.no rfl rfl ?_
                   exact WO.nil ⟨rfl, rfl⟩
                 refine' DT.r rfl rfl rfl ?hq ?_
                 case hq =>
                   refine WO.p rfl rfl ?_
                   exact WO.nil ⟨rfl, rfl⟩
                 refine' DT.r rfl rfl rfl ?hq ?_
                 case hq =>
                   refine WO.p rfl rfl ?_
                   exact WO.nil ⟨rfl, rfl⟩
                 refine' DT.r rfl rfl rfl ?hq ?_
                 case hq =>
                   refine WO.no rfl rfl ?_
                   exact WO.nil ⟨rfl, rfl⟩
                 refine' DT.r rfl rfl rfl ?hq ?_
                 case hq =>
                   refine WO.no rfl rfl ?_
                   exact WO.nil ⟨rfl, rfl⟩
                 refine' DT.r rfl rfl rfl ?hq ?_
                 case hq =>
                   refine WO.p rfl rfl ?_
                   exact WO.nil ⟨rfl, rfl⟩
                 refine' DT.r rfl rfl rfl ?hq ?_
                 case hq =>
                   refine WO.p rfl rfl ?_
                   exact WO.nil ⟨rfl, rfl⟩
                 refine' DT.r rfl rfl rfl ?hq ?_
                 case hq =>
                   refine WO.no rfl rfl ?_
                   exact WO.nil ⟨rfl, rfl⟩
                 refine' DT.r rfl rfl rfl ?hq ?_
                 case hq =>
                   refine WO.no rfl rfl ?_
                   exact WO.nil ⟨rfl, rfl⟩
                 refine' DT.r rfl rfl rfl ?hq ?_
                 case hq =>
                   refine WO.p rfl rfl ?_
                   exact WO.nil ⟨rfl, rfl⟩
                 refine' DT.r rfl rfl rfl ?hq ?_
                 case hq =>
                   refine WO.p rfl rfl ?_
                   exact WO.nil ⟨rfl, rfl⟩
                 refine' DT.r rfl rfl rfl ?hq ?_
                 case hq =>
                   refine WO.no rfl rfl ?_
                   exact WO.nil ⟨rfl, rfl⟩
                 refine' DT.b rfl rfl rfl ?hq ?_
                 case hq =>
                   refine WO.no rfl rfl ?_
                   exact WO.nil ⟨rfl, rfl⟩
                 refine' DT.r rfl rfl rfl ?hq ?_
                 case hq =>
                   refine WO.no rfl rfl ?_
                   exact WO.nil ⟨rfl, rfl⟩
                 refine' DT.r rfl rfl rfl ?hq ?_
                 case hq =>
                   refine WO.p rfl rfl ?_
                   exact WO.nil ⟨rfl, rfl⟩
                 refine' DT.r rfl rfl rfl ?hq ?_
                 case hq =>
                   refine WO.p rfl rfl ?_
                   exact WO.nil ⟨rfl, rfl⟩
                 refine' DT.r rfl rfl rfl ?hq ?_
                 case hq =>
                   refine WO.no rfl rfl ?_
                   exact WO.nil ⟨rfl, rfl⟩
                 refine' DT.b rfl rfl rfl ?hq ?_
                 case hq =>
                   refine WO.no rfl rfl ?_
                   exact WO.nil ⟨rfl, rfl⟩
                 refine' DT.r rfl rfl rfl ?hq ?_
                 case hq =>
                   refine WO.no rfl rfl ?_
                   exact WO.nil ⟨rfl, rfl⟩
                 refine' DT.r rfl rfl rfl ?hq ?_
                 case hq =>
                   refine WO.p rfl rfl ?_
                   exact WO.nil ⟨rfl, rfl⟩
                 refine' DT.r rfl rfl rfl ?hq ?_
                 case hq =>
                   refine WO.p rfl rfl ?_
                   exact WO.nil ⟨rfl, rfl⟩
                 refine' DT.r rfl rfl rfl ?hq ?_
                 case hq =>
                   refine WO.no rfl rfl ?_
                   exact WO.nil ⟨rfl, rfl⟩
                 refine' DT.r rfl rfl rfl ?hq ?_
                 case hq =>
                   refine WO.no rfl rfl ?_
                   exact WO.nil ⟨rfl, rfl⟩
                 refine' DT.b rfl rfl rfl ?hq ?_
                 case hq =>
                   refine WO.no rfl rfl ?_
                   exact WO.nil ⟨rfl, rfl⟩
                 refine' DT.r rfl rfl rfl ?hq ?_
                 case hq =>
                   refine WO.no rfl rfl ?_
                   exact WO.nil ⟨rfl, rfl⟩
                 refine' DT.r rfl rfl rfl ?hq ?_
                 case hq =>
                   refine WO.p rfl rfl ?_
                   exact WO.nil ⟨rfl, rfl⟩
                 refine' DT.r rfl rfl rfl ?hq ?_
                 case hq =>
                   refine WO.p rfl rfl ?_
                   exact WO.nil ⟨rfl, rfl⟩
                 refine' DT.r rfl rfl rfl ?hq ?_
                 case hq =>
                   refine WO.no rfl rfl ?_
                   exact WO.nil ⟨rfl, rfl⟩
                 refine' DT.r rfl rfl rfl ?hq ?_
                 case hq =>
                   refine WO.no rfl rfl ?_
                   exact WO.nil ⟨rfl, rfl⟩
                 refine' DT.b rfl rfl rfl ?hq ?_
                 case hq =>
                   refine WO.no rfl rfl ?_
                   exact WO.nil ⟨rfl, rfl⟩
                 refine' DT.r rfl rfl rfl ?hq ?_
                 case hq =>
                   refine WO.no rfl rfl ?_
                   exact WO.nil ⟨rfl, rfl⟩
                 refine' DT.r rfl rfl rfl ?hq ?_
                 case hq =>
                   refine WO.p rfl rfl ?_
                   exact WO.nil ⟨rfl, rfl⟩
                 refine' DT.r rfl rfl rfl ?hq ?_
                 case hq =>
                   refine WO.p rfl rfl ?_
                   exact WO.nil ⟨rfl, rfl⟩
                 refine' DT.r rfl rfl rfl ?hq ?_
                 case hq =>
                   refine WO.no rfl rfl ?_
                   exact WO.nil ⟨rfl, rfl⟩
                 refine' DT.b rfl rfl rfl ?hq ?_
                 case hq =>
                   refine WO.no rfl rfl ?_
                   exact WO.nil ⟨rfl, rfl⟩
                 refine' DT.r rfl rfl rfl ?hq ?_
                 case hq =>
                   refine WO.no rfl rfl ?_
                   exact WO.nil ⟨rfl, rfl⟩
                 refine' DT.r rfl rfl rfl ?hq ?_
                 case hq =>
                   refine WO.no rfl rfl ?_
                   exact WO.nil ⟨rfl, rfl⟩
                 refine' DT.b rfl rfl rfl ?hq ?_
                 case hq =>
                   refine WO.no rfl rfl ?_
                   exact WO.nil ⟨rfl, rfl⟩
                 refine' DT.r rfl rfl rfl ?hq ?_
                 case hq =>
                   refine WO.no rfl rfl ?_
                   exact WO.nil ⟨rfl, rfl⟩
                 refine' DT.r rfl rfl rfl ?hq ?_
                 case hq =>
                   refine WO.no rfl rfl ?_
                   exact WO.nil ⟨rfl, rfl⟩
                 refine' DT.r rfl rfl rfl ?hq ?_
                 case hq =>
                   refine WO.no rfl rfl ?_
                   exact WO.nil ⟨rfl, rfl⟩
                 refine' DT.b rfl rfl rfl ?hq ?_
                 case hq =>
                   refine WO.no rfl rfl ?_
                   exact WO.nil ⟨rfl, rfl⟩
                 refine' DT.r rfl rfl rfl ?hq ?_
                 case hq =>
                   refine WO.no rfl rfl ?_
                   exact WO.nil ⟨rfl, rfl⟩
                 refine' DT.r rfl rfl rfl ?hq ?_
                 case hq =>
                   refine WO.no rfl rfl ?_
                   exact WO.nil ⟨rfl, rfl⟩
                 refine' DT.r rfl rfl rfl ?hq ?_
                 case hq =>
                   refine WO.no rfl rfl ?_
                   exact WO.nil ⟨rfl, rfl⟩
                 refine' DT.b rfl rfl rfl ?hq ?_
                 case hq =>
                   refine WO.no rfl rfl ?_
                   exact WO.nil ⟨rfl, rfl⟩
                 refine' DT.r rfl rfl rfl ?hq ?_
                 case hq =>
                   refine WO.no rfl rfl ?_
                   exact WO.nil ⟨rfl, rfl⟩
                 refine' DT.r rfl rfl rfl ?hq ?_
                 case hq =>
                   refine WO.no rfl rfl ?_
                   exact WO.nil ⟨rfl, rfl⟩
                 refine' DT.r rfl rfl rfl ?hq ?_
                 case hq =>
                   refine WO.p rfl rfl ?_
                   exact WO.nil ⟨rfl, rfl⟩
                 refine' DT.r rfl rfl rfl ?hq ?_
                 case hq =>
                   refine WO.p rfl rfl ?_
                   exact WO.nil ⟨rfl, rfl⟩
                 refine' DT.r rfl rfl rfl ?hq ?_
                 case hq =>
                   refine WO.no rfl rfl ?_
                   exact WO.nil ⟨rfl, rfl⟩
                 refine' DT.b rfl rfl rfl ?hq ?_
                 case hq =>
                   refine WO.no rfl rfl ?_
                   exact WO.nil ⟨rfl, rfl⟩
                 refine' DT.r rfl rfl rfl ?hq ?_
                 case hq =>
                   refine WO.no rfl rfl ?_
                   exact WO.nil ⟨rfl, rfl⟩
                 refine' DT.r rfl rfl rfl ?hq ?_
                 case hq =>
                   refine WO.no rfl rfl ?_
                   exact WO.nil ⟨rfl, rfl⟩
                 refine' DT.b rfl rfl rfl ?hq ?_
                 case hq =>
                   refine WO.no rfl rfl ?_
                   exact WO.nil ⟨rfl, rfl⟩
                 refine' DT.r rfl rfl rfl ?hq ?_
                 case hq =>
                   refine WO.no rfl rfl ?_
                   exact WO.nil ⟨rfl, rfl⟩
                 refine' DT.r rfl rfl rfl ?hq ?_
                 case hq =>
                   refine WO.no rfl rfl ?_
                   exact WO.nil ⟨rfl, rfl⟩
                 refine' DT.r rfl rfl rfl ?hq ?_
                 case hq =>
                   refine WO.no rfl rfl ?_
                   exact WO.nil ⟨rfl, rfl⟩
                 refine' DT.b rfl rfl rfl ?hq ?_
                 case hq =>
                   refine WO.no rfl rfl ?_
                   exact WO.nil ⟨rfl, rfl⟩
                 refine' DT.r rfl rfl rfl ?hq ?_
                 case hq =>
                   refine WO.no rfl rfl ?_
                   exact WO.nil ⟨rfl, rfl⟩
                 refine' DT.r rfl rfl rfl ?hq ?_
                 case hq =>
                   refine WO.no rfl rfl ?_
                   exact WO.nil ⟨rfl, rfl⟩
                 refine' DT.r rfl rfl rfl ?hq ?_
                 case hq =>
                   refine WO.no rfl rfl ?_
                   exact WO.nil ⟨rfl, rfl⟩
                 refine' DT.b rfl rfl rfl ?hq ?_
                 case hq =>
                   refine WO.no rfl rfl ?_
                   exact WO.nil ⟨rfl, rfl⟩
                 refine' DT.r rfl rfl rfl ?hq ?_
                 case hq =>
                   refine WO.no rfl rfl ?_
                   exact WO.nil ⟨rfl, rfl⟩
                 refine' DT.r rfl rfl rfl ?hq ?_
                 case hq =>
                   refine WO.no rfl rfl ?_
                   exact WO.nil ⟨rfl, rfl⟩
                 refine' DT.r rfl rfl rfl ?hq ?_
                 case hq =>
                   refine WO.p rfl rfl ?_
                   exact WO.nil ⟨rfl, rfl⟩
                 refine' DT.r rfl rfl rfl ?hq ?_
                 case hq =>
                   refine WO.p rfl rfl ?_
                   exact WO.nil ⟨rfl, rfl⟩
                 refine' DT.b rfl rfl rfl ?hq ?_
                 case hq =>
                   refine WO.no rfl rfl ?_
                   exact WO.nil ⟨rfl, rfl⟩
                 refine' DT.b rfl rfl rfl ?hq ?_
                 case hq =>
                   refine WO.no rfl rfl ?_
                   exact WO.nil ⟨rfl, rfl⟩
                 refine DT.nil [_, _, _, _, _, _, _, _] rfl ?_
                 refine WO.no rfl rfl (WO.no rfl rfl (WO.p rfl rfl ?_))
                 refine WO.nil ?_
                 refine W.cond_t rfl ?_
                 refine W.sreg ?_
                 refine WO.p rfl rfl ?_
                 refine WO.nil ?_
                 refine W.ret ?_
                 exact fin.ret (Res.one rfl (RV.tmp rfl)) rfl)
            · first
              | (exfalso; omega)
              | (refine' DT.r rfl rfl rfl ?hq ?_
                 case hq =>
                   refine WO.pg rfl rfl rfl ?_
                   exact WO.nil ⟨rfl, rfl⟩
                 refine' DT.r rfl rfl rfl ?hq ?_
                 case hq =>
                   refine WO.pg rfl rfl rfl ?_
                   exact WO.nil ⟨rfl, rfl⟩
                 refine' DT.r rfl rfl rfl ?hq ?_
                 case hq =>
                   refine WO.p rfl rfl ?_
                   exact WO.nil ⟨rfl, rfl⟩
                 refine' DT.rB rfl rfl rfl ?hq (fun c4 => ?_) (fun c4 => ?_)
                 case hq =>
                   refine WO.p rfl rfl ?_
                   exact WO.nil ⟨rfl, rfl⟩
                 · first
                   | (exfalso; omega)
                   | (refine' DT.r rfl rfl rfl ?hq ?_
                      case hq =>
                        refine WO.no rfl rfl ?_
                        exact WO.nil ⟨rfl, rfl⟩
                      refine' DT.r rfl rfl rfl ?hq ?_
                      case hq =>
                        refine WO.no rfl rfl ?_
                        exact WO.nil ⟨rfl, rfl⟩
                      refine' DT.r rfl rfl rfl ?hq ?_
                      case hq =>
                        refine WO.p rfl rfl ?_
                        exact WO.nil ⟨rfl, rfl⟩
                      refine' DT.r rfl rfl rfl ?hq ?_
                      case hq =>
                        refine WO.p rfl rfl ?_
                        exact WO.nil ⟨rfl, rfl⟩
                      refine' DT.r rfl rfl rfl ?hq ?_
                      case hq =>
                        refine WO.no rfl rfl ?_
                        exact WO.nil ⟨rfl, rfl⟩
                      refine' DT.r rfl rfl rfl ?hq ?_
                      case hq =>
                        refine WO.no rfl rfl ?_
                        exact WO.nil ⟨rfl, rfl⟩
                      refine' DT.r rfl rfl rfl ?hq ?_
                      case hq =>
                        refine WO.p rfl rfl ?_
                        exact WO.nil ⟨rfl, rfl⟩
                      refine' DT.r rfl rfl rfl ?hq ?_
                      case hq =>
                        refine WO.p rfl rfl ?_
                        exact WO.nil ⟨rfl, rfl⟩
                      refine' DT.r rfl rfl rfl ?hq ?_
                      case hq =>
                        refine WO.no rfl rfl ?_
                        exact WO.nil ⟨rfl, rfl⟩
                      refine' DT.b rfl rfl rfl ?hq ?_
                      case hq =>
                        refine WO.no rfl rfl ?_
                        exact WO.nil ⟨rfl, rfl⟩
                      refine' DT.r rfl rfl rfl ?hq ?_
                      case hq =>
                        refine WO.no rfl rfl ?_
                        exact WO.nil ⟨rfl, rfl⟩
                      refine' DT.r rfl rfl rfl ?hq ?_
                      case hq =>
                        refine WO.p rfl rfl ?_
                        exact WO.nil ⟨rfl, rfl⟩
                      refine' DT.r rfl rfl rfl ?hq ?_
                      case hq =>
                        refine WO.p rfl rfl ?_
                        exact WO.nil ⟨rfl, rfl⟩
                      refine' DT.r rfl rfl rfl ?hq ?_
                      case hq =>
                        refine WO.no rfl rfl ?_
                        exact WO.nil ⟨rfl, rfl⟩
                      refine' DT.b rfl rfl rfl ?hq ?_
                      case hq =>
                        refine WO.no rfl rfl ?_
                        exact WO.nil ⟨rfl, rfl⟩
                      refine' DT.r rfl rfl rfl ?hq ?_
                      case hq =>
                        refine WO.no rfl rfl ?_
                        exact WO.nil ⟨rfl, rfl⟩
                      refine' DT.r rfl rfl rfl ?hq ?_
                      case hq =>
                        refine WO.p rfl rfl ?_
                        exact WO.nil ⟨rfl, rfl⟩
                      refine' DT.r rfl rfl rfl ?hq ?_
                      case hq =>
                        refine WO.p rfl rfl ?_
                        exact WO.nil ⟨rfl, rfl⟩
                      refine' DT.r rfl rfl rfl ?hq ?_
                      case hq =>
                        refine WO.no rfl rfl ?_
                        exact WO.nil ⟨rfl, rfl⟩
                      refine' DT.r rfl rfl rfl ?hq ?_
                      case hq =>
                        refine WO.no rfl rfl ?_
                        exact WO.nil ⟨rfl, rfl⟩
                      refine' DT.b rfl rfl rfl ?hq ?_
                      case hq =>
                        refine WO.no rfl rfl ?_
                        exact WO.nil ⟨rfl, rfl⟩
                      refine' DT.r rfl rfl rfl ?hq ?_
                      case hq =>
                        refine WO.no rfl rfl ?_
                        exact WO.nil ⟨rfl, rfl⟩
                      refine' DT.r rfl rfl rfl ?hq ?_
                      case hq =>
                        refine WO.p rfl rfl ?_
                        exact WO.nil ⟨rfl, rfl⟩
                      refine' DT.r rfl rfl rfl ?hq ?_
                      case hq =>
                        refine WO.p rfl rfl ?_
                        exact WO.nil ⟨rfl, rfl⟩
                      refine' DT.r rfl rfl rfl ?hq ?_
                      case hq =>
                        refine WO.no rfl rfl ?_
                        exact WO.nil ⟨rfl, rfl⟩
                      refine' DT.r rfl rfl rfl ?hq ?_
                      case hq =>
                        refine WO.no rfl rfl ?_
                        exact WO.nil ⟨rfl, rfl⟩
                      refine' DT.b rfl rfl rfl ?hq ?_
                      case hq =>
                        refine WO.no rfl rfl ?_
                        exact WO.nil ⟨rfl, rfl⟩
                      refine' DT.r rfl rfl rfl ?hq ?_
                      case hq =>
                        refine WO.no rfl rfl ?_
                        exact WO.nil ⟨rfl, rfl⟩
                      refine' DT.r rfl rfl rfl ?hq ?_
                      case hq =>
                        refine WO.p rfl rfl ?_
                        exact WO.nil ⟨rfl, rfl⟩
                      refine' DT.r rfl rfl rfl ?hq ?_
                      case hq =>
                        refine WO.p rfl rfl ?_
                        exact WO.nil ⟨rfl, rfl⟩
                      refine' DT.r rfl rfl rfl ?hq ?_
                      case hq =>
                        refine WO.no rfl rfl ?_
                        exact WO.nil ⟨rfl, rfl⟩
                      refine' DT.b rfl rfl rfl ?hq ?_
                      case hq =>
                        refine WO.no rfl rfl ?_
                        exact WO.nil ⟨rfl, rfl⟩
                      refine' DT.r rfl rfl rfl ?hq ?_
                      case hq =>
                        refine WO.no rfl rfl ?_
                        exact WO.nil ⟨rfl, rfl⟩
                      refine' DT.r rfl rfl rfl ?hq ?_
                      case hq =>
                        refine WO.no rfl rfl ?_
                        exact WO.nil ⟨rfl, rfl⟩
                      refine' DT.b rfl rfl rfl ?hq ?_
                      case hq =>
                        refine WO.no rfl rfl ?_
                        exact WO.nil ⟨rfl, rfl⟩
                      refine' DT.r rfl rfl rfl ?hq ?_
                      case hq =>
                        refine WO.no rfl rfl ?_
                        exact WO.nil ⟨rfl, rfl⟩
                      refine' DT.r rfl rfl rfl ?hq ?_
                      case hq =>
                        refine WO.no rfl rfl ?_
                        exact WO.nil ⟨rfl, rfl⟩
                      refine' DT.r rfl rfl rfl ?hq ?_
                      case hq =>
                        refine WO.no rfl rfl ?_
                        exact WO.nil ⟨rfl, rfl⟩
                      refine' DT.b rfl rfl rfl ?hq ?_
                      case hq =>
                        refine WO.no rfl rfl ?_
                        exact WO.nil ⟨rfl, rfl⟩
                      refine' DT.r rfl rfl rfl ?hq ?_
                      case hq =>
                        refine WO.no rfl rfl ?_
                        exact WO.nil ⟨rfl, rfl⟩
                      refine' DT.r rfl rfl rfl ?hq ?_
                      case hq =>
                        refine WO.no rfl rfl ?_
                        exact WO.nil ⟨rfl, rfl⟩
                      refine' DT.r rfl rfl rfl ?hq ?_
                      case hq =>
                        refine WO.no rfl rfl ?_
                        exact WO.nil ⟨rfl, rfl⟩
                      refine' DT.b rfl rfl rfl ?hq ?_
                      case hq =>
                        refine WO.no rfl rfl ?_
                        exact WO.nil ⟨rfl, rfl⟩
                      refine' DT.r rfl rfl rfl ?hq ?_
                      case hq =>
                        refine WO.no rfl rfl ?_
                        exact WO.nil ⟨rfl, rfl⟩
                      refine' DT.r rfl rfl rfl ?hq ?_
                      case hq =>
                        refine WO.no rfl rfl ?_
                        exact WO.nil ⟨rfl, rfl⟩
                      refine' DT.r rfl rfl rfl ?hq ?_
                      case hq =>
                        refine WO.p rfl rfl ?_
                        exact WO.nil ⟨rfl, rfl⟩
                      refine' DT.r rfl rfl rfl ?hq ?_
                      case hq =>
                        refine WO.p rfl rfl ?_
                        exact WO.nil ⟨rfl, rfl⟩
                      refine' DT.r rfl rfl rfl ?hq ?_
                      case hq =>
                        refine WO.no rfl rfl ?_
                        exact WO.nil ⟨rfl, rfl⟩
                      refine' DT.b rfl rfl rfl ?hq ?_
                      case hq =>
                        refine WO.no rfl rfl ?_
                        exact WO.nil ⟨rfl, rfl⟩
                      refine' DT.r rfl rfl rfl ?hq ?_
                      case hq =>
                        refine WO.no rfl rfl ?_
                        exact WO.nil ⟨rfl, rfl⟩
                      refine' DT.r rfl rfl rfl ?hq ?_
                      case hq =>
                        refine WO.no rfl rfl ?_
                        exact WO.nil ⟨rfl, rfl⟩
                      refine' DT.b rfl rfl rfl ?hq ?_
                      case hq =>
                        refine WO.no rfl rfl ?_
                        exact WO.nil ⟨rfl, rfl⟩
                      refine' DT.r rfl rfl rfl ?hq ?_
                      case hq =>
                        refine WO.no rfl rfl ?_
                        exact WO.nil ⟨rfl, rfl⟩
                      refine' DT.r rfl rfl rfl ?hq ?_
                      case hq =>
                        refine WO.no rfl rfl ?_
                        exact WO.nil ⟨rfl, rfl⟩
                      refine' DT.r rfl rfl rfl ?hq ?_
                      case hq =>
                        refine WO.no rfl rfl ?_
                        exact WO.nil ⟨rfl, rfl⟩
                      refine' DT.b rfl rfl rfl ?hq ?_
                      case hq =>
                        refine WO.no rfl rfl ?_
                        exact WO.nil ⟨rfl, rfl⟩
                      refine' DT.r rfl rfl rfl ?hq ?_
                      case hq =>
                        refine WO.no rfl rfl ?_
                        exact WO.nil ⟨rfl, rfl⟩
                      refine' DT.r rfl rfl rfl ?hq ?_
                      case hq =>
                        refine WO.no rfl rfl ?_
                        exact WO.nil ⟨rfl, rfl⟩
                      refine' DT.r rfl rfl rfl ?hq ?_
                      case hq =>
                        refine WO.no rfl rfl ?_
                        exact WO.nil ⟨rfl, rfl⟩
                      refine' DT.b rfl rfl rfl ?hq ?_
                      case hq =>
                        refine WO.no rfl rfl ?_
                        exact WO.nil ⟨rfl, rfl⟩
                      refine' DT.r rfl rfl rfl ?hq ?_
                      case hq =>
                        refine WO.no rfl rfl ?_
                        exact WO.nil ⟨rfl, rfl⟩
                      refine' DT.r rfl rfl rfl ?hq ?_
                      case hq =>
                        refine WO.no rfl rfl ?_
                        exact WO.nil ⟨rfl, rfl⟩
                      refine' DT.r rfl rfl rfl ?hq ?_
                      case hq =>
                        refine WO.p rfl rfl ?_
                        exact WO.nil ⟨rfl, rfl⟩
                      refine' DT.r rfl rfl rfl ?hq ?_
                      case hq =>
                        refine WO.p rfl rfl ?_
                        exact WO.nil ⟨rfl, rfl⟩
                      refine' DT.b rfl rfl rfl ?hq ?_
                      case hq =>
                        refine WO.no rfl rfl ?_
                        exact WO.nil ⟨rfl, rfl⟩
                      refine' DT.b rfl rfl rfl ?hq ?_
                      case hq =>
                        refine WO.no rfl rfl ?_
                        exact WO.nil ⟨rfl, rfl⟩
                      refine DT.nil [_, _, _, _, _, _, _, _] rfl ?_
                      refine WO.no rfl rfl (WO.no rfl rfl (WO.p rfl rfl ?_))
                      refine WO.nil ?_
                      refine W.cond_t rfl ?_
                      refine W.sreg ?_
                      refine WO.p rfl rfl ?_
                      refine WO.nil ?_
                      refine W.ret ?_
                      exact fin.ret (Res.one rfl (RV.tmp rfl)) rfl)
                 · first
                   | (exfalso; omega)
                   | (refine' DT.r rfl rfl rfl ?hq ?_
                      case hq =>
                        refine WO.pg rfl rfl rfl ?_
                        exact WO.nil ⟨rfl, rfl⟩
                      refine' DT.r rfl rfl rfl ?hq ?_
                      case hq =>
                        refine WO.pg rfl rfl rfl ?_
                        exact WO.nil ⟨rfl, rfl⟩
                      refine' DT.r rfl rfl rfl ?hq ?_
                      case hq =>
                        refine WO.p rfl rfl ?_
                        exact WO.nil ⟨rfl, rfl⟩
                      refine' DT.rB rfl rfl rfl ?hq (fun c5 => ?_) (fun c5 => ?_)
                      case hq =>
                        refine WO.p rfl rfl ?_
                        exact WO.nil ⟨rfl, rfl⟩
                      · first
                        | (exfalso; omega)
                        | (refine' DT.r rfl rfl rfl ?hq ?_
                           case hq =>
                             refine WO.no rfl rfl ?_
                             exact WO.nil ⟨rfl, rfl⟩
                           refine' DT.r rfl rfl rfl ?hq ?_
                           case hq =>
                             refine WO.no rfl rfl ?_
                             exact WO.nil ⟨rfl, rfl⟩
                           refine' DT.r rfl rfl rfl ?hq ?_
                           case hq =>
                             refine WO.p rfl rfl ?_
                             exact WO.nil ⟨rfl, rfl⟩
                           refine' DT.r rfl rfl rfl ?hq ?_
                           case hq =>
                             refine WO.p rfl rfl ?_
                             exact WO.nil ⟨rfl, rfl⟩
                           refine' DT.r rfl rfl rfl ?hq ?_
                           case hq =>
                             refine WO.no rfl rfl ?_
                             exact WO.nil ⟨rfl, rfl⟩
                           refine' DT.b rfl rfl rfl ?hq ?_
                           case hq =>
                             refine WO.no rfl rfl ?_
                             exact WO.nil ⟨rfl, rfl⟩
                           refine' DT.r rfl rfl rfl ?hq ?_
                           case hq =>
                             refine WO.no rfl rfl ?_
                             exact WO.nil ⟨rfl, rfl⟩
                           refine' DT.r rfl rfl rfl ?hq ?_
                           case hq =>
                             refine WO.p rfl rfl ?_
                             exact WO.nil ⟨rfl, rfl⟩
                           refine' DT.r rfl rfl rfl ?hq ?_
                           case hq =>
                             refine WO.p rfl rfl ?_
                             exact WO.nil ⟨rfl, rfl⟩
                           refine' DT.r rfl rfl rfl ?hq ?_
                           case hq =>
                             refine WO.no rfl rfl ?_
                             exact WO.nil ⟨rfl, rfl⟩
                           refine' DT.b rfl rfl rfl ?hq ?_
                           case hq =>
                             refine WO.no rfl rfl ?_
                             exact WO.nil ⟨rfl, rfl⟩
                           refine' DT.r rfl rfl rfl ?hq ?_
                           case hq =>
                             refine WO.no rfl rfl ?_
                             exact WO.nil ⟨rfl, rfl⟩
                           refine' DT.r rfl rfl rfl ?hq ?_
                           case hq =>
                             refine WO.p rfl rfl ?_
                             exact WO.nil ⟨rfl, rfl⟩
                           refine' DT.r rfl rfl rfl ?hq ?_
                           case hq =>
                             refine WO.p rfl rfl ?_
                             exact WO.nil ⟨rfl, rfl⟩
                           refine' DT.r rfl rfl rfl ?hq ?_
                           case hq =>
                             refine WO.no rfl rfl ?_
                             exact WO.nil ⟨rfl, rfl⟩
                           refine' DT.r rfl rfl rfl ?hq ?_
                           case hq =>
                             refine WO.no rfl rfl ?_
                             exact WO.nil ⟨rfl, rfl⟩
                           refine' DT.b rfl rfl rfl ?hq ?_
                           case hq =>
                             refine WO.no rfl rfl ?_
                             exact WO.nil ⟨rfl, rfl⟩
                           refine' DT.r rfl rfl rfl ?hq ?_
                           case hq =>
                             refine WO.no rfl rfl ?_
                             exact WO.nil ⟨rfl, rfl⟩
                           refine' DT.r rfl rfl rfl ?hq ?_
                           case hq =>
                             refine WO.p rfl rfl ?_
                             exact WO.nil ⟨rfl, rfl⟩
                           refine' DT.r rfl rfl rfl ?hq ?_
                           case hq =>
                             refine WO.p rfl rfl ?_
                             exact WO.nil ⟨rfl, rfl⟩
                           refine' DT.r rfl rfl rfl ?hq ?_
                           case hq =>
                             refine WO.no rfl rfl ?_
                             exact WO.nil ⟨rfl, rfl⟩
                           refine' DT.r rfl rfl rfl ?hq ?_
                           case hq =>
                             refine WO.no rfl rfl ?_
                             exact WO.nil ⟨rfl, rfl⟩
                           refine' DT.b rfl rfl rfl ?hq ?_
                           case hq =>
                             refine WO.no rfl rfl ?_
                             exact WO.nil ⟨rfl, rfl⟩
                           refine' DT.r rfl rfl rfl ?hq ?_
                           case hq =>
                             refine WO.no rfl rfl ?_
                             exact WO.nil ⟨rfl, rfl⟩
                           refine' DT.r rfl rfl rfl ?hq ?_
                           case hq =>
                             refine WO.p rfl rfl ?_
                             exact WO.nil ⟨rfl, rfl⟩
                           refine' DT.r rfl rfl rfl ?hq ?_
                           case hq =>
                             refine WO.p rfl rfl ?_
                             exact WO.nil ⟨rfl, rfl⟩
                           refine' DT.r rfl rfl rfl ?hq ?_
                           case hq =>
                             refine WO.no rfl rfl ?_
                             exact WO.nil ⟨rfl, rfl⟩
                           refine' DT.b rfl rfl rfl ?hq ?_
                           case hq =>
                             refine WO.no rfl rfl ?_
                             exact WO.nil ⟨rfl, rfl⟩
                           refine' DT.r rfl rfl rfl ?hq ?_
                           case hq =>
                             refine WO.no rfl rfl ?_
                             exact WO.nil ⟨rfl, rfl⟩
                           refine' DT.r rfl rfl rfl ?hq ?_
                           case hq =>
                             refine WO.no rfl rfl ?_
                             exact WO.nil ⟨rfl, rfl⟩
                           refine' DT.b rfl rfl rfl ?hq ?_
                           case hq =>
                             refine WO.no rfl rfl ?_
                             exact WO.nil ⟨rfl, rfl⟩
                           refine' DT.r rfl rfl rfl ?hq ?_
                           case hq =>
                             refine WO.no rfl rfl ?_
                             exact WO.nil ⟨rfl, rfl⟩
                           refine' DT.r rfl rfl rfl ?hq ?_
                           case hq =>
                             refine WO.no rfl rfl ?_
                             exact WO.nil ⟨rfl, rfl⟩
                           refine' DT.r rfl rfl rfl ?hq ?_
                           case hq =>
                             refine WO.no rfl rfl ?_
                             exact WO.nil ⟨rfl, rfl⟩
                           refine' DT.b rfl rfl rfl ?hq ?_
                           case hq =>
                             refine WO.no rfl rfl ?_
                             exact WO.nil ⟨rfl, rfl⟩
                           refine' DT.r rfl rfl rfl ?hq ?_
                           case hq =>
                             refine WO.no rfl rfl ?_
                             exact WO.nil ⟨rfl, rfl⟩
                           refine' DT.r rfl rfl rfl ?hq ?_
                           case hq =>
                             refine WO.no rfl rfl ?_
                             exact WO.nil ⟨rfl, rfl⟩
                           refine' DT.r rfl rfl rfl ?hq ?_
                           case hq =>
                             refine WO.no rfl rfl ?_
                             exact WO.nil ⟨rfl, rfl⟩
                           refine' DT.b rfl rfl rfl ?hq ?_
                           case hq =>
                             refine WO.no rfl rfl ?_
                             exact WO.nil ⟨rfl, rfl⟩
                           refine' DT.r rfl rfl rfl ?hq ?_
                           case hq =>
                             refine WO.no rfl rfl ?_
                             exact WO.nil ⟨rfl, rfl⟩
                           refine' DT.r rfl rfl rfl ?hq ?_
                           case hq =>
                             refine WO.no rfl rfl ?_
                             exact WO.nil ⟨rfl, rfl⟩
                           refine' DT.r rfl rfl rfl ?hq ?_
                           case hq =>
                             refine WO.p rfl rfl ?_
                             exact WO.nil ⟨rfl, rfl⟩
                           refine' DT.r rfl rfl rfl ?hq ?_
                           case hq =>
                             refine WO.p rfl rfl ?_
                             exact WO.nil ⟨rfl, rfl⟩
                           refine' DT.r rfl rfl rfl ?hq ?_
                           case hq =>
                             refine WO.no rfl rfl ?_
                             exact WO.nil ⟨rfl, rfl⟩
                           refine' DT.b rfl rfl rfl ?hq ?_
                           case hq =>
                             refine WO.no rfl rfl ?_
                             exact WO.nil ⟨rfl, rfl⟩
                           refine' DT.r rfl rfl rfl ?hq ?_
                           case hq =>
                             refine WO.no rfl rfl ?_
                             exact WO.nil ⟨rfl, rfl⟩
                           refine' DT.r rfl rfl rfl ?hq ?_
                           case hq =>
                             refine WO.no rfl rfl ?_
                             exact WO.nil ⟨rfl, rfl⟩
                           refine' DT.b rfl rfl rfl ?hq ?_
                           case hq =>
                             refine WO.no rfl rfl ?_
                             exact WO.nil ⟨rfl, rfl⟩
                           refine' DT.r rfl rfl rfl ?hq ?_
                           case hq =>
                             refine WO.no rfl rfl ?_
                             exact WO.nil ⟨rfl, rfl⟩
                           refine' DT.r rfl rfl rfl ?hq ?_
                           case hq =>
                             refine WO.no rfl rfl ?_
                             exact WO.nil ⟨rfl, rfl⟩
                           refine' DT.r rfl rfl rfl ?hq ?_
                           case hq =>
                             refine WO.no rfl rfl ?_
                             exact WO.nil ⟨rfl, rfl⟩
                           refine' DT.b rfl rfl rfl ?hq ?_
                           case hq =>
                             refine WO.no rfl rfl ?_
                             exact WO.nil ⟨rfl, rfl⟩
                           refine' DT.r rfl rfl rfl ?hq ?_
                           case hq =>
                             refine WO.no rfl rfl ?_
                             exact WO.nil ⟨rfl, rfl⟩
                           refine' DT.r rfl rfl rfl ?hq ?_
                           case hq =>
                             refine WO.no rfl rfl ?_
                             exact WO.nil ⟨rfl, rfl⟩
                           refine' DT.r rfl rfl rfl ?hq ?_
                           case hq =>
                             refine WO.no rfl rfl ?_
                             exact WO.nil ⟨rfl, rfl⟩
                           refine' DT.b rfl rfl rfl ?hq ?_
                           case hq =>
                             refine WO.no rfl rfl ?_
                             exact WO.nil ⟨rfl, rfl⟩
                           refine' DT.r rfl rfl rfl ?hq ?_
                           case hq =>
                             refine WO.no rfl rfl ?_
                             exact WO.nil ⟨rfl, rfl⟩
                           refine' DT.r rfl rfl rfl ?hq ?_
                           case hq =>
                             refine WO.no rfl rfl ?_
                             exact WO.nil ⟨rfl, rfl⟩
                           refine' DT.r rfl rfl rfl ?hq ?_
                           case hq =>
                             refine WO.p rfl rfl ?_
                             exact WO.nil ⟨rfl, rfl⟩
                           refine' DT.r rfl rfl rfl ?hq ?_
                           case hq =>
                             refine WO.p rfl rfl ?_
                             exact WO.nil ⟨rfl, rfl⟩
                           refine' DT.b rfl rfl rfl ?hq ?_
                           case hq =>
                             refine WO.no rfl rfl ?_
                             exact WO.nil ⟨rfl, rfl⟩
                           refine' DT.b rfl rfl rfl ?hq ?_
                           case hq =>
                             refine WO.no rfl rfl ?_
                             exact WO.nil ⟨rfl, rfl⟩
                           refine DT.nil [_, _, _, _, _, _, _, _] rfl ?_
                           refine WO.no rfl rfl (WO.no rfl rfl (WO.p rfl rfl ?_))
                           refine WO.nil ?_
                           refine W.cond_t rfl ?_
                           refine W.sreg ?_
                           refine WO.p rfl rfl ?_
                           refine WO.nil ?_
                           refine W.ret ?_
                           exact fin.ret (Res.one rfl (RV.tmp rfl)) rfl)
                      · first
                        | (exfalso; omega)
                        | (refine' DT.r rfl rfl rfl ?hq ?_
                           case hq =>
                             refine WO.pg rfl rfl rfl ?_
                             exact WO.nil ⟨rfl, rfl⟩
                           refine' DT.r rfl rfl rfl ?hq ?_
                           case hq =>
                             refine WO.pg rfl rfl rfl ?_
                             exact WO.nil ⟨rfl, rfl⟩
                           refine' DT.r rfl rfl rfl ?hq ?_
                           case hq =>
                             refine WO.p rfl rfl ?_
                             exact WO.nil ⟨rfl, rfl⟩
                           refine' DT.rB rfl rfl rfl ?hq (fun c6 => ?_) (fun c6 => ?_)
                           case hq =>
                             refine WO.p rfl rfl ?_
                             exact WO.nil ⟨rfl, rfl⟩
                           · first
                             | (exfalso; omega)
                             | (refine' DT.r rfl rfl rfl ?hq ?_
                                case hq =>
                                  refine WO.no rfl rfl ?_
                                  exact WO.nil ⟨rfl, rfl⟩
                                refine' DT.b rfl rfl rfl ?hq ?_
                                case hq =>
                                  refine WO.no rfl rfl ?_
                                  exact WO.nil ⟨rfl, rfl⟩
                                refine' DT.r rfl rfl rfl ?hq ?_
                                case hq =>
                                  refine WO.no rfl rfl ?_
                                  exact WO.nil ⟨rfl, rfl⟩
                                refine' DT.r rfl rfl rfl ?hq ?_
                                case hq =>
                                  refine WO.p rfl rfl ?_
                                  exact WO.nil ⟨rfl, rfl⟩
                                refine' DT.r rfl rfl rfl ?hq ?_
                                case hq =>
                                  refine WO.p rfl rfl ?_
                                  exact WO.nil ⟨rfl, rfl⟩
                                refine' DT.r rfl rfl rfl ?hq ?_
                                case hq =>
                                  refine WO.no rfl rfl ?_
                                  exact WO.nil ⟨rfl, rfl⟩
                                refine' DT.b rfl rfl rfl ?hq ?_
                                case hq =>
                                  refine WO.no rfl rfl ?_
                                  exact WO.nil ⟨rfl, rfl⟩
                                refine' DT.r rfl rfl rfl ?hq ?_
                                case hq =>
                                  refine WO.no rfl rfl ?_
                                  exact WO.nil ⟨rfl, rfl⟩
                                refine' DT.r rfl rfl rfl ?hq ?_
                                case hq =>
                                  refine WO.p rfl rfl ?_
                                  exact WO.nil ⟨rfl, rfl⟩
                                refine' DT.r rfl rfl rfl ?hq ?_
                                case hq =>
                                  refine WO.p rfl rfl ?_
                                  exact WO.nil ⟨rfl, rfl⟩
                                refine' DT.r rfl rfl rfl ?hq ?_
                                case hq =>
                                  refine WO.no rfl rfl ?_
                                  exact WO.nil ⟨rfl, rfl⟩
                                refine' DT.r rfl rfl rfl ?hq ?_
                                case hq =>
                                  refine WO.no rfl rfl ?_
                                  exact WO.nil ⟨rfl, rfl⟩
                                refine' DT.b rfl rfl rfl ?hq ?_
                                case hq =>
                                  refine WO.no rfl rfl ?_
                                  exact WO.nil ⟨rfl, rfl⟩
                                refine' DT.r rfl rfl rfl ?hq ?_
                                case hq =>
                                  refine WO.no rfl rfl ?_
                                  exact WO.nil ⟨rfl, rfl⟩
                                refine' DT.r rfl rfl rfl ?hq ?_
                                case hq =>
                                  refine WO.p rfl rfl ?_
                                  exact WO.nil ⟨rfl, rfl⟩
                                refine' DT.r rfl rfl rfl ?hq ?_
                                case hq =>
                                  refine WO.p rfl rfl ?_
                                  exact WO.nil ⟨rfl, rfl⟩
                                refine' DT.r rfl rfl rfl ?hq ?_
                                case hq =>
                                  refine WO.no rfl rfl ?_
                                  exact WO.nil ⟨rfl, rfl⟩
                                refine' DT.r rfl rfl rfl ?hq ?_
                                case hq =>
                                  refine WO.no rfl rfl ?_
                                  exact WO.nil ⟨rfl, rfl⟩
                                refine' DT.b rfl rfl rfl ?hq ?_
                                case hq =>
                                  refine WO.no rfl rfl ?_
                                  exact WO.nil ⟨rfl, rfl⟩
                                refine' DT.r rfl rfl rfl ?hq ?_
                                case hq =>
                                  refine WO.no rfl rfl ?_
                                  exact WO.nil ⟨rfl, rfl⟩
                                refine' DT.r rfl rfl rfl ?hq ?_
                                case hq =>
                                  refine WO.p rfl rfl ?_
                                  exact WO.nil ⟨rfl, rfl⟩
                                refine' DT.r rfl rfl rfl ?hq ?_
                                case hq =>
                                  refine WO.p rfl rfl ?_
                                  exact WO.nil ⟨rfl, rfl⟩
                                refine' DT.r rfl rfl rfl ?hq ?_
                                case hq =>
                                  refine WO.no rfl rfl ?_
                                  exact WO.nil ⟨rfl, rfl⟩
                                refine' DT.b rfl rfl rfl ?hq ?_
                                case hq =>
                                  refine WO.no rfl rfl ?_
                                  exact WO.nil ⟨rfl, rfl⟩
                                refine' DT.r rfl rfl rfl ?hq ?_
                                case hq =>
                                  refine WO.no rfl rfl ?_
                                  exact WO.nil ⟨rfl, rfl⟩
                                refine' DT.r rfl rfl rfl ?hq ?_
                                case hq =>
                                  refine WO.no rfl rfl ?_
                                  exact WO.nil ⟨rfl, rfl⟩
                                refine' DT.b rfl rfl rfl ?hq ?_
                                case hq =>
                                  refine WO.no rfl rfl ?_
                                  exact WO.nil ⟨rfl, rfl⟩
                                refine' DT.r rfl rfl rfl ?hq ?_
                                case hq =>
                                  refine WO.no rfl rfl ?_
                                  exact WO.nil ⟨rfl, rfl⟩
                                refine' DT.r rfl rfl rfl ?hq ?_
                                case hq =>
                                  refine WO.no rfl rfl ?_
                                  exact WO.nil ⟨rfl, rfl⟩
                                refine' DT.r rfl rfl rfl ?hq ?_
                                case hq =>
                                  refine WO.no rfl rfl ?_
                                  exact WO.nil ⟨rfl, rfl⟩
                                refine' DT.b rfl rfl rfl ?hq ?_
                                case hq =>
                                  refine WO.no rfl rfl ?_
                                  exact WO.nil ⟨rfl, rfl⟩
                                refine' DT.r rfl rfl rfl ?hq ?_
                                case hq =>
                                  refine WO.no rfl rfl ?_
                                  exact WO.nil ⟨rfl, rfl⟩
                                refine' DT.r rfl rfl rfl ?hq ?_
                                case hq =>
                                  refine WO.no rfl rfl ?_
                                  exact WO.nil ⟨rfl, rfl⟩
                                refine' DT.r rfl rfl rfl ?hq ?_
                                case hq =>
                                  refine WO.no rfl rfl ?_
                                  exact WO.nil ⟨rfl, rfl⟩
                                refine' DT.b rfl rfl rfl ?hq ?_
                                case hq =>
                                  refine WO.no rfl rfl ?_
                                  exact WO.nil ⟨rfl, rfl⟩
                                refine' DT.r rfl rfl rfl ?hq ?_
                                case hq =>
                                  refine WO.no rfl rfl ?_
                                  exact WO.nil ⟨rfl, rfl⟩
                                refine' DT.r rfl rfl rfl ?hq ?_
                                case hq =>
                                  refine WO.no rfl rfl ?_
                                  exact WO.nil ⟨rfl, rfl⟩
                                refine' DT.r rfl rfl rfl ?hq ?_
                                case hq =>
                                  refine WO.p rfl rfl ?_
                                  exact WO.nil ⟨rfl, rfl⟩
                                refine' DT.r rfl rfl rfl ?hq ?_
                                case hq =>
                                  refine WO.p rfl rfl ?_
                                  exact WO.nil ⟨rfl, rfl⟩
                                refine' DT.r rfl rfl rfl ?hq ?_
                                case hq =>
                                  refine WO.no rfl rfl ?_
                                  exact WO.nil ⟨rfl, rfl⟩
                                refine' DT.b rfl rfl rfl ?hq ?_
                                case hq =>
                                  refine WO.no rfl rfl ?_
                                  exact WO.nil ⟨rfl, rfl⟩
                                refine' DT.r rfl rfl rfl ?hq ?_
                                case hq =>
                                  refine WO.no rfl rfl ?_
                                  exact WO.nil ⟨rfl, rfl⟩
                                refine' DT.r rfl rfl rfl ?hq ?_
                                case hq =>
                                  refine WO.no rfl rfl ?_
                                  exact WO.nil ⟨rfl, rfl⟩
                                refine' DT.b rfl rfl rfl ?hq ?_
                                case hq =>
                                  refine WO.no rfl rfl ?_
                                  exact WO.nil ⟨rfl, rfl⟩
                                refine' DT.r rfl rfl rfl ?hq ?_
                                case hq =>
                                  refine WO.no rfl rfl ?_
                                  exact WO.nil ⟨rfl, rfl⟩
                                refine' DT.r rfl rfl rfl ?hq ?_
                                case hq =>
                                  refine WO.no rfl rfl ?_
                                  exact WO.nil ⟨rfl, rfl⟩
                                refine' DT.r rfl rfl rfl ?hq ?_
                                case hq =>
                                  refine WO.no rfl rfl ?_
                                  exact WO.nil ⟨rfl, rfl⟩
                                refine' DT.b rfl rfl rfl ?hq ?_
                                case hq =>
                                  refine WO.no rfl rfl ?_
                                  exact WO.nil ⟨rfl, rfl⟩
                                refine' DT.r rfl rfl rfl ?hq ?_
                                case hq =>
                                  refine WO.no rfl rfl ?_
                                  exact WO.nil ⟨rfl, rfl⟩
                                refine' DT.r rfl rfl rfl ?hq ?_
                                case hq =>
                                  refine WO.no rfl rfl ?_
                                  exact WO.nil ⟨rfl, rfl⟩
                                refine' DT.r rfl rfl rfl ?hq ?_
                                case hq =>
                                  refine WO.no rfl rfl ?_
                                  exact WO.nil ⟨rfl, rfl⟩
                                refine' DT.b rfl rfl rfl ?hq ?_
                                case hq =>
                                  refine WO.no rfl rfl ?_
                                  exact WO.nil ⟨rfl, rfl⟩
                                refine' DT.r rfl rfl rfl ?hq ?_
                                case hq =>
                                  refine WO.no rfl rfl ?_
                                  exact WO.nil ⟨rfl, rfl⟩
                                refine' DT.r rfl rfl rfl ?hq ?_
                                case hq =>
                                  refine WO.no rfl rfl ?_
                                  exact WO.nil ⟨rfl, rfl⟩
                                refine' DT.r rfl rfl rfl ?hq ?_
                                case hq =>
                                  refine WO.p rfl rfl ?_
                                  exact WO.nil ⟨rfl, rfl⟩
                                refine' DT.r rfl rfl rfl ?hq ?_
                                case hq =>
                                  refine WO.p rfl rfl ?_
                                  exact WO.nil ⟨rfl, rfl⟩
                                refine' DT.b rfl rfl rfl ?hq ?_
                                case hq =>
                                  refine WO.no rfl rfl ?_
                                  exact WO.nil ⟨rfl, rfl⟩
                                refine' DT.b rfl rfl rfl ?hq ?_
                                case hq =>
                                  refine WO.no rfl rfl ?_
                                  exact WO.nil ⟨rfl, rfl⟩
                                refine DT.nil [_, _, _, _, _, _, _, _] rfl ?_
                                refine WO.no rfl rfl (WO.no rfl rfl (WO.p rfl rfl ?_))
                                refine WO.nil ?_
                                refine W.cond_t rfl ?_
                                refine W.sreg ?_
                                refine WO.p rfl rfl ?_
                                refine WO.nil ?_
                                refine W.ret ?_
                                exact fin.ret (Res.one rfl (RV.tmp rfl)) rfl)
                           · first
                             | (exfalso; omega)
                             | (refine' DT.r rfl rfl rfl ?hq ?_
                                case hq =>
                                  refine WO.go' rfl (WO.fieldL rfl rfl rfl ?_)
                                  exact WO.nil ⟨rfl, rfl⟩
                                refine' DT.b rfl rfl rfl ?hq ?_
                                case hq =>
                                  refine WO.go' rfl (WO.load rfl rfl (Cell.own (Pick.tail (Pick.tail (Pick.tail (Pick.head)))) rfl) rfl ?_)
                                  exact WO.nil ⟨rfl, rfl⟩
                                refine' DT.r rfl rfl rfl ?hq ?_
                                case hq =>
                                  refine WO.pg rfl rfl rfl ?_
                                  exact WO.nil ⟨rfl, rfl⟩
                                refine' DT.r rfl rfl rfl ?hq ?_
                                case hq =>
                                  refine WO.p rfl rfl ?_
                                  exact WO.nil ⟨rfl, rfl⟩
                                refine' DT.rB rfl rfl rfl ?hq (fun c7 => ?_) (fun c7 => ?_)
                                case hq =>
                                  refine WO.p rfl rfl ?_
                                  exact WO.nil ⟨rfl, rfl⟩
                                · first
                                  | (exfalso; omega)
                                  | (refine' DT.r rfl rfl rfl ?hq ?_
                                     case hq =>
                                       refine WO.no rfl rfl ?_
                                       exact WO.nil ⟨rfl, rfl⟩
                                     refine' DT.b rfl rfl rfl ?hq ?_
                                     case hq =>
                                       refine WO.no rfl rfl ?_
                                       exact WO.nil ⟨rfl, rfl⟩
                                     refine' DT.r rfl rfl rfl ?hq ?_
                                     case hq =>
                                       refine WO.no rfl rfl ?_
                                       exact WO.nil ⟨rfl, rfl⟩
                                     refine' DT.r rfl rfl rfl ?hq ?_
                                     case hq =>
                                       refine WO.p rfl rfl ?_
                                       exact WO.nil ⟨rfl, rfl⟩
                                     refine' DT.r rfl rfl rfl ?hq ?_
                                     case hq =>
                                       refine WO.p rfl rfl ?_
                                       exact WO.nil ⟨rfl, rfl⟩
                                     refine' DT.r rfl rfl rfl ?hq ?_
                                     case hq =>
                                       refine WO.no rfl rfl ?_
                                       exact WO.nil ⟨rfl, rfl⟩
                                     refine' DT.r rfl rfl rfl ?hq ?_
                                     case hq =>
                                       refine WO.no rfl rfl ?_
                                       exact WO.nil ⟨rfl, rfl⟩
                                     refine' DT.b rfl rfl rfl ?hq ?_
                                     case hq =>
                                       refine WO.no rfl rfl ?_
                                       exact WO.nil ⟨rfl, rfl⟩
                                     refine' DT.r rfl rfl rfl ?hq ?_
                                     case hq =>
                                       refine WO.no rfl rfl ?_
                                       exact WO.nil ⟨rfl, rfl⟩
                                     refine' DT.r rfl rfl rfl ?hq ?_
                                     case hq =>
                                       refine WO.p rfl rfl ?_
                                       exact WO.nil ⟨rfl, rfl⟩
                                     refine' DT.r rfl rfl rfl ?hq ?_
                                     case hq =>
                                       refine WO.p rfl rfl ?_
                                       exact WO.nil ⟨rfl, rfl⟩
                                     refine' DT.r rfl rfl rfl ?hq ?_
                                     case hq =>
                                       refine WO.no rfl rfl ?_
                                       exact WO.nil ⟨rfl, rfl⟩
                                     refine' DT.r rfl rfl rfl ?hq ?_
                                     case hq =>
                                       refine WO.no rfl rfl ?_
                                       exact WO.nil ⟨rfl, rfl⟩
                                     refine' DT.b rfl rfl rfl ?hq ?_
                                     case hq =>
                                       refine WO.no rfl rfl ?_
                                       exact WO.nil ⟨rfl, rfl⟩
                                     refine' DT.r rfl rfl rfl ?hq ?_
                                     case hq =>
                                       refine WO.no rfl rfl ?_
                                       exact WO.nil ⟨rfl, rfl⟩
                                     refine' DT.r rfl rfl rfl ?hq ?_
                                     case hq =>
                                       refine WO.p rfl rfl ?_
                                       exact WO.nil ⟨rfl, rfl⟩
                                     refine' DT.r rfl rfl rfl ?hq ?_
                                     case hq =>
                                       refine WO.p rfl rfl ?_
                                       exact WO.nil ⟨rfl, rfl⟩
                                     refine' DT.r rfl rfl rfl ?hq ?_
                                     case hq =>
                                       refine WO.no rfl rfl ?_
                                       exact WO.nil ⟨rfl, rfl⟩
                                     refine' DT.b rfl rfl rfl ?hq ?_
                                     case hq =>
                                       refine WO.no rfl rfl ?_
                                       exact WO.nil ⟨rfl, rfl⟩
                                     refine' DT.r rfl rfl rfl ?hq ?_
                                     case hq =>
                                       refine WO.no rfl rfl ?_
                                       exact WO.nil ⟨rfl, rfl⟩
                                     refine' DT.r rfl rfl rfl ?hq ?_
                                     case hq =>
                                       refine WO.no rfl rfl ?_
                                       exact WO.nil ⟨rfl, rfl⟩
                                     refine' DT.b rfl rfl rfl ?hq ?_
                                     case hq =>
                                       refine WO.no rfl rfl ?_
                                       exact WO.nil ⟨rfl, rfl⟩
                                     refine' DT.r rfl rfl rfl ?hq ?_
                                     case hq =>
                                       refine WO.no rfl rfl ?_
                                       exact WO.nil ⟨rfl, rfl⟩
                                     refine' DT.r rfl rfl rfl ?hq ?_
                                     case hq =>
                                       refine WO.no rfl rfl ?_
                                       exact WO.nil ⟨rfl, rfl⟩
                                     refine' DT.r rfl rfl rfl ?hq ?_
                                     case hq =>
                                       refine WO.no rfl rfl ?_
                                       exact WO.nil ⟨rfl, rfl⟩
                                     refine' DT.b rfl rfl rfl ?hq ?_
                                     case hq =>
                                       refine WO.no rfl rfl ?_
                                       exact WO.nil ⟨rfl, rfl⟩
                                     refine' DT.r rfl rfl rfl ?hq ?_
                                     case hq =>
                                       refine WO.no rfl rfl ?_
                                       exact WO.nil ⟨rfl, rfl⟩
                                     refine' DT.r rfl rfl rfl ?hq ?_
                                     case hq =>
                                       refine WO.no rfl rfl ?_
                                       exact WO.nil ⟨rfl, rfl⟩
                                     refine' DT.r rfl rfl rfl ?hq ?_
                                     case hq =>
                                       refine WO.no rfl rfl ?_
                                       exact WO.nil ⟨rfl, rfl⟩
                                     refine' DT.b rfl rfl rfl ?hq ?_
                                     case hq =>
                                       refine WO.no rfl rfl ?_
                                       exact WO.nil ⟨rfl, rfl⟩
                                     refine' DT.r rfl rfl rfl ?hq ?_
                                     case hq =>
                                       refine WO.no rfl rfl ?_
                                       exact WO.nil ⟨rfl, rfl⟩
                                     refine' DT.r rfl rfl rfl ?hq ?_
                                     case hq =>
                                       refine WO.no rfl rfl ?_
                                       exact WO.nil ⟨rfl, rfl⟩
                                     refine' DT.r rfl rfl rfl ?hq ?_
                                     case hq =>
                                       refine WO.p rfl rfl ?_
                                       exact WO.nil ⟨rfl, rfl⟩
                                     refine' DT.r rfl rfl rfl ?hq ?_
                                     case hq =>
                                       refine WO.p rfl rfl ?_
                                       exact WO.nil ⟨rfl, rfl⟩
                                     refine' DT.r rfl rfl rfl ?hq ?_
                                     case hq =>
                                       refine WO.no rfl rfl ?_
                                       exact WO.nil ⟨rfl, rfl⟩
                                     refine' DT.b rfl rfl rfl ?hq ?_
                                     case hq =>
                                       refine WO.no rfl rfl ?_
                                       exact WO.nil ⟨rfl, rfl⟩
                                     refine' DT.r rfl rfl rfl ?hq ?_
                                     case hq =>
                                       refine WO.no rfl rfl ?_
                                       exact WO.nil ⟨rfl, rfl⟩
                                     refine' DT.r rfl rfl rfl ?hq ?_
                                     case hq =>
                                       refine WO.no rfl rfl ?_
                                       exact WO.nil ⟨rfl, rfl⟩
                                     refine' DT.b rfl rfl rfl ?hq ?_
                                     case hq =>
                                       refine WO.no rfl rfl ?_
                                       exact WO.nil ⟨rfl, rfl⟩
                                     refine' DT.r rfl rfl rfl ?hq ?_
                                     case hq =>
                                       refine WO.no rfl rfl ?_
                                       exact WO.nil ⟨rfl, rfl⟩
                                     refine' DT.r rfl rfl rfl ?hq ?_
                                     case hq =>
                                       refine WO.no rfl rfl ?_
                                       exact WO.nil ⟨rfl, rfl⟩
                                     refine' DT.r rfl rfl rfl ?hq ?_
                                     case hq =>
                                       refine WO.no rfl rfl ?_
                                       exact WO.nil ⟨rfl, rfl⟩
                                     refine' DT.b rfl rfl rfl ?hq ?_
                                     case hq =>
                                       refine WO.no rfl rfl ?_
                                       exact WO.nil ⟨rfl, rfl⟩
                                     refine' DT.r rfl rfl rfl ?hq ?_
                                     case hq =>
                                       refine WO.no rfl rfl ?_
                                       exact WO.nil ⟨rfl, rfl⟩
                                     refine' DT.r rfl rfl rfl ?hq ?_
                                     case hq =>
                                       refine WO.no rfl rfl ?_
                                       exact WO.nil ⟨rfl, rfl⟩
                                     refine' DT.r rfl rfl rfl ?hq ?_
                                     case hq =>
                                       refine WO.no rfl rfl ?_
                                       exact WO.nil ⟨rfl, rfl⟩
                                     refine' DT.b rfl rfl rfl ?hq ?_
                                     case hq =>
                                       refine WO.no rfl rfl ?_
                                       exact WO.nil ⟨rfl, rfl⟩
                                     refine' DT.r rfl rfl rfl ?hq ?_
                                     case hq =>
                                       refine WO.no rfl rfl ?_
                                       exact WO.nil ⟨rfl, rfl⟩
                                     refine' DT.r rfl rfl rfl ?hq ?_
                                     case hq =>
                                       refine WO.no rfl rfl ?_
                                       exact WO.nil ⟨rfl, rfl⟩
                                     refine' DT.r rfl rfl rfl ?hq ?_
                                     case hq =>
                                       refine WO.p rfl rfl ?_
                                       exact WO.nil ⟨rfl, rfl⟩
                                     refine' DT.r rfl rfl rfl ?hq ?_
                                     case hq =>
                                       refine WO.p rfl rfl ?_
                                       exact WO.nil ⟨rfl, rfl⟩
                                     refine' DT.b rfl rfl rfl ?hq ?_
                                     case hq =>
                                       refine WO.no rfl rfl ?_
                                       exact WO.nil ⟨rfl, rfl⟩
                                     refine' DT.b rfl rfl rfl ?hq ?_
                                     case hq =>
                                       refine WO.no rfl rfl ?_
                                       exact WO.nil ⟨rfl, rfl⟩
                                     refine DT.nil [_, _, _, _, _, _, _, _] rfl ?_
                                     refine WO.no rfl rfl (WO.no rfl rfl (WO.p rfl rfl ?_))
                                     refine WO.nil ?_
                                     refine W.cond_t rfl ?_
                                     refine W.sreg ?_
                                     refine WO.p rfl rfl ?_
                                     refine WO.nil ?_
                                     refine W.ret ?_
                                     exact fin.ret (Res.one rfl (RV.tmp rfl)) rfl)
                                · first
                                  | (exfalso; omega)
                                  | (refine' DT.r rfl rfl rfl ?hq ?_
                                     case hq =>
                                       refine WO.go' rfl (WO.fieldL rfl rfl rfl ?_)
                                       exact WO.nil ⟨rfl, rfl⟩
                                     refine' DT.b rfl rfl rfl ?hq ?_
                                     case hq =>
                                       refine WO.go' rfl (WO.load rfl rfl (Cell.own (Pick.tail (Pick.tail (Pick.tail (Pick.head)))) rfl) rfl ?_)
                                       exact WO.nil ⟨rfl, rfl⟩
                                     refine' DT.r rfl rfl rfl ?hq ?_
                                     case hq =>
                                       refine WO.pg rfl rfl rfl ?_
                                       exact WO.nil ⟨rfl, rfl⟩
                                     refine' DT.r rfl rfl rfl ?hq ?_
                                     case hq =>
                                       refine WO.p rfl rfl ?_
                                       exact WO.nil ⟨rfl, rfl⟩
                                     refine' DT.rB rfl rfl rfl ?hq (fun c8 => ?_) (fun c8 => ?_)
                                     case hq =>
                                       refine WO.p rfl rfl ?_
                                       exact WO.nil ⟨rfl, rfl⟩
                                     · first
                                       | (exfalso; omega)
                                       | (refine' DT.r rfl rfl rfl ?hq ?_
                                          case hq =>
                                            refine WO.no rfl rfl ?_
                                            exact WO.nil ⟨rfl, rfl⟩
                                          refine' DT.r rfl rfl rfl ?hq ?_
                                          case hq =>
                                            refine WO.no rfl rfl ?_
                                            exact WO.nil ⟨rfl, rfl⟩
                                          refine' DT.b rfl rfl rfl ?hq ?_
                                          case hq =>
                                            refine WO.no rfl rfl ?_
                                            exact WO.nil ⟨rfl, rfl⟩
                                          refine' DT.r rfl rfl rfl ?hq ?_
                                          case hq =>
                                            refine WO.no rfl rfl ?_
                                            exact WO.nil ⟨rfl, rfl⟩
                                          refine' DT.r rfl rfl rfl ?hq ?_
                                          case hq =>
                                            refine WO.p rfl rfl ?_
                                            exact WO.nil ⟨rfl, rfl⟩
                                          refine' DT.r rfl rfl rfl ?hq ?_
                                          case hq =>
                                            refine WO.p rfl rfl ?_
                                            exact WO.nil ⟨rfl, rfl⟩
                                          refine' DT.r rfl rfl rfl ?hq ?_
                                          case hq =>
                                            refine WO.no rfl rfl ?_
                                            exact WO.nil ⟨rfl, rfl⟩
                                          refine' DT.r rfl rfl rfl ?hq ?_
                                          case hq =>
                                            refine WO.no rfl rfl ?_
                                            exact WO.nil ⟨rfl, rfl⟩
                                          refine' DT.b rfl rfl rfl ?hq ?_
                                          case hq =>
                                            refine WO.no rfl rfl ?_
                                            exact WO.nil ⟨rfl, rfl⟩
                                          refine' DT.r rfl rfl rfl ?hq ?_
                                          case hq =>
                                            refine WO.no rfl rfl ?_
                                            exact WO.nil ⟨rfl, rfl⟩
                                          refine' DT.r rfl rfl rfl ?hq ?_
                                          case hq =>
                                            refine WO.p rfl rfl ?_
                                            exact WO.nil ⟨rfl, rfl⟩
                                          refine' DT.r rfl rfl rfl ?hq ?_
                                          case hq =>
                                            refine WO.p rfl rfl ?_
                                            exact WO.nil ⟨rfl, rfl⟩
                                          refine' DT.r rfl rfl rfl ?hq ?_
                                          case hq =>
                                            refine WO.no rfl rfl ?_
                                            exact WO.nil ⟨rfl, rfl⟩
                                          refine' DT.b rfl rfl rfl ?hq ?_
                                          case hq =>
                                            refine WO.no rfl rfl ?_
                                            exact WO.nil ⟨rfl, rfl⟩
                                          refine' DT.r rfl rfl rfl ?hq ?_
                                          case hq =>
                                            refine WO.no rfl rfl ?_
                                            exact WO.nil ⟨rfl, rfl⟩
                                          refine' DT.r rfl rfl rfl ?hq ?_
                                          case hq =>
                                            refine WO.no rfl rfl ?_
                                            exact WO.nil ⟨rfl, rfl⟩
                                          refine' DT.b rfl rfl rfl ?hq ?_
                                          case hq =>
                                            refine WO.no rfl rfl ?_
                                            exact WO.nil ⟨rfl, rfl⟩
                                          refine' DT.r rfl rfl rfl ?hq ?_
                                          case hq =>
                                            refine WO.no rfl rfl ?_
                                            exact WO.nil ⟨rfl, rfl⟩
                                          refine' DT.r rfl rfl rfl ?hq ?_
                                          case hq =>
                                            refine WO.no rfl rfl ?_
                                            exact WO.nil ⟨rfl, rfl⟩
                                          refine' DT.r rfl rfl rfl ?hq ?_
                                          case hq =>
                                            refine WO.no rfl rfl ?_
                                            exact WO.nil ⟨rfl, rfl⟩
                                          refine' DT.b rfl rfl rfl ?hq ?_
                                          case hq =>
                                            refine WO.no rfl rfl ?_
                                            exact WO.nil ⟨rfl, rfl⟩
                                          refine' DT.r rfl rfl rfl ?hq ?_
                                          case hq =>
                                            refine WO.no rfl rfl ?_
                                            exact WO.nil ⟨rfl, rfl⟩
                                          refine' DT.r rfl rfl rfl ?hq ?_
                                          case hq =>
                                            refine WO.no rfl rfl ?_
                                            exact WO.nil ⟨rfl, rfl⟩
                                          refine' DT.r rfl rfl rfl ?hq ?_
                                          case hq =>
                                            refine WO.no rfl rfl ?_
                                            exact WO.nil ⟨rfl, rfl⟩
                                          refine' DT.b rfl rfl rfl ?hq ?_
                                          case hq =>
                                            refine WO.no rfl rfl ?_
                                            exact WO.nil ⟨rfl, rfl⟩
                                          refine' DT.r rfl rfl rfl ?hq ?_
                                          case hq =>
                                            refine WO.no rfl rfl ?_
                                            exact WO.nil ⟨rfl, rfl⟩
                                          refine' DT.r rfl rfl rfl ?hq ?_
                                          case hq =>
                                            refine WO.no rfl rfl ?_
                                            exact WO.nil ⟨rfl, rfl⟩
                                          refine' DT.r rfl rfl rfl ?hq ?_
                                          case hq =>
                                            refine WO.p rfl rfl ?_
                                            exact WO.nil ⟨rfl, rfl⟩
                                          refine' DT.r rfl rfl rfl ?hq ?_
                                          case hq =>
                                            refine WO.p rfl rfl ?_
                                            exact WO.nil ⟨rfl, rfl⟩
                                          refine' DT.r rfl rfl rfl ?hq ?_
                                          case hq =>
                                            refine WO.no rfl rfl ?_
                                            exact WO.nil ⟨rfl, rfl⟩
                                          refine' DT.b rfl rfl rfl ?hq ?_
                                          case hq =>
                                            refine WO.no rfl rfl ?_
                                            exact WO.nil ⟨rfl, rfl⟩
                                          refine' DT.r rfl rfl rfl ?hq ?_
                                          case hq =>
                                            refine WO.no rfl rfl ?_
                                            exact WO.nil ⟨rfl, rfl⟩
                                          refine' DT.r rfl rfl rfl ?hq ?_
                                          case hq =>
                                            refine WO.no rfl rfl ?_
                                            exact WO.nil ⟨rfl, rfl⟩
                                          refine' DT.b rfl rfl rfl ?hq ?_
                                          case hq =>
                                            refine WO.no rfl rfl ?_
                                            exact WO.nil ⟨rfl, rfl⟩
                                          refine' DT.r rfl rfl rfl ?hq ?_
                                          case hq =>
                                            refine WO.no rfl rfl ?_
                                            exact WO.nil ⟨rfl, rfl⟩
                                          refine' DT.r rfl rfl rfl ?hq ?_
                                          case hq =>
                                            refine WO.no rfl rfl ?_
                                            exact WO.nil ⟨rfl, rfl⟩
                                          refine' DT.r rfl rfl rfl ?hq ?_
                                          case hq =>
                                            refine WO.no rfl rfl ?_
                                            exact WO.nil ⟨rfl, rfl⟩
                                          refine' DT.b rfl rfl rfl ?hq ?_
                                          case hq =>
                                            refine WO.no rfl rfl ?_
                                            exact WO.nil ⟨rfl, rfl⟩
                                          refine' DT.r rfl rfl rfl ?hq ?_
                                          case hq =>
                                            refine WO.no rfl rfl ?_
                                            exact WO.nil ⟨rfl, rfl⟩
                                          refine' DT.r rfl rfl rfl ?hq ?_
                                          case hq =>
                                            refine WO.no rfl rfl ?_
                                            exact WO.nil ⟨rfl, rfl⟩
                                          refine' DT.r rfl rfl rfl ?hq ?_
                                          case hq =>
                                            refine WO.no rfl rfl ?_
                                            exact WO.nil ⟨rfl, rfl⟩
                                          refine' DT.b rfl rfl rfl ?hq ?_
                                          case hq =>
                                            refine WO.no rfl rfl ?_
                                            exact WO.nil ⟨rfl, rfl⟩
                                          refine' DT.r rfl rfl rfl ?hq ?_
                                          case hq =>
                                            refine WO.no rfl rfl ?_
                                            exact WO.nil ⟨rfl, rfl⟩
                                          refine' DT.r rfl rfl rfl ?hq ?_
                                          case hq =>
                                            refine WO.no rfl rfl ?_
                                            exact WO.nil ⟨rfl, rfl⟩
                                          refine' DT.r rfl rfl rfl ?hq ?_
                                          case hq =>
                                            refine WO.p rfl rfl ?_
                                            exact WO.nil ⟨rfl, rfl⟩
                                          refine' DT.r rfl rfl rfl ?hq ?_
                                          case hq =>
                                            refine WO.p rfl rfl ?_
                                            exact WO.nil ⟨rfl, rfl⟩
                                          refine' DT.b rfl rfl rfl ?hq ?_
                                          case hq =>
                                            refine WO.no rfl rfl ?_
                                            exact WO.nil ⟨rfl, rfl⟩
                                          refine' DT.b rfl rfl rfl ?hq ?_
                                          case hq =>
                                            refine WO.no rfl rfl ?_
                                            exact WO.nil ⟨rfl, rfl⟩
                                          refine DT.nil [_, _, _, _, _, _, _, _] rfl ?_
                                          refine WO.no rfl rfl (WO.no rfl rfl (WO.p rfl rfl ?_))
                                          refine WO.nil ?_
                                          refine W.cond_t rfl ?_
                                          refine W.sreg ?_
                                          refine WO.p rfl rfl ?_
                                          refine WO.nil ?_
                                          refine W.ret ?_
                                          exact fin.ret (Res.one rfl (RV.tmp rfl)) rfl)
                                     · first
                                       | (exfalso; omega)
                                       | (refine' DT.r rfl rfl rfl ?hq ?_
                                          case hq =>
                                            refine WO.go' rfl (WO.field0 rfl rfl rfl ?_)
                                            exact WO.nil ⟨rfl, rfl⟩
                                          refine' DT.r rfl rfl rfl ?hq ?_
                                          case hq =>
                                            refine WO.go' rfl (WO.fieldL rfl rfl rfl ?_)
                                            exact WO.nil ⟨rfl, rfl⟩
                                          refine' DT.b rfl rfl rfl ?hq ?_
                                          case hq =>
                                            refine WO.go' rfl (WO.load rfl rfl (Cell.own (Pick.tail (Pick.tail (Pick.head))) rfl) rfl ?_)
                                            exact WO.nil ⟨rfl, rfl⟩
                                          refine' DT.r rfl rfl rfl ?hq ?_
                                          case hq =>
                                            refine WO.pg rfl rfl rfl ?_
                                            exact WO.nil ⟨rfl, rfl⟩
                                          refine' DT.r rfl rfl rfl ?hq ?_
                                          case hq =>
                                            refine WO.p rfl rfl ?_
                                            exact WO.nil ⟨rfl, rfl⟩
                                          refine' DT.rB rfl rfl rfl ?hq (fun c9 => ?_) (fun c9 => ?_)
                                          case hq =>
                                            refine WO.p rfl rfl ?_
                                            exact WO.nil ⟨rfl, rfl⟩
                                          · first
                                            | (exfalso; omega)
                                            | (refine' DT.r rfl rfl rfl ?hq ?_
                                               case hq =>
                                                 refine WO.no rfl rfl ?_
                                                 exact WO.nil ⟨rfl, rfl⟩
                                               refine' DT.r rfl rfl rfl ?hq ?_
                                               case hq =>
                                                 refine WO.no rfl rfl ?_
                                                 exact WO.nil ⟨rfl, rfl⟩
                                               refine' DT.b rfl rfl rfl ?hq ?_
                                               case hq =>
                                                 refine WO.no rfl rfl ?_
                                                 exact WO.nil ⟨rfl, rfl⟩
                                               refine' DT.r rfl rfl rfl ?hq ?_
                                               case hq =>
                                                 refine WO.no rfl rfl ?_
                                                 exact WO.nil ⟨rfl, rfl⟩
                                               refine' DT.r rfl rfl rfl ?hq ?_
                                               case hq =>
                                                 refine WO.p rfl rfl ?_
                                                 exact WO.nil ⟨rfl, rfl⟩
                                               refine' DT.r rfl rfl rfl ?hq ?_
                                               case hq =>
                                                 refine WO.p rfl rfl ?_
                                                 exact WO.nil ⟨rfl, rfl⟩
                                               refine' DT.r rfl rfl rfl ?hq ?_
                                               case hq =>
                                                 refine WO.no rfl rfl ?_
                                                 exact WO.nil ⟨rfl, rfl⟩
                                               refine' DT.b rfl rfl rfl ?hq ?_
                                               case hq =>
                                                 refine WO.no rfl rfl ?_
                                                 exact WO.nil ⟨rfl, rfl⟩
                                               refine' DT.r rfl rfl rfl ?hq ?_
                                               case hq =>
                                                 refine WO.no rfl rfl ?_
                                                 exact WO.nil ⟨rfl, rfl⟩
                                               refine' DT.r rfl rfl rfl ?hq ?_
                                               case hq =>
                                                 refine WO.no rfl rfl ?_
                                                 exact WO.nil ⟨rfl, rfl⟩
                                               refine' DT.b rfl rfl rfl ?hq ?_
                                               case hq =>
                                                 refine WO.no rfl rfl ?_
                                                 exact WO.nil ⟨rfl, rfl⟩
                                               refine' DT.r rfl rfl rfl ?hq ?_
                                               case hq =>
                                                 refine WO.no rfl rfl ?_
                                                 exact WO.nil ⟨rfl, rfl⟩
                                               refine' DT.r rfl rfl rfl ?hq ?_
                                               case hq =>
                                                 refine WO.no rfl rfl ?_
                                                 exact WO.nil ⟨rfl, rfl⟩
                                               refine' DT.r rfl rfl rfl ?hq ?_
                                               case hq =>
                                                 refine WO.no rfl rfl ?_
                                                 exact WO.nil ⟨rfl, rfl⟩
                                               refine' DT.b rfl rfl rfl ?hq ?_
                                               case hq =>
                                                 refine WO.no rfl rfl ?_
                                                 exact WO.nil ⟨rfl, rfl⟩
                                               refine' DT.r rfl rfl rfl ?hq ?_
                                               case hq =>
                                                 refine WO.no rfl rfl ?_
                                                 exact WO.nil ⟨rfl, rfl⟩
                                               refine' DT.r rfl rfl rfl ?hq ?_
                                               case hq =>
                                                 refine WO.no rfl rfl ?_
                                                 exact WO.nil ⟨rfl, rfl⟩
                                               refine' DT.r rfl rfl rfl ?hq ?_
                                               case hq =>
                                                 refine WO.no rfl rfl ?_
                                                 exact WO.nil ⟨rfl, rfl⟩
                                               refine' DT.b rfl rfl rfl ?hq ?_
                                               case hq =>
                                                 refine WO.no rfl rfl ?_
                                                 exact WO.nil ⟨rfl, rfl⟩
                                               refine' DT.r rfl rfl rfl ?hq ?_
                                               case hq =>
                                                 refine WO.no rfl rfl ?_
                                                 exact WO.nil ⟨rfl, rfl⟩
                                               refine' DT.r rfl rfl rfl ?hq ?_
                                               case hq =>
                                                 refine WO.no rfl rfl ?_
                                                 exact WO.nil ⟨rfl, rfl⟩
                                               refine' DT.r rfl rfl rfl ?hq ?_
                                               case hq =>
                                                 refine WO.p rfl rfl ?_
                                                 exact WO.nil ⟨rfl, rfl⟩
                                               refine' DT.r rfl rfl rfl ?hq ?_
                                               case hq =>
                                                 refine WO.p rfl rfl ?_
                                                 exact WO.nil ⟨rfl, rfl⟩
                                               refine' DT.r rfl rfl rfl ?hq ?_
                                               case hq =>
                                                 refine WO.no rfl rfl ?_
                                                 exact WO.nil ⟨rfl, rfl⟩
                                               refine' DT.b rfl rfl rfl ?hq ?_
                                               case hq =>
                                                 refine WO.no rfl rfl ?_
                                                 exact WO.nil ⟨rfl, rfl⟩
                                               refine' DT.r rfl rfl rfl ?hq ?_
                                               case hq =>
                                                 refine WO.no rfl rfl ?_
                                                 exact WO.nil ⟨rfl, rfl⟩
                                               refine' DT.r rfl rfl rfl ?hq ?_
                                               case hq =>
                                                 refine WO.no rfl rfl ?_
                                                 exact WO.nil ⟨rfl, rfl⟩
                                               refine' DT.b rfl rfl rfl ?hq ?_
                                               case hq =>
                                                 refine WO.no rfl rfl ?_
                                                 exact WO.nil ⟨rfl, rfl⟩
                                               refine' DT.r rfl rfl rfl ?hq ?_
                                               case hq =>
                                                 refine WO.no rfl rfl ?_
                                                 exact WO.nil ⟨rfl, rfl⟩
                                               refine' DT.r rfl rfl rfl ?hq ?_
                                               case hq =>
                                                 refine WO.no rfl rfl ?_
                                                 exact WO.nil ⟨rfl, rfl⟩
                                               refine' DT.r rfl rfl rfl ?hq ?_
                                               case hq =>
                                                 refine WO.no rfl rfl ?_
                                                 exact WO.nil ⟨rfl, rfl⟩
                                               refine' DT.b rfl rfl rfl ?hq ?_
                                               case hq =>
                                                 refine WO.no rfl rfl ?_
                                                 exact WO.nil ⟨rfl, rfl⟩
                                               refine' DT.r rfl rfl rfl ?hq ?_
                                               case hq =>
                                                 refine WO.no rfl rfl ?_
                                                 exact WO.nil ⟨rfl, rfl⟩
                                               refine' DT.r rfl rfl rfl ?hq ?_
                                               case hq =>
                                                 refine WO.no rfl rfl ?_
                                                 exact WO.nil ⟨rfl, rfl⟩
                                               refine' DT.r rfl rfl rfl ?hq ?_
                                               case hq =>
                                                 refine WO.no rfl rfl ?_
                                                 exact WO.nil ⟨rfl, rfl⟩
                                               refine' DT.b rfl rfl rfl ?hq ?_
                                               case hq =>
                                                 refine WO.no rfl rfl ?_
                                                 exact WO.nil ⟨rfl, rfl⟩
                                               refine' DT.r rfl rfl rfl ?hq ?_
                                               case hq =>
                                                 refine WO.no rfl rfl ?_
                                                 exact WO.nil ⟨rfl, rfl⟩
                                               refine' DT.r rfl rfl rfl ?hq ?_
                                               case hq =>
                                                 refine WO.no rfl rfl ?_
                                                 exact WO.nil ⟨rfl, rfl⟩
                                               refine' DT.r rfl rfl rfl ?hq ?_
                                               case hq =>
                                                 refine WO.p rfl rfl ?_
                                                 exact WO.nil ⟨rfl, rfl⟩
                                               refine' DT.r rfl rfl rfl ?hq ?_
                                               case hq =>
                                                 refine WO.p rfl rfl ?_
                                                 exact WO.nil ⟨rfl, rfl⟩
                                               refine' DT.b rfl rfl rfl ?hq ?_
                                               case hq =>
                                                 refine WO.no rfl rfl ?_
                                                 exact WO.nil ⟨rfl, rfl⟩
                                               refine' DT.b rfl rfl rfl ?hq ?_
                                               case hq =>
                                                 refine WO.no rfl rfl ?_
                                                 exact WO.nil ⟨rfl, rfl⟩
                                               refine DT.nil [_, _, _, _, _, _, _, _] rfl ?_
                                               refine WO.no rfl rfl (WO.no rfl rfl (WO.p rfl rfl ?_))
                                               refine WO.nil ?_
                                               refine W.cond_t rfl ?_
                                               refine W.sreg ?_
                                               refine WO.p rfl rfl ?_
                                               refine WO.nil ?_
                                               refine W.ret ?_
                                               exact fin.ret (Res.one rfl (RV.tmp rfl)) rfl)
                                          · first
                                            | (exfalso; omega)
                                            | (refine' DT.r rfl rfl rfl ?hq ?_
                                               case hq =>
                                                 refine WO.go' rfl (WO.fieldL rfl rfl rfl ?_)
                                                 exact WO.nil ⟨rfl, rfl⟩
                                               refine' DT.r rfl rfl rfl ?hq ?_
                                               case hq =>
                                                 refine WO.go' rfl (WO.fieldL rfl rfl rfl ?_)
                                                 exact WO.nil ⟨rfl, rfl⟩
                                               refine' DT.b rfl rfl rfl ?hq ?_
                                               case hq =>
                                                 refine WO.go' rfl (WO.load rfl rfl (Cell.own (Pick.tail (Pick.tail (Pick.head))) rfl) rfl ?_)
                                                 exact WO.nil ⟨rfl, rfl⟩
                                               refine' DT.r rfl rfl rfl ?hq ?_
                                               case hq =>
                                                 refine WO.pg rfl rfl rfl ?_
                                                 exact WO.nil ⟨rfl, rfl⟩
                                               refine' DT.r rfl rfl rfl ?hq ?_
                                               case hq =>
                                                 refine WO.p rfl rfl ?_
                                                 exact WO.nil ⟨rfl, rfl⟩
                                               refine' DT.rB rfl rfl rfl ?hq (fun c10 => ?_) (fun c10 => ?_)
                                               case hq =>
                                                 refine WO.p rfl rfl ?_
                                                 exact WO.nil ⟨rfl, rfl⟩
                                               · first
                                                 | (exfalso; omega)
                                                 | (refine' DT.r rfl rfl rfl ?hq ?_
                                                    case hq =>
                                                      refine WO.no rfl rfl ?_
                                                      exact WO.nil ⟨rfl, rfl⟩
                                                    refine' DT.b rfl rfl rfl ?hq ?_
                                                    case hq =>
                                                      refine WO.no rfl rfl ?_
                                                      exact WO.nil ⟨rfl, rfl⟩
                                                    refine' DT.r rfl rfl rfl ?hq ?_
                                                    case hq =>
                                                      refine WO.no rfl rfl ?_
                                                      exact WO.nil ⟨rfl, rfl⟩
                                                    refine' DT.r rfl rfl rfl ?hq ?_
                                                    case hq =>
                                                      refine WO.no rfl rfl ?_
                                                      exact WO.nil ⟨rfl, rfl⟩
                                                    refine' DT.b rfl rfl rfl ?hq ?_
                                                    case hq =>
                                                      refine WO.no rfl rfl ?_
                                                      exact WO.nil ⟨rfl, rfl⟩
                                                    refine' DT.r rfl rfl rfl ?hq ?_
                                                    case hq =>
                                                      refine WO.no rfl rfl ?_
                                                      exact WO.nil ⟨rfl, rfl⟩
                                                    refine' DT.r rfl rfl rfl ?hq ?_
                                                    case hq =>
                                                      refine WO.no rfl rfl ?_
                                                      exact WO.nil ⟨rfl, rfl⟩
                                                    refine' DT.r rfl rfl rfl ?hq ?_
                                                    case hq =>
                                                      refine WO.no rfl rfl ?_
                                                      exact WO.nil ⟨rfl, rfl⟩
                                                    refine' DT.b rfl rfl rfl ?hq ?_
                                                    case hq =>
                                                      refine WO.no rfl rfl ?_
                                                      exact WO.nil ⟨rfl, rfl⟩
                                                    refine' DT.r rfl rfl rfl ?hq ?_
                                                    case hq =>
                                                      refine WO.no rfl rfl ?_
                                                      exact WO.nil ⟨rfl, rfl⟩
                                                    refine' DT.r rfl rfl rfl ?hq ?_
                                                    case hq =>
                                                      refine WO.no rfl rfl ?_
                                                      exact WO.nil ⟨rfl, rfl⟩
                                                    refine' DT.r rfl rfl rfl ?hq ?_
                                                    case hq =>
                                                      refine WO.no rfl rfl ?_
                                                      exact WO.nil ⟨rfl, rfl⟩
                                                    refine' DT.b rfl rfl rfl ?hq ?_
                                                    case hq =>
                                                      refine WO.no rfl rfl ?_
                                                      exact WO.nil ⟨rfl, rfl⟩
                                                    refine' DT.r rfl rfl rfl ?hq ?_
                                                    case hq =>
                                                      refine WO.no rfl rfl ?_
                                                      exact WO.nil ⟨rfl, rfl⟩
                                                    refine' DT.r rfl rfl rfl ?hq ?_
                                                    case hq =>
                                                      refine WO.no rfl rfl ?_
                                                      exact WO.nil ⟨rfl, rfl⟩
                                                    refine' DT.r rfl rfl rfl ?hq ?_
                                                    case hq =>
                                                      refine WO.p rfl rfl ?_
                                                      exact WO.nil ⟨rfl, rfl⟩
                                                    refine' DT.r rfl rfl rfl ?hq ?_
                                                    case hq =>
                                                      refine WO.p rfl rfl ?_
                                                      exact WO.nil ⟨rfl, rfl⟩
                                                    refine' DT.r rfl rfl rfl ?hq ?_
                                                    case hq =>
                                                      refine WO.no rfl rfl ?_
                                                      exact WO.nil ⟨rfl, rfl⟩
                                                    refine' DT.b rfl rfl rfl ?hq ?_
                                                    case hq =>
                                                      refine WO.no rfl rfl ?_
                                                      exact WO.nil ⟨rfl, rfl⟩
                                                    refine' DT.r rfl rfl rfl ?hq ?_
                                                    case hq =>
                                                      refine WO.no rfl rfl ?_
                                                      exact WO.nil ⟨rfl, rfl⟩
                                                    refine' DT.r rfl rfl rfl ?hq ?_
                                                    case hq =>
                                                      refine WO.no rfl rfl ?_
                                                      exact WO.nil ⟨rfl, rfl⟩
                                                    refine' DT.b rfl rfl rfl ?hq ?_
                                                    case hq =>
                                                      refine WO.no rfl rfl ?_
                                                      exact WO.nil ⟨rfl, rfl⟩
                                                    refine' DT.r rfl rfl rfl ?hq ?_
                                                    case hq =>
                                                      refine WO.no rfl rfl ?_
                                                      exact WO.nil ⟨rfl, rfl⟩
                                                    refine' DT.r rfl rfl rfl ?hq ?_
                                                    case hq =>
                                                      refine WO.no rfl rfl ?_
                                                      exact WO.nil ⟨rfl, rfl⟩
                                                    refine' DT.r rfl rfl rfl ?hq ?_
                                                    case hq =>
                                                      refine WO.no rfl rfl ?_
                                                      exact WO.nil ⟨rfl, rfl⟩
                                                    refine' DT.b rfl rfl rfl ?hq ?_
                                                    case hq =>
                                                      refine WO.no rfl rfl ?_
                                                      exact WO.nil ⟨rfl, rfl⟩
                                                    refine' DT.r rfl rfl rfl ?hq ?_
                                                    case hq =>
                                                      refine WO.no rfl rfl ?_
                                                      exact WO.nil ⟨rfl, rfl⟩
                                                    refine' DT.r rfl rfl rfl ?hq ?_
                                                    case hq =>
                                                      refine WO.no rfl rfl ?_
                                                      exact WO.nil ⟨rfl, rfl⟩
                                                    refine' DT.r rfl rfl rfl ?hq ?_
                                                    case hq =>
                                                      refine WO.no rfl rfl ?_
                                                      exact WO.nil ⟨rfl, rfl⟩
                                                    refine' DT.b rfl rfl rfl ?hq ?_
                                                    case hq =>
                                                      refine WO.no rfl rfl ?_
                                                      exact WO.nil ⟨rfl, rfl⟩
                                                    refine' DT.r rfl rfl rfl ?hq ?_
                                                    case hq =>
                                                      refine WO.no rfl rfl ?_
                                                      exact WO.nil ⟨rfl, rfl⟩
                                                    refine' DT.r rfl rfl rfl ?hq ?_
                                                    case hq =>
                                                      refine WO.no rfl rfl ?_
                                                      exact WO.nil ⟨rfl, rfl⟩
                                                    refine' DT.r rfl rfl rfl ?hq ?_
                                                    case hq =>
                                                      refine WO.p rfl rfl ?_
                                                      exact WO.nil ⟨rfl, rfl⟩
                                                    refine' DT.r rfl rfl rfl ?hq ?_
                                                    case hq =>
                                                      refine WO.p rfl rfl ?_
                                                      exact WO.nil ⟨rfl, rfl⟩
                                                    refine' DT.b rfl rfl rfl ?hq ?_
                                                    case hq =>
                                                      refine WO.no rfl rfl ?_
                                                      exact WO.nil ⟨rfl, rfl⟩
                                                    refine' DT.b rfl rfl rfl ?hq ?_
                                                    case hq =>
                                                      refine WO.no rfl rfl ?_
                                                      exact WO.nil ⟨rfl, rfl⟩
                                                    refine DT.nil [_, _, _, _, _, _, _, _] rfl ?_
                                                    refine WO.no rfl rfl (WO.no rfl rfl (WO.p rfl rfl ?_))
                                                    refine WO.nil ?_
                                                    refine W.cond_t rfl ?_
                                                    refine W.sreg ?_
                                                    refine WO.p rfl rfl ?_
                                                    refine WO.nil ?_
                                                    refine W.ret ?_
                                                    exact fin.ret (Res.one rfl (RV.tmp rfl)) rfl)
                                               · first
                                                 | (exfalso; omega)
                                                 | (refine' DT.r rfl rfl rfl ?hq ?_
                                                    case hq =>
                                                      refine WO.go' rfl (WO.field0 rfl rfl rfl ?_)
                                                      exact WO.nil ⟨rfl, rfl⟩
                                                    refine' DT.b rfl rfl rfl ?hq ?_
                                                    case hq =>
                                                      refine WO.go' rfl (WO.load rfl rfl (Cell.own (Pick.tail (Pick.tail (Pick.tail (Pick.head)))) rfl) rfl ?_)
                                                      exact WO.nil ⟨rfl, rfl⟩
                                                    refine' DT.r rfl rfl rfl ?hq ?_
                                                    case hq =>
                                                      refine WO.go' rfl (WO.ar rfl rfl rfl (by (first | (unfold in64; omega) | (unfold in64; omega))) rfl ?_)
                                                      exact WO.nil ⟨rfl, rfl⟩
                                                    refine' DT.r rfl rfl rfl ?hq ?_
                                                    case hq =>
                                                      refine WO.go' rfl (WO.fieldL rfl rfl rfl ?_)
                                                      exact WO.nil ⟨rfl, rfl⟩
                                                    refine' DT.b rfl rfl rfl ?hq ?_
                                                    case hq =>
                                                      refine WO.go' rfl (WO.load rfl rfl (Cell.own (Pick.tail (Pick.tail (Pick.tail (Pick.head)))) rfl) rfl ?_)
                                                      exact WO.nil ⟨rfl, rfl⟩
                                                    refine' DT.r rfl rfl rfl ?hq ?_
                                                    case hq =>
                                                      refine WO.go' rfl (WO.quo rfl rfl (by first | omega | assumption) (by (first | (unfold in64; omega) | (unfold in64; omega))) rfl ?_)
                                                      exact WO.nil ⟨rfl, rfl⟩
                                                    refine' DT.r rfl rfl rfl ?hq ?_
                                                    case hq =>
                                                      refine WO.go' rfl (WO.field0 rfl rfl rfl ?_)
                                                      exact WO.nil ⟨rfl, rfl⟩
                                                    refine' DT.r rfl rfl rfl ?hq ?_
                                                    case hq =>
                                                      refine WO.go' rfl (WO.field0 rfl rfl rfl ?_)
                                                      exact WO.nil ⟨rfl, rfl⟩
                                                    refine' DT.b rfl rfl rfl ?hq ?_
                                                    case hq =>
                                                      refine WO.go' rfl (WO.load rfl rfl (Cell.own (Pick.tail (Pick.tail (Pick.head))) rfl) rfl ?_)
                                                      exact WO.nil ⟨rfl, rfl⟩
                                                    refine' DT.r rfl rfl rfl ?hq ?_
                                                    case hq =>
                                                      refine WO.go' rfl (WO.ar rfl rfl rfl (by (first | (unfold in64; omega) | (unfold in64; omega))) rfl ?_)
                                                      exact WO.nil ⟨rfl, rfl⟩
                                                    refine' DT.r rfl rfl rfl ?hq ?_
                                                    case hq =>
                                                      refine WO.go' rfl (WO.field0 rfl rfl rfl ?_)
                                                      exact WO.nil ⟨rfl, rfl⟩
                                                    refine' DT.r rfl rfl rfl ?hq ?_
                                                    case hq =>
                                                      refine WO.go' rfl (WO.fieldL rfl rfl rfl ?_)
                                                      exact WO.nil ⟨rfl, rfl⟩
                                                    refine' DT.b rfl rfl rfl ?hq ?_
                                                    case hq =>
                                                      refine WO.go' rfl (WO.load rfl rfl (Cell.own (Pick.tail (Pick.tail (Pick.head))) rfl) rfl ?_)
                                                      exact WO.nil ⟨rfl, rfl⟩
                                                    refine' DT.r rfl rfl rfl ?hq ?_
                                                    case hq =>
                                                      refine WO.go' rfl (WO.quo rfl rfl (by first | omega | assumption) (by (first | (unfold in64; omega) | (unfold in64; omega))) rfl ?_)
                                                      exact WO.nil ⟨rfl, rfl⟩
                                                    refine' DT.r rfl rfl rfl ?hq ?_
                                                    case hq =>
                                                      refine WO.pg rfl rfl rfl ?_
                                                      exact WO.nil ⟨rfl, rfl⟩
                                                    refine' DT.r rfl rfl rfl ?hq ?_
                                                    case hq =>
                                                      refine WO.p rfl rfl ?_
                                                      exact WO.nil ⟨rfl, rfl⟩
                                                    refine' DT.rB rfl rfl rfl ?hq (fun c11 => ?_) (fun c11 => ?_)
                                                    case hq =>
                                                      refine WO.p rfl rfl ?_
                                                      exact WO.nil ⟨rfl, rfl⟩
                                                    · first
                                                      | (exfalso; omega)
                                                      | (refine' DT.r rfl rfl rfl ?hq ?_
                                                         case hq =>
                                                           refine WO.no rfl rfl ?_
                                                           exact WO.nil ⟨rfl, rfl⟩
                                                         refine' DT.b rfl rfl rfl ?hq ?_
                                                         case hq =>
                                                           refine WO.no rfl rfl ?_
                                                           exact WO.nil ⟨rfl, rfl⟩
                                                         refine' DT.r rfl rfl rfl ?hq ?_
                                                         case hq =>
                                                           refine WO.no rfl rfl ?_
                                                           exact WO.nil ⟨rfl, rfl⟩
                                                         refine' DT.r rfl rfl rfl ?hq ?_
                                                         case hq =>
                                                           refine WO.no rfl rfl ?_
                                                           exact WO.nil ⟨rfl, rfl⟩
                                                         refine' DT.b rfl rfl rfl ?hq ?_
                                                         case hq =>
                                                           refine WO.no rfl rfl ?_
                                                           exact WO.nil ⟨rfl, rfl⟩
                                                         refine' DT.r rfl rfl rfl ?hq ?_
                                                         case hq =>
                                                           refine WO.no rfl rfl ?_
                                                           exact WO.nil ⟨rfl, rfl⟩
                                                         refine' DT.r rfl rfl rfl ?hq ?_
                                                         case hq =>
                                                           refine WO.no rfl rfl ?_
                                                           exact WO.nil ⟨rfl, rfl⟩
                                                         refine' DT.r rfl rfl rfl ?hq ?_
                                                         case hq =>
                                                           refine WO.no rfl rfl ?_
                                                           exact WO.nil ⟨rfl, rfl⟩
                                                         refine' DT.b rfl rfl rfl ?hq ?_
                                                         case hq =>
                                                           refine WO.no rfl rfl ?_
                                                           exact WO.nil ⟨rfl, rfl⟩
                                                         refine' DT.r rfl rfl rfl ?hq ?_
                                                         case hq =>
                                                           refine WO.no rfl rfl ?_
                                                           exact WO.nil ⟨rfl, rfl⟩
                                                         refine' DT.r rfl rfl rfl ?hq ?_
                                                         case hq =>
                                                           refine WO.no rfl rfl ?_
                                                           exact WO.nil ⟨rfl, rfl⟩
                                                         refine' DT.r rfl rfl rfl ?hq ?_
                                                         case hq =>
                                                           refine WO.no rfl rfl ?_
                                                           exact WO.nil ⟨rfl, rfl⟩
                                                         refine' DT.b rfl rfl rfl ?hq ?_
                                                         case hq =>
                                                           refine WO.no rfl rfl ?_
                                                           exact WO.nil ⟨rfl, rfl⟩
                                                         refine' DT.r rfl rfl rfl ?hq ?_
                                                         case hq =>
                                                           refine WO.no rfl rfl ?_
                                                           exact WO.nil ⟨rfl, rfl⟩
                                                         refine' DT.r rfl rfl rfl ?hq ?_
                                                         case hq =>
                                                           refine WO.no rfl rfl ?_
                                                           exact WO.nil ⟨rfl, rfl⟩
                                                         refine' DT.r rfl rfl rfl ?hq ?_
                                                         case hq =>
                                                           refine WO.p rfl rfl ?_
                                                           exact WO.nil ⟨rfl, rfl⟩
                                                         refine' DT.r rfl rfl rfl ?hq ?_
                                                         case hq =>
                                                           refine WO.p rfl rfl ?_
                                                           exact WO.nil ⟨rfl, rfl⟩
                                                         refine' DT.b rfl rfl rfl ?hq ?_
                                                         case hq =>
                                                           refine WO.no rfl rfl ?_
                                                           exact WO.nil ⟨rfl, rfl⟩
                                                         refine' DT.b rfl rfl rfl ?hq ?_
                                                         case hq =>
                                                           refine WO.no rfl rfl ?_
                                                           exact WO.nil ⟨rfl, rfl⟩
                                                         refine DT.nil [_, _, _, _, _, _, _, _] rfl ?_
                                                         refine WO.no rfl rfl (WO.no rfl rfl (WO.p rfl rfl ?_))
                                                         refine WO.nil ?_
                                                         refine W.cond_t rfl ?_
                                                         refine W.sreg ?_
                                                         refine WO.p rfl rfl ?_
                                                         refine WO.nil ?_
                                                         refine W.ret ?_
                                                         exact fin.ret (Res.one rfl (RV.tmp rfl)) rfl)
                                                    · first
                                                      | (exfalso; omega)
                                                      | (refine' DT.r rfl rfl rfl ?hq ?_
                                                         case hq =>
                                                           refine WO.go' rfl (WO.field0 rfl rfl rfl ?_)
                                                           exact WO.nil ⟨rfl, rfl⟩
                                                         refine' DT.b rfl rfl rfl ?hq ?_
                                                         case hq =>
                                                           refine WO.go' rfl (WO.load rfl rfl (Cell.own (Pick.tail (Pick.tail (Pick.tail (Pick.head)))) rfl) rfl ?_)
                                                           exact WO.nil ⟨rfl, rfl⟩
                                                         refine' DT.r rfl rfl rfl ?hq ?_
                                                         case hq =>
                                                           refine WO.go' rfl (WO.ar rfl rfl rfl (by (first | (unfold in64; omega) | (unfold in64; omega))) rfl ?_)
                                                           exact WO.nil ⟨rfl, rfl⟩
                                                         refine' DT.r rfl rfl rfl ?hq ?_
                                                         case hq =>
                                                           refine WO.go' rfl (WO.fieldL rfl rfl rfl ?_)
                                                           exact WO.nil ⟨rfl, rfl⟩
                                                         refine' DT.b rfl rfl rfl ?hq ?_
                                                         case hq =>
                                                           refine WO.go' rfl (WO.load rfl rfl (Cell.own (Pick.tail (Pick.tail (Pick.tail (Pick.head)))) rfl) rfl ?_)
                                                           exact WO.nil ⟨rfl, rfl⟩
                                                         refine' DT.r rfl rfl rfl ?hq ?_
                                                         case hq =>
                                                           refine WO.go' rfl (WO.quo rfl rfl (by first | omega | assumption) (by (first | (unfold in64; omega) | (unfold in64; omega))) rfl ?_)
                                                           exact WO.nil ⟨rfl, rfl⟩
                                                         refine' DT.r rfl rfl rfl ?hq ?_
                                                         case hq =>
                                                           refine WO.go' rfl (WO.fieldL rfl rfl rfl ?_)
                                                           exact WO.nil ⟨rfl, rfl⟩
                                                         refine' DT.r rfl rfl rfl ?hq ?_
                                                         case hq =>
                                                           refine WO.go' rfl (WO.field0 rfl rfl rfl ?_)
                                                           exact WO.nil ⟨rfl, rfl⟩
                                                         refine' DT.b rfl rfl rfl ?hq ?_
                                                         case hq =>
                                                           refine WO.go' rfl (WO.load rfl rfl (Cell.own (Pick.tail (Pick.tail (Pick.head))) rfl) rfl ?_)
                                                           exact WO.nil ⟨rfl, rfl⟩
                                                         refine' DT.r rfl rfl rfl ?hq ?_
                                                         case hq =>
                                                           refine WO.go' rfl (WO.ar rfl rfl rfl (by (first | (unfold in64; omega) | (unfold in64; omega))) rfl ?_)
                                                           exact WO.nil ⟨rfl, rfl⟩
                                                         refine' DT.r rfl rfl rfl ?hq ?_
                                                         case hq =>
                                                           refine WO.go' rfl (WO.fieldL rfl rfl rfl ?_)
                                                           exact WO.nil ⟨rfl, rfl⟩
                                                         refine' DT.r rfl rfl rfl ?hq ?_
                                                         case hq =>
                                                           refine WO.go' rfl (WO.fieldL rfl rfl rfl ?_)
                                                           exact WO.nil ⟨rfl, rfl⟩
                                                         refine' DT.b rfl rfl rfl ?hq ?_
                                                         case hq =>
                                                           refine WO.go' rfl (WO.load rfl rfl (Cell.own (Pick.tail (Pick.tail (Pick.head))) rfl) rfl ?_)
                                                           exact WO.nil ⟨rfl, rfl⟩
                                                         refine' DT.r rfl rfl rfl ?hq ?_
                                                         case hq =>
                                                           refine WO.go' rfl (WO.quo rfl rfl (by first | omega | assumption) (by (first | (unfold in64; omega) | (unfold in64; omega))) rfl ?_)
                                                           exact WO.nil ⟨rfl, rfl⟩
                                                         refine' DT.r rfl rfl rfl ?hq ?_
                                                         case hq =>
                                                           refine WO.pg rfl rfl rfl ?_
                                                           exact WO.nil ⟨rfl, rfl⟩
                                                         refine' DT.r rfl rfl rfl ?hq ?_
                                                         case hq =>
                                                           refine WO.p rfl rfl ?_
                                                           exact WO.nil ⟨rfl, rfl⟩
                                                         refine' DT.rB rfl rfl rfl ?hq (fun c12 => ?_) (fun c12 => ?_)
                                                         case hq =>
                                                           refine WO.p rfl rfl ?_
                                                           exact WO.nil ⟨rfl, rfl⟩
                                                         · first
                                                           | (exfalso; omega)
                                                           | (refine' DT.b rfl rfl rfl ?hq ?_
                                                              case hq =>
                                                                refine WO.no rfl rfl ?_
                                                                exact WO.nil ⟨rfl, rfl⟩
                                                              refine' DT.b rfl rfl rfl ?hq ?_
                                                              case hq =>
                                                                refine WO.no rfl rfl ?_
                                                                exact WO.nil ⟨rfl, rfl⟩
                                                              refine DT.nil [_, _, _, _, _, _, _, _] rfl ?_
                                                              refine WO.no rfl rfl (WO.no rfl rfl (WO.p rfl rfl ?_))
                                                              refine WO.nil ?_
                                                              refine W.cond_t rfl ?_
                                                              refine W.sreg ?_
                                                              refine WO.p rfl rfl ?_
                                                              refine WO.nil ?_
                                                              refine W.ret ?_
                                                              exact fin.ret (Res.one rfl (RV.tmp rfl)) rfl)
                                                         · first
                                                           | (exfalso; omega)
                                                           | (refine' DT.b rfl rfl rfl ?hq ?_
                                                              case hq =>
                                                                refine WO.go' rfl (WO.loadA rfl rfl (Cells.own (Pick.tail (Pick.head))) rfl rfl ?_)
                                                                exact WO.nil ⟨rfl, rfl⟩
                                                              refine' DT.b rfl rfl rfl ?hq ?_
                                                              case hq =>
                                                                refine WO.go' rfl (WO.loadA rfl rfl (Cells.own Pick.head) rfl rfl ?_)
                                                                exact WO.nil ⟨rfl, rfl⟩
                                                              refine DT.nil [_, _, _, _, _, _, _, _] rfl ?_
                                                              refine WO.go' rfl ?_
                                                              refine WO.callR (r := .bool true) rfl Try.call30 (fun L w hi => by have h := law_inside w qn qd a b c d; rw [hins] at h; exact h) rfl ?_
                                                              refine WO.pg rfl rfl rfl (WO.p rfl rfl ?_)
                                                              refine WO.nil ?_
                                                              refine W.cond_f rfl ?_
                                                              refine W.skip ?_
                                                              refine W.seq ?_
                                                              refine W.sreg ?_
                                                              refine WO.loadA rfl rfl (Cells.own (Pick.tail (Pick.tail (Pick.tail (Pick.tail (Pick.tail (Pick.tail (Pick.head)))))))) rfl rfl ?_
                                                              refine WO.callR (r := .bool (isB (num, den))) rfl Try.call26 (fun L w hi => ref_IsBound w num den) rfl ?_
                                                              refine WO.p rfl rfl ?_
                                                              refine WO.nil ?_
                                                              refine W.cond rfl (fun c13 => ?_) (fun c13 => ?_)
                                                              · first
                                                                | (exfalso; omega)
                                                                | (refine W.sreg ?_
                                                                   refine WO.callR rfl Try.call13 (fun L w hi => law_Works w) rfl ?_
                                                                   refine WO.p rfl rfl ?_
                                                                   refine WO.nil ?_
                                                                   refine W.ret ?_
                                                                   exact fin.ret (Res.one rfl (RV.tmp rfl)) rfl)
                                                              · first
                                                                | (exfalso; omega)
                                                                | (refine W.skip ?_
                                                                   refine W.seq ?_
                                                                   have hbb : isB (num, den) = true := (fun (hh : (!isB (num, den)) = false) => by simpa using hh) (by assumption)
                                                                   have hxx := chk_all hv hw hbb htv
                                                                   rw [hqq] at hxx
                                                                   refine W.drawD 7 [.b 0 [], .r 1 [], .b 2 [], .b 3 [], .b 4 [], .r 5 [], .b 6 []] [] (A0 := []) (Sub.refl _) (by kernel_rfl) ?_ ?_
                                                                   · exact (ALok.b (ALok.r (ALok.b (ALok.b (ALok.b (ALok.r (ALok.b ALok.nil)))))))
                                                                   refine' DT.b rfl rfl rfl ?hq ?_
                                                                   case hq =>
                                                                     refine WO.loadA rfl rfl (Cells.own (Pick.tail (Pick.tail (Pick.tail (Pick.tail (Pick.tail (Pick.tail (Pick.tail (Pick.head))))))))) rfl rfl ?_
                                                                     exact WO.nil ⟨rfl, rfl⟩
                                                                   refine' DT.r rfl rfl rfl ?hq ?_
                                                                   case hq =>
                                                                     refine WO.p rfl rfl ?_
                                                                     exact WO.nil ⟨rfl, rfl⟩
                                                                   refine' DT.b rfl rfl rfl ?hq ?_
                                                                   case hq =>
                                                                     refine WO.loadA rfl rfl (Cells.own (Pick.tail (Pick.tail (Pick.tail (Pick.tail (Pick.tail (Pick.tail (Pick.head)))))))) rfl rfl ?_
                                                                     exact WO.nil ⟨rfl, rfl⟩
                                                                   refine' DT.b rfl rfl rfl ?hq ?_
                                                                   case hq =>
                                                                     refine WO.callR (r := .int .i64 (chkBound sp st (n.tmod 3) num den true rows)) rfl Try.call22 (fun L w hi => c_CheckBound w sp st (n.tmod 3) num den true o rv rows (hR.later hi)) rfl ?_
                                                                     exact WO.nil ⟨rfl, rfl⟩
                                                                   refine' DT.b rfl rfl rfl ?hq ?_
                                                                   case hq =>
                                                                     refine WO.loadA rfl rfl (Cells.own (Pick.tail (Pick.tail (Pick.tail (Pick.tail (Pick.tail (Pick.tail (Pick.tail (Pick.head))))))))) rfl rfl ?_
                                                                     exact WO.nil ⟨rfl, rfl⟩
                                                                   refine' DT.r rfl rfl rfl ?hq ?_
                                                                   case hq =>
                                                                     refine WO.p rfl rfl ?_
                                                                     exact WO.nil ⟨rfl, rfl⟩
                                                                   refine' DT.b rfl rfl rfl ?hq ?_
                                                                   case hq =>
                                                                     refine WO.loadA rfl rfl (Cells.own (Pick.tail (Pick.tail (Pick.tail (Pick.tail (Pick.tail (Pick.tail (Pick.head)))))))) rfl rfl ?_
                                                                     exact WO.nil ⟨rfl, rfl⟩
                                                                   refine DT.nil [_, _, _, _, _, _, _, _] rfl ?_
                                                                   refine WO.callR (r := .int .i64 (chkBound sp st (n.tmod 3) num den false rows)) rfl Try.call22 (fun L w hi => c_CheckBound w sp st (n.tmod 3) num den false o rv rows (hR.later hi)) rfl ?_
                                                                   refine WO.p rfl rfl (WO.p rfl rfl ?_)
                                                                   refine WO.nil ?_
                                                                   refine W.sreg ?_
                                                                   refine WO.p rfl rfl (WO.p rfl rfl (WO.p rfl rfl ?_))
                                                                   refine WO.guard_bl rfl rfl (fun c14 => ?_) (fun c14 => ?_)
                                                                   · first
                                                                     | (exfalso; omega)
                                                                     | (refine WO.no rfl rfl (WO.no rfl rfl (WO.no rfl rfl (WO.no rfl rfl (WO.p rfl rfl (WO.p rfl rfl (WO.pg rfl rfl rfl (WO.pg rfl rfl rfl (WO.pg rfl rfl rfl ?_))))))))
                                                                        refine WO.guard_bl rfl rfl (fun c15 => ?_) (fun c15 => ?_)
                                                                        · first
                                                                          | (exfalso; omega)
                                                                          | (refine WO.no rfl rfl (WO.no rfl rfl (WO.no rfl rfl (WO.no rfl rfl (WO.pg rfl rfl rfl (WO.p rfl rfl (WO.p rfl rfl (WO.go' rfl ?_)))))))
                                                                             refine WO.callR rfl Try.call13 (fun L w hi => law_Works w) rfl ?_
                                                                             refine WO.p rfl rfl (WO.p rfl rfl ?_)
                                                                             refine WO.nil ?_
                                                                             refine W.ret ?_
                                                                             exact fin.ret (Res.one rfl (RV.tmp rfl)) rfl)
                                                                        · first
                                                                          | (exfalso; omega)
                                                                          | (refine WO.go' rfl (WO.loadA rfl rfl (Cells.own (Pick.tail (Pick.head))) rfl rfl (WO.go' rfl (WO.loadA rfl rfl (Cells.own (Pick.tail (Pick.tail (Pick.tail (Pick.tail (Pick.tail (Pick.tail (Pick.head)))))))) rfl rfl (WO.go' rfl ?_))))
                                                                             refine WO.callR (r := .bool false) rfl Try.call27 (fun L w hi => by have h := ref_Less w qn qd num den (isB_p hqb).1 (isB_p hqb).2.1 (isB_p hbb).1 (isB_p hbb).2.1 (isB_p hqb).2.2.2.1 (isB_p hbb).2.2.2.1 (isB_p hqb).2.2.1 (isB_p hbb).2.2.1; rw [hxx.2 (by omega)] at h; exact h) rfl ?_
                                                                             refine WO.pg rfl rfl rfl (WO.pg rfl rfl rfl (WO.p rfl rfl (WO.p rfl rfl (WO.go' rfl ?_))))
                                                                             refine WO.callR rfl Try.call13 (fun L w hi => law_Works w) rfl ?_
                                                                             refine WO.p rfl rfl (WO.p rfl rfl ?_)
                                                                             refine WO.nil ?_
                                                                             refine W.ret ?_
                                                                             exact fin.ret (Res.one rfl (RV.tmp rfl)) rfl))
                                                                   · first
                                                                     | (exfalso; omega)
                                                                     | (refine WO.go' rfl (WO.loadA rfl rfl (Cells.own (Pick.tail (Pick.tail (Pick.tail (Pick.tail (Pick.tail (Pick.tail (Pick.head)))))))) rfl rfl (WO.go' rfl (WO.loadA rfl rfl (Cells.own (Pick.tail (Pick.head))) rfl rfl (WO.go' rfl ?_))))
                                                                        refine WO.callR (r := .bool false) rfl Try.call27 (fun L w hi => by have h := ref_Less w num den qn qd (isB_p hbb).1 (isB_p hbb).2.1 (isB_p hqb).1 (isB_p hqb).2.1 (isB_p hbb).2.2.2.1 (isB_p hqb).2.2.2.1 (isB_p hbb).2.2.1 (isB_p hqb).2.2.1; rw [hxx.1 (by omega)] at h; exact h) rfl ?_
                                                                        refine WO.pg rfl rfl rfl (WO.p rfl rfl (WO.p rfl rfl (WO.pg rfl rfl rfl (WO.pg rfl rfl rfl (WO.pg rfl rfl rfl ?_)))))
                                                                        refine WO.guard_bl rfl rfl (fun c16 => ?_) (fun c16 => ?_)
                                                                        · first
                                                                          | (exfalso; omega)
                                                                          | (refine WO.no rfl rfl (WO.no rfl rfl (WO.no rfl rfl (WO.no rfl rfl (WO.pg rfl rfl rfl (WO.p rfl rfl (WO.p rfl rfl (WO.go' rfl ?_)))))))
                                                                             refine WO.callR rfl Try.call13 (fun L w hi => law_Works w) rfl ?_
                                                                             refine WO.p rfl rfl (WO.p rfl rfl ?_)
                                                                             refine WO.nil ?_
                                                                             refine W.ret ?_
                                                                             exact fin.ret (Res.one rfl (RV.tmp rfl)) rfl)
                                                                        · first
                                                                          | (exfalso; omega)
                                                                          | (refine WO.go' rfl (WO.loadA rfl rfl (Cells.own (Pick.tail (Pick.head))) rfl rfl (WO.go' rfl (WO.loadA rfl rfl (Cells.own (Pick.tail (Pick.tail (Pick.tail (Pick.tail (Pick.tail (Pick.tail (Pick.head)))))))) rfl rfl (WO.go' rfl ?_))))
                                                                             refine WO.callR (r := .bool false) rfl Try.call27 (fun L w hi => by have h := ref_Less w qn qd num den (isB_p hqb).1 (isB_p hqb).2.1 (isB_p hbb).1 (isB_p hbb).2.1 (isB_p hqb).2.2.2.1 (isB_p hbb).2.2.2.1 (isB_p hqb).2.2.1 (isB_p hbb).2.2.1; rw [hxx.2 (by omega)] at h; exact h) rfl ?_
                                                                             refine WO.pg rfl rfl rfl (WO.pg rfl rfl rfl (WO.p rfl rfl (WO.p rfl rfl (WO.go' rfl ?_))))
                                                                             refine WO.callR rfl Try.call13 (fun L w hi => law_Works w) rfl ?_
                                                                             refine WO.p rfl rfl (WO.p rfl rfl ?_)
                                                                             refine WO.nil ?_
                                                                             refine W.ret ?_
                                                                             exact fin.ret (Res.one rfl (RV.tmp rfl)) rfl)))))))))))))))
end Go.Proofs.Ytgihklgpehfbpaa
