/-
  What is proved here: the law BoxFloats, as a contract. Conditions: none.
-/
import Derived.Test.YtgihklgpehfbpaaM8
namespace Go.Proofs.Ytgihklgpehfbpaa
open Go Go.TH
attribute [local irreducible] W WO pt
set_option maxRecDepth 10000
set_option maxHeartbeats 4000000
section
variable {sp st what num den : Int} {high : Bool} {rows : List (List (Int × Int))} {ys zs : List (List Int)}
/-- fractions in their lowest terms compare as their cross products say -/
theorem less_red {n d n' d' : Int} (a1 : 0 ≤ n) (a2 : 0 < d) (b1 : 0 ≤ n') (b2 : 0 < d') : lessQ (red n d) (red n' d') = true ↔ n * d' < n' * d := by
  obtain ⟨x1, x2, x3, x4, x5⟩ := red_cross a1 a2
  obtain ⟨y1, y2, y3, y4, y5⟩ := red_cross b1 b2
  rw [lessQ_iff x3 x2 y3 y2]
  generalize red n d = f at *
  generalize red n' d' = g at *
  obtain ⟨r, s⟩ := f
  obtain ⟨r', s'⟩ := g
  simp only at *
  have e1 : (r * s') * (d * d') = (n * d') * (s * s') := by
    calc (r * s') * (d * d') = (r * d) * (s' * d') := by simp only [Int.mul_comm, Int.mul_left_comm]
      _ = (n * s) * (s' * d') := by rw [x1]
      _ = (n * d') * (s * s') := by simp only [Int.mul_comm, Int.mul_left_comm]
  have e2 : (r' * s) * (d * d') = (n' * d) * (s * s') := by
    calc (r' * s) * (d * d') = (r' * d') * (s * d) := by simp only [Int.mul_comm, Int.mul_left_comm]
      _ = (n' * s') * (s * d) := by rw [y1]
      _ = (n' * d) * (s * s') := by simp only [Int.mul_comm, Int.mul_left_comm]
  have hdd : 0 < d * d' := Int.mul_pos a2 b2
  have hss : 0 < s * s' := Int.mul_pos x2 y2
  constructor
  · intro h
    have h1 : (r * s') * (d * d') < (r' * s) * (d * d') := Int.mul_lt_mul_of_pos_right h hdd
    rw [e1, e2] at h1
    exact Int.lt_of_mul_lt_mul_right h1 (by omega)
  · intro h
    have h1 : (n * d') * (s * s') < (n' * d) * (s * s') := Int.mul_lt_mul_of_pos_right h hss
    rw [← e1, ← e2] at h1
    exact Int.lt_of_mul_lt_mul_right h1 (by omega)
theorem nless_trans {a b c : Int × Int} (ha : isB a = true) (hb : isB b = true) (hc : isB c = true) (h1 : lessQ a b = false) (h2 : lessQ b c = false) : lessQ a c = false := by
  obtain ⟨an, ad⟩ := a
  obtain ⟨bn, bd⟩ := b
  obtain ⟨cn, cd⟩ := c
  obtain ⟨x1, x2, _⟩ := isB_p ha
  obtain ⟨y1, y2, _⟩ := isB_p hb
  obtain ⟨z1, z2, _⟩ := isB_p hc
  have l1 := lessQ_iff (a := (an, ad)) (b := (bn, bd)) x1 x2 y1 y2
  have l2 := lessQ_iff (a := (bn, bd)) (b := (cn, cd)) y1 y2 z1 z2
  have l3 := lessQ_iff (a := (an, ad)) (b := (cn, cd)) x1 x2 z1 z2
  rw [h1] at l1
  rw [h2] at l2
  simp only [Bool.false_eq_true, false_iff] at l1 l2
  cases hx : lessQ (an, ad) (cn, cd)
  · rfl
  · exfalso
    have h3 := l3.1 hx
    dsimp only at l1 l2 h3
    have i1 : (bn * ad) * cd ≤ (an * bd) * cd := Int.mul_le_mul_of_nonneg_right (by omega) (by omega)
    have i2 : (cn * bd) * ad ≤ (bn * cd) * ad := Int.mul_le_mul_of_nonneg_right (by omega) (by omega)
    have i3 : (an * cd) * bd < (cn * ad) * bd := Int.mul_lt_mul_of_pos_right h3 y2
    rw [Int.mul_right_comm bn ad cd, Int.mul_right_comm an bd cd] at i1
    rw [Int.mul_right_comm cn bd ad] at i2
    omega
theorem cubes_nn (hv : HV sp st rows) (tv : TV rows ys) : 0 ≤ sCubes ys ys.length := ((tv.small hv).cubes (Nat.le_refl _)).1
theorem val_12 (hv : HV sp st rows) (tv : TV rows ys) : lessQ (valQ sp st ys 2) (valQ sp st ys 1) = false := by
  obtain ⟨⟨a1, _⟩, a2, _⟩ := tN_bound hv tv 1
  obtain ⟨⟨b1, _⟩, b2, _⟩ := tN_bound hv tv 2
  have hc := cubes_nn hv tv
  have hl := less_red b1 b2 a1 a2
  have e1 : tN sp st ys 1 = st * sAbove ys ys.length := rfl
  have e2 : tN sp st ys 2 = 3 * st * st * sAbove ys ys.length + 2 * sCubes ys ys.length := rfl
  have e3 : tD st ys 1 = sAll ys ys.length := rfl
  have e4 : tD st ys 2 = 3 * st * sAll ys ys.length := rfl
  rw [e1, e2, e3, e4] at hl
  rw [e3] at a2
  cases hx : lessQ (valQ sp st ys 2) (valQ sp st ys 1)
  · rfl
  · exfalso
    have h := hl.1 hx
    have i1 : 0 ≤ 2 * sCubes ys ys.length * sAll ys ys.length := Int.mul_nonneg (by omega) (by omega)
    rw [Int.add_mul] at h
    have i2 : 3 * st * st * sAbove ys ys.length * sAll ys ys.length = st * sAbove ys ys.length * (3 * st * sAll ys ys.length) := by simp only [Int.mul_assoc, Int.mul_comm, Int.mul_left_comm]
    omega
theorem end_12 (hv : HV sp st rows) (high : Bool) : lessQ (endV sp st 2 high rows) (endV sp st 1 high rows) = false := by
  cases high
  · obtain ⟨ys, he⟩ := exists_end (what := 2) hv (by omega) false
    have h1 := (end_val (what := 1) hv (by omega) he.tv).1
    have h2 := val_12 hv he.tv
    rw [endV_eq hv he] at h2
    have b := end_isB (what := 2) hv (by omega) false
    exact nless_trans b (val_isB hv he.tv) (end_isB hv (by omega) false) h2 h1
  · obtain ⟨ys, he⟩ := exists_end (what := 1) hv (by omega) true
    have h1 := (end_val (what := 2) hv (by omega) he.tv).2
    have h2 := val_12 hv he.tv
    rw [endV_eq hv he] at h2
    exact nless_trans (end_isB hv (by omega) true) (val_isB hv he.tv) (end_isB hv (by omega) true) h1 h2
/-- no hull weighs above its deck -/
theorem deck_le (hv : HV sp st rows) (tv : TV rows ys) : tN sp st ys 1 ≤ st * (((rows.getD 0 []).length : Int) - 1) * tD st ys 1 := by
  rw [← tAP_all hv tv (by omega), ← tBP_all tv (by omega), ← pSum_mul]
  refine pSum_mono fun x hx => ?_
  have hm := plc_mem hx
  have hq := hv.eq x.1 hm.1
  have hok := hv.ok x.1 x.2 hm.1 hm.2
  have hl := tv.len
  have hy := tv.within x.1 x.2 (by omega) (by rw [tv.row x.1 (by omega)]; exact hm.2)
  have w1 := wgt_pos x.1 rows.length
  have w2 := wgt_pos x.2 (rows.getD x.1 []).length
  have h2 := hv.st
  have hg : tA 1 sp st rows.length (rows.getD x.1 []).length x.1 x.2 (yy ys x.1 x.2) = st * x.2 * (wgt x.1 rows.length * wgt x.2 (rows.getD x.1 []).length) * yy ys x.1 x.2 := by simp [tA]
  have hg2 : tB 1 st rows.length (rows.getD x.1 []).length x.1 x.2 (yy ys x.1 x.2) = wgt x.1 rows.length * wgt x.2 (rows.getD x.1 []).length * yy ys x.1 x.2 := by simp [tB]
  unfold tAP tBP
  rw [hg, hg2, Int.mul_assoc (st * x.2)]
  refine Int.mul_le_mul_of_nonneg_right (Int.mul_le_mul_of_nonneg_left (by omega) (by omega)) (Int.mul_nonneg (Int.mul_nonneg (by omega) (by omega)) (by omega))
theorem deck_end (hv : HV sp st rows) {c d : Int} (h : endV sp st 1 true rows = (c, d)) : c ≤ st * (((rows.getD 0 []).length : Int) - 1) * d := by
  obtain ⟨ys, he⟩ := exists_end (what := 1) hv (by omega) true
  obtain ⟨⟨a1, _⟩, a2, _⟩ := tN_bound hv he.tv 1
  obtain ⟨x1, x2, x3, x4, x5⟩ := red_cross a1 a2
  have e := (endV_eq hv he).trans h
  unfold valQ at e
  rw [e] at x1 x2
  dsimp only at x1 x2
  have hd := Int.mul_le_mul_of_nonneg_right (deck_le hv he.tv) (show (0:Int) ≤ d by omega)
  rw [← x1, Int.mul_right_comm] at hd
  exact Int.le_of_mul_le_mul_right hd a2
theorem deck_in (hv : HV sp st rows) {d : Int} (h : 0 < d ∧ d ≤ 100000000) : in64 (st * (((rows.getD 0 []).length : Int) - 1)) ∧ in64 (st * (((rows.getD 0 []).length : Int) - 1) * d) := by
  have h2 := hv.st
  have h3 := hv.m
  have m1 := mulB (a := st) (b := ((rows.getD 0 []).length : Int) - 1) (A := 100) (B := 5) ⟨by omega, by omega⟩ ⟨by omega, by omega⟩
  have m2 := mulB (b := d) (A := 500) (B := 100000000) m1 ⟨by omega, by omega⟩
  unfold in64
  omega
end
theorem less_call (w : World) {a b c d : Int} (h : isB (a, b) = true) (h' : isB (c, d) = true) : Ret Try.prog 27 [.agg #[.int .i64 a, .int .i64 b], .agg #[.int .i64 c, .int .i64 d]].toArray w (.bool (lessQ (a, b) (c, d))) :=
  ref_Less w a b c d (isB_p h).1 (isB_p h).2.1 (isB_p h').1 (isB_p h').2.1 (isB_p h).2.2.2.1 (isB_p h').2.2.2.1 (isB_p h).2.2.1 (isB_p h').2.2.1
theorem law_BoxFloats (w : World) (sp st : Int) (o o' : Value) (rv : List Value) (rows : List (List (Int × Int))) (by' : List Int) (hR : RdR encP 2 w.heap.size w o rv rows) (hB : RdF encU 1 w.heap.size w o' by') (hb8 : ∀ x ∈ by', 0 ≤ x ∧ x ≤ 255) :
    Ret Try.prog 8 [.agg #[.int .i64 sp, .int .i64 st, o], o'].toArray w (.bool true) := by
  refine Ret.of mixed tyTab Try.func8 rfl rfl ?_
  replace hR : RdR encP 2 (fnCx mixed tyTab Try.f8.ntmps w).B (fnCx mixed tyTab Try.f8.ntmps w).w0 o rv rows := hR
  replace hB : RdF encU 1 (fnCx mixed tyTab Try.f8.ntmps w).B (fnCx mixed tyTab Try.f8.ntmps w).w0 o' by' := hB
  refine W.sreg ?_
  refine WO.boxA rfl rfl (fun b1 hb1 => ?_)
  refine WO.p rfl rfl ?_
  refine WO.nil ?_
  refine W.seq ?_
  refine W.sreg ?_
  refine WO.loadA rfl rfl (Cells.own Pick.head) rfl rfl ?_
  refine WO.callR (r := .bool (!grt rows [] && decide (chkHull sp st rows = 0))) rfl Try.call24 (fun L w hi => law_fine w sp st o rv rows (hR.later hi)) rfl ?_
  refine WO.p rfl rfl (WO.p rfl rfl ?_)
  refine WO.guard_b rfl rfl (fun c1 => ?_) (fun c1 => ?_)
  · first
    | (exfalso; omega)
    | (refine WO.no rfl rfl (WO.no rfl rfl (WO.no rfl rfl (WO.p rfl rfl ?_)))
       refine WO.nil ?_
       refine W.cond_t rfl ?_
       refine W.sreg ?_
       refine WO.callR rfl Try.call13 (fun L w hi => law_Works w) rfl ?_
       refine WO.p rfl rfl ?_
       refine WO.nil ?_
       refine W.ret ?_
       exact fin.ret (Res.one rfl (RV.tmp rfl)) rfl)
  · first
    | (exfalso; omega)
    | (refine WO.pg rfl rfl rfl (WO.go' rfl ?_)
       refine' WO.len (n := _) rfl rfl ?hs rfl ?_
       case hs => (first | exact hB.sl | exact hR.sl | (refine (hR.row _ ?_).sl; omega))
       refine WO.pg rfl rfl rfl (WO.p rfl rfl ?_)
       refine WO.nil ?_
       refine W.cond_bl rfl (fun c2 => ?_) (fun c2 => ?_)
       · first
         | (exfalso; omega)
         | (refine W.sreg ?_
            refine WO.callR rfl Try.call13 (fun L w hi => law_Works w) rfl ?_
            refine WO.p rfl rfl ?_
            refine WO.nil ?_
            refine W.ret ?_
            exact fin.ret (Res.one rfl (RV.tmp rfl)) rfl)
       · first
         | (exfalso; omega)
         | (refine W.skip ?_
            have hv : HV sp st rows := (fun (hh : (!(!grt rows [] && decide (chkHull sp st rows = 0))) = false) => HV.of (by simp at hh; exact hh.2)) (by assumption)
            have hvn := hv.n
            have hvm := hv.m
            refine W.sreg ?_
            refine WO.loadA rfl rfl (Cells.own Pick.head) rfl rfl (WO.p rfl rfl ?_)
            refine WO.call (Post := fun v Hq => ∃ x : List Value × List (List Int), TV rows x.2 ∧ Hq = [OwC 53 1 v rows.length x.1, RowsE encI 2 1 x.1 x.2]) rfl Try.call29 (fun L w hi => law_True w sp st o o' rv rows by' (hR.later hi) (hB.later hi) hb8 hv) rfl ?_
            rintro vT _ ⟨⟨rv1, ys⟩, htv, rfl⟩
            refine WO.p rfl rfl ?_
            refine WO.nil ?_
            replace htv : TV rows ys := htv
            obtain ⟨pn, pd, hpq⟩ : ∃ a b, valQ sp st ys 1 = (a, b) := ⟨_, _, rfl⟩
            obtain ⟨qn, qd, hqq⟩ : ∃ a b, valQ sp st ys 2 = (a, b) := ⟨_, _, rfl⟩
            obtain ⟨a, b, hlo⟩ : ∃ a b, endV sp st 1 false rows = (a, b) := ⟨_, _, rfl⟩
            obtain ⟨c, d, hhi⟩ : ∃ c d, endV sp st 1 true rows = (c, d) := ⟨_, _, rfl⟩
            obtain ⟨a2, b2', hlo2⟩ : ∃ a b, endV sp st 2 false rows = (a, b) := ⟨_, _, rfl⟩
            obtain ⟨c2', d2, hhi2⟩ : ∃ c d, endV sp st 2 true rows = (c, d) := ⟨_, _, rfl⟩
            have hins1 := val_ins (what := 1) hv (by omega) htv
            rw [hpq, hlo, hhi] at hins1
            have hins2 := val_ins (what := 2) hv (by omega) htv
            rw [hqq, hlo2, hhi2] at hins2
            have b_p := val_isB (what := 1) hv htv
            rw [hpq] at b_p
            have b_q := val_isB (what := 2) hv htv
            rw [hqq] at b_q
            have b_l := end_isB (what := 1) hv (by omega) false
            rw [hlo] at b_l
            have b_h := end_isB (what := 1) hv (by omega) true
            rw [hhi] at b_h
            have b_l2 := end_isB (what := 2) hv (by omega) false
            rw [hlo2] at b_l2
            have b_h2 := end_isB (what := 2) hv (by omega) true
            rw [hhi2] at b_h2
            have n1 := val_12 hv htv
            rw [hqq, hpq] at n1
            have n2 := end_12 hv false
            rw [hlo2, hlo] at n2
            have n3 := end_12 hv true
            rw [hhi2, hhi] at n3
            have hfin := deck_end hv hhi
            obtain ⟨in1, in2⟩ := deck_in hv ⟨(isB_p b_h).2.1, (isB_p b_h).2.2.1⟩
            refine W.sreg ?_
            refine WO.loadA rfl rfl (Cells.own (Pick.tail (Pick.tail (Pick.head)))) rfl rfl (WO.p rfl rfl ?_)
            refine WO.callR (r := .tuple #[.agg #[.int .i64 pn, .int .i64 pd], .int .i64 0]) rfl Try.call16 (fun L w hi => by have h := c_Value w sp st o vT rv rv1 rows ys 1 (hR.later hi) (RdR.of_ow (e := 2) (e' := 53) (n := rows.length) encI_ok (by repeat (first | exact Pick.head | apply Pick.tail)) (by repeat (first | exact Pick.head | apply Pick.tail)) hi); rw [← valR_o (by rw [TV.to hv htv]; simp) (by rw [plan_0 hv (by omega)]; simp), hpq] at h; exact h) rfl ?_
            refine WO.p rfl rfl (WO.p rfl rfl (WO.p rfl rfl ?_))
            refine WO.alloc rfl rfl rfl (fun b2 hb2 => ?_)
            refine WO.storeA rfl rfl rfl rfl Pick.head rfl rfl (WO.p rfl rfl ?_)
            refine WO.nil ?_
            refine W.sreg ?_
            refine WO.loadA rfl rfl (Cells.own (Pick.tail (Pick.tail (Pick.tail (Pick.head))))) rfl rfl (WO.p rfl rfl ?_)
            refine WO.callR (r := .tuple #[.agg #[.int .i64 qn, .int .i64 qd], .int .i64 0]) rfl Try.call16 (fun L w hi => by have h := c_Value w sp st o vT rv rv1 rows ys 2 (hR.later hi) (RdR.of_ow (e := 2) (e' := 53) (n := rows.length) encI_ok (by repeat (first | exact Pick.head | apply Pick.tail)) (by repeat (first | exact Pick.head | apply Pick.tail)) hi); rw [← valR_o (by rw [TV.to hv htv]; simp) (by rw [plan_0 hv (by omega)]; simp), hqq] at h; exact h) rfl ?_
            refine WO.p rfl rfl (WO.p rfl rfl (WO.p rfl rfl ?_))
            refine WO.alloc rfl rfl rfl (fun b3 hb3 => ?_)
            refine WO.storeA rfl rfl rfl rfl Pick.head rfl rfl (WO.p rfl rfl ?_)
            refine WO.nil ?_
            refine W.sreg ?_
            refine WO.loadA rfl rfl (Cells.own (Pick.tail (Pick.tail (Pick.tail (Pick.tail (Pick.head)))))) rfl rfl ?_
            refine WO.callR (r := .tuple #[.agg #[.int .i64 a, .int .i64 b, .int .i64 c, .int .i64 d], .int .i64 0]) rfl Try.call25 (fun L w hi => by have h := c_Span w sp st 1 o rv rows (hR.later hi); rw [← spanR_0 (by rw [plan_0 hv (by omega)]; simp), hlo, hhi] at h; exact h) rfl ?_
            refine WO.p rfl rfl (WO.p rfl rfl (WO.p rfl rfl ?_))
            refine WO.alloc rfl rfl rfl (fun b4 hb4 => ?_)
            refine WO.storeA rfl rfl rfl rfl Pick.head rfl rfl (WO.p rfl rfl ?_)
            refine WO.nil ?_
            refine W.sreg ?_
            refine WO.loadA rfl rfl (Cells.own (Pick.tail (Pick.tail (Pick.tail (Pick.tail (Pick.tail (Pick.head))))))) rfl rfl ?_
            refine WO.callR (r := .tuple #[.agg #[.int .i64 a2, .int .i64 b2', .int .i64 c2', .int .i64 d2], .int .i64 0]) rfl Try.call25 (fun L w hi => by have h := c_Span w sp st 2 o rv rows (hR.later hi); rw [← spanR_0 (by rw [plan_0 hv (by omega)]; simp), hlo2, hhi2] at h; exact h) rfl ?_
            refine WO.p rfl rfl (WO.p rfl rfl (WO.p rfl rfl ?_))
            refine WO.alloc rfl rfl rfl (fun b5 hb5 => ?_)
            refine WO.storeA rfl rfl rfl rfl Pick.head rfl rfl (WO.p rfl rfl ?_)
            refine WO.nil ?_
            refine W.seq ?_
            refine W.drawD 8 [.r 0 [], .b 1 [], .r 2 [], .b 3 [], .r 4 [], .b 5 [], .r 6 [], .r 7 []] [] (A0 := []) (Sub.refl _) (by kernel_rfl) ?_ ?_
            · exact (ALok.r (ALok.b (ALok.r (ALok.b (ALok.r (ALok.b (ALok.r (ALok.r ALok.nil))))))))
            refine' DT.r rfl rfl rfl ?hq ?_
            case hq =>
              refine WO.fieldL rfl rfl rfl ?_
              exact WO.nil ⟨rfl, rfl⟩
            refine' DT.b rfl rfl rfl ?hq ?_
            case hq =>
              refine WO.load rfl rfl (Cell.own (Pick.tail (Pick.tail (Pick.tail (Pick.tail (Pick.tail (Pick.tail (Pick.head))))))) rfl) rfl ?_
              exact WO.nil ⟨rfl, rfl⟩
            refine' DT.r rfl rfl rfl ?hq ?_
            case hq =>
              refine WO.fieldL rfl rfl rfl ?_
              exact WO.nil ⟨rfl, rfl⟩
            refine' DT.b rfl rfl rfl ?hq ?_
            case hq =>
              refine WO.load rfl rfl (Cell.own (Pick.tail (Pick.tail (Pick.tail (Pick.tail (Pick.tail (Pick.tail (Pick.head))))))) rfl) rfl ?_
              exact WO.nil ⟨rfl, rfl⟩
            refine' DT.r rfl rfl rfl ?hq ?_
            case hq =>
              refine' WO.indexAddr (n := _) (i := 0) rfl rfl rfl ?hs ?h1 rfl ?_
              case hs => (first | exact hB.sl | exact hR.sl | (refine (hR.row _ ?_).sl; omega))
              case h1 => (first | omega | (simp; omega))
              exact WO.nil ⟨rfl, rfl⟩
            refine' DT.b rfl rfl rfl ?hq ?_
            case hq =>
              refine' WO.load (v := _) rfl rfl ?hc rfl ?_
              case hc => (first | (refine hR.cellV ?_; omega))
              exact WO.nil ⟨rfl, rfl⟩
            refine' DT.r rfl rfl rfl ?hq ?_
            case hq =>
              refine' WO.len (n := _) rfl rfl ?hs rfl ?_
              case hs => (first | exact hB.sl | exact hR.sl | (refine (hR.row _ ?_).sl; omega))
              exact WO.nil ⟨rfl, rfl⟩
            refine' DT.r rfl rfl rfl ?hq ?_
            case hq =>
              refine WO.ar rfl rfl rfl (by (first | (unfold in64; omega) | assumption | (unfold in64; omega))) rfl ?_
              exact WO.nil ⟨rfl, rfl⟩
            refine DT.nil [_, _, _, _, _, _, _] rfl ?_
            refine WO.ar rfl rfl rfl (by (first | (unfold in64; omega) | assumption | (unfold in64; omega))) rfl (WO.p rfl rfl ?_)
            refine WO.nil ?_
            refine W.sreg ?_
            refine WO.p rfl rfl (WO.p rfl rfl (WO.p rfl rfl ?_))
            refine WO.guard_bl rfl rfl (fun c3 => ?_) (fun c3 => ?_)
            · first
              | (exfalso; omega)
              | (refine WO.pg rfl rfl rfl (WO.pg rfl rfl rfl (WO.p rfl rfl (WO.p rfl rfl ?_)))
                 refine WO.guard_bl rfl rfl (fun c4 => ?_) (fun c4 => ?_)
                 · first
                   | (exfalso; omega)
                   | (refine WO.pg rfl rfl rfl (WO.pg rfl rfl rfl (WO.p rfl rfl (WO.p rfl rfl ?_)))
                      refine WO.guard_bl rfl rfl (fun c5 => ?_) (fun c5 => ?_)
                      · first
                        | (exfalso; omega)
                        | (refine WO.pg rfl rfl rfl (WO.pg rfl rfl rfl (WO.p rfl rfl (WO.p rfl rfl ?_)))
                           refine WO.guard_bl rfl rfl (fun c6 => ?_) (fun c6 => ?_)
                           · first
                             | (exfalso; omega)
                             | (refine WO.go' rfl (WO.loadA rfl rfl (Cells.own (Pick.tail (Pick.tail (Pick.tail (Pick.head))))) rfl rfl (WO.go' rfl (WO.loadA rfl rfl (Cells.own (Pick.tail (Pick.head))) rfl rfl (WO.go' rfl ?_))))
                                refine WO.callR (r := .bool true) rfl Try.call30 (fun L w hi => by have h := law_inside w pn pd a b c d; rw [hins1] at h; exact h) rfl ?_
                                refine WO.p rfl rfl (WO.p rfl rfl (WO.go' rfl (WO.loadA rfl rfl (Cells.own (Pick.tail (Pick.tail (Pick.head)))) rfl rfl (WO.go' rfl (WO.loadA rfl rfl (Cells.own Pick.head) rfl rfl (WO.go' rfl ?_))))))
                                refine WO.callR (r := .bool true) rfl Try.call30 (fun L w hi => by have h := law_inside w qn qd a2 b2' c2' d2; rw [hins2] at h; exact h) rfl ?_
                                refine WO.p rfl rfl (WO.p rfl rfl (WO.go' rfl (WO.loadA rfl rfl (Cells.own (Pick.tail (Pick.tail (Pick.head)))) rfl rfl (WO.go' rfl (WO.loadA rfl rfl (Cells.own (Pick.tail (Pick.tail (Pick.tail (Pick.head))))) rfl rfl (WO.go' rfl ?_))))))
                                refine WO.callR (r := .bool false) rfl Try.call27 (fun L w hi => by have h := less_call w b_q b_p; rw [n1] at h; exact h) rfl ?_
                                refine WO.pg rfl rfl rfl (WO.p rfl rfl (WO.p rfl rfl (WO.go' rfl (WO.field0 rfl rfl rfl (WO.go' rfl (WO.loadA rfl rfl (Cells.ownAt (n := 2) Pick.head rfl) rfl rfl (WO.go' rfl (WO.field0 rfl rfl rfl (WO.go' rfl (WO.loadA rfl rfl (Cells.ownAt (n := 2) (Pick.tail (Pick.head)) rfl) rfl rfl (WO.go' rfl ?_)))))))))))
                                refine WO.callR (r := .bool false) rfl Try.call27 (fun L w hi => by have h := less_call w b_l2 b_l; rw [n2] at h; exact h) rfl ?_
                                refine WO.pg rfl rfl rfl (WO.p rfl rfl (WO.p rfl rfl (WO.go' rfl (WO.fieldL rfl rfl rfl (WO.go' rfl (WO.loadA rfl rfl (Cells.ownAt (n := 2) Pick.head rfl) rfl rfl (WO.go' rfl (WO.fieldL rfl rfl rfl (WO.go' rfl (WO.loadA rfl rfl (Cells.ownAt (n := 2) (Pick.tail (Pick.head)) rfl) rfl rfl (WO.go' rfl ?_)))))))))))
                                refine WO.callR (r := .bool false) rfl Try.call27 (fun L w hi => by have h := less_call w b_h2 b_h; rw [n3] at h; exact h) rfl ?_
                                refine WO.pg rfl rfl rfl (WO.p rfl rfl (WO.p rfl rfl (WO.go' rfl (WO.fieldL rfl rfl rfl (WO.go' rfl (WO.field0 rfl rfl rfl (WO.go' rfl (WO.load rfl rfl (Cell.own (Pick.tail (Pick.head)) rfl) rfl (WO.pg rfl rfl rfl (WO.go' rfl (WO.fieldL rfl rfl rfl ?_)))))))))))
                                refine WO.go' rfl (WO.fieldL rfl rfl rfl (WO.go' rfl (WO.load rfl rfl (Cell.own (Pick.tail (Pick.head)) rfl) rfl (WO.go' rfl (WO.ar rfl rfl rfl (by (first | (unfold in64; omega) | assumption | (unfold in64; omega))) rfl (WO.pg rfl rfl rfl (WO.p rfl rfl (WO.p rfl rfl ?_))))))))
                                refine WO.guard_bl rfl rfl (fun c7 => ?_) (fun c7 => ?_)
                                · first
                                  | (exfalso; omega)
                                  | (refine WO.go' rfl ?_
                                     refine WO.callR rfl Try.call13 (fun L w hi => law_Works w) rfl ?_
                                     refine WO.p rfl rfl (WO.p rfl rfl ?_)
                                     refine WO.nil ?_
                                     refine W.ret ?_
                                     exact fin.ret (Res.one rfl (RV.tmp rfl)) rfl)
                                · first
                                  | (exfalso; omega)
                                  | (refine WO.no rfl rfl (WO.p rfl rfl (WO.p rfl rfl ?_))
                                     refine WO.nil ?_
                                     refine W.ret ?_
                                     exact fin.ret (Res.one rfl (RV.tmp rfl)) rfl))
                           · first
                             | (exfalso; omega)
                             | (refine WO.no rfl rfl (WO.no rfl rfl (WO.no rfl rfl (WO.p rfl rfl (WO.p rfl rfl (WO.no rfl rfl (WO.no rfl rfl (WO.no rfl rfl (WO.p rfl rfl (WO.p rfl rfl (WO.no rfl rfl (WO.no rfl rfl ?_)))))))))))
                                refine WO.no rfl rfl (WO.no rfl rfl (WO.p rfl rfl (WO.p rfl rfl (WO.no rfl rfl (WO.no rfl rfl (WO.no rfl rfl (WO.no rfl rfl (WO.no rfl rfl (WO.no rfl rfl (WO.p rfl rfl (WO.p rfl rfl ?_)))))))))))
                                refine WO.no rfl rfl (WO.no rfl rfl (WO.no rfl rfl (WO.no rfl rfl (WO.no rfl rfl (WO.no rfl rfl (WO.p rfl rfl (WO.p rfl rfl (WO.no rfl rfl (WO.no rfl rfl (WO.no rfl rfl (WO.no rfl rfl ?_)))))))))))
                                refine WO.no rfl rfl (WO.no rfl rfl (WO.no rfl rfl (WO.no rfl rfl (WO.no rfl rfl (WO.p rfl rfl (WO.p rfl rfl (WO.no rfl rfl (WO.p rfl rfl (WO.p rfl rfl ?_)))))))))
                                refine WO.nil ?_
                                refine W.ret ?_
                                exact fin.ret (Res.one rfl (RV.tmp rfl)) rfl))
                      · first
                        | (exfalso; omega)
                        | (refine WO.no rfl rfl (WO.no rfl rfl (WO.p rfl rfl (WO.p rfl rfl (WO.no rfl rfl (WO.no rfl rfl (WO.no rfl rfl (WO.p rfl rfl (WO.p rfl rfl (WO.no rfl rfl (WO.no rfl rfl (WO.no rfl rfl ?_)))))))))))
                           refine WO.p rfl rfl (WO.p rfl rfl (WO.no rfl rfl (WO.no rfl rfl (WO.no rfl rfl (WO.no rfl rfl (WO.p rfl rfl (WO.p rfl rfl (WO.no rfl rfl (WO.no rfl rfl (WO.no rfl rfl (WO.no rfl rfl ?_)))))))))))
                           refine WO.no rfl rfl (WO.no rfl rfl (WO.p rfl rfl (WO.p rfl rfl (WO.no rfl rfl (WO.no rfl rfl (WO.no rfl rfl (WO.no rfl rfl (WO.no rfl rfl (WO.no rfl rfl (WO.p rfl rfl (WO.p rfl rfl ?_)))))))))))
                           refine WO.no rfl rfl (WO.no rfl rfl (WO.no rfl rfl (WO.no rfl rfl (WO.no rfl rfl (WO.no rfl rfl (WO.no rfl rfl (WO.no rfl rfl (WO.no rfl rfl (WO.p rfl rfl (WO.p rfl rfl (WO.no rfl rfl ?_)))))))))))
                           refine WO.p rfl rfl (WO.p rfl rfl ?_)
                           refine WO.nil ?_
                           refine W.ret ?_
                           exact fin.ret (Res.one rfl (RV.tmp rfl)) rfl))
                 · first
                   | (exfalso; omega)
                   | (refine WO.no rfl rfl (WO.no rfl rfl (WO.p rfl rfl (WO.p rfl rfl (WO.no rfl rfl (WO.no rfl rfl (WO.p rfl rfl (WO.p rfl rfl (WO.no rfl rfl (WO.no rfl rfl (WO.no rfl rfl (WO.p rfl rfl ?_)))))))))))
                      refine WO.p rfl rfl (WO.no rfl rfl (WO.no rfl rfl (WO.no rfl rfl (WO.p rfl rfl (WO.p rfl rfl (WO.no rfl rfl (WO.no rfl rfl (WO.no rfl rfl (WO.no rfl rfl (WO.p rfl rfl (WO.p rfl rfl ?_)))))))))))
                      refine WO.no rfl rfl (WO.no rfl rfl (WO.no rfl rfl (WO.no rfl rfl (WO.no rfl rfl (WO.no rfl rfl (WO.p rfl rfl (WO.p rfl rfl (WO.no rfl rfl (WO.no rfl rfl (WO.no rfl rfl (WO.no rfl rfl ?_)))))))))))
                      refine WO.no rfl rfl (WO.no rfl rfl (WO.p rfl rfl (WO.p rfl rfl (WO.no rfl rfl (WO.no rfl rfl (WO.no rfl rfl (WO.no rfl rfl (WO.no rfl rfl (WO.no rfl rfl (WO.no rfl rfl (WO.no rfl rfl ?_)))))))))))
                      refine WO.no rfl rfl (WO.p rfl rfl (WO.p rfl rfl (WO.no rfl rfl (WO.p rfl rfl (WO.p rfl rfl ?_)))))
                      refine WO.nil ?_
                      refine W.ret ?_
                      exact fin.ret (Res.one rfl (RV.tmp rfl)) rfl))
            · first
              | (exfalso; omega)
              | (refine WO.no rfl rfl (WO.no rfl rfl (WO.p rfl rfl (WO.p rfl rfl (WO.no rfl rfl (WO.no rfl rfl (WO.p rfl rfl (WO.p rfl rfl (WO.no rfl rfl (WO.no rfl rfl (WO.p rfl rfl (WO.p rfl rfl ?_)))))))))))
                 refine WO.no rfl rfl (WO.no rfl rfl (WO.no rfl rfl (WO.p rfl rfl (WO.p rfl rfl (WO.no rfl rfl (WO.no rfl rfl (WO.no rfl rfl (WO.p rfl rfl (WO.p rfl rfl (WO.no rfl rfl (WO.no rfl rfl ?_)))))))))))
                 refine WO.no rfl rfl (WO.no rfl rfl (WO.p rfl rfl (WO.p rfl rfl (WO.no rfl rfl (WO.no rfl rfl (WO.no rfl rfl (WO.no rfl rfl (WO.no rfl rfl (WO.no rfl rfl (WO.p rfl rfl (WO.p rfl rfl ?_)))))))))))
                 refine WO.no rfl rfl (WO.no rfl rfl (WO.no rfl rfl (WO.no rfl rfl (WO.no rfl rfl (WO.no rfl rfl (WO.p rfl rfl (WO.p rfl rfl (WO.no rfl rfl (WO.no rfl rfl (WO.no rfl rfl (WO.no rfl rfl ?_)))))))))))
                 refine WO.no rfl rfl (WO.no rfl rfl (WO.no rfl rfl (WO.no rfl rfl (WO.no rfl rfl (WO.p rfl rfl (WO.p rfl rfl (WO.no rfl rfl (WO.p rfl rfl (WO.p rfl rfl ?_)))))))))
                 refine WO.nil ?_
                 refine W.ret ?_
                 exact fin.ret (Res.one rfl (RV.tmp rfl)) rfl)))
end Go.Proofs.Ytgihklgpehfbpaa
