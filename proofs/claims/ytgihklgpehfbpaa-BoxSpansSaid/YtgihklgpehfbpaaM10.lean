/-
  What is proved here: hulls that are spaced twice as far, and hulls turned end for end (no program in sight). Conditions: none; each theorem states its own.
  What is proved here: the law BoxScaled, as a contract. Conditions: none.
-/
import Derived.Test.YtgihklgpehfbpaaM7
namespace Go.Proofs.Ytgihklgpehfbpaa
open Go Go.TH
set_option maxRecDepth 10000
theorem ps_shift (f : Nat → Int) : ∀ n, ps f (n + 1) = f 0 + ps (fun i => f (i + 1)) n
  | 0 => by simp [ps]
  | n + 1 => by rw [ps, ps_shift f n]; simp only [ps]; omega
theorem ps_rev : ∀ (f : Nat → Int) (n : Nat), ps f n = ps (fun i => f (n - 1 - i)) n
  | f, 0 => rfl
  | f, n + 1 => by
    rw [ps_shift (fun i => f (n + 1 - 1 - i)) n]
    have e : ps (fun i => f (n + 1 - 1 - (i + 1))) n = ps (fun i => f (n - 1 - i)) n := ps_congr fun i _ => by rw [show n + 1 - 1 - (i + 1) = n - 1 - i by omega]
    rw [e, ← ps_rev f n]
    simp only [ps, Nat.add_sub_cancel, Nat.sub_zero]; omega
theorem getD_rev {α : Type} {l : List α} {i : Nat} (h : i < l.length) (z : α) : l.reverse.getD i z = l.getD (l.length - 1 - i) z := by
  rw [List.getD_eq_getElem?_getD, List.getElem?_reverse h, List.getD_eq_getElem?_getD]
section
variable {sp st what num den : Int} {high : Bool} {rows : List (List (Int × Int))} {ys zs : List (List Int)}
/-! ### Spaced twice as far -/
theorem hv_sp (hv : HV sp st rows) (h : 2 * sp ≤ 1000) : HV (2 * sp) st rows := by
  have h1 := hv.sp
  exact ⟨hv.n, hv.m, hv.eq, ⟨by omega, h⟩, hv.st, hv.ok, hv.pos⟩
theorem tN_sp0 : tN (2 * sp) st ys 0 = 2 * tN sp st ys 0 := by
  show 2 * sp * sAlong ys ys.length = 2 * (sp * sAlong ys ys.length)
  rw [Int.mul_assoc]
theorem tN_sp (h : ¬ what = 0) : tN (2 * sp) st ys what = tN sp st ys what := by unfold tN; rw [if_neg h, if_neg h]
theorem end_sp (h : IsEnd sp st what high rows ys) : IsEnd (2 * sp) st what high rows ys := by
  refine ⟨h.tv, fun zs hz => ?_⟩
  have hb := h.best zs hz
  by_cases hw : what = 0
  · subst hw
    rw [tN_sp0, tN_sp0, Int.mul_assoc, Int.mul_assoc]
    rcases sgn_cases high with e | e <;> rw [e] at hb ⊢ <;> omega
  · rw [tN_sp hw, tN_sp hw]; exact hb
theorem endV_sp (hv : HV sp st rows) (h : 2 * sp ≤ 1000) (hw : 0 ≤ what ∧ what ≤ 2) (hw0 : ¬ what = 0) : endV (2 * sp) st what high rows = endV sp st what high rows := by
  obtain ⟨ys, he⟩ := exists_end hv hw high
  rw [← endV_eq hv he, ← endV_eq (hv_sp hv h) (end_sp he)]
  unfold valQ; rw [tN_sp hw0]
theorem endV_sp0 (hv : HV sp st rows) (h : 2 * sp ≤ 1000) {a b : Int} (e : endV sp st 0 high rows = (a, b)) : endV (2 * sp) st 0 high rows = red (2 * a) b := by
  obtain ⟨ys, he⟩ := exists_end (what := 0) hv (by omega) high
  obtain ⟨⟨a1, _⟩, a2, _⟩ := tN_bound hv he.tv 0
  obtain ⟨x1, x2, x3, _⟩ := red_cross a1 a2
  have e' := (endV_eq hv he).trans e
  unfold valQ at e'
  rw [e'] at x1 x2 x3
  dsimp only at x1 x2 x3
  rw [← endV_eq (hv_sp hv h) (end_sp he)]
  unfold valQ
  rw [tN_sp0]
  refine red_eq (by omega) a2 (by omega) x2 ?_
  rw [Int.mul_assoc, Int.mul_assoc, x1]
/-! ### Turned end for end -/
theorem hv_rev (hv : HV sp st rows) : HV sp st rows.reverse := by
  have hn := hv.n
  have hl : rows.reverse.length = rows.length := List.length_reverse
  have e : ∀ i, i < rows.length → (rows.reverse.getD i []).length = (rows.getD 0 []).length := fun i hi => by
    rw [getD_rev hi]; exact hv.eq _ (by omega)
  refine ⟨by rw [hl]; exact hn, by rw [e 0 (by omega)]; exact hv.m, fun i hi => ?_, hv.sp, hv.st, fun i k hi hk => ?_, ?_⟩
  · rw [hl] at hi; rw [e i hi, e 0 (by omega)]
  · rw [hl] at hi
    rw [getD_rev hi] at hk ⊢
    exact hv.ok _ k (by omega) hk
  · obtain ⟨i, k, hi, hk, hp⟩ := hv.pos
    have e2 : rows.reverse.getD (rows.length - 1 - i) [] = rows.getD i [] := by rw [getD_rev (by omega), show rows.length - 1 - (rows.length - 1 - i) = i by omega]
    exact ⟨rows.length - 1 - i, k, by rw [hl]; omega, by rw [e2]; exact hk, by rw [e2]; exact hp⟩
theorem yy_rev {i k : Nat} (h : i < ys.length) : yy ys.reverse i k = yy ys (ys.length - 1 - i) k := by unfold yy; rw [getD_rev h]
theorem tv_rev (tv : TV rows ys) : TV rows.reverse ys.reverse := by
  have hl := tv.len
  have hr : ys.reverse.length = ys.length := List.length_reverse
  refine ⟨by simp [hl], fun i hi => ?_, fun i k hi hk => ?_⟩
  · rw [hr] at hi
    rw [getD_rev hi, getD_rev (by omega), hl]
    exact tv.row _ (by omega)
  · rw [hr] at hi
    rw [getD_rev hi] at hk
    rw [yy_rev hi, getD_rev (by omega), ← hl]
    exact tv.within _ k (by omega) hk
theorem tv_rev' (tv : TV rows.reverse ys) : TV rows ys.reverse := by
  have := tv_rev tv
  rwa [List.reverse_reverse] at this
theorem wgt_rev {i n : Nat} (h : i < n) : wgt i n = wgt (n - 1 - i) n := by
  unfold wgt
  by_cases h1 : i = 0 ∨ i + 1 = n
  · rw [if_pos h1, if_pos (by omega)]
  · rw [if_neg h1, if_neg (by omega)]
theorem xw_rev {i k : Nat} (h : i < ys.length) : xw ys.reverse i k = xw ys (ys.length - 1 - i) k := by
  unfold xw
  rw [yy_rev h, getD_rev h, List.length_reverse, wgt_rev h]
theorem sAll_rev : sAll ys.reverse ys.reverse.length = sAll ys ys.length := by
  unfold sAll
  rw [List.length_reverse]
  refine (ps_congr fun i hi => ?_).trans (ps_rev _ _).symm
  rw [getD_rev hi]
  exact ps_congr fun k _ => xw_rev hi
theorem sAbove_rev : sAbove ys.reverse ys.reverse.length = sAbove ys ys.length := by
  unfold sAbove
  rw [List.length_reverse]
  refine (ps_congr fun i hi => ?_).trans (ps_rev _ _).symm
  rw [getD_rev hi]
  exact ps_congr fun k _ => by rw [xw_rev hi]
theorem sCubes_rev : sCubes ys.reverse ys.reverse.length = sCubes ys ys.length := by
  unfold sCubes
  rw [List.length_reverse]
  refine (ps_congr fun i hi => ?_).trans (ps_rev _ _).symm
  have e : lastY ys.reverse i = lastY ys (ys.length - 1 - i) := by unfold lastY; rw [yy_rev hi, getD_rev hi]
  rw [e, wgt_rev hi]
theorem sAlong_rev : sAlong ys.reverse ys.reverse.length + sAlong ys ys.length = ((ys.length : Int) - 1) * sAll ys ys.length := by
  unfold sAlong sAll
  rw [List.length_reverse, ← ps_mul, ps_rev, ← ps_add]
  refine ps_congr fun i hi => ?_
  rw [getD_rev (by omega), show ys.length - 1 - (ys.length - 1 - i) = i by omega]
  have e : ps (fun k => ((ys.length - 1 - i : Nat) : Int) * xw ys.reverse (ys.length - 1 - i) k) (ys.getD i []).length = ((ys.length - 1 - i : Nat) : Int) * ps (fun k => xw ys i k) (ys.getD i []).length :=
    (ps_congr fun k _ => by rw [xw_rev (by omega), show ys.length - 1 - (ys.length - 1 - i) = i by omega]).trans (ps_mul _ (fun k => xw ys i k) _)
  have e2 : ps (fun k => (i : Int) * xw ys i k) (ys.getD i []).length = (i : Int) * ps (fun k => xw ys i k) (ys.getD i []).length := ps_mul _ (fun k => xw ys i k) _
  rw [e, e2, ← Int.add_mul]
  congr 1
  omega
theorem tD_rev : tD st ys.reverse what = tD st ys what := by unfold tD; rw [sAll_rev]
theorem tN_rev (h : ¬ what = 0) : tN sp st ys.reverse what = tN sp st ys what := by
  unfold tN; rw [if_neg h, if_neg h, sAbove_rev, sCubes_rev]
theorem tN_rev0 : tN sp st ys.reverse 0 = sp * ((ys.length : Int) - 1) * tD st ys 0 - tN sp st ys 0 := by
  show sp * sAlong ys.reverse ys.reverse.length = sp * ((ys.length : Int) - 1) * sAll ys ys.length - sp * sAlong ys ys.length
  have h := sAlong_rev (ys := ys)
  rw [Int.mul_assoc, ← h, Int.mul_add]; omega
theorem end_rev (hw0 : ¬ what = 0) (h : IsEnd sp st what high rows ys) : IsEnd sp st what high rows.reverse ys.reverse := by
  refine ⟨tv_rev h.tv, fun zs hz => ?_⟩
  have hb := h.best _ (tv_rev' hz)
  rw [tN_rev hw0, tD_rev] at hb
  rw [tN_rev hw0, tD_rev]; exact hb
theorem end_rev0 (h : IsEnd sp st 0 high rows ys) : IsEnd sp st 0 (!high) rows.reverse ys.reverse := by
  refine ⟨tv_rev h.tv, fun zs hz => ?_⟩
  have hb := h.best _ (tv_rev' hz)
  have l1 := h.tv.len
  have l2 := hz.len
  rw [List.length_reverse] at l2
  rw [tN_rev0, tD_rev] at hb
  rw [tN_rev0, tD_rev]
  rw [show zs.length = ys.length by omega] at hb
  have e1 : (sp * ((ys.length : Int) - 1) * tD st zs 0 - tN sp st zs 0) * tD st ys 0 = sp * ((ys.length : Int) - 1) * tD st zs 0 * tD st ys 0 - tN sp st zs 0 * tD st ys 0 := Int.sub_mul _ _ _
  have e2 : (sp * ((ys.length : Int) - 1) * tD st ys 0 - tN sp st ys 0) * tD st zs 0 = sp * ((ys.length : Int) - 1) * tD st ys 0 * tD st zs 0 - tN sp st ys 0 * tD st zs 0 := Int.sub_mul _ _ _
  have e3 : sp * ((ys.length : Int) - 1) * tD st ys 0 * tD st zs 0 = sp * ((ys.length : Int) - 1) * tD st zs 0 * tD st ys 0 := Int.mul_right_comm _ _ _
  rw [Int.mul_comm (tN sp st ys 0) (tD st zs 0)] at *
  cases high <;> simp only [sgn, if_true, if_false, Bool.false_eq_true, Bool.not_true, Bool.not_false] at hb ⊢ <;> omega
theorem endV_rev (hv : HV sp st rows) (hw : 0 ≤ what ∧ what ≤ 2) (hw0 : ¬ what = 0) (high : Bool) : endV sp st what high rows.reverse = endV sp st what high rows := by
  obtain ⟨ys, he⟩ := exists_end hv hw high
  rw [← endV_eq hv he, ← endV_eq (hv_rev hv) (end_rev hw0 he)]
  unfold valQ; rw [tN_rev hw0, tD_rev]
/-- the far end, measured from the other end -/
theorem endV_rev0 (hv : HV sp st rows) (high : Bool) {a b : Int} (e : endV sp st 0 high rows = (a, b)) : endV sp st 0 (!high) rows.reverse = red (sp * ((rows.length : Int) - 1) * b - a) b ∧ 0 ≤ sp * ((rows.length : Int) - 1) * b - a := by
  obtain ⟨ys, he⟩ := exists_end (what := 0) hv (by omega) high
  obtain ⟨⟨a1, _⟩, a2, _⟩ := tN_bound hv he.tv 0
  have tr := tv_rev he.tv
  obtain ⟨⟨c1, _⟩, c2, _⟩ := tN_bound (hv_rev hv) tr 0
  obtain ⟨x1, x2, x3, _⟩ := red_cross a1 a2
  have e' := (endV_eq hv he).trans e
  unfold valQ at e'
  rw [e'] at x1 x2 x3
  dsimp only at x1 x2 x3
  rw [← endV_eq (hv_rev hv) (end_rev0 he)]
  unfold valQ
  rw [tN_rev0, he.tv.len] at *
  rw [tD_rev] at *
  have e1 : (sp * ((rows.length : Int) - 1) * b - a) * tD st ys 0 = (sp * ((rows.length : Int) - 1) * tD st ys 0 - tN sp st ys 0) * b := by
    rw [Int.sub_mul, Int.sub_mul, x1, Int.mul_right_comm]
  have h0 : 0 ≤ sp * ((rows.length : Int) - 1) * b - a := by
    have h1 : 0 ≤ (sp * ((rows.length : Int) - 1) * tD st ys 0 - tN sp st ys 0) * b := Int.mul_nonneg c1 (by omega)
    rw [← e1] at h1
    rcases Int.lt_or_le (sp * ((rows.length : Int) - 1) * b - a) 0 with h2 | h2
    · have := Int.mul_neg_of_neg_of_pos h2 a2
      omega
    · exact h2
  exact ⟨red_eq c1 a2 h0 x2 e1.symm, h0⟩
end
end Go.Proofs.Ytgihklgpehfbpaa
namespace Go.Proofs.Ytgihklgpehfbpaa
open Go Go.TH
attribute [local irreducible] W WO pt
set_option maxRecDepth 10000
set_option maxHeartbeats 4000000
theorem RdF.of_owc {C : Cx Try.prog} {e' : Nat} {v : Value} {rv : List Value} {H H1 : List HP} {L : List HP} {w : World} {n : Nat} (hn : rv.length = n) (p : Pick (OwC e' 1 v n rv) H H1) (hi : Inv C.w0 C.M (L ++ H) w) : RdF encV 1 w.heap.size w v rv := by
  subst hn
  refine ⟨OwC.sl p L w hi, fun hl => ?_, fun i x hx j u hu => ?_⟩
  · have := World.block_lt_of_cell? w _ (OwC.cell1 (C := C) p hl L w hi)
    rw [elt_eq, addr_add_block] at this
    exact this
  · have hlt := (List.getElem?_eq_some_iff.1 hx).1
    obtain ⟨rfl, rfl⟩ : j = 0 ∧ u = x := by
      cases j with
      | zero => simp [encV] at hu; exact ⟨rfl, hu.symm⟩
      | succ j => simp [encV] at hu
    have := OwC.cell1 (C := C) p hlt L w hi
    rw [elt_eq] at this
    simpa [hx, Addr.add] using this
theorem RdR.rev {α : Type} {enc : α → List Value} {sz B : Nat} {w : World} {o v : Value} {rv : List Value} {xss : List (List α)} (h : RdR enc sz B w o rv xss) (hO : RdF encV 1 B w v rv.reverse) : RdR enc sz B w v rv.reverse xss.reverse :=
  ⟨hO, by simp [h.len], fun i hl => by rw [List.length_reverse] at hl; rw [getD_rev (by rw [h.len]; exact hl), getD_rev hl, h.len]; exact h.row' _ (by omega)⟩
theorem rev_take {α : Type} {l : List α} {i : Nat} (h : i < l.length) (z : α) : l.reverse.take i ++ [l.getD (l.length - 1 - i) z] = l.reverse.take (i + 1) := by
  rw [take_succ_getD (by simpa using h) z, getD_rev h]
theorem ne41f (a b c d : Int) : EqT Try.prog .neq 41 (.agg #[.int .i64 a, .int .i64 b, .int .i64 c, .int .i64 d]) (.agg #[.int .i64 a, .int .i64 b, .int .i64 c, .int .i64 d]) (.bool false) := by
  intro x y w
  simp [go_sem, Try.eqGuardType41, Try.underlying41, Try.underlying29, Try.eqGuardType29]
section
variable {sp st wt : Int} {rows : List (List (Int × Int))} {a b c d e1 e2 e3 e4 : Int}
theorem scl_1 (hv : HV sp st rows) (hw : 0 ≤ wt ∧ wt ≤ 2) (h0 : ¬ wt = 0) (hlo : endV sp st wt false rows = (a, b)) (hhi : endV sp st wt true rows = (c, d)) (rlo : endV sp st wt false rows.reverse = (e1, e2)) (rhi : endV sp st wt true rows.reverse = (e3, e4)) : a = e1 ∧ b = e2 ∧ c = e3 ∧ d = e4 := by
  rw [endV_rev hv hw h0, hlo] at rlo
  rw [endV_rev hv hw h0, hhi] at rhi
  simp only [Prod.mk.injEq] at rlo rhi
  exact ⟨rlo.1, rlo.2, rhi.1, rhi.2⟩
theorem scl_2 (hv : HV sp st rows) (h0 : wt = 0) (hlo : endV sp st wt false rows = (a, b)) (hhi : endV sp st wt true rows = (c, d)) (rlo : endV sp st wt false rows.reverse = (e1, e2)) (rhi : endV sp st wt true rows.reverse = (e3, e4)) : (red (sp * ((rows.length : Int) - 1) * d - c) d = (e1, e2) ∧ 0 ≤ sp * ((rows.length : Int) - 1) * d - c) ∧ red (sp * ((rows.length : Int) - 1) * b - a) b = (e3, e4) ∧ 0 ≤ sp * ((rows.length : Int) - 1) * b - a := by
  subst h0
  have h1 := endV_rev0 hv true hhi
  have h2 := endV_rev0 hv false hlo
  exact ⟨⟨h1.1.symm.trans rlo, h1.2⟩, h2.1.symm.trans rhi, h2.2⟩
theorem scl_3 (hv : HV sp st rows) (h2 : 2 * sp ≤ 1000) (hw : 0 ≤ wt ∧ wt ≤ 2) (h0 : ¬ wt = 0) (hlo : endV sp st wt false rows = (a, b)) (hhi : endV sp st wt true rows = (c, d)) (rlo : endV (2 * sp) st wt false rows = (e1, e2)) (rhi : endV (2 * sp) st wt true rows = (e3, e4)) : a = e1 ∧ b = e2 ∧ c = e3 ∧ d = e4 := by
  rw [endV_sp hv h2 hw h0, hlo] at rlo
  rw [endV_sp hv h2 hw h0, hhi] at rhi
  simp only [Prod.mk.injEq] at rlo rhi
  exact ⟨rlo.1, rlo.2, rhi.1, rhi.2⟩
theorem scl_4 (hv : HV sp st rows) (h2 : 2 * sp ≤ 1000) (h0 : wt = 0) (hlo : endV sp st wt false rows = (a, b)) (hhi : endV sp st wt true rows = (c, d)) (rlo : endV (2 * sp) st wt false rows = (e1, e2)) (rhi : endV (2 * sp) st wt true rows = (e3, e4)) : red (2 * a) b = (e1, e2) ∧ red (2 * c) d = (e3, e4) := by
  subst h0
  exact ⟨(endV_sp0 hv h2 hlo).symm.trans rlo, (endV_sp0 hv h2 hhi).symm.trans rhi⟩
theorem scl_in (hv : HV sp st rows) (h0 : 0 < d) (h1 : d ≤ 100000000) : in64 (sp * ((rows.length : Int) - 1)) ∧ in64 (sp * ((rows.length : Int) - 1) * d) ∧ ∀ x : Int, 0 ≤ x → x ≤ 100000000000 → in64 (sp * ((rows.length : Int) - 1) * d - x) := by
  have h2 := hv.sp
  have h3 := hv.n
  have m1 := mulB (a := sp) (b := (rows.length : Int) - 1) (A := 1000) (B := 9) ⟨by omega, by omega⟩ ⟨by omega, by omega⟩
  have m2 := mulB (b := d) (A := 9000) (B := 100000000) m1 ⟨by omega, by omega⟩
  unfold in64
  exact ⟨by omega, by omega, fun x _ _ => by omega⟩
end
theorem Cell.val_eq {P : Program} {C : Cx P} {H : List HP} {p : Addr} {v u : Value} (e : v = u) (h : Cell C H p v) : Cell C H p u := e ▸ h
theorem law_BoxScaled (w : World) (sp st n : Int) (o : Value) (rv : List Value) (rows : List (List (Int × Int))) (hR : RdR encP 2 w.heap.size w o rv rows) (hn8 : 0 ≤ n ∧ n ≤ 255) :
    Ret Try.prog 7 [.agg #[.int .i64 sp, .int .i64 st, o], .int .u8 n].toArray w (.bool true) := by
  refine Ret.of mixed tyTab Try.func7 rfl rfl ?_
  replace hR : RdR encP 2 (fnCx mixed tyTab Try.f7.ntmps w).B (fnCx mixed tyTab Try.f7.ntmps w).w0 o rv rows := hR
  have hw : 0 ≤ n.tmod 3 ∧ n.tmod 3 ≤ 2 := tmod_in hn8.1 (by omega)
  obtain ⟨_, ro, co, hoe, _⟩ := hR.sl
  subst hoe
  refine W.sreg ?_
  refine WO.boxA rfl rfl (fun b1 hb1 => ?_)
  refine WO.p rfl rfl ?_
  refine WO.nil ?_
  refine W.seq ?_
  refine W.sreg ?_
  refine WO.loadA rfl rfl (Cells.own Pick.head) rfl rfl ?_
  refine WO.callR (r := .bool (!grt rows [] && decide (chkHull sp st rows = 0))) rfl Try.call24 (fun L w hi => law_fine w sp st _ rv rows (hR.later hi)) rfl ?_
  refine WO.p rfl rfl ?_
  refine WO.nil ?_
  refine W.cond rfl (fun c1 => ?_) (fun c1 => ?_)
  · first
    | (exfalso; omega)
    | (refine W.sreg ?_
       refine WO.callR rfl Try.call13 (fun L w hi => law_Works w) rfl ?_
       refine WO.p rfl rfl ?_
       refine WO.nil ?_
       refine W.ret ?_
       exact fin.ret (Res.one rfl (RV.tmp rfl)) rfl)
  · first
    | (exfalso; omega)
    | (refine W.skip ?_
       refine W.sreg ?_
       refine WO.p rfl rfl (WO.conv64 rfl rfl rfl (by (first | (unfold in64; omega) | assumption | (unfold in64; omega))) rfl (WO.rem rfl rfl (by first | omega | assumption) rfl (WO.p rfl rfl ?_)))
       refine WO.nil ?_
       have hv : HV sp st rows := (fun (hh : (!(!grt rows [] && decide (chkHull sp st rows = 0))) = false) => HV.of (by simp at hh; exact hh.2)) (by assumption)
       have hvn := hv.n
       have hvm := hv.m
       have hsp := hv.sp
       obtain ⟨a, b, hlo⟩ : ∃ a b, endV sp st (n.tmod 3) false rows = (a, b) := ⟨_, _, rfl⟩
       obtain ⟨c, d, hhi⟩ : ∃ c d, endV sp st (n.tmod 3) true rows = (c, d) := ⟨_, _, rfl⟩
       have hbl := end_isB hv hw false
       rw [hlo] at hbl
       have hbh := end_isB hv hw true
       rw [hhi] at hbh
       obtain ⟨pa0, pb0, pb1, pi1, pa1⟩ := isB_p hbl
       obtain ⟨pc0, pd0, pd1, pi2, pc1⟩ := isB_p hbh
       refine W.sreg ?_
       refine WO.loadA rfl rfl (Cells.own Pick.head) rfl rfl (WO.p rfl rfl ?_)
       refine WO.callR (r := .tuple #[.agg #[.int .i64 a, .int .i64 b, .int .i64 c, .int .i64 d], .int .i64 0]) rfl Try.call25 (fun L w hi => by have h := c_Span w sp st (n.tmod 3) _ rv rows (hR.later hi); rw [← spanR_0 (by rw [plan_0 hv hw]; simp), hlo, hhi] at h; exact h) rfl ?_
       refine WO.p rfl rfl (WO.p rfl rfl (WO.p rfl rfl ?_))
       refine WO.alloc rfl rfl rfl (fun b2 hb2 => ?_)
       refine WO.storeA rfl rfl rfl rfl Pick.head rfl rfl (WO.p rfl rfl ?_)
       refine WO.nil ?_
       refine W.seq ?_
       refine W.sreg ?_
       refine WO.p rfl rfl (WO.p rfl rfl (WO.p rfl rfl ?_))
       refine WO.guard_bl rfl rfl (fun c2 => ?_) (fun c2 => ?_)
       · first
         | (exfalso; omega)
         | (refine WO.no rfl rfl (WO.no rfl rfl (WO.no rfl rfl (WO.no rfl rfl (WO.p rfl rfl (WO.p rfl rfl (WO.no rfl rfl (WO.no rfl rfl (WO.no rfl rfl (WO.no rfl rfl (WO.p rfl rfl ?_))))))))))
            refine WO.nil ?_
            refine W.cond_t rfl ?_
            refine W.sreg ?_
            refine WO.p rfl rfl ?_
            refine WO.nil ?_
            refine W.ret ?_
            exact fin.ret (Res.one rfl (RV.tmp rfl)) rfl)
       · first
         | (exfalso; omega)
         | (refine WO.go' rfl (WO.field0 rfl rfl rfl (WO.go' rfl (WO.loadA rfl rfl (Cells.ownAt (n := 2) Pick.head rfl) rfl rfl (WO.go' rfl ?_))))
            refine WO.callR (r := .bool true) rfl Try.call26 (fun L w hi => by have h := ref_IsBound w a b; rw [hbl] at h; exact h) rfl ?_
            refine WO.pg rfl rfl rfl (WO.p rfl rfl (WO.p rfl rfl (WO.go' rfl (WO.fieldL rfl rfl rfl (WO.go' rfl (WO.loadA rfl rfl (Cells.ownAt (n := 2) Pick.head rfl) rfl rfl (WO.go' rfl ?_)))))))
            refine WO.callR (r := .bool true) rfl Try.call26 (fun L w hi => by have h := ref_IsBound w c d; rw [hbh] at h; exact h) rfl ?_
            refine WO.pg rfl rfl rfl (WO.p rfl rfl ?_)
            refine WO.nil ?_
            refine W.cond_f rfl ?_
            refine W.skip ?_
            refine W.seq ?_
            refine W.drawD 5 [.b 0 [], .b 1 [], .a 2 8 (.cells #[.int .i64 0, .int .i64 0, .slice none 0 0] 24 (0, 0)), .a 3 9 (.cells #[.int .i64 0, .int .i64 0, .slice none 0 0] 24 (0, 0)), .s 4 []] [] (A0 := []) (Sub.refl _) (by kernel_rfl) ?_ ?_
            · exact (ALok.b (ALok.b (ALok.cons rfl rfl rfl rfl rfl (ALok.cons rfl rfl rfl rfl rfl (ALok.s ALok.nil)))))
            refine' DT.b rfl rfl rfl ?hq ?_
            case hq =>
              refine WO.loadA rfl rfl (Cells.own (Pick.tail (Pick.head))) rfl rfl ?_
              exact WO.nil ⟨rfl, rfl⟩
            refine' DT.b rfl rfl rfl ?hq ?_
            case hq =>
              refine WO.loadA rfl rfl (Cells.own (Pick.tail (Pick.head))) rfl rfl ?_
              exact WO.nil ⟨rfl, rfl⟩
            refine DT.a (fun b3 => ?_)
            refine DT.a (fun b4 => ?_)
            refine DT.s [_, _, _, _] rfl rfl rfl ?_
            refine WO.storeA rfl rfl rfl rfl (Pick.tail (Pick.head)) rfl rfl ?_
            refine WO.nil ⟨[_, _], rfl, rfl, (Keep.a (Keep.a (Keep.b (Keep.b Keep.nil)))), ?_⟩
            refine DT.nil [_, _, _, _] rfl ?_
            refine WO.storeA rfl rfl rfl rfl (Pick.tail (Pick.head)) rfl rfl ?_
            refine WO.nil ?_
            refine W.sreg ?_
            refine WO.field0 rfl rfl rfl (WO.load rfl rfl (Cell.own (Pick.tail (Pick.tail (Pick.tail (Pick.head)))) rfl) rfl (WO.ar rfl rfl rfl (by (first | (unfold in64; omega) | assumption | (unfold in64; omega))) rfl (WO.field0 rfl rfl rfl (WO.store1 rfl rfl rfl (by first | rfl | assumption) (Pick.tail (Pick.head)) rfl ?_))))
            refine WO.nil ?_
            refine W.sreg ?_
            refine WO.fieldL rfl rfl rfl (WO.store1 rfl rfl rfl (by first | rfl | assumption) (Pick.tail (Pick.head)) rfl ?_)
            refine WO.nil ?_
            refine W.seq ?_
            refine W.sreg ?_
            refine WO.fieldL rfl rfl rfl (WO.load rfl rfl (Cell.own (Pick.tail (Pick.tail (Pick.tail (Pick.head)))) rfl) rfl ?_)
            refine' WO.len (n := _) rfl rfl ?hs rfl ?_
            case hs => (first | exact hR.sl | (refine (hR.row _ ?_).sl; omega))
            refine WO.ar rfl rfl rfl (by (first | (unfold in64; omega) | assumption | (unfold in64; omega))) rfl (WO.p rfl rfl ?_)
            refine WO.nil ?_
            refine W.block ?_
            refine W.chg (owcNil (e := 52) (sz := 1)) ?_
            refine W.loop4 (fun (i : Nat) (z : Int) (v : Value) (rv' : List Value) => i ≤ rows.length ∧ z = (rows.length : Int) - 1 - i ∧ rv' = rv.reverse.take i)
              (fun (i : Nat) (z : Int) (v : Value) (rv' : List Value) => [(10, .int .i64 z), (5, .int .i64 (n.tmod 3)), (7, .int .i64 0), (9, .pointer (some ⟨b4, 0, none⟩)), (8, .pointer (some ⟨b3, 0, none⟩)), (6, .pointer (some ⟨b2, 0, none⟩)), (2, .pointer (some ⟨b1, 0, none⟩))])
              (fun (i : Nat) (z : Int) (v : Value) (rv' : List Value) => [pt b1 (.cells #[.int .i64 sp, .int .i64 st, .slice ro rows.length co] 24 (0, 0)), pt b2 (.cells #[.int .i64 a, .int .i64 b, .int .i64 c, .int .i64 d] 41 (0, 0)), pt b3 (.cells #[.int .i64 (2 * sp), .int .i64 st, .slice ro rows.length co] 24 (0, 0)), pt b4 (.cells #[.int .i64 sp, .int .i64 st, v] 24 (0, 0)), OwC 52 1 v i rv'])
              (fun (i : Nat) (z : Int) (v : Value) (rv' : List Value) => rows.length - i) 0 ((rows.length : Int) - 1) (.slice none 0 0) []
              (by exact ⟨by omega, by omega, by simp⟩) ⟨rfl, rfl, rfl, rfl, rfl, rfl, rfl, trivial⟩ (by repeat (first | exact Sub.nil | refine Sub.cons (by repeat (first | exact Pick.head | apply Pick.tail)) ?_)) ?_
            rintro i z v rv' ⟨hi, hz, hrv⟩
            have hln := hR.len
            refine W.seq ?_
            refine W.sreg ?_
            refine WO.p rfl rfl (WO.p rfl rfl ?_)
            refine WO.nil ?_
            refine W.cond_bl rfl (fun c3 => ?_) (fun c3 => ?_)
            · first
              | (exfalso; omega)
              | (refine W.skip ?_
                 refine W.seq ?_
                 refine W.block ?_
                 obtain ⟨_, rj, cj, hJ, _⟩ := (hR.row z.toNat (by omega)).sl
                 have hcv : ∀ H : List HP, Cell (fnCx mixed tyTab Try.f7.ntmps w) H (elt (Value.slice ro rows.length co) z.toNat 1) (.slice rj (rows.getD z.toNat []).length cj) := fun H => Cell.val_eq hJ (hR.cellV (by omega))
                 refine W.drawD 8 [.r 0 [], .b 1 [], .r 2 [], .b 3 [], .r 4 [], .r 5 [], .b 6 [], .c 7 []] [] (A0 := [_]) (H0 := [_, _, _, _]) (.cons (Pick.tail (Pick.tail (Pick.tail (Pick.tail .head)))) (.cons .head (.cons .head (.cons .head (.cons .head .nil))))) (by kernel_rfl) ?_ ?_
                 · exact (ALok.r (ALok.b (ALok.r (ALok.b (ALok.r (ALok.r (ALok.b (ALok.c ALok.nil))))))))
                 refine' DT.r rfl rfl rfl ?hq ?_
                 case hq =>
                   refine WO.fieldL rfl rfl rfl ?_
                   exact WO.nil ⟨rfl, rfl⟩
                 refine' DT.b rfl rfl rfl ?hq ?_
                 case hq =>
                   refine WO.load rfl rfl (Cell.own (Pick.tail (Pick.tail (Pick.tail (Pick.head)))) rfl) rfl ?_
                   exact WO.nil ⟨rfl, rfl⟩
                 refine' DT.r rfl rfl rfl ?hq ?_
                 case hq =>
                   refine WO.fieldL rfl rfl rfl ?_
                   exact WO.nil ⟨rfl, rfl⟩
                 refine' DT.b rfl rfl rfl ?hq ?_
                 case hq =>
                   refine WO.load rfl rfl (Cell.own Pick.head rfl) rfl ?_
                   exact WO.nil ⟨rfl, rfl⟩
                 refine' DT.r rfl rfl rfl ?hq ?_
                 case hq =>
                   refine WO.p rfl rfl ?_
                   exact WO.nil ⟨rfl, rfl⟩
                 refine' DT.r rfl rfl rfl ?hq ?_
                 case hq =>
                   refine' WO.indexAddrZ (n := _) rfl rfl rfl ?hs ?h00 ?h1 rfl ?_
                   case hs => (first | exact hR.sl | (refine (hR.row _ ?_).sl; omega))
                   case h00 => omega
                   case h1 => (first | omega | (simp; omega))
                   exact WO.nil ⟨rfl, rfl⟩
                 refine' DT.b rfl rfl rfl ?hq ?_
                 case hq =>
                   refine' WO.load (v := _) rfl rfl ?hc rfl ?_
                   case hc => (first | exact hcv _)
                   exact WO.nil ⟨rfl, rfl⟩
                 refine DT.c [_, _, _, _, _] rfl rfl rfl rfl ?_
                 refine' WO.buildSl (cs := _) rfl rfl rfl rfl ?hf rfl rfl ?hl rfl (fun v5 => ?_)
                 case hf => (conv => lhs; simp [-List.getD_eq_getElem?_getD, fillL, vcl, wrl, TTab.pl?.lget']) <;> rfl
                 case hl => rfl
                 refine WO.nil ⟨_, [_, _], rfl, rfl, (Keep.b (Keep.r (Keep.r (Keep.b (Keep.r (Keep.b (Keep.r Keep.nil))))))), ?_⟩
                 refine DT.nil [_, _, _, _, _, _] rfl ?_
                 refine' WO.append (m := 1) (news := [.slice rj (rows.getD z.toNat []).length cj]) rfl rfl rfl rfl rfl (by repeat (first | exact Pick.head | apply Pick.tail)) (isSl_lit (by omega)) (by omega) (OwC.cells .head) rfl (by simp [Value.oneCell']) (by omega) (by omega) rfl (fun g c' => ?_)
                 refine WO.fieldL rfl rfl rfl (WO.store1 rfl rfl rfl (by first | rfl | assumption) (Pick.tail (Pick.tail (Pick.tail (Pick.tail (Pick.tail (Pick.head)))))) rfl ?_)
                 refine WO.nil ?_
                 refine W.region ?_
                 refine WO.p rfl rfl (WO.ar rfl rfl rfl (by (first | (unfold in64; omega) | assumption | (unfold in64; omega))) rfl (WO.p rfl rfl ?_))
                 refine WO.nil ?_
                 refine' ⟨i + 1, z - 1, _, _, ?hp, ?hmu, ⟨rfl, rfl, rfl, rfl, rfl, rfl, rfl, trivial⟩, ?hS⟩
                 case hS => repeat (first | exact Sub.nil | refine Sub.cons (by repeat (first | exact Pick.head | apply Pick.tail)) ?_)
                 case hp => exact ⟨by omega, by omega, by rw [hrv, ← hJ, show z.toNat = rv.length - 1 - i by omega, rev_take (by omega)]⟩
                 case hmu => omega)
            · first
              | (exfalso; omega)
              | (refine W.exit (blk_same ?_)
                 refine W.seq ?_
                 obtain rfl : i = rows.length := by omega
                 have hln := hR.len
                 rw [show rv.reverse.take rows.length = rv.reverse by rw [← hln, ← List.length_reverse, List.take_length]] at hrv
                 subst hrv
                 obtain ⟨e1, e2, hrlo⟩ : ∃ a b, endV sp st (n.tmod 3) false rows.reverse = (a, b) := ⟨_, _, rfl⟩
                 obtain ⟨e3, e4, hrhi⟩ : ∃ a b, endV sp st (n.tmod 3) true rows.reverse = (a, b) := ⟨_, _, rfl⟩
                 have hF : ¬ n.tmod 3 = 0 → a = e1 ∧ b = e2 ∧ c = e3 ∧ d = e4 := fun h => scl_1 hv hw h hlo hhi hrlo hrhi
                 have hF0 : n.tmod 3 = 0 → (red (sp * ((rows.length : Int) - 1) * d - c) d = (e1, e2) ∧ 0 ≤ sp * ((rows.length : Int) - 1) * d - c) ∧ red (sp * ((rows.length : Int) - 1) * b - a) b = (e3, e4) ∧ 0 ≤ sp * ((rows.length : Int) - 1) * b - a := fun h => scl_2 hv h hlo hhi hrlo hrhi
                 obtain ⟨k1, k2, k3⟩ := scl_in hv pd0 pd1
                 obtain ⟨_, k4, k5⟩ := scl_in hv pb0 pb1
                 refine W.sreg ?_
                 refine WO.field0 rfl rfl rfl (WO.load rfl rfl (Cell.own (Pick.tail (Pick.tail (Pick.head))) rfl) rfl (WO.p rfl rfl ?_))
                 refine WO.nil ?_
                 refine W.cond_bl rfl (fun c4 => ?_) (fun c4 => ?_)
                 · first
                   | (exfalso; omega)
                   | (obtain ⟨g1, g2, hslo⟩ : ∃ a b, endV (2 * sp) st (n.tmod 3) false rows = (a, b) := ⟨_, _, rfl⟩
                      obtain ⟨g3, g4, hshi⟩ : ∃ a b, endV (2 * sp) st (n.tmod 3) true rows = (a, b) := ⟨_, _, rfl⟩
                      have hv2 : HV (2 * sp) st rows := hv_sp hv (by omega)
                      have hG : ¬ n.tmod 3 = 0 → a = g1 ∧ b = g2 ∧ c = g3 ∧ d = g4 := fun h => scl_3 hv (by omega) hw h hlo hhi hslo hshi
                      have hG0 : n.tmod 3 = 0 → red (2 * a) b = (g1, g2) ∧ red (2 * c) d = (g3, g4) := fun h => scl_4 hv (by omega) h hlo hhi hslo hshi
                      refine W.sreg ?_
                      refine WO.loadA rfl rfl (Cells.own (Pick.tail (Pick.tail (Pick.head)))) rfl rfl (WO.p rfl rfl ?_)
                      refine WO.callR (r := .tuple #[.agg #[.int .i64 g1, .int .i64 g2, .int .i64 g3, .int .i64 g4], .int .i64 0]) rfl Try.call25 (fun L w hi => by have h := c_Span w (2 * sp) st (n.tmod 3) _ rv rows (hR.later hi); rw [← spanR_0 (by rw [plan_0 hv2 hw]; simp), hslo, hshi] at h; exact h) rfl ?_
                      refine WO.p rfl rfl (WO.p rfl rfl (WO.p rfl rfl ?_))
                      refine WO.alloc rfl rfl rfl (fun b6 hb6 => ?_)
                      refine WO.storeA rfl rfl rfl rfl Pick.head rfl rfl (WO.p rfl rfl ?_)
                      refine WO.nil ?_
                      refine W.sreg ?_
                      refine WO.loadA rfl rfl (Cells.own (Pick.tail (Pick.tail (Pick.head)))) rfl rfl ?_
                      refine WO.alloc rfl rfl rfl (fun b7 hb7 => ?_)
                      refine WO.storeA rfl rfl rfl rfl Pick.head rfl rfl ?_
                      refine WO.nil ?_
                      refine W.seq ?_
                      refine W.sreg ?_
                      refine WO.p rfl rfl (WO.p rfl rfl ?_)
                      refine WO.nil ?_
                      refine W.cond_bl rfl (fun c5 => ?_) (fun c5 => ?_)
                      · first
                        | (exfalso; omega)
                        | (refine W.drawD 15 [.r 0 [], .r 1 [], .b 2 [], .r 3 [], .r 4 [], .r 5 [], .b 6 [], .b 7 [], .r 8 [], .r 9 [], .b 10 [], .r 11 [], .r 12 [], .r 13 [], .b 14 []] [] (A0 := []) (Sub.refl _) (by kernel_rfl) ?_ ?_
                           · exact (ALok.r (ALok.r (ALok.b (ALok.r (ALok.r (ALok.r (ALok.b (ALok.b (ALok.r (ALok.r (ALok.b (ALok.r (ALok.r (ALok.r (ALok.b ALok.nil)))))))))))))))
                           refine' DT.r rfl rfl rfl ?hq ?_
                           case hq =>
                             refine WO.field0 rfl rfl rfl ?_
                             exact WO.nil ⟨rfl, rfl⟩
                           refine' DT.r rfl rfl rfl ?hq ?_
                           case hq =>
                             refine WO.field0 rfl rfl rfl ?_
                             exact WO.nil ⟨rfl, rfl⟩
                           refine' DT.b rfl rfl rfl ?hq ?_
                           case hq =>
                             refine WO.load rfl rfl (Cell.own (Pick.tail (Pick.tail (Pick.tail (Pick.head)))) rfl) rfl ?_
                             exact WO.nil ⟨rfl, rfl⟩
                           refine' DT.r rfl rfl rfl ?hq ?_
                           case hq =>
                             refine WO.ar rfl rfl rfl (by (first | (unfold in64; omega) | assumption | (unfold in64; omega))) rfl ?_
                             exact WO.nil ⟨rfl, rfl⟩
                           refine' DT.r rfl rfl rfl ?hq ?_
                           case hq =>
                             refine WO.field0 rfl rfl rfl ?_
                             exact WO.nil ⟨rfl, rfl⟩
                           refine' DT.r rfl rfl rfl ?hq ?_
                           case hq =>
                             refine WO.fieldL rfl rfl rfl ?_
                             exact WO.nil ⟨rfl, rfl⟩
                           refine' DT.b rfl rfl rfl ?hq ?_
                           case hq =>
                             refine WO.load rfl rfl (Cell.own (Pick.tail (Pick.tail (Pick.tail (Pick.head)))) rfl) rfl ?_
                             exact WO.nil ⟨rfl, rfl⟩
                           refine' DT.b rfl rfl rfl ?hq ?_
                           case hq =>
                             refine WO.callR (r := .agg #[.int .i64 g1, .int .i64 g2]) rfl Try.call31 (fun L w hi => by have h := ref_Fraction w (2 * a) b (by omega) pb0 (by unfold in64; omega) (by unfold in64; omega); rw [(hG0 (by omega)).1] at h; exact h) rfl ?_
                             exact WO.nil ⟨rfl, rfl⟩
                           refine' DT.r rfl rfl rfl ?hq ?_
                           case hq =>
                             refine WO.fieldL rfl rfl rfl ?_
                             exact WO.nil ⟨rfl, rfl⟩
                           refine' DT.r rfl rfl rfl ?hq ?_
                           case hq =>
                             refine WO.field0 rfl rfl rfl ?_
                             exact WO.nil ⟨rfl, rfl⟩
                           refine' DT.b rfl rfl rfl ?hq ?_
                           case hq =>
                             refine WO.load rfl rfl (Cell.own (Pick.tail (Pick.tail (Pick.tail (Pick.head)))) rfl) rfl ?_
                             exact WO.nil ⟨rfl, rfl⟩
                           refine' DT.r rfl rfl rfl ?hq ?_
                           case hq =>
                             refine WO.ar rfl rfl rfl (by (first | (unfold in64; omega) | assumption | (unfold in64; omega))) rfl ?_
                             exact WO.nil ⟨rfl, rfl⟩
                           refine' DT.r rfl rfl rfl ?hq ?_
                           case hq =>
                             refine WO.fieldL rfl rfl rfl ?_
                             exact WO.nil ⟨rfl, rfl⟩
                           refine' DT.r rfl rfl rfl ?hq ?_
                           case hq =>
                             refine WO.fieldL rfl rfl rfl ?_
                             exact WO.nil ⟨rfl, rfl⟩
                           refine' DT.b rfl rfl rfl ?hq ?_
                           case hq =>
                             refine WO.load rfl rfl (Cell.own (Pick.tail (Pick.tail (Pick.tail (Pick.head)))) rfl) rfl ?_
                             exact WO.nil ⟨rfl, rfl⟩
                           refine DT.nil [_, _, _, _, _, _, _] rfl ?_
                           refine WO.callR (r := .agg #[.int .i64 g3, .int .i64 g4]) rfl Try.call31 (fun L w hi => by have h := ref_Fraction w (2 * c) d (by omega) pd0 (by unfold in64; omega) (by unfold in64; omega); rw [(hG0 (by omega)).2] at h; exact h) rfl ?_
                           refine' WO.build (cs := _) rfl rfl rfl ?hf rfl ?_
                           case hf => (conv => lhs; simp [-List.getD_eq_getElem?_getD, fillL, vcl, wrl, TTab.pl?.lget']) <;> rfl
                           refine WO.storeA rfl rfl rfl rfl Pick.head rfl rfl ?_
                           refine WO.nil ?_
                           first | (have h0 : ¬ n.tmod 3 = 0 := ‹_›; obtain ⟨rfl, rfl, rfl, rfl⟩ := hG h0) | skip
                           refine W.sreg ?_
                           refine WO.p rfl rfl (WO.p rfl rfl (WO.p rfl rfl ?_))
                           refine WO.guard_bl rfl rfl (fun c6 => ?_) (fun c6 => ?_)
                           · first
                             | (exfalso; omega)
                             | (refine WO.no rfl rfl (WO.no rfl rfl (WO.no rfl rfl (WO.p rfl rfl ?_)))
                                refine WO.nil ?_
                                refine W.cond_t rfl ?_
                                refine W.sreg ?_
                                refine WO.p rfl rfl ?_
                                refine WO.nil ?_
                                refine W.ret ?_
                                exact fin.ret (Res.one rfl (RV.tmp rfl)) rfl)
                           · first
                             | (exfalso; omega)
                             | (refine WO.go' rfl (WO.loadA rfl rfl (Cells.own (Pick.tail (Pick.head))) rfl rfl (WO.go' rfl (WO.loadA rfl rfl (Cells.own Pick.head) rfl rfl (WO.go' rfl ?_))))
                                refine WO.eqT rfl rfl (ne41f _ _ _ _) rfl ?_
                                refine WO.p rfl rfl ?_
                                refine WO.nil ?_
                                refine W.cond_f rfl ?_
                                refine W.skip ?_
                                refine W.sreg ?_
                                refine WO.loadA rfl rfl (Cells.own (Pick.tail (Pick.tail (Pick.tail (Pick.tail (Pick.tail (Pick.head))))))) rfl rfl (WO.p rfl rfl ?_)
                                refine WO.callR (r := .tuple #[.agg #[.int .i64 e1, .int .i64 e2, .int .i64 e3, .int .i64 e4], .int .i64 0]) rfl Try.call25 (fun L w hi => by have h := c_Span w sp st (n.tmod 3) v rv.reverse rows.reverse (RdR.rev (hR.later hi) (RdF.of_owc (n := rows.length) (by rw [List.length_reverse]; exact hR.len) (by repeat (first | exact Pick.head | apply Pick.tail)) hi)); rw [← spanR_0 (by rw [plan_0 (hv_rev hv) hw]; simp), hrlo, hrhi] at h; exact h) rfl ?_
                                refine WO.p rfl rfl (WO.p rfl rfl (WO.p rfl rfl ?_))
                                refine WO.alloc rfl rfl rfl (fun b8 hb8 => ?_)
                                refine WO.storeA rfl rfl rfl rfl Pick.head rfl rfl (WO.p rfl rfl ?_)
                                refine WO.nil ?_
                                refine W.sreg ?_
                                refine WO.loadA rfl rfl (Cells.own (Pick.tail (Pick.tail (Pick.tail (Pick.tail (Pick.head)))))) rfl rfl ?_
                                refine WO.alloc rfl rfl rfl (fun b9 hb9 => ?_)
                                refine WO.storeA rfl rfl rfl rfl Pick.head rfl rfl ?_
                                refine WO.nil ?_
                                refine W.seq ?_
                                refine W.sreg ?_
                                refine WO.p rfl rfl (WO.p rfl rfl ?_)
                                refine WO.nil ?_
                                refine W.cond_bl rfl (fun c7 => ?_) (fun c7 => ?_)
                                · first
                                  | (exfalso; omega)
                                  | (refine W.sreg ?_
                                     refine WO.field0 rfl rfl rfl (WO.load rfl rfl (Cell.own (Pick.tail (Pick.tail (Pick.tail (Pick.tail (Pick.head))))) rfl) rfl (WO.fieldL rfl rfl rfl (WO.load rfl rfl (Cell.own (Pick.tail (Pick.tail (Pick.tail (Pick.tail (Pick.head))))) rfl) rfl ?_)))
                                     refine' WO.len (n := _) rfl rfl ?hs rfl ?_
                                     case hs => (first | exact hR.sl | (refine (hR.row _ ?_).sl; omega))
                                     refine WO.ar rfl rfl rfl (by (first | (unfold in64; omega) | assumption | (unfold in64; omega))) rfl (WO.ar rfl rfl rfl (by (first | (unfold in64; omega) | assumption | (unfold in64; omega))) rfl (WO.p rfl rfl ?_))
                                     refine WO.nil ?_
                                     refine W.seq ?_
                                     have hle25 := (hF0 (by omega)).1.2
                                     refine W.sreg ?_
                                     refine WO.fieldL rfl rfl rfl (WO.field0 rfl rfl rfl (WO.load rfl rfl (Cell.own (Pick.tail (Pick.tail (Pick.tail (Pick.tail (Pick.tail (Pick.head)))))) rfl) rfl (WO.p rfl rfl (WO.fieldL rfl rfl rfl (WO.fieldL rfl rfl rfl (WO.load rfl rfl (Cell.own (Pick.tail (Pick.tail (Pick.tail (Pick.tail (Pick.tail (Pick.head)))))) rfl) rfl (WO.ar rfl rfl rfl (by (first | (unfold in64; omega) | assumption | (unfold in64; omega))) rfl (WO.p rfl rfl ?_))))))))
                                     refine WO.nil ?_
                                     refine W.cond_bl rfl (fun c8 => ?_) (fun c8 => ?_)
                                     · first
                                       | (exfalso; omega)
                                       | (refine W.sreg ?_
                                          refine WO.p rfl rfl ?_
                                          refine WO.nil ?_
                                          refine W.ret ?_
                                          exact fin.ret (Res.one rfl (RV.tmp rfl)) rfl)
                                     · first
                                       | (exfalso; omega)
                                       | (refine W.skip ?_
                                          refine W.drawD 7 [.r 0 [], .r 1 [], .b 2 [], .b 3 [], .r 4 [], .r 5 [], .b 6 []] [] (A0 := []) (Sub.refl _) (by kernel_rfl) ?_ ?_
                                          · exact (ALok.r (ALok.r (ALok.b (ALok.b (ALok.r (ALok.r (ALok.b ALok.nil)))))))
                                          refine' DT.r rfl rfl rfl ?hq ?_
                                          case hq =>
                                            refine WO.p rfl rfl ?_
                                            exact WO.nil ⟨rfl, rfl⟩
                                          refine' DT.r rfl rfl rfl ?hq ?_
                                          case hq =>
                                            refine WO.fieldL rfl rfl rfl ?_
                                            exact WO.nil ⟨rfl, rfl⟩
                                          refine' DT.b rfl rfl rfl ?hq ?_
                                          case hq =>
                                            refine WO.loadA rfl rfl (Cells.ownAt (n := 2) (Pick.tail (Pick.tail (Pick.tail (Pick.tail (Pick.tail (Pick.head)))))) rfl) rfl rfl ?_
                                            exact WO.nil ⟨rfl, rfl⟩
                                          refine' DT.b rfl rfl rfl ?hq ?_
                                          case hq =>
                                            refine WO.callR (r := .agg #[.int .i64 e1, .int .i64 e2]) rfl Try.call32 (fun L w hi => by have h := law_minus w (sp * ((rows.length : Int) - 1)) c d pd0 k2 (hF0 (by omega)).1.2 (k3 c pc0 pc1) (by unfold in64; omega); rw [(hF0 (by omega)).1.1] at h; exact h) rfl ?_
                                            exact WO.nil ⟨rfl, rfl⟩
                                          refine' DT.r rfl rfl rfl ?hq ?_
                                          case hq =>
                                            refine WO.p rfl rfl ?_
                                            exact WO.nil ⟨rfl, rfl⟩
                                          refine' DT.r rfl rfl rfl ?hq ?_
                                          case hq =>
                                            refine WO.field0 rfl rfl rfl ?_
                                            exact WO.nil ⟨rfl, rfl⟩
                                          refine' DT.b rfl rfl rfl ?hq ?_
                                          case hq =>
                                            refine WO.loadA rfl rfl (Cells.ownAt (n := 2) (Pick.tail (Pick.tail (Pick.tail (Pick.tail (Pick.tail (Pick.head)))))) rfl) rfl rfl ?_
                                            exact WO.nil ⟨rfl, rfl⟩
                                          refine DT.nil [_, _, _, _, _, _, _, _, _] rfl ?_
                                          refine WO.callR (r := .agg #[.int .i64 e3, .int .i64 e4]) rfl Try.call32 (fun L w hi => by have h := law_minus w (sp * ((rows.length : Int) - 1)) a b pb0 k4 (hF0 (by omega)).2.2 (k5 a pa0 pa1) (by unfold in64; omega); rw [(hF0 (by omega)).2.1] at h; exact h) rfl ?_
                                          refine' WO.build (cs := _) rfl rfl rfl ?hf rfl ?_
                                          case hf => (conv => lhs; simp [-List.getD_eq_getElem?_getD, fillL, vcl, wrl, TTab.pl?.lget']) <;> rfl
                                          refine WO.storeA rfl rfl rfl rfl Pick.head rfl rfl ?_
                                          refine WO.nil ?_
                                          first | (have h0 : ¬ n.tmod 3 = 0 := ‹_›; obtain ⟨rfl, rfl, rfl, rfl⟩ := hF h0) | skip
                                          refine W.sreg ?_
                                          refine WO.p rfl rfl (WO.p rfl rfl (WO.p rfl rfl ?_))
                                          refine WO.guard_bl rfl rfl (fun c9 => ?_) (fun c9 => ?_)
                                          · first
                                            | (exfalso; omega)
                                            | (refine WO.go' rfl (WO.loadA rfl rfl (Cells.own (Pick.tail (Pick.head))) rfl rfl (WO.go' rfl (WO.loadA rfl rfl (Cells.own Pick.head) rfl rfl (WO.go' rfl ?_))))
                                               refine WO.eqT rfl rfl (eq41t _ _ _ _) rfl ?_
                                               refine WO.p rfl rfl (WO.p rfl rfl (WO.go' rfl ?_))
                                               refine WO.callR rfl Try.call13 (fun L w hi => law_Works w) rfl ?_
                                               refine WO.p rfl rfl (WO.p rfl rfl ?_)
                                               refine WO.nil ?_
                                               refine W.ret ?_
                                               exact fin.ret (Res.one rfl (RV.tmp rfl)) rfl)
                                          · first
                                            | (exfalso; omega)
                                            | (refine WO.no rfl rfl (WO.no rfl rfl (WO.no rfl rfl (WO.p rfl rfl (WO.p rfl rfl (WO.no rfl rfl (WO.p rfl rfl (WO.p rfl rfl ?_)))))))
                                               refine WO.nil ?_
                                               refine W.ret ?_
                                               exact fin.ret (Res.one rfl (RV.tmp rfl)) rfl)))
                                · first
                                  | (exfalso; omega)
                                  | (refine W.skip ?_
                                     first | (have h0 : ¬ n.tmod 3 = 0 := ‹_›; obtain ⟨rfl, rfl, rfl, rfl⟩ := hF h0) | skip
                                     refine W.sreg ?_
                                     refine WO.p rfl rfl (WO.p rfl rfl (WO.p rfl rfl ?_))
                                     refine WO.guard_bl rfl rfl (fun c10 => ?_) (fun c10 => ?_)
                                     · first
                                       | (exfalso; omega)
                                       | (refine WO.go' rfl (WO.loadA rfl rfl (Cells.own (Pick.tail (Pick.head))) rfl rfl (WO.go' rfl (WO.loadA rfl rfl (Cells.own Pick.head) rfl rfl (WO.go' rfl ?_))))
                                          refine WO.eqT rfl rfl (eq41t _ _ _ _) rfl ?_
                                          refine WO.p rfl rfl (WO.p rfl rfl (WO.go' rfl ?_))
                                          refine WO.callR rfl Try.call13 (fun L w hi => law_Works w) rfl ?_
                                          refine WO.p rfl rfl (WO.p rfl rfl ?_)
                                          refine WO.nil ?_
                                          refine W.ret ?_
                                          exact fin.ret (Res.one rfl (RV.tmp rfl)) rfl)
                                     · first
                                       | (exfalso; omega)
                                       | (refine WO.no rfl rfl (WO.no rfl rfl (WO.no rfl rfl (WO.p rfl rfl (WO.p rfl rfl (WO.no rfl rfl (WO.p rfl rfl (WO.p rfl rfl ?_)))))))
                                          refine WO.nil ?_
                                          refine W.ret ?_
                                          exact fin.ret (Res.one rfl (RV.tmp rfl)) rfl))))
                      · first
                        | (exfalso; omega)
                        | (refine W.skip ?_
                           first | (have h0 : ¬ n.tmod 3 = 0 := ‹_›; obtain ⟨rfl, rfl, rfl, rfl⟩ := hG h0) | skip
                           refine W.sreg ?_
                           refine WO.p rfl rfl (WO.p rfl rfl (WO.p rfl rfl ?_))
                           refine WO.guard_bl rfl rfl (fun c11 => ?_) (fun c11 => ?_)
                           · first
                             | (exfalso; omega)
                             | (refine WO.no rfl rfl (WO.no rfl rfl (WO.no rfl rfl (WO.p rfl rfl ?_)))
                                refine WO.nil ?_
                                refine W.cond_t rfl ?_
                                refine W.sreg ?_
                                refine WO.p rfl rfl ?_
                                refine WO.nil ?_
                                refine W.ret ?_
                                exact fin.ret (Res.one rfl (RV.tmp rfl)) rfl)
                           · first
                             | (exfalso; omega)
                             | (refine WO.go' rfl (WO.loadA rfl rfl (Cells.own (Pick.tail (Pick.head))) rfl rfl (WO.go' rfl (WO.loadA rfl rfl (Cells.own Pick.head) rfl rfl (WO.go' rfl ?_))))
                                refine WO.eqT rfl rfl (ne41f _ _ _ _) rfl ?_
                                refine WO.p rfl rfl ?_
                                refine WO.nil ?_
                                refine W.cond_f rfl ?_
                                refine W.skip ?_
                                refine W.sreg ?_
                                refine WO.loadA rfl rfl (Cells.own (Pick.tail (Pick.tail (Pick.tail (Pick.tail (Pick.tail (Pick.head))))))) rfl rfl (WO.p rfl rfl ?_)
                                refine WO.callR (r := .tuple #[.agg #[.int .i64 e1, .int .i64 e2, .int .i64 e3, .int .i64 e4], .int .i64 0]) rfl Try.call25 (fun L w hi => by have h := c_Span w sp st (n.tmod 3) v rv.reverse rows.reverse (RdR.rev (hR.later hi) (RdF.of_owc (n := rows.length) (by rw [List.length_reverse]; exact hR.len) (by repeat (first | exact Pick.head | apply Pick.tail)) hi)); rw [← spanR_0 (by rw [plan_0 (hv_rev hv) hw]; simp), hrlo, hrhi] at h; exact h) rfl ?_
                                refine WO.p rfl rfl (WO.p rfl rfl (WO.p rfl rfl ?_))
                                refine WO.alloc rfl rfl rfl (fun b10 hb10 => ?_)
                                refine WO.storeA rfl rfl rfl rfl Pick.head rfl rfl (WO.p rfl rfl ?_)
                                refine WO.nil ?_
                                refine W.sreg ?_
                                refine WO.loadA rfl rfl (Cells.own (Pick.tail (Pick.tail (Pick.tail (Pick.tail (Pick.head)))))) rfl rfl ?_
                                refine WO.alloc rfl rfl rfl (fun b11 hb11 => ?_)
                                refine WO.storeA rfl rfl rfl rfl Pick.head rfl rfl ?_
                                refine WO.nil ?_
                                refine W.seq ?_
                                refine W.sreg ?_
                                refine WO.p rfl rfl (WO.p rfl rfl ?_)
                                refine WO.nil ?_
                                refine W.cond_bl rfl (fun c12 => ?_) (fun c12 => ?_)
                                · first
                                  | (exfalso; omega)
                                  | (refine W.sreg ?_
                                     refine WO.field0 rfl rfl rfl (WO.load rfl rfl (Cell.own (Pick.tail (Pick.tail (Pick.tail (Pick.tail (Pick.head))))) rfl) rfl (WO.fieldL rfl rfl rfl (WO.load rfl rfl (Cell.own (Pick.tail (Pick.tail (Pick.tail (Pick.tail (Pick.head))))) rfl) rfl ?_)))
                                     refine' WO.len (n := _) rfl rfl ?hs rfl ?_
                                     case hs => (first | exact hR.sl | (refine (hR.row _ ?_).sl; omega))
                                     refine WO.ar rfl rfl rfl (by (first | (unfold in64; omega) | assumption | (unfold in64; omega))) rfl (WO.ar rfl rfl rfl (by (first | (unfold in64; omega) | assumption | (unfold in64; omega))) rfl (WO.p rfl rfl ?_))
                                     refine WO.nil ?_
                                     refine W.seq ?_
                                     have hle25 := (hF0 (by omega)).1.2
                                     refine W.sreg ?_
                                     refine WO.fieldL rfl rfl rfl (WO.field0 rfl rfl rfl (WO.load rfl rfl (Cell.own (Pick.tail (Pick.tail (Pick.tail (Pick.tail (Pick.tail (Pick.head)))))) rfl) rfl (WO.p rfl rfl (WO.fieldL rfl rfl rfl (WO.fieldL rfl rfl rfl (WO.load rfl rfl (Cell.own (Pick.tail (Pick.tail (Pick.tail (Pick.tail (Pick.tail (Pick.head)))))) rfl) rfl (WO.ar rfl rfl rfl (by (first | (unfold in64; omega) | assumption | (unfold in64; omega))) rfl (WO.p rfl rfl ?_))))))))
                                     refine WO.nil ?_
                                     refine W.cond_bl rfl (fun c13 => ?_) (fun c13 => ?_)
                                     · first
                                       | (exfalso; omega)
                                       | (refine W.sreg ?_
                                          refine WO.p rfl rfl ?_
                                          refine WO.nil ?_
                                          refine W.ret ?_
                                          exact fin.ret (Res.one rfl (RV.tmp rfl)) rfl)
                                     · first
                                       | (exfalso; omega)
                                       | (refine W.skip ?_
                                          refine W.drawD 7 [.r 0 [], .r 1 [], .b 2 [], .b 3 [], .r 4 [], .r 5 [], .b 6 []] [] (A0 := []) (Sub.refl _) (by kernel_rfl) ?_ ?_
                                          · exact (ALok.r (ALok.r (ALok.b (ALok.b (ALok.r (ALok.r (ALok.b ALok.nil)))))))
                                          refine' DT.r rfl rfl rfl ?hq ?_
                                          case hq =>
                                            refine WO.p rfl rfl ?_
                                            exact WO.nil ⟨rfl, rfl⟩
                                          refine' DT.r rfl rfl rfl ?hq ?_
                                          case hq =>
                                            refine WO.fieldL rfl rfl rfl ?_
                                            exact WO.nil ⟨rfl, rfl⟩
                                          refine' DT.b rfl rfl rfl ?hq ?_
                                          case hq =>
                                            refine WO.loadA rfl rfl (Cells.ownAt (n := 2) (Pick.tail (Pick.tail (Pick.tail (Pick.tail (Pick.tail (Pick.head)))))) rfl) rfl rfl ?_
                                            exact WO.nil ⟨rfl, rfl⟩
                                          refine' DT.b rfl rfl rfl ?hq ?_
                                          case hq =>
                                            refine WO.callR (r := .agg #[.int .i64 e1, .int .i64 e2]) rfl Try.call32 (fun L w hi => by have h := law_minus w (sp * ((rows.length : Int) - 1)) c d pd0 k2 (hF0 (by omega)).1.2 (k3 c pc0 pc1) (by unfold in64; omega); rw [(hF0 (by omega)).1.1] at h; exact h) rfl ?_
                                            exact WO.nil ⟨rfl, rfl⟩
                                          refine' DT.r rfl rfl rfl ?hq ?_
                                          case hq =>
                                            refine WO.p rfl rfl ?_
                                            exact WO.nil ⟨rfl, rfl⟩
                                          refine' DT.r rfl rfl rfl ?hq ?_
                                          case hq =>
                                            refine WO.field0 rfl rfl rfl ?_
                                            exact WO.nil ⟨rfl, rfl⟩
                                          refine' DT.b rfl rfl rfl ?hq ?_
                                          case hq =>
                                            refine WO.loadA rfl rfl (Cells.ownAt (n := 2) (Pick.tail (Pick.tail (Pick.tail (Pick.tail (Pick.tail (Pick.head)))))) rfl) rfl rfl ?_
                                            exact WO.nil ⟨rfl, rfl⟩
                                          refine DT.nil [_, _, _, _, _, _, _, _, _] rfl ?_
                                          refine WO.callR (r := .agg #[.int .i64 e3, .int .i64 e4]) rfl Try.call32 (fun L w hi => by have h := law_minus w (sp * ((rows.length : Int) - 1)) a b pb0 k4 (hF0 (by omega)).2.2 (k5 a pa0 pa1) (by unfold in64; omega); rw [(hF0 (by omega)).2.1] at h; exact h) rfl ?_
                                          refine' WO.build (cs := _) rfl rfl rfl ?hf rfl ?_
                                          case hf => (conv => lhs; simp [-List.getD_eq_getElem?_getD, fillL, vcl, wrl, TTab.pl?.lget']) <;> rfl
                                          refine WO.storeA rfl rfl rfl rfl Pick.head rfl rfl ?_
                                          refine WO.nil ?_
                                          first | (have h0 : ¬ n.tmod 3 = 0 := ‹_›; obtain ⟨rfl, rfl, rfl, rfl⟩ := hF h0) | skip
                                          refine W.sreg ?_
                                          refine WO.p rfl rfl (WO.p rfl rfl (WO.p rfl rfl ?_))
                                          refine WO.guard_bl rfl rfl (fun c14 => ?_) (fun c14 => ?_)
                                          · first
                                            | (exfalso; omega)
                                            | (refine WO.go' rfl (WO.loadA rfl rfl (Cells.own (Pick.tail (Pick.head))) rfl rfl (WO.go' rfl (WO.loadA rfl rfl (Cells.own Pick.head) rfl rfl (WO.go' rfl ?_))))
                                               refine WO.eqT rfl rfl (eq41t _ _ _ _) rfl ?_
                                               refine WO.p rfl rfl (WO.p rfl rfl (WO.go' rfl ?_))
                                               refine WO.callR rfl Try.call13 (fun L w hi => law_Works w) rfl ?_
                                               refine WO.p rfl rfl (WO.p rfl rfl ?_)
                                               refine WO.nil ?_
                                               refine W.ret ?_
                                               exact fin.ret (Res.one rfl (RV.tmp rfl)) rfl)
                                          · first
                                            | (exfalso; omega)
                                            | (refine WO.no rfl rfl (WO.no rfl rfl (WO.no rfl rfl (WO.p rfl rfl (WO.p rfl rfl (WO.no rfl rfl (WO.p rfl rfl (WO.p rfl rfl ?_)))))))
                                               refine WO.nil ?_
                                               refine W.ret ?_
                                               exact fin.ret (Res.one rfl (RV.tmp rfl)) rfl)))
                                · first
                                  | (exfalso; omega)
                                  | (refine W.skip ?_
                                     first | (have h0 : ¬ n.tmod 3 = 0 := ‹_›; obtain ⟨rfl, rfl, rfl, rfl⟩ := hF h0) | skip
                                     refine W.sreg ?_
                                     refine WO.p rfl rfl (WO.p rfl rfl (WO.p rfl rfl ?_))
                                     refine WO.guard_bl rfl rfl (fun c15 => ?_) (fun c15 => ?_)
                                     · first
                                       | (exfalso; omega)
                                       | (refine WO.go' rfl (WO.loadA rfl rfl (Cells.own (Pick.tail (Pick.head))) rfl rfl (WO.go' rfl (WO.loadA rfl rfl (Cells.own Pick.head) rfl rfl (WO.go' rfl ?_))))
                                          refine WO.eqT rfl rfl (eq41t _ _ _ _) rfl ?_
                                          refine WO.p rfl rfl (WO.p rfl rfl (WO.go' rfl ?_))
                                          refine WO.callR rfl Try.call13 (fun L w hi => law_Works w) rfl ?_
                                          refine WO.p rfl rfl (WO.p rfl rfl ?_)
                                          refine WO.nil ?_
                                          refine W.ret ?_
                                          exact fin.ret (Res.one rfl (RV.tmp rfl)) rfl)
                                     · first
                                       | (exfalso; omega)
                                       | (refine WO.no rfl rfl (WO.no rfl rfl (WO.no rfl rfl (WO.p rfl rfl (WO.p rfl rfl (WO.no rfl rfl (WO.p rfl rfl (WO.p rfl rfl ?_)))))))
                                          refine WO.nil ?_
                                          refine W.ret ?_
                                          exact fin.ret (Res.one rfl (RV.tmp rfl)) rfl)))))
                 · first
                   | (exfalso; omega)
                   | (refine W.skip ?_
                      refine W.sreg ?_
                      refine WO.loadA rfl rfl (Cells.own (Pick.tail (Pick.tail (Pick.tail (Pick.head))))) rfl rfl (WO.p rfl rfl ?_)
                      refine WO.callR (r := .tuple #[.agg #[.int .i64 e1, .int .i64 e2, .int .i64 e3, .int .i64 e4], .int .i64 0]) rfl Try.call25 (fun L w hi => by have h := c_Span w sp st (n.tmod 3) v rv.reverse rows.reverse (RdR.rev (hR.later hi) (RdF.of_owc (n := rows.length) (by rw [List.length_reverse]; exact hR.len) (by repeat (first | exact Pick.head | apply Pick.tail)) hi)); rw [← spanR_0 (by rw [plan_0 (hv_rev hv) hw]; simp), hrlo, hrhi] at h; exact h) rfl ?_
                      refine WO.p rfl rfl (WO.p rfl rfl (WO.p rfl rfl ?_))
                      refine WO.alloc rfl rfl rfl (fun b12 hb12 => ?_)
                      refine WO.storeA rfl rfl rfl rfl Pick.head rfl rfl (WO.p rfl rfl ?_)
                      refine WO.nil ?_
                      refine W.sreg ?_
                      refine WO.loadA rfl rfl (Cells.own (Pick.tail (Pick.tail (Pick.head)))) rfl rfl ?_
                      refine WO.alloc rfl rfl rfl (fun b13 hb13 => ?_)
                      refine WO.storeA rfl rfl rfl rfl Pick.head rfl rfl ?_
                      refine WO.nil ?_
                      refine W.seq ?_
                      refine W.sreg ?_
                      refine WO.p rfl rfl (WO.p rfl rfl ?_)
                      refine WO.nil ?_
                      refine W.cond_bl rfl (fun c16 => ?_) (fun c16 => ?_)
                      · first
                        | (exfalso; omega)
                        | (refine W.sreg ?_
                           refine WO.field0 rfl rfl rfl (WO.load rfl rfl (Cell.own (Pick.tail (Pick.tail (Pick.head))) rfl) rfl (WO.fieldL rfl rfl rfl (WO.load rfl rfl (Cell.own (Pick.tail (Pick.tail (Pick.head))) rfl) rfl ?_)))
                           refine' WO.len (n := _) rfl rfl ?hs rfl ?_
                           case hs => (first | exact hR.sl | (refine (hR.row _ ?_).sl; omega))
                           refine WO.ar rfl rfl rfl (by (first | (unfold in64; omega) | assumption | (unfold in64; omega))) rfl (WO.ar rfl rfl rfl (by (first | (unfold in64; omega) | assumption | (unfold in64; omega))) rfl (WO.p rfl rfl ?_))
                           refine WO.nil ?_
                           refine W.seq ?_
                           have hle25 := (hF0 (by omega)).1.2
                           refine W.sreg ?_
                           refine WO.fieldL rfl rfl rfl (WO.field0 rfl rfl rfl (WO.load rfl rfl (Cell.own (Pick.tail (Pick.tail (Pick.tail (Pick.head)))) rfl) rfl (WO.p rfl rfl (WO.fieldL rfl rfl rfl (WO.fieldL rfl rfl rfl (WO.load rfl rfl (Cell.own (Pick.tail (Pick.tail (Pick.tail (Pick.head)))) rfl) rfl (WO.ar rfl rfl rfl (by (first | (unfold in64; omega) | assumption | (unfold in64; omega))) rfl (WO.p rfl rfl ?_))))))))
                           refine WO.nil ?_
                           refine W.cond_bl rfl (fun c17 => ?_) (fun c17 => ?_)
                           · first
                             | (exfalso; omega)
                             | (refine W.sreg ?_
                                refine WO.p rfl rfl ?_
                                refine WO.nil ?_
                                refine W.ret ?_
                                exact fin.ret (Res.one rfl (RV.tmp rfl)) rfl)
                           · first
                             | (exfalso; omega)
                             | (refine W.skip ?_
                                refine W.drawD 7 [.r 0 [], .r 1 [], .b 2 [], .b 3 [], .r 4 [], .r 5 [], .b 6 []] [] (A0 := []) (Sub.refl _) (by kernel_rfl) ?_ ?_
                                · exact (ALok.r (ALok.r (ALok.b (ALok.b (ALok.r (ALok.r (ALok.b ALok.nil)))))))
                                refine' DT.r rfl rfl rfl ?hq ?_
                                case hq =>
                                  refine WO.p rfl rfl ?_
                                  exact WO.nil ⟨rfl, rfl⟩
                                refine' DT.r rfl rfl rfl ?hq ?_
                                case hq =>
                                  refine WO.fieldL rfl rfl rfl ?_
                                  exact WO.nil ⟨rfl, rfl⟩
                                refine' DT.b rfl rfl rfl ?hq ?_
                                case hq =>
                                  refine WO.loadA rfl rfl (Cells.ownAt (n := 2) (Pick.tail (Pick.tail (Pick.tail (Pick.head)))) rfl) rfl rfl ?_
                                  exact WO.nil ⟨rfl, rfl⟩
                                refine' DT.b rfl rfl rfl ?hq ?_
                                case hq =>
                                  refine WO.callR (r := .agg #[.int .i64 e1, .int .i64 e2]) rfl Try.call32 (fun L w hi => by have h := law_minus w (sp * ((rows.length : Int) - 1)) c d pd0 k2 (hF0 (by omega)).1.2 (k3 c pc0 pc1) (by unfold in64; omega); rw [(hF0 (by omega)).1.1] at h; exact h) rfl ?_
                                  exact WO.nil ⟨rfl, rfl⟩
                                refine' DT.r rfl rfl rfl ?hq ?_
                                case hq =>
                                  refine WO.p rfl rfl ?_
                                  exact WO.nil ⟨rfl, rfl⟩
                                refine' DT.r rfl rfl rfl ?hq ?_
                                case hq =>
                                  refine WO.field0 rfl rfl rfl ?_
                                  exact WO.nil ⟨rfl, rfl⟩
                                refine' DT.b rfl rfl rfl ?hq ?_
                                case hq =>
                                  refine WO.loadA rfl rfl (Cells.ownAt (n := 2) (Pick.tail (Pick.tail (Pick.tail (Pick.head)))) rfl) rfl rfl ?_
                                  exact WO.nil ⟨rfl, rfl⟩
                                refine DT.nil [_, _, _, _, _, _, _] rfl ?_
                                refine WO.callR (r := .agg #[.int .i64 e3, .int .i64 e4]) rfl Try.call32 (fun L w hi => by have h := law_minus w (sp * ((rows.length : Int) - 1)) a b pb0 k4 (hF0 (by omega)).2.2 (k5 a pa0 pa1) (by unfold in64; omega); rw [(hF0 (by omega)).2.1] at h; exact h) rfl ?_
                                refine' WO.build (cs := _) rfl rfl rfl ?hf rfl ?_
                                case hf => (conv => lhs; simp [-List.getD_eq_getElem?_getD, fillL, vcl, wrl, TTab.pl?.lget']) <;> rfl
                                refine WO.storeA rfl rfl rfl rfl Pick.head rfl rfl ?_
                                refine WO.nil ?_
                                first | (have h0 : ¬ n.tmod 3 = 0 := ‹_›; obtain ⟨rfl, rfl, rfl, rfl⟩ := hF h0) | skip
                                refine W.sreg ?_
                                refine WO.p rfl rfl (WO.p rfl rfl (WO.p rfl rfl ?_))
                                refine WO.guard_bl rfl rfl (fun c18 => ?_) (fun c18 => ?_)
                                · first
                                  | (exfalso; omega)
                                  | (refine WO.go' rfl (WO.loadA rfl rfl (Cells.own (Pick.tail (Pick.head))) rfl rfl (WO.go' rfl (WO.loadA rfl rfl (Cells.own Pick.head) rfl rfl (WO.go' rfl ?_))))
                                     refine WO.eqT rfl rfl (eq41t _ _ _ _) rfl ?_
                                     refine WO.p rfl rfl (WO.p rfl rfl (WO.go' rfl ?_))
                                     refine WO.callR rfl Try.call13 (fun L w hi => law_Works w) rfl ?_
                                     refine WO.p rfl rfl (WO.p rfl rfl ?_)
                                     refine WO.nil ?_
                                     refine W.ret ?_
                                     exact fin.ret (Res.one rfl (RV.tmp rfl)) rfl)
                                · first
                                  | (exfalso; omega)
                                  | (refine WO.no rfl rfl (WO.no rfl rfl (WO.no rfl rfl (WO.p rfl rfl (WO.p rfl rfl (WO.no rfl rfl (WO.p rfl rfl (WO.p rfl rfl ?_)))))))
                                     refine WO.nil ?_
                                     refine W.ret ?_
                                     exact fin.ret (Res.one rfl (RV.tmp rfl)) rfl)))
                      · first
                        | (exfalso; omega)
                        | (refine W.skip ?_
                           first | (have h0 : ¬ n.tmod 3 = 0 := ‹_›; obtain ⟨rfl, rfl, rfl, rfl⟩ := hF h0) | skip
                           refine W.sreg ?_
                           refine WO.p rfl rfl (WO.p rfl rfl (WO.p rfl rfl ?_))
                           refine WO.guard_bl rfl rfl (fun c19 => ?_) (fun c19 => ?_)
                           · first
                             | (exfalso; omega)
                             | (refine WO.go' rfl (WO.loadA rfl rfl (Cells.own (Pick.tail (Pick.head))) rfl rfl (WO.go' rfl (WO.loadA rfl rfl (Cells.own Pick.head) rfl rfl (WO.go' rfl ?_))))
                                refine WO.eqT rfl rfl (eq41t _ _ _ _) rfl ?_
                                refine WO.p rfl rfl (WO.p rfl rfl (WO.go' rfl ?_))
                                refine WO.callR rfl Try.call13 (fun L w hi => law_Works w) rfl ?_
                                refine WO.p rfl rfl (WO.p rfl rfl ?_)
                                refine WO.nil ?_
                                refine W.ret ?_
                                exact fin.ret (Res.one rfl (RV.tmp rfl)) rfl)
                           · first
                             | (exfalso; omega)
                             | (refine WO.no rfl rfl (WO.no rfl rfl (WO.no rfl rfl (WO.p rfl rfl (WO.p rfl rfl (WO.no rfl rfl (WO.p rfl rfl (WO.p rfl rfl ?_)))))))
                                refine WO.nil ?_
                                refine W.ret ?_
                                exact fin.ret (Res.one rfl (RV.tmp rfl)) rfl))))))
end Go.Proofs.Ytgihklgpehfbpaa
