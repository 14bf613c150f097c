/-
  What is proved here: more about smallest circles (no program in sight). Conditions: none; each theorem states its own.
  What is proved here: the law TurnHeld. Conditions: none; each contract states its own.
-/
import Derived.Test.YtkhplcncfogolaaM8
namespace Go.Proofs.Ytkhplcncfogolaa
open Go Go.TH Go.TH.Dsc
theorem Best.strict {l l' R : List (Rat × Rat)} {D : Dsc} {p : Rat × Rat} (h : Best l R D) (hl : ∀ q ∈ l, q = p ∨ q ∈ l') (hs : ∀ q ∈ l', q ∈ l) (hp : f D p < 0) : Best l' R D := by
  refine ⟨fun q hq => h.hold q (hs q hq), h.on, fun E hE oE => ?_⟩
  rcases (Rat.le_total : D.s ≤ E.s ∨ E.s ≤ D.s) with g | g
  · exact g
  · -- a little of E
    have key : ∃ t : Rat, 0 ≤ t ∧ t ≤ 1 ∧ 0 < t ∧ f (mix t D E) p ≤ 0 := by
      rcases (Rat.le_total : f E p ≤ 0 ∨ 0 ≤ f E p) with k | k
      · refine ⟨1, by grind, by grind, by grind, ?_⟩
        rw [f_mix]; grind
      · have h3 : 0 < f E p - f D p := by grind
        have hi : 0 < (f E p - f D p)⁻¹ := Rat.inv_pos.2 h3
        have h4 : (f E p - f D p) * (f E p - f D p)⁻¹ = 1 := Rat.mul_inv_cancel _ (by grind)
        have h5 := Rat.mul_nonneg (a := f E p) (b := (f E p - f D p)⁻¹) k (by grind)
        have h6 := Rat.mul_pos (a := -f D p) (b := (f E p - f D p)⁻¹) (by grind) hi
        refine ⟨-f D p * (f E p - f D p)⁻¹, by grind, by grind, h6, ?_⟩
        rw [f_mix]
        have e : (1 - -f D p * (f E p - f D p)⁻¹) * f D p + -f D p * (f E p - f D p)⁻¹ * f E p = 0 := by grind
        rw [e]; exact Rat.le_refl
    obtain ⟨t, t0, t1, t2, ht⟩ := key
    have hh : Hold (mix t D E) l := fun q hq => by
      rcases hl q hq with rfl | hq'
      · exact ht
      · have hD := h.hold q hq
        have hE' := hE q hq'
        rw [f_mix]
        have a := Rat.mul_nonneg (a := 1 - t) (b := -f D q) (by grind) (by grind)
        have b := Rat.mul_nonneg (a := t) (b := -f E q) t0 (by grind)
        grind
    have := h.min _ hh (on_mix h.on oE)
    unfold mix at this
    dsimp only at this
    have a := Rat.mul_nonneg (a := t * (1 - t)) (b := (D.x - E.x) * (D.x - E.x) + (D.y - E.y) * (D.y - E.y)) (Rat.mul_nonneg t0 (by grind)) (two_nn _ _)
    have b : t * (D.s - E.s) ≤ 0 := by grind
    rcases Rat.le_iff_lt_or_eq.1 g with c | c
    · have := Rat.mul_pos t2 (show 0 < D.s - E.s by grind)
      grind
    · grind
/-- the smallest circle hangs on which points there are, not on how they are listed -/
theorem lst_set {l l' : Pts} (hl : OkL l) (h0 : l ≠ []) (hs : ∀ p, p ∈ l ↔ p ∈ l') : lst l = lst l' := by
  have h1 := lst_sm hl h0
  have hl' : OkL l' := fun p hp => hl p ((hs p).2 hp)
  have h0' : l' ≠ [] := fun e => by
    subst e
    obtain ⟨a, ha⟩ := List.exists_mem_of_ne_nil l h0
    have := (hs a).1 ha
    simp at this
  exact (h1.more (fun p hp => (hs p).1 hp) (fun p hp => h1.hold p ((hs p).2 hp))).lst hl' h0'
theorem lst_eqD {l : Pts} {c : Cir} (hl : OkL l) (h0 : l ≠ []) (hc : Can c) (hb : Best (l.map toQ) [] (toD c)) : c = lst l := by
  have h := lst_sm hl h0
  exact hc.inj h.can (h.best.uniq hb.hold hb.on (hb.min _ h.best.hold h.best.on))
/-- which of two circles is smaller -/
theorem less_lst {a b : Cir} (ha : Can a) (hb : Can b) : lessC a b ↔ (toD a).s < (toD b).s := by
  unfold lessC; rw [cmp_neg]
  exact (frac_lt ha.d hb.d).symm
theorem sub_s {l l' : Pts} (hl : OkL l) (hs : ∀ p ∈ l', p ∈ l) (h0 : l' ≠ []) : ¬ lessC (lst l) (lst l') := by
  have h0' : l ≠ [] := fun e => by
    subst e
    obtain ⟨a, ha⟩ := List.exists_mem_of_ne_nil l' h0
    have := hs a ha
    simp at this
  have h1 := lst_sm hl h0'
  have h2 := lst_sm (fun p hp => hl p (hs p hp)) h0
  rw [less_lst h1.can h2.can, Rat.not_lt]
  exact h2.best.min _ (fun p hp => by
    obtain ⟨q, hq, rfl⟩ := List.mem_map.1 hp
    exact h1.best.hold _ (List.mem_map_of_mem (hs q hq))) (fun p hp => by simp at hp)
/-- a point more -/
theorem more_in {l l' : Pts} {p : Int × Int} (hl : OkL l') (h0 : l ≠ []) (hs : ∀ q, q ∈ l' ↔ q ∈ l ∨ q = p) (hp : whr (lst l) p ≤ 0) : lst l' = lst l := by
  have h := lst_sm (fun q hq => hl q ((hs q).2 (.inl hq))) h0
  have h0' : l' ≠ [] := fun e => by
    subst e
    have := (hs p).2 (.inr rfl)
    simp at this
  refine (Sm.lst hl h0' (h.more (fun q hq => (hs q).2 (.inl hq)) (fun q hq => ?_))).symm
  rcases (hs q).1 hq with g | rfl
  · exact h.hold q g
  · exact hp
theorem more_out {l l' : Pts} {p : Int × Int} (hl : OkL l') (h0 : l ≠ []) (hs : ∀ q, q ∈ l' ↔ q ∈ l ∨ q = p) (hp : 0 < whr (lst l) p) : whr (lst l') p = 0 ∧ lessC (lst l) (lst l') := by
  have hl0 : OkL l := fun q hq => hl q ((hs q).2 (.inl hq))
  have h := lst_sm hl0 h0
  have h0' : l' ≠ [] := fun e => by
    subst e
    have := (hs p).2 (.inr rfl)
    simp at this
  have h' := lst_sm hl h0'
  have hf := (whr_pos h.can.den h.can.d p).1 hp
  have hle : (toD (lst l)).s ≤ (toD (lst l')).s := h.best.min _ (fun q hq => by
    obtain ⟨r, hr, rfl⟩ := List.mem_map.1 hq
    exact h'.best.hold _ (List.mem_map_of_mem ((hs r).2 (.inl hr)))) (fun q hq => by simp at hq)
  have hne : toD (lst l) ≠ toD (lst l') := fun e => by
    have := h'.best.hold (toQ p) (List.mem_map_of_mem ((hs p).2 (.inr rfl)))
    rw [← e] at this
    grind
  constructor
  · rw [whr_zero h'.can.den h'.can.d]
    have h1 := h'.best.hold (toQ p) (List.mem_map_of_mem ((hs p).2 (.inr rfl)))
    rcases Rat.le_iff_lt_or_eq.1 h1 with g | g
    · exfalso
      have hb := Best.strict (l' := l.map toQ) h'.best (fun q hq => by
        obtain ⟨r, hr, rfl⟩ := List.mem_map.1 hq
        rcases (hs r).1 hr with k | rfl
        · exact .inr (List.mem_map_of_mem k)
        · exact .inl rfl) (fun q hq => by
        obtain ⟨r, hr, rfl⟩ := List.mem_map.1 hq
        exact List.mem_map_of_mem ((hs r).2 (.inl hr))) g
      exact hne ((hb.uniq h.best.hold h.best.on (h.best.min _ hb.hold hb.on)))
    · exact g
  · rw [less_lst h.can h'.can]
    rcases Rat.le_iff_lt_or_eq.1 hle with g | g
    · exact g
    · exfalso
      refine hne (h.best.uniq (E := toD (lst l')) (fun q hq => ?_) (fun q hq => by simp at hq) (by rw [g]; exact Rat.le_refl)).symm
      obtain ⟨r, hr, rfl⟩ := List.mem_map.1 hq
      exact h'.best.hold _ (List.mem_map_of_mem ((hs r).2 (.inl hr)))
/-- rims -/
theorem allRims_ok {n : Nat} {r : List Int} (h : r ∈ allRims n) : OkRim n r := by
  unfold allRims at h
  rcases List.mem_append.1 h with h | h
  · rcases List.mem_append.1 h with h | h
    · obtain ⟨a, h1, rfl⟩ := mem_rims1 h
      intro i hi
      obtain rfl : i = 0 := by simpa using hi
      exact ⟨by simp, by simpa using h1, fun g => by omega⟩
    · obtain ⟨a, b, h1, h2, rfl⟩ := mem_rims2.1 h
      intro i hi
      match i, hi with
      | 0, _ => exact ⟨by simp, by simp; omega, fun g => by omega⟩
      | 1, _ => exact ⟨by simp, by simpa using h2, fun g => by simpa using h1⟩
  · obtain ⟨a, b, c, h1, h2, h3, rfl⟩ := mem_rims3.1 h
    intro i hi
    match i, hi with
    | 0, _ => exact ⟨by simp, by simp; omega, fun g => by omega⟩
    | 1, _ => exact ⟨by simp, by simp; omega, fun g => by simpa using h1⟩
    | 2, _ => exact ⟨by simp, by simpa using h3, fun g => by simpa using h2⟩
end Go.Proofs.Ytkhplcncfogolaa
namespace Go.Proofs.Ytkhplcncfogolaa
open Go Go.TH Go.TH.Dsc
attribute [local irreducible] W WO pt
set_option maxRecDepth 10000
set_option maxHeartbeats 1000000
theorem rimOf_min {l : Pts} {j : Nat} {r' : List Int} (hj : j < 3) (hr : r' ∈ rimsL (j + 1) l.length []) (hh : hit l r' = true) : (rimOf l).length ≤ j + 1 := by
  have some_of : ∀ {xs : List (List Int)}, r' ∈ xs → ∃ x, xs.find? (hit l) = some x := fun h => by
    cases e : List.find? (hit l) _ with
    | none => rw [List.find?_eq_none] at e; exact absurd hh (e r' h)
    | some x => exact ⟨x, rfl⟩
  unfold rimOf allRims
  rw [List.append_assoc, List.find?_append, List.find?_append]
  cases e1 : (rimsL 1 l.length []).find? (hit l) with
  | some x =>
    have := (rims_rm (m := 0) (by omega) (List.mem_of_find?_eq_some e1)).2
    show x.length ≤ _; omega
  | none =>
    match j, hj, hr with
    | 0, _, hr => obtain ⟨x, e⟩ := some_of hr; rw [e1] at e; cases e
    | 1, _, hr =>
      obtain ⟨x, e⟩ := some_of hr
      rw [e]
      have := (rims_rm (m := 1) (by omega) (List.mem_of_find?_eq_some e)).2
      show x.length ≤ _; omega
    | 2, _, hr =>
      obtain ⟨x, e⟩ := some_of hr
      cases e2 : (rimsL 2 l.length []).find? (hit l) with
      | some y =>
        have := (rims_rm (m := 1) (by omega) (List.mem_of_find?_eq_some e2)).2
        show y.length ≤ _; omega
      | none =>
        rw [e]
        have := (rims_rm (m := 2) (by omega) (List.mem_of_find?_eq_some e)).2
        show x.length ≤ _; omega
theorem rim_out {l : Pts} (hl : OkL l) (h0 : l ≠ []) {r r' : List Int} {x : Int} {j : Nat} (hr : r = rimOf l) (hj : j < 3) (hjr : j + 1 < r.length) (hr' : r' ∈ rimsL (j + 1) l.length []) (hs : ∀ y ∈ r', y ∈ r) (hx : ∀ y ∈ r, y = x ∨ y ∈ r') (hw : whr (lst l) (l.at x.toNat) < 0) : False := by
  obtain ⟨hm, hh⟩ := rimOf_mem hl h0
  rw [← hr] at hm hh
  have hrm := allRims_rm hm
  have hrm' := (rims_rm hj hr').1
  have hc := lst_sm hl h0
  have hne : ofL l r ≠ [] := List.length_pos_iff.1 (by rw [ofL_len]; exact hrm.len.1)
  have hne' : ofL l r' ≠ [] := List.length_pos_iff.1 (by rw [ofL_len]; exact hrm'.len.1)
  have hsm := lst_sm (ofL_ok hl hrm.rng) hne
  rw [hit_t.1 hh] at hsm
  have hf : f (toD (lst l)) (toQ (l.at x.toNat)) < 0 := by
    have h1 := (whr_le hc.can.den hc.can.d (l.at x.toNat)).1 (by omega)
    rcases Rat.le_iff_lt_or_eq.1 h1 with g | g
    · exact g
    · have := (whr_zero hc.can.den hc.can.d (l.at x.toNat)).2 g; omega
  have hb := Best.strict (l' := (ofL l r').map toQ) hsm.best (fun q hq => by
    obtain ⟨p, hp, rfl⟩ := List.mem_map.1 hq
    obtain ⟨y, hy, rfl⟩ := List.mem_map.1 hp
    rcases hx y hy with rfl | h
    · exact .inl rfl
    · exact .inr (List.mem_map_of_mem (List.mem_map_of_mem h))) (fun q hq => by
    obtain ⟨p, hp, rfl⟩ := List.mem_map.1 hq
    obtain ⟨y, hy, rfl⟩ := List.mem_map.1 hp
    exact List.mem_map_of_mem (List.mem_map_of_mem (hs y hy))) hf
  have e := lst_eqD (ofL_ok hl hrm'.rng) hne' hc.can hb
  have := rimOf_min hj hr' (hit_t.2 e.symm)
  rw [← hr] at this
  omega
theorem okL_one {p : Int × Int} (h : OkP p) : OkL [p] := fun q hq => by
  have e : q = p := by simpa using hq
  rw [e]; exact h
/-- all points of the rim are on the circle -/
theorem rim_on {l : Pts} (hl : OkL l) (h0 : l ≠ []) {x : Int} (hx : x ∈ rimOf l) : whr (lst l) (l.at x.toNat) = 0 := by
  obtain ⟨hm, hh⟩ := rimOf_mem hl h0
  have hrm := allRims_rm hm
  have hc := lst_sm hl h0
  have hxr := hrm.rng x hx
  have hle := hc.hold (l.at x.toNat) (getD_mem (by omega) _)
  rcases Int.lt_or_eq_of_le hle with g | g
  · exfalso
    have hm' := hm
    unfold allRims at hm'
    rcases List.mem_append.1 hm' with h | h
    · rcases List.mem_append.1 h with h | h
      · obtain ⟨a, h1, e⟩ := mem_rims1 h
        rw [e] at hx hh
        have hxa : x = (a : Int) := by simpa using hx
        subst hxa
        have h2 := hit_t.1 hh
        have h3 : ofL l [(a : Int)] = [l.at a] := rfl
        rw [h3] at h2
        have h4 : aloneC (l.at a) = lst [l.at a] := (Sm.alone1 (at_ok hl h1)).lst (okL_one (at_ok hl h1)) (by simp)
        rw [← h2, ← h4, Int.toNat_natCast] at g
        have := (Sm.alone (at_ok hl h1)).on (l.at a) (by simp)
        omega
      · obtain ⟨a, b, h1, h2, e⟩ := mem_rims2.1 h
        have hx2 : x = (a : Int) ∨ x = (b : Int) := by rw [e] at hx; simpa using hx
        have one : ∀ c, c < l.length → [(c : Int)] ∈ rimsL (0 + 1) l.length [] := fun c hc => by rw [rimsT1]; exact mem_seg.2 ⟨c, by omega, hc, by simp⟩
        rcases hx2 with rfl | rfl
        · exact rim_out hl h0 rfl (j := 0) (by omega) (by rw [e]; simp) (one b h2) (by rw [e]; simp) (by rw [e]; simp) g
        · exact rim_out hl h0 rfl (j := 0) (by omega) (by rw [e]; simp) (one a (by omega)) (by rw [e]; simp) (by rw [e]; simp) g
    · obtain ⟨a, b, c, h1, h2, h3, e⟩ := mem_rims3.1 h
      have hx2 : x = (a : Int) ∨ x = (b : Int) ∨ x = (c : Int) := by rw [e] at hx; simpa using hx
      have two : ∀ c d, c < d → d < l.length → [(c : Int), (d : Int)] ∈ rimsL (1 + 1) l.length [] := fun c d h1 h2 => mem_rims2.2 ⟨c, d, h1, h2, rfl⟩
      rcases hx2 with rfl | rfl | rfl
      · exact rim_out hl h0 rfl (j := 1) (by omega) (by rw [e]; simp) (two b c h2 h3) (by rw [e]; simp) (by rw [e]; simp) g
      · exact rim_out hl h0 rfl (j := 1) (by omega) (by rw [e]; simp) (two a c (by omega) h3) (by rw [e]; simp) (by rw [e]; simp) g
      · exact rim_out hl h0 rfl (j := 1) (by omega) (by rw [e]; simp) (two a b h1 (by omega)) (by rw [e]; simp) (by rw [e]; simp) g
  · exact g
theorem given_s {l : Pts} {c : Cir} (hl : OkL l) (h0 : l ≠ []) (h : chkCL c l = 0) : ¬ lessC c (lst l) := by
  unfold chkCL at h
  split at h
  · rename_i ho
    split at h
    · split at h
      · rename_i hh
        have hd := ho.den
        have hd2 := ho.d
        have hs := lst_sm hl h0
        unfold lessC; rw [cmp_neg, ← frac_lt (by omega) hs.can.d, Rat.not_lt]
        exact hs.best.min (toD c) ((holdL_iff (by omega) (by omega) l).1 hh) (fun p hp => by simp at hp)
      · omega
    · omega
  · omega
theorem given_ok {l : Pts} {c : Cir} (h : chkCL c l = 0) : OkR c := by
  unfold chkCL at h
  split at h
  · assumption
  · omega
theorem chkCL_lst {l : Pts} (h : chkL l = 0) : chkCL (lst l) l = 0 := by
  have hok := chkL0.1 h
  have hs := lst_sm hok.2 (List.length_pos_iff.1 (by omega))
  unfold chkCL; rw [if_pos hs.ok, if_pos h, if_pos hs.hold]
theorem crV_rim {l : Pts} (h : chkL l = 0) : crV l (rimOf l) = .tuple #[cirV (lst l), .int .i64 0] := by
  have hok := chkL0.1 h
  obtain ⟨hm, hh⟩ := rimOf_mem hok.2 (List.length_pos_iff.1 (by omega))
  have hr := allRims_rm hm
  rw [crV_0 h (by have := hr.len; omega) (allRims_ok hm), hit_t.1 hh]
theorem cr_ok {l : Pts} {rim : List Int} (h : chkL l = 0) (he : crE l rim = 0) : OkR (crC l rim) ∧ ¬ lessC (lst l) (crC l rim) := by
  have hok := chkL0.1 h
  have hc : crC l rim = lst (ofL l rim) := by unfold crC; rw [if_pos he]
  unfold crE at he
  rw [if_pos h] at he
  split at he
  · omega
  · rename_i hn
    split at he
    · rename_i ho
      have hr := ho.rm hn
      have hne : ofL l rim ≠ [] := List.length_pos_iff.1 (by rw [ofL_len]; exact hr.len.1)
      rw [hc]
      exact ⟨(lst_sm (ofL_ok hok.2 hr.rng) hne).ok, sub_s hok.2 (ofL_sub hr.rng) hne⟩
    · omega
theorem holds_on {c : Cir} {p : Int × Int} (hc : OkR c) (hp : OkP p) (hw : whr c p = 0) : holdsV c p = .tuple #[.bool true, .bool true, .int .i64 0] := by
  unfold holdsV; rw [if_pos hc, if_pos hp, bl_t.2 (by omega : whr c p ≤ 0), bl_t.2 hw]
theorem ne27 (a b : Cir) : EqT Try.prog .neq 27 (cirV a) (cirV b) (.bool (bl (a ≠ b))) := by
  intro x y w
  have e : bl (a ≠ b) = bl (¬ (a.x = b.x ∧ a.y = b.y ∧ a.den = b.den ∧ a.n = b.n ∧ a.d = b.d)) := by
    rw [bl_eq, bl_eq, decide_eq_decide]; exact ⟨fun h g => h (Cir.ext' g), fun h g => h (by subst g; exact ⟨rfl, rfl, rfl, rfl, rfl⟩)⟩
  rw [e]
  simp [go_sem, Try.eqGuardType27, Try.underlying27, Try.underlying25, Try.eqGuardType25]
  by_cases h1 : a.x = b.x <;> by_cases h2 : a.y = b.y <;> by_cases h3 : a.den = b.den <;> by_cases h4 : a.n = b.n <;> by_cases h5 : a.d = b.d <;> simp [h1, h2, h3, h4, h5, bl_eq]
theorem ne27f (a : Cir) : EqT Try.prog .neq 27 (cirV a) (cirV a) (.bool false) := by
  have := ne27 a a
  rwa [bl_f.2 (fun h => h rfl)] at this
theorem law_TurnHeld (w : World) (v o : Value) (l : Pts) (c : Cir) (rim : List Int) (hR : RdF encP 2 w.heap.size w v l) (hI : RdF encI 1 w.heap.size w o rim) : Ret Try.prog 12 [v, cirV c, o].toArray w (.bool true) := by
  refine Ret.of mixed tyTab Try.func12 rfl rfl ?_
  replace hR : RdF encP 2 (fnCx mixed tyTab Try.f12.ntmps w).B (fnCx mixed tyTab Try.f12.ntmps w).w0 v l := hR
  replace hI : RdF encI 1 (fnCx mixed tyTab Try.f12.ntmps w).B (fnCx mixed tyTab Try.f12.ntmps w).w0 o rim := hI
  have hle := hR.sl.le
  refine W.sreg ?_
  refine WO.boxA rfl rfl (fun b1 hb1 => ?_)
  refine WO.p rfl rfl ?_
  refine WO.nil ?_
  refine W.seq ?_
  refine W.sreg ?_
  refine WO.p rfl rfl ?_
  refine WO.callR rfl Try.call21 (fun L w hi => law_fine w v l (hR.later hi)) rfl ?_
  refine WO.p rfl rfl (WO.p rfl rfl ?_)
  refine WO.guard_nbl rfl rfl (fun c1 => ?_) (fun c1 => ?_)
  · first
    | (exfalso; omega)
    | (refine WO.no rfl rfl (WO.no rfl rfl (WO.no rfl rfl (WO.p rfl rfl ?_)))
       refine WO.nil ?_
       refine W.cond_t rfl ?_
       refine W.sreg ?_
       refine WO.callR rfl Try.call14 (fun L w hi => law_Works w) rfl ?_
       refine WO.p rfl rfl ?_
       refine WO.nil ?_
       refine W.ret ?_
       exact fin.ret (Res.one rfl (RV.tmp rfl)) rfl)
  · first
    | (exfalso; omega)
    | (refine WO.pg rfl rfl rfl (WO.go' rfl ?_)
       refine' WO.len (n := _) rfl rfl ?hs rfl ?_
       case hs => (first | exact hI.sl)
       refine WO.pg rfl rfl rfl (WO.p rfl rfl ?_)
       refine WO.nil ?_
       refine W.cond_bl rfl (fun c2 => ?_) (fun c2 => ?_)
       · first
         | (exfalso; omega)
         | (refine W.sreg ?_
            refine WO.callR rfl Try.call14 (fun L w hi => law_Works w) rfl ?_
            refine WO.p rfl rfl ?_
            refine WO.nil ?_
            refine W.ret ?_
            exact fin.ret (Res.one rfl (RV.tmp rfl)) rfl)
       · first
         | (exfalso; omega)
         | (refine W.skip ?_
            have h00 : chkL l = 0 := by assumption
            have hok := chkL0.1 h00
            have hne : l ≠ [] := List.length_pos_iff.1 (by omega)
            have hsm := lst_sm hok.2 hne
            obtain ⟨hrm, hrh⟩ := rimOf_mem hok.2 hne
            have hrr := allRims_rm hrm
            have hrl := hrr.len
            refine W.sreg ?_
            refine WO.p rfl rfl ?_
            refine WO.callR (r := .tuple #[cirV (lst l), .int .i64 0]) rfl Try.call15 (fun L w hi => by have h := c_Smallest w v l (hR.later hi); rw [h00, if_pos rfl] at h; exact h) rfl ?_
            refine WO.p rfl rfl (WO.p rfl rfl (WO.p rfl rfl ?_))
            refine WO.alloc rfl rfl rfl (fun b2 hb2 => ?_)
            refine WO.storeA rfl rfl rfl rfl Pick.head rfl rfl (WO.p rfl rfl ?_)
            refine WO.nil ?_
            refine W.sreg ?_
            refine WO.p rfl rfl ?_
            refine WO.call (Post := fun r Hq => ∃ x : Value, r = .tuple #[x, .int .i64 0] ∧ Hq = [OwE encI 3 1 x (rimOf l)]) rfl Try.call26 (fun L w hi => by have h := c_Rim w v l (hR.later hi); rw [h00, rimV_0 h00] at h; exact h) rfl ?_
            rintro _ _ ⟨rv, rfl, rfl⟩
            refine WO.fact (OwE.sl (enc := encI) (e := 3) (sz := 1) (v := rv) (xs := rimOf l) (by repeat (first | exact Pick.head | apply Pick.tail))) (fun hrs => ?_)
            refine WO.p rfl rfl (WO.p rfl rfl (WO.p rfl rfl (WO.p rfl rfl (WO.p rfl rfl ?_))))
            refine WO.nil ?_
            refine W.sreg ?_
            refine WO.p rfl rfl (WO.p rfl rfl ?_)
            refine WO.callR (r := .tuple #[cirV (lst l), .int .i64 0]) rfl Try.call40 (fun L w hi => by rw [← crV_rim h00]; exact c_CheckRim w v rv l (rimOf l) (hR.later hi) (RdF.of_ow (e := 3) encI_ok (by repeat (first | exact Pick.head | apply Pick.tail)) hi)) rfl ?_
            refine WO.p rfl rfl (WO.p rfl rfl (WO.p rfl rfl ?_))
            refine WO.alloc rfl rfl rfl (fun b3 hb3 => ?_)
            refine WO.storeA rfl rfl rfl rfl Pick.head rfl rfl (WO.p rfl rfl ?_)
            refine WO.nil ?_
            refine W.sreg ?_
            refine WO.p rfl rfl (WO.p rfl rfl ?_)
            refine WO.callR (r := .tuple #[cirV (lst l), .int .i64 0]) rfl Try.call31 (fun L w hi => by rw [← crV_rim h00]; exact ref_CheckRim w v rv l (rimOf l) (hR.later hi) (RdF.of_ow (e := 3) encI_ok (by repeat (first | exact Pick.head | apply Pick.tail)) hi)) rfl ?_
            refine WO.p rfl rfl (WO.p rfl rfl (WO.p rfl rfl ?_))
            refine WO.alloc rfl rfl rfl (fun b4 hb4 => ?_)
            refine WO.storeA rfl rfl rfl rfl Pick.head rfl rfl (WO.p rfl rfl ?_)
            refine WO.nil ?_
            refine W.seq ?_
            refine W.sreg ?_
            refine WO.p rfl rfl (WO.p rfl rfl (WO.p rfl rfl ?_))
            refine WO.guard_bl rfl rfl (fun c3 => ?_) (fun c3 => ?_)
            · first
              | (exfalso; omega)
              | (refine WO.no rfl rfl (WO.no rfl rfl (WO.p rfl rfl (WO.p rfl rfl (WO.no rfl rfl (WO.no rfl rfl (WO.p rfl rfl (WO.p rfl rfl (WO.no rfl rfl (WO.no rfl rfl (WO.p rfl rfl (WO.p rfl rfl ?_)))))))))))
                 refine WO.no rfl rfl (WO.no rfl rfl (WO.no rfl rfl (WO.p rfl rfl (WO.p rfl rfl (WO.no rfl rfl (WO.no rfl rfl (WO.no rfl rfl (WO.p rfl rfl (WO.p rfl rfl (WO.no rfl rfl (WO.no rfl rfl ?_)))))))))))
                 refine WO.no rfl rfl (WO.no rfl rfl (WO.p rfl rfl (WO.p rfl rfl (WO.no rfl rfl (WO.no rfl rfl (WO.no rfl rfl (WO.no rfl rfl (WO.p rfl rfl ?_))))))))
                 refine WO.nil ?_
                 refine W.cond_t rfl ?_
                 refine W.sreg ?_
                 refine WO.p rfl rfl ?_
                 refine WO.nil ?_
                 refine W.ret ?_
                 exact fin.ret (Res.one rfl (RV.tmp rfl)) rfl)
            · first
              | (exfalso; omega)
              | (refine WO.pg rfl rfl rfl (WO.pg rfl rfl rfl (WO.p rfl rfl (WO.p rfl rfl ?_)))
                 refine WO.guard_bl rfl rfl (fun c4 => ?_) (fun c4 => ?_)
                 · first
                   | (exfalso; omega)
                   | (refine WO.no rfl rfl (WO.no rfl rfl (WO.p rfl rfl (WO.p rfl rfl (WO.no rfl rfl (WO.no rfl rfl (WO.p rfl rfl (WO.p rfl rfl (WO.no rfl rfl (WO.no rfl rfl (WO.no rfl rfl (WO.p rfl rfl ?_)))))))))))
                      refine WO.p rfl rfl (WO.no rfl rfl (WO.no rfl rfl (WO.no rfl rfl (WO.p rfl rfl (WO.p rfl rfl (WO.no rfl rfl (WO.no rfl rfl (WO.no rfl rfl (WO.no rfl rfl (WO.p rfl rfl (WO.p rfl rfl ?_)))))))))))
                      refine WO.no rfl rfl (WO.no rfl rfl (WO.no rfl rfl (WO.no rfl rfl (WO.p rfl rfl ?_))))
                      refine WO.nil ?_
                      refine W.cond_t rfl ?_
                      refine W.sreg ?_
                      refine WO.p rfl rfl ?_
                      refine WO.nil ?_
                      refine W.ret ?_
                      exact fin.ret (Res.one rfl (RV.tmp rfl)) rfl)
                 · first
                   | (exfalso; omega)
                   | (refine WO.pg rfl rfl rfl (WO.pg rfl rfl rfl (WO.p rfl rfl (WO.p rfl rfl ?_)))
                      refine WO.guard_bl rfl rfl (fun c5 => ?_) (fun c5 => ?_)
                      · first
                        | (exfalso; omega)
                        | (refine WO.no rfl rfl (WO.no rfl rfl (WO.p rfl rfl (WO.p rfl rfl (WO.no rfl rfl (WO.no rfl rfl (WO.no rfl rfl (WO.p rfl rfl (WO.p rfl rfl (WO.no rfl rfl (WO.no rfl rfl (WO.no rfl rfl ?_)))))))))))
                           refine WO.p rfl rfl (WO.p rfl rfl (WO.no rfl rfl (WO.no rfl rfl (WO.no rfl rfl (WO.no rfl rfl (WO.p rfl rfl (WO.p rfl rfl (WO.no rfl rfl (WO.no rfl rfl (WO.no rfl rfl (WO.no rfl rfl ?_)))))))))))
                           refine WO.p rfl rfl ?_
                           refine WO.nil ?_
                           refine W.cond_t rfl ?_
                           refine W.sreg ?_
                           refine WO.p rfl rfl ?_
                           refine WO.nil ?_
                           refine W.ret ?_
                           exact fin.ret (Res.one rfl (RV.tmp rfl)) rfl)
                      · first
                        | (exfalso; omega)
                        | (refine WO.pg rfl rfl rfl (WO.pg rfl rfl rfl (WO.p rfl rfl (WO.p rfl rfl ?_)))
                           refine WO.guard_bl rfl rfl (fun c6 => ?_) (fun c6 => ?_)
                           · first
                             | (exfalso; omega)
                             | (refine WO.no rfl rfl (WO.no rfl rfl (WO.no rfl rfl (WO.p rfl rfl (WO.p rfl rfl (WO.no rfl rfl (WO.no rfl rfl (WO.no rfl rfl (WO.p rfl rfl (WO.p rfl rfl (WO.no rfl rfl (WO.no rfl rfl ?_)))))))))))
                                refine WO.no rfl rfl (WO.no rfl rfl (WO.p rfl rfl (WO.p rfl rfl (WO.no rfl rfl (WO.no rfl rfl (WO.no rfl rfl (WO.no rfl rfl (WO.p rfl rfl ?_))))))))
                                refine WO.nil ?_
                                refine W.cond_t rfl ?_
                                refine W.sreg ?_
                                refine WO.p rfl rfl ?_
                                refine WO.nil ?_
                                refine W.ret ?_
                                exact fin.ret (Res.one rfl (RV.tmp rfl)) rfl)
                           · first
                             | (exfalso; omega)
                             | (refine WO.go' rfl (WO.loadA rfl rfl (Cells.own (Pick.tail (Pick.head))) rfl rfl (WO.go' rfl (WO.loadA rfl rfl (Cells.own (Pick.tail (Pick.tail (Pick.tail (Pick.head))))) rfl rfl (WO.go' rfl ?_))))
                                refine WO.eqT rfl rfl (ne27f (lst l)) rfl ?_
                                refine WO.p rfl rfl (WO.p rfl rfl (WO.go' rfl (WO.loadA rfl rfl (Cells.own Pick.head) rfl rfl (WO.go' rfl (WO.loadA rfl rfl (Cells.own (Pick.tail (Pick.tail (Pick.tail (Pick.head))))) rfl rfl (WO.go' rfl ?_))))))
                                refine WO.eqT rfl rfl (ne27f (lst l)) rfl ?_
                                refine WO.p rfl rfl (WO.p rfl rfl (WO.go' rfl (WO.loadA rfl rfl (Cells.own (Pick.tail (Pick.tail (Pick.tail (Pick.head))))) rfl rfl (WO.pg rfl rfl rfl (WO.go' rfl ?_)))))
                                refine WO.callR (r := .int .i64 0) rfl Try.call37 (fun L w hi => by have h := c_Check w (lst l) v l (hR.later hi); rw [chkCL_lst h00] at h; exact h) rfl ?_
                                refine WO.pg rfl rfl rfl (WO.p rfl rfl (WO.p rfl rfl ?_))
                                refine WO.guard_bl rfl rfl (fun c7 => ?_) (fun c7 => ?_)
                                · first
                                  | (exfalso; omega)
                                  | (refine WO.no rfl rfl (WO.no rfl rfl (WO.no rfl rfl (WO.no rfl rfl (WO.p rfl rfl ?_))))
                                     refine WO.nil ?_
                                     refine W.cond_t rfl ?_
                                     refine W.sreg ?_
                                     refine WO.p rfl rfl ?_
                                     refine WO.nil ?_
                                     refine W.ret ?_
                                     exact fin.ret (Res.one rfl (RV.tmp rfl)) rfl)
                                · first
                                  | (exfalso; omega)
                                  | (refine WO.go' rfl (WO.loadA rfl rfl (Cells.own (Pick.tail (Pick.tail (Pick.tail (Pick.head))))) rfl rfl (WO.pg rfl rfl rfl (WO.go' rfl ?_)))
                                     refine WO.callR (r := .int .i64 0) rfl Try.call38 (fun L w hi => by have h := ref_Check w (lst l) v l (hR.later hi); rw [chkCL_lst h00] at h; exact h) rfl ?_
                                     refine WO.pg rfl rfl rfl (WO.p rfl rfl ?_)
                                     refine WO.nil ?_
                                     refine W.cond_bl rfl (fun c8 => ?_) (fun c8 => ?_)
                                     · first
                                       | (exfalso; omega)
                                       | (refine W.sreg ?_
                                          refine WO.p rfl rfl ?_
                                          refine WO.nil ?_
                                          refine W.ret ?_
                                          exact fin.ret (Res.one rfl (RV.tmp rfl)) rfl)
                                     · first
                                       | (exfalso; omega)
                                       | (refine W.skip ?_
                                          refine W.seq ?_
                                          refine W.sreg ?_
                                          refine WO.p rfl rfl ?_
                                          refine WO.nil ?_
                                          refine W.block ?_
                                          refine W.loop (fun (i : Nat) => i ≤ (rimOf l).length)
                                            (fun (i : Nat) => [(15, .int .i64 (i : Int)), (9, rv), (7, .pointer (some ⟨b2, 0, none⟩)), (4, .pointer (some ⟨b1, 0, none⟩)), (0, v), (2, o)])
                                            (fun (i : Nat) => [pt b2 (.cells #[.int .i64 (lst l).x, .int .i64 (lst l).y, .int .i64 (lst l).den, .int .i64 (lst l).n, .int .i64 (lst l).d] 27 (0, 0)), pt b1 (.cells #[.int .i64 c.x, .int .i64 c.y, .int .i64 c.den, .int .i64 c.n, .int .i64 c.d] 27 (0, 0)), OwE encI 3 1 rv (rimOf l)])
                                            (fun (i : Nat) => (rimOf l).length - i) 0
                                            (by omega) ⟨rfl, rfl, rfl, rfl, rfl, rfl, trivial⟩ (by repeat (first | exact Sub.nil | refine Sub.cons (by repeat (first | exact Pick.head | apply Pick.tail)) ?_)) ?_
                                          rintro i hi0
                                          refine W.seq ?_
                                          refine W.sreg ?_
                                          refine WO.p rfl rfl (WO.p rfl rfl ?_)
                                          refine' WO.len (n := _) rfl rfl ?hs rfl ?_
                                          case hs => (first | exact hrs)
                                          refine WO.p rfl rfl ?_
                                          refine WO.nil ?_
                                          refine W.cond_bl rfl (fun c9 => ?_) (fun c9 => ?_)
                                          · first
                                            | (exfalso; omega)
                                            | (refine W.skip ?_
                                               refine W.seq ?_
                                               refine W.block ?_
                                               refine W.seq ?_
                                               have hri := hrr.rng _ (getD_mem (show i < (rimOf l).length by omega) 0)
                                               have hon := rim_on hok.2 hne (getD_mem (show i < (rimOf l).length by omega) 0)
                                               have hpo := at_ok hok.2 (show ((rimOf l).getD i 0).toNat < l.length by omega)
                                               refine W.drawD 15 [.b 0 [], .r 1 [], .r 2 [], .r 3 [], .r 4 [], .b 5 [], .r 6 [], .b 7 [], .b 8 [], .r 9 [], .r 10 [], .r 11 [], .r 12 [], .r 13 [], .r 14 []] [] (A0 := []) (Sub.refl _) (by kernel_rfl) ?_ ?_
                                               · exact (ALok.b (ALok.r (ALok.r (ALok.r (ALok.r (ALok.b (ALok.r (ALok.b (ALok.b (ALok.r (ALok.r (ALok.r (ALok.r (ALok.r (ALok.r ALok.nil)))))))))))))))
                                               refine' DT.b rfl rfl rfl ?hq ?_
                                               case hq =>
                                                 refine WO.loadA rfl rfl (Cells.own Pick.head) rfl rfl ?_
                                                 exact WO.nil ⟨rfl, rfl⟩
                                               refine' DT.r rfl rfl rfl ?hq ?_
                                               case hq =>
                                                 refine WO.p rfl rfl ?_
                                                 exact WO.nil ⟨rfl, rfl⟩
                                               refine' DT.r rfl rfl rfl ?hq ?_
                                               case hq =>
                                                 refine WO.p rfl rfl ?_
                                                 exact WO.nil ⟨rfl, rfl⟩
                                               refine' DT.r rfl rfl rfl ?hq ?_
                                               case hq =>
                                                 refine WO.p rfl rfl ?_
                                                 exact WO.nil ⟨rfl, rfl⟩
                                               refine' DT.r rfl rfl rfl ?hq ?_
                                               case hq =>
                                                 refine' WO.indexAddr (n := _) (i := _) rfl rfl rfl ?hs ?h1 rfl ?_
                                                 case hs => (first | exact hrs)
                                                 case h1 => (first | omega | (simp; omega))
                                                 exact WO.nil ⟨rfl, rfl⟩
                                               refine' DT.b rfl rfl rfl ?hq ?_
                                               case hq =>
                                                 refine' WO.load (v := _) rfl rfl ?hc rfl ?_
                                                 case hc => (first | (refine OwE.cellI (e := 3) (l := rimOf l) (i := i) ?_ (by omega); repeat (first | exact Sub.nil | refine Sub.cons (by repeat (first | exact Pick.head | apply Pick.tail)) ?_)))
                                                 exact WO.nil ⟨rfl, rfl⟩
                                               refine' DT.r rfl rfl rfl ?hq ?_
                                               case hq =>
                                                 refine' WO.indexAddrZ (n := _) rfl rfl rfl ?hs ?h00 ?h1 rfl ?_
                                                 case hs => (first | exact hR.sl)
                                                 case h00 => omega
                                                 case h1 => (first | omega | (simp; omega))
                                                 exact WO.nil ⟨rfl, rfl⟩
                                               refine' DT.b rfl rfl rfl ?hq ?_
                                               case hq =>
                                                 refine' WO.loadA (vs := _) rfl rfl ?hc ?hl rfl ?_
                                                 case hc => (first | exact RdF.cells2 hR (i := ((rimOf l).getD i 0).toNat) (by omega))
                                                 case hl => rfl
                                                 exact WO.nil ⟨rfl, rfl⟩
                                               refine' DT.b rfl rfl rfl ?hq ?_
                                               case hq =>
                                                 refine WO.callR (r := .tuple #[.bool true, .bool true, .int .i64 0]) rfl Try.call24 (fun L w hi => by rw [← holds_on hsm.ok hpo hon]; exact c_Holds w (lst l) (l.at ((rimOf l).getD i 0).toNat)) rfl ?_
                                                 exact WO.nil ⟨rfl, rfl⟩
                                               refine' DT.r rfl rfl rfl ?hq ?_
                                               case hq =>
                                                 refine WO.p rfl rfl ?_
                                                 exact WO.nil ⟨rfl, rfl⟩
                                               refine' DT.r rfl rfl rfl ?hq ?_
                                               case hq =>
                                                 refine WO.p rfl rfl ?_
                                                 exact WO.nil ⟨rfl, rfl⟩
                                               refine' DT.r rfl rfl rfl ?hq ?_
                                               case hq =>
                                                 refine WO.p rfl rfl ?_
                                                 exact WO.nil ⟨rfl, rfl⟩
                                               refine' DT.r rfl rfl rfl ?hq ?_
                                               case hq =>
                                                 refine WO.p rfl rfl ?_
                                                 exact WO.nil ⟨rfl, rfl⟩
                                               refine' DT.r rfl rfl rfl ?hq ?_
                                               case hq =>
                                                 refine WO.p rfl rfl ?_
                                                 exact WO.nil ⟨rfl, rfl⟩
                                               refine' DT.r rfl rfl rfl ?hq ?_
                                               case hq =>
                                                 refine WO.p rfl rfl ?_
                                                 exact WO.nil ⟨rfl, rfl⟩
                                               refine DT.nil [_, _, _] rfl ?_
                                               refine WO.p rfl rfl ?_
                                               refine WO.nil ?_
                                               refine W.seq ?_
                                               refine W.drawD 15 [.r 0 [], .r 1 [], .r 2 [], .r 3 [], .r 4 [], .r 5 [], .r 6 [], .b 7 [], .r 8 [], .r 9 [], .r 10 [], .r 11 [], .b 12 [], .r 13 [], .b 14 []] [] (A0 := []) (Sub.refl _) (by kernel_rfl) ?_ ?_
                                               · exact (ALok.r (ALok.r (ALok.r (ALok.r (ALok.r (ALok.r (ALok.r (ALok.b (ALok.r (ALok.r (ALok.r (ALok.r (ALok.b (ALok.r (ALok.b ALok.nil)))))))))))))))
                                               refine' DT.r rfl rfl rfl ?hq ?_
                                               case hq =>
                                                 refine WO.p rfl rfl ?_
                                                 exact WO.nil ⟨rfl, rfl⟩
                                               refine' DT.r rfl rfl rfl ?hq ?_
                                               case hq =>
                                                 refine WO.p rfl rfl ?_
                                                 exact WO.nil ⟨rfl, rfl⟩
                                               refine' DT.rB rfl rfl rfl ?hq (fun c10 => ?_) (fun c10 => ?_)
                                               case hq =>
                                                 refine WO.p rfl rfl ?_
                                                 exact WO.nil ⟨rfl, rfl⟩
                                               · first
                                                 | (exfalso; omega)
                                                 | (refine' DT.r rfl rfl rfl ?hq ?_
                                                    case hq =>
                                                      refine WO.no rfl rfl ?_
                                                      exact WO.nil ⟨rfl, rfl⟩
                                                    refine' DT.r rfl rfl rfl ?hq ?_
                                                    case hq =>
                                                      refine WO.no rfl rfl ?_
                                                      exact WO.nil ⟨rfl, rfl⟩
                                                    refine' DT.r rfl rfl rfl ?hq ?_
                                                    case hq =>
                                                      refine WO.p rfl rfl ?_
                                                      exact WO.nil ⟨rfl, rfl⟩
                                                    refine' DT.r rfl rfl rfl ?hq ?_
                                                    case hq =>
                                                      refine WO.p rfl rfl ?_
                                                      exact WO.nil ⟨rfl, rfl⟩
                                                    refine' DT.b rfl rfl rfl ?hq ?_
                                                    case hq =>
                                                      refine WO.no rfl rfl ?_
                                                      exact WO.nil ⟨rfl, rfl⟩
                                                    refine' DT.r rfl rfl rfl ?hq ?_
                                                    case hq =>
                                                      refine WO.no rfl rfl ?_
                                                      exact WO.nil ⟨rfl, rfl⟩
                                                    refine' DT.r rfl rfl rfl ?hq ?_
                                                    case hq =>
                                                      refine WO.no rfl rfl ?_
                                                      exact WO.nil ⟨rfl, rfl⟩
                                                    refine' DT.r rfl rfl rfl ?hq ?_
                                                    case hq =>
                                                      refine WO.no rfl rfl ?_
                                                      exact WO.nil ⟨rfl, rfl⟩
                                                    refine' DT.r rfl rfl rfl ?hq ?_
                                                    case hq =>
                                                      refine WO.no rfl rfl ?_
                                                      exact WO.nil ⟨rfl, rfl⟩
                                                    refine' DT.b rfl rfl rfl ?hq ?_
                                                    case hq =>
                                                      refine WO.no rfl rfl ?_
                                                      exact WO.nil ⟨rfl, rfl⟩
                                                    refine' DT.r rfl rfl rfl ?hq ?_
                                                    case hq =>
                                                      refine WO.no rfl rfl ?_
                                                      exact WO.nil ⟨rfl, rfl⟩
                                                    refine' DT.b rfl rfl rfl ?hq ?_
                                                    case hq =>
                                                      refine WO.no rfl rfl ?_
                                                      exact WO.nil ⟨rfl, rfl⟩
                                                    refine DT.nil [_, _, _] rfl ?_
                                                    refine WO.no rfl rfl (WO.no rfl rfl (WO.p rfl rfl ?_))
                                                    refine WO.nil ?_
                                                    refine W.cond_t rfl ?_
                                                    refine W.sreg ?_
                                                    refine WO.p rfl rfl ?_
                                                    refine WO.nil ?_
                                                    refine W.ret ?_
                                                    exact fin.ret (Res.one rfl (RV.tmp rfl)) rfl)
                                               · first
                                                 | (exfalso; omega)
                                                 | (refine' DT.r rfl rfl rfl ?hq ?_
                                                    case hq =>
                                                      refine WO.pg rfl rfl rfl ?_
                                                      exact WO.nil ⟨rfl, rfl⟩
                                                    refine' DT.r rfl rfl rfl ?hq ?_
                                                    case hq =>
                                                      refine WO.pg rfl rfl rfl ?_
                                                      exact WO.nil ⟨rfl, rfl⟩
                                                    refine' DT.r rfl rfl rfl ?hq ?_
                                                    case hq =>
                                                      refine WO.p rfl rfl ?_
                                                      exact WO.nil ⟨rfl, rfl⟩
                                                    refine' DT.r rfl rfl rfl ?hq ?_
                                                    case hq =>
                                                      refine WO.p rfl rfl ?_
                                                      exact WO.nil ⟨rfl, rfl⟩
                                                    refine' DT.b rfl rfl rfl ?hq ?_
                                                    case hq =>
                                                      refine WO.go' rfl (WO.loadA rfl rfl (Cells.own Pick.head) rfl rfl ?_)
                                                      exact WO.nil ⟨rfl, rfl⟩
                                                    refine' DT.r rfl rfl rfl ?hq ?_
                                                    case hq =>
                                                      refine WO.pg rfl rfl rfl ?_
                                                      exact WO.nil ⟨rfl, rfl⟩
                                                    refine' DT.r rfl rfl rfl ?hq ?_
                                                    case hq =>
                                                      refine WO.pg rfl rfl rfl ?_
                                                      exact WO.nil ⟨rfl, rfl⟩
                                                    refine' DT.r rfl rfl rfl ?hq ?_
                                                    case hq =>
                                                      refine WO.pg rfl rfl rfl ?_
                                                      exact WO.nil ⟨rfl, rfl⟩
                                                    refine' DT.r rfl rfl rfl ?hq ?_
                                                    case hq =>
                                                      refine WO.go' rfl ?_
                                                      refine' WO.indexAddr (n := _) (i := _) rfl rfl rfl ?hs ?h1 rfl ?_
                                                      case hs => (first | exact hrs)
                                                      case h1 => (first | omega | (simp; omega))
                                                      exact WO.nil ⟨rfl, rfl⟩
                                                    refine' DT.b rfl rfl rfl ?hq ?_
                                                    case hq =>
                                                      refine WO.go' rfl ?_
                                                      refine' WO.load (v := _) rfl rfl ?hc rfl ?_
                                                      case hc => (first | (refine OwE.cellI (e := 3) (l := rimOf l) (i := i) ?_ (by omega); repeat (first | exact Sub.nil | refine Sub.cons (by repeat (first | exact Pick.head | apply Pick.tail)) ?_)))
                                                      exact WO.nil ⟨rfl, rfl⟩
                                                    refine' DT.r rfl rfl rfl ?hq ?_
                                                    case hq =>
                                                      refine WO.go' rfl ?_
                                                      refine' WO.indexAddrZ (n := _) rfl rfl rfl ?hs ?h00 ?h1 rfl ?_
                                                      case hs => (first | exact hR.sl)
                                                      case h00 => omega
                                                      case h1 => (first | omega | (simp; omega))
                                                      exact WO.nil ⟨rfl, rfl⟩
                                                    refine' DT.b rfl rfl rfl ?hq ?_
                                                    case hq =>
                                                      refine WO.go' rfl ?_
                                                      refine' WO.loadA (vs := _) rfl rfl ?hc ?hl rfl ?_
                                                      case hc => (first | exact RdF.cells2 hR (i := ((rimOf l).getD i 0).toNat) (by omega))
                                                      case hl => rfl
                                                      exact WO.nil ⟨rfl, rfl⟩
                                                    refine DT.nil [_, _, _] rfl ?_
                                                    refine WO.go' rfl ?_
                                                    refine WO.callR (r := .int .i64 0) rfl Try.call29 (fun L w hi => by have h := ref_Where w (lst l) (l.at ((rimOf l).getD i 0).toNat) hsm.ok hpo; rw [hon] at h; exact h) rfl ?_
                                                    refine WO.pg rfl rfl rfl (WO.p rfl rfl ?_)
                                                    refine WO.nil ?_
                                                    refine W.cond_bl rfl (fun c11 => ?_) (fun c11 => ?_)
                                                    · first
                                                      | (exfalso; omega)
                                                      | (refine W.sreg ?_
                                                         refine WO.p rfl rfl ?_
                                                         refine WO.nil ?_
                                                         refine W.ret ?_
                                                         exact fin.ret (Res.one rfl (RV.tmp rfl)) rfl)
                                                    · first
                                                      | (exfalso; omega)
                                                      | (refine W.skip ?_
                                                         refine W.region ?_
                                                         refine WO.p rfl rfl (WO.ar rfl rfl rfl (by (first | (unfold in64; omega) | (unfold in64; omega))) rfl (WO.p rfl rfl ?_))
                                                         refine WO.nil ?_
                                                         refine' ⟨i + 1, ?hp, ?hmu, ⟨rfl, rfl, rfl, rfl, rfl, rfl, trivial⟩, ?hS⟩
                                                         case hS => repeat (first | exact Sub.nil | refine Sub.cons (by repeat (first | exact Pick.head | apply Pick.tail)) ?_)
                                                         case hp => omega
                                                         case hmu => omega)))
                                          · first
                                            | (exfalso; omega)
                                            | (refine W.exit (blk_same ?_)
                                               refine W.seq ?_
                                               refine W.sreg ?_
                                               refine WO.loadA rfl rfl (Cells.own (Pick.tail (Pick.head))) rfl rfl (WO.p rfl rfl ?_)
                                               refine WO.callR rfl Try.call37 (fun L w hi => c_Check w c v l (hR.later hi)) rfl ?_
                                               refine WO.p rfl rfl (WO.p rfl rfl ?_)
                                               refine WO.guard_bl rfl rfl (fun c12 => ?_) (fun c12 => ?_)
                                               · first
                                                 | (exfalso; omega)
                                                 | (refine WO.go' rfl (WO.loadA rfl rfl (Cells.own (Pick.tail (Pick.head))) rfl rfl (WO.pg rfl rfl rfl (WO.go' rfl ?_)))
                                                    refine WO.callR rfl Try.call38 (fun L w hi => ref_Check w c v l (hR.later hi)) rfl ?_
                                                    refine WO.pg rfl rfl rfl (WO.pg rfl rfl rfl ?_)
                                                    refine WO.guard_bl rfl rfl (fun c13 => ?_) (fun c13 => ?_)
                                                    · first
                                                      | (exfalso; omega)
                                                      | (refine WO.no rfl rfl (WO.no rfl rfl (WO.no rfl rfl (WO.no rfl rfl (WO.no rfl rfl (WO.pg rfl rfl rfl (WO.p rfl rfl ?_))))))
                                                         refine WO.nil ?_
                                                         refine W.cond_t rfl ?_
                                                         refine W.sreg ?_
                                                         refine WO.p rfl rfl ?_
                                                         refine WO.nil ?_
                                                         refine W.ret ?_
                                                         exact fin.ret (Res.one rfl (RV.tmp rfl)) rfl)
                                                    · first
                                                      | (exfalso; omega)
                                                      | (refine WO.go' rfl (WO.fieldL rfl rfl rfl (WO.go' rfl (WO.loadA rfl rfl (Cells.ownAt (n := 2) (Pick.tail (Pick.head)) rfl) rfl rfl (WO.go' rfl (WO.fieldL rfl rfl rfl (WO.go' rfl (WO.loadA rfl rfl (Cells.ownAt (n := 2) Pick.head rfl) rfl rfl (WO.go' rfl ?_))))))))
                                                         refine WO.callR (r := .bool false) rfl Try.call25 (fun L w hi => by rw [← bl_f.2 (given_s hok.2 hne (c := c) (by omega))]; exact ref_LessC w c (lst l) (given_ok (l := l) (by omega)) hsm.ok) rfl ?_
                                                         refine WO.pg rfl rfl rfl (WO.p rfl rfl ?_)
                                                         refine WO.nil ?_
                                                         refine W.cond_f rfl ?_
                                                         refine W.skip ?_
                                                         refine W.sreg ?_
                                                         refine WO.p rfl rfl (WO.p rfl rfl ?_)
                                                         refine WO.callR (r := .tuple #[cirV (crC l rim), .int .i64 (crE l rim)]) rfl Try.call40 (fun L w hi => c_CheckRim w v o l rim (hR.later hi) (hI.later hi)) rfl ?_
                                                         refine WO.p rfl rfl (WO.p rfl rfl (WO.p rfl rfl ?_))
                                                         refine WO.alloc rfl rfl rfl (fun b5 hb5 => ?_)
                                                         refine WO.storeA rfl rfl rfl rfl Pick.head rfl rfl (WO.p rfl rfl ?_)
                                                         refine WO.nil ?_
                                                         refine W.sreg ?_
                                                         refine WO.p rfl rfl (WO.p rfl rfl (WO.p rfl rfl ?_))
                                                         refine WO.guard_bl rfl rfl (fun c14 => ?_) (fun c14 => ?_)
                                                         · first
                                                           | (exfalso; omega)
                                                           | (refine WO.no rfl rfl (WO.no rfl rfl (WO.no rfl rfl (WO.no rfl rfl (WO.no rfl rfl (WO.no rfl rfl (WO.no rfl rfl (WO.no rfl rfl (WO.no rfl rfl (WO.no rfl rfl (WO.no rfl rfl (WO.p rfl rfl ?_)))))))))))
                                                              refine WO.p rfl rfl (WO.go' rfl ?_)
                                                              refine WO.callR rfl Try.call14 (fun L w hi => law_Works w) rfl ?_
                                                              refine WO.p rfl rfl (WO.p rfl rfl ?_)
                                                              refine WO.nil ?_
                                                              refine W.ret ?_
                                                              exact fin.ret (Res.one rfl (RV.tmp rfl)) rfl)
                                                         · first
                                                           | (exfalso; omega)
                                                           | (refine WO.go' rfl (WO.loadA rfl rfl (Cells.own Pick.head) rfl rfl (WO.go' rfl ?_))
                                                              refine WO.callR (r := .int .i64 0) rfl Try.call22 (fun L w hi => by have h := ref_CheckCircle w (crC l rim); rw [chkR0.2 (cr_ok (rim := rim) h00 (by omega)).1] at h; exact h) rfl ?_
                                                              refine WO.pg rfl rfl rfl (WO.pg rfl rfl rfl ?_)
                                                              refine WO.guard_bl rfl rfl (fun c15 => ?_) (fun c15 => ?_)
                                                              · first
                                                                | (exfalso; omega)
                                                                | (refine WO.go' rfl (WO.fieldL rfl rfl rfl (WO.go' rfl (WO.loadA rfl rfl (Cells.ownAt (n := 2) (Pick.tail (Pick.head)) rfl) rfl rfl (WO.go' rfl (WO.fieldL rfl rfl rfl (WO.go' rfl (WO.loadA rfl rfl (Cells.ownAt (n := 2) Pick.head rfl) rfl rfl (WO.go' rfl ?_))))))))
                                                                   refine WO.callR (r := .bool false) rfl Try.call25 (fun L w hi => by rw [← bl_f.2 (cr_ok (rim := rim) h00 (by omega)).2]; exact ref_LessC w (lst l) (crC l rim) hsm.ok (cr_ok (rim := rim) h00 (by omega)).1) rfl ?_
                                                                   refine WO.pg rfl rfl rfl (WO.pg rfl rfl rfl (WO.p rfl rfl (WO.p rfl rfl (WO.go' rfl ?_))))
                                                                   refine WO.callR rfl Try.call14 (fun L w hi => law_Works w) rfl ?_
                                                                   refine WO.p rfl rfl (WO.p rfl rfl ?_)
                                                                   refine WO.nil ?_
                                                                   refine W.ret ?_
                                                                   exact fin.ret (Res.one rfl (RV.tmp rfl)) rfl)
                                                              · first
                                                                | (exfalso; omega)
                                                                | (refine WO.no rfl rfl (WO.no rfl rfl (WO.no rfl rfl (WO.no rfl rfl (WO.no rfl rfl (WO.no rfl rfl (WO.pg rfl rfl rfl (WO.p rfl rfl (WO.p rfl rfl (WO.no rfl rfl (WO.p rfl rfl (WO.p rfl rfl ?_)))))))))))
                                                                   refine WO.nil ?_
                                                                   refine W.ret ?_
                                                                   exact fin.ret (Res.one rfl (RV.tmp rfl)) rfl))))
                                               · first
                                                 | (exfalso; omega)
                                                 | (refine WO.no rfl rfl (WO.no rfl rfl (WO.no rfl rfl (WO.no rfl rfl (WO.no rfl rfl (WO.no rfl rfl (WO.no rfl rfl (WO.no rfl rfl (WO.no rfl rfl (WO.no rfl rfl (WO.no rfl rfl (WO.p rfl rfl ?_)))))))))))
                                                    refine WO.nil ?_
                                                    refine W.cond_f rfl ?_
                                                    refine W.skip ?_
                                                    refine W.sreg ?_
                                                    refine WO.p rfl rfl (WO.p rfl rfl ?_)
                                                    refine WO.callR (r := .tuple #[cirV (crC l rim), .int .i64 (crE l rim)]) rfl Try.call40 (fun L w hi => c_CheckRim w v o l rim (hR.later hi) (hI.later hi)) rfl ?_
                                                    refine WO.p rfl rfl (WO.p rfl rfl (WO.p rfl rfl ?_))
                                                    refine WO.alloc rfl rfl rfl (fun b6 hb6 => ?_)
                                                    refine WO.storeA rfl rfl rfl rfl Pick.head rfl rfl (WO.p rfl rfl ?_)
                                                    refine WO.nil ?_
                                                    refine W.sreg ?_
                                                    refine WO.p rfl rfl (WO.p rfl rfl (WO.p rfl rfl ?_))
                                                    refine WO.guard_bl rfl rfl (fun c16 => ?_) (fun c16 => ?_)
                                                    · first
                                                      | (exfalso; omega)
                                                      | (refine WO.no rfl rfl (WO.no rfl rfl (WO.no rfl rfl (WO.no rfl rfl (WO.no rfl rfl (WO.no rfl rfl (WO.no rfl rfl (WO.no rfl rfl (WO.no rfl rfl (WO.no rfl rfl (WO.no rfl rfl (WO.p rfl rfl ?_)))))))))))
                                                         refine WO.p rfl rfl (WO.go' rfl ?_)
                                                         refine WO.callR rfl Try.call14 (fun L w hi => law_Works w) rfl ?_
                                                         refine WO.p rfl rfl (WO.p rfl rfl ?_)
                                                         refine WO.nil ?_
                                                         refine W.ret ?_
                                                         exact fin.ret (Res.one rfl (RV.tmp rfl)) rfl)
                                                    · first
                                                      | (exfalso; omega)
                                                      | (refine WO.go' rfl (WO.loadA rfl rfl (Cells.own Pick.head) rfl rfl (WO.go' rfl ?_))
                                                         refine WO.callR (r := .int .i64 0) rfl Try.call22 (fun L w hi => by have h := ref_CheckCircle w (crC l rim); rw [chkR0.2 (cr_ok (rim := rim) h00 (by omega)).1] at h; exact h) rfl ?_
                                                         refine WO.pg rfl rfl rfl (WO.pg rfl rfl rfl ?_)
                                                         refine WO.guard_bl rfl rfl (fun c17 => ?_) (fun c17 => ?_)
                                                         · first
                                                           | (exfalso; omega)
                                                           | (refine WO.go' rfl (WO.fieldL rfl rfl rfl (WO.go' rfl (WO.loadA rfl rfl (Cells.ownAt (n := 2) (Pick.tail (Pick.head)) rfl) rfl rfl (WO.go' rfl (WO.fieldL rfl rfl rfl (WO.go' rfl (WO.loadA rfl rfl (Cells.ownAt (n := 2) Pick.head rfl) rfl rfl (WO.go' rfl ?_))))))))
                                                              refine WO.callR (r := .bool false) rfl Try.call25 (fun L w hi => by rw [← bl_f.2 (cr_ok (rim := rim) h00 (by omega)).2]; exact ref_LessC w (lst l) (crC l rim) hsm.ok (cr_ok (rim := rim) h00 (by omega)).1) rfl ?_
                                                              refine WO.pg rfl rfl rfl (WO.pg rfl rfl rfl (WO.p rfl rfl (WO.p rfl rfl (WO.go' rfl ?_))))
                                                              refine WO.callR rfl Try.call14 (fun L w hi => law_Works w) rfl ?_
                                                              refine WO.p rfl rfl (WO.p rfl rfl ?_)
                                                              refine WO.nil ?_
                                                              refine W.ret ?_
                                                              exact fin.ret (Res.one rfl (RV.tmp rfl)) rfl)
                                                         · first
                                                           | (exfalso; omega)
                                                           | (refine WO.no rfl rfl (WO.no rfl rfl (WO.no rfl rfl (WO.no rfl rfl (WO.no rfl rfl (WO.no rfl rfl (WO.pg rfl rfl rfl (WO.p rfl rfl (WO.p rfl rfl (WO.no rfl rfl (WO.p rfl rfl (WO.p rfl rfl ?_)))))))))))
                                                              refine WO.nil ?_
                                                              refine W.ret ?_
                                                              exact fin.ret (Res.one rfl (RV.tmp rfl)) rfl))))))))))))
end Go.Proofs.Ytkhplcncfogolaa
