/-
  What is proved here: what the numbers of a spectrum are (no program in sight). Conditions: none; each theorem states its own.
  What is proved here: the bits of a full register (no program in sight). Conditions: none; each theorem states its own.
  What is proved here: the law WaveFlat, as a contract. Conditions: none; each contract states its own.
-/
import Derived.Test.YtingkbglkaojdaaM5
import Derived.Test.YtingkbglkaojdaaM28
set_option linter.unusedVariables false
set_option linter.unusedSimpArgs false
namespace Go.Proofs.Ytingkbglkaojdaa
open Go Go.TH Go.TH.Wv
set_option maxRecDepth 10000
set_option maxHeartbeats 1000000
/-- a sum over all places does not depend on where it begins -/
theorem sm_rot1 (f : Nat → Int) : ∀ n, sm n (fun i => f ((i + 1) % n)) = sm n f
  | 0 => rfl
  | m + 1 => by
    rw [sm_front m f]
    show sm m (fun i => f ((i + 1) % (m + 1))) + f ((m + 1) % (m + 1)) = _
    rw [Nat.mod_self, Int.add_comm]
    congr 1
    exact sm_congr fun i hi => by rw [Nat.mod_eq_of_lt (by omega)]
theorem sm_rot (f : Nat → Int) (n : Nat) : ∀ t, sm n (fun i => f ((i + t) % n)) = sm n f
  | 0 => sm_congr fun i hi => by rw [Nat.add_zero, Nat.mod_eq_of_lt hi]
  | t + 1 => by
    rw [← sm_rot f n t, ← sm_rot1 (fun i => f ((i + t) % n)) n]
    refine sm_congr fun i _ => ?_
    rw [Nat.mod_add_mod, show i + 1 + t = i + (t + 1) by omega]
/-- 1 for 0, and -1 for 1 -/
def sg (l : List Int) (i : Nat) : Int := 1 - 2 * bt l i
theorem sg_mul {l : List Int} (h : OkBs l) (i j : Nat) : sg l i * sg l j = 1 - 2 * ((bt l i + bt l j) % 2) := by
  unfold sg
  rcases bt_ok h i with a | a <;> rcases bt_ok h j with b | b <;> rw [a, b] <;> decide
theorem sp_sg {l : List Int} (h : OkBs l) (k : Nat) : sp l k = sm l.length fun i => sg l i * sg l ((i + k) % l.length) := by
  unfold sp
  have e : (sm l.length fun i => sg l i * sg l ((i + k) % l.length)) + sm l.length (dx l k) = sm l.length fun _ => 1 := by
    rw [← sm_add]
    exact sm_congr fun i _ => by rw [sg_mul h]; unfold dx; omega
  have e1 : ∀ n : Nat, (sm n fun _ => 1) = (n : Int) := fun n => by
    induction n with
    | zero => rfl
    | succ n ih => show sm n (fun _ => 1) + 1 = _; rw [ih]; omega
  rw [e1] at e
  omega
theorem sg_self {l : List Int} (h : OkBs l) (i : Nat) : sg l i * sg l i = 1 := by
  unfold sg
  rcases bt_ok h i with a | a <;> rw [a] <;> decide
theorem sp_zero {l : List Int} (h : OkBs l) : sp l 0 = (l.length : Int) := by
  unfold sp
  rw [sm_zero fun i hi => ?_, Int.sub_zero]
  unfold dx
  rw [Nat.add_zero, Nat.mod_eq_of_lt hi]
  omega
theorem sp_back {l : List Int} (h : OkBs l) {k : Nat} (hk : k ≤ l.length) : sp l (l.length - k) = sp l k := by
  rw [sp_sg h, sp_sg h, ← sm_rot (fun i => sg l i * sg l ((i + (l.length - k)) % l.length)) l.length k]
  refine sm_congr fun i hi => ?_
  show sg l ((i + k) % l.length) * sg l (((i + k) % l.length + (l.length - k)) % l.length) = _
  rw [Nat.mod_add_mod, show i + k + (l.length - k) = i + l.length by omega, Nat.add_mod_right, Nat.mod_eq_of_lt hi, Int.mul_comm]
theorem sp_range (l : List Int) (k : Nat) : sp l k ≤ (l.length : Int) ∧ -(l.length : Int) ≤ sp l k := by
  have := smdx_le l k l.length
  unfold sp
  omega
theorem sp_even (l : List Int) (k : Nat) : ((l.length : Int) - sp l k) % 2 = 0 := by
  have h : ∀ n : Nat, sm n (dx l k) % 2 = 0 := fun n => by
    induction n with
    | zero => rfl
    | succ n ih => show (sm n (dx l k) + dx l k n) % 2 = 0; unfold dx at ih ⊢; omega
  have := h l.length
  unfold sp
  omega
theorem sp_all {l : List Int} (h : OkBs l) : sm l.length (sp l) = sm l.length (sg l) * sm l.length (sg l) := by
  have e1 : sm l.length (sp l) = sm l.length fun k => sm l.length fun i => sg l i * sg l ((i + k) % l.length) := sm_congr fun k _ => sp_sg h k
  rw [e1, sm_swap]
  have e2 : (sm l.length fun i => sm l.length fun k => sg l i * sg l ((i + k) % l.length)) = sm l.length fun i => sg l i * sm l.length (sg l) := sm_congr fun i _ => by
    rw [sm_mul]
    congr 1
    have := sm_rot (sg l) l.length i
    rw [← this]
    exact sm_congr fun k _ => by rw [Nat.add_comm]
  rw [e2, sm_mul']
theorem sg_range (l : List Int) (h : OkBs l) : ∀ n : Nat, -(n : Int) ≤ sm n (sg l) ∧ sm n (sg l) ≤ (n : Int)
  | 0 => by show -((0 : Nat) : Int) ≤ 0 ∧ (0 : Int) ≤ ((0 : Nat) : Int); omega
  | n + 1 => by
    have h1 := sg_range l h n
    have h2 := bt_ok h n
    show -((n + 1 : Nat) : Int) ≤ sm n (sg l) + sg l n ∧ sm n (sg l) + sg l n ≤ ((n + 1 : Nat) : Int)
    unfold sg at h1 ⊢
    omega
theorem sps_range (l : List Int) : ∀ n : Nat, -((n : Int) * (l.length : Int)) ≤ sm n (sp l) ∧ sm n (sp l) ≤ (n : Int) * (l.length : Int)
  | 0 => by rw [show ((0 : Nat) : Int) * (l.length : Int) = 0 by omega]; exact ⟨by show -(0 : Int) ≤ 0; decide, by show (0 : Int) ≤ 0; decide⟩
  | n + 1 => by
    have h1 := sps_range l n
    have h2 := sp_range l n
    have e : ((n + 1 : Nat) : Int) * (l.length : Int) = (n : Int) * (l.length : Int) + (l.length : Int) := by rw [Int.natCast_add, Int.add_mul]; simp
    rw [e]
    show -((n : Int) * (l.length : Int) + (l.length : Int)) ≤ sm n (sp l) + sp l n ∧ sm n (sp l) + sp l n ≤ _
    omega
/-! ### lists that are turned, read from their end, changed -/
def turnB (l : List Int) (t i : Nat) : List Int := (List.range i).map fun j => bt l ((j + t) % l.length)
def revB (l : List Int) (i : Nat) : List Int := (List.range i).map fun j => bt l (l.length - 1 - j)
def negB (l : List Int) (i : Nat) : List Int := (List.range i).map fun j => 1 - bt l j
theorem turnB_len (l : List Int) (t i : Nat) : (turnB l t i).length = i := by unfold turnB; simp
theorem revB_len (l : List Int) (i : Nat) : (revB l i).length = i := by unfold revB; simp
theorem negB_len (l : List Int) (i : Nat) : (negB l i).length = i := by unfold negB; simp
theorem turnB_succ (l : List Int) (t i : Nat) : turnB l t (i + 1) = turnB l t i ++ [bt l ((i + t) % l.length)] := by unfold turnB; rw [List.range_succ, List.map_append]; rfl
theorem revB_succ (l : List Int) (i : Nat) : revB l (i + 1) = revB l i ++ [bt l (l.length - 1 - i)] := by unfold revB; rw [List.range_succ, List.map_append]; rfl
theorem negB_succ (l : List Int) (i : Nat) : negB l (i + 1) = negB l i ++ [1 - bt l i] := by unfold negB; rw [List.range_succ, List.map_append]; rfl
theorem turnB_ok {l : List Int} (h : OkBs l) (t i : Nat) : OkBs (turnB l t i) := fun x hx => by
  unfold turnB at hx
  obtain ⟨j, _, rfl⟩ := List.mem_map.1 hx
  exact bt_ok h _
theorem revB_ok {l : List Int} (h : OkBs l) (i : Nat) : OkBs (revB l i) := fun x hx => by
  unfold revB at hx
  obtain ⟨j, _, rfl⟩ := List.mem_map.1 hx
  exact bt_ok h _
theorem negB_ok {l : List Int} (h : OkBs l) (i : Nat) : OkBs (negB l i) := fun x hx => by
  unfold negB at hx
  obtain ⟨j, _, rfl⟩ := List.mem_map.1 hx
  have := bt_ok h j
  show _ = 0 ∨ _ = 1
  omega
theorem sg_turn {l : List Int} {t i : Nat} (h : i < l.length) : sg (turnB l t l.length) i = sg l ((i + t) % l.length) := by
  unfold sg; rw [show bt (turnB l t l.length) i = bt l ((i + t) % l.length) from mapR_get 0 h]
theorem sg_rev {l : List Int} {i : Nat} (h : i < l.length) : sg (revB l l.length) i = sg l (l.length - 1 - i) := by
  unfold sg; rw [show bt (revB l l.length) i = bt l (l.length - 1 - i) from mapR_get 0 h]
theorem sg_neg {l : List Int} {i : Nat} (h : i < l.length) : sg (negB l l.length) i = -sg l i := by
  unfold sg; rw [show bt (negB l l.length) i = 1 - bt l i from mapR_get 0 h]; omega
theorem sp_turn {l : List Int} (h : OkBs l) (t k : Nat) : sp (turnB l t l.length) k = sp l k := by
  rw [sp_sg h, sp_sg (turnB_ok h t _), turnB_len, ← sm_rot (fun i => sg l i * sg l ((i + k) % l.length)) l.length t]
  refine sm_congr fun i hi => ?_
  have h0 : 0 < l.length := by omega
  rw [sg_turn hi, sg_turn (Nat.mod_lt _ h0)]
  show _ = sg l ((i + t) % l.length) * sg l (((i + t) % l.length + k) % l.length)
  rw [Nat.mod_add_mod, Nat.mod_add_mod, show i + k + t = i + t + k by omega]
theorem rev_ix {n i k : Nat} (hi : i < n) (hk : k < n) : n - 1 - ((n - 1 - i + k) % n) = (i + (n - k)) % n := by
  rcases Nat.lt_or_ge (n - 1 - i + k) n with g | g
  · rw [Nat.mod_eq_of_lt g]
    rw [show i + (n - k) = (i - k) + n by omega, Nat.add_mod_right, Nat.mod_eq_of_lt (by omega)]
    omega
  · rw [Nat.mod_eq_sub_mod g, Nat.mod_eq_of_lt (by omega), Nat.mod_eq_of_lt (by omega)]
    omega
theorem sp_rev {l : List Int} (h : OkBs l) {k : Nat} (hk : k < l.length) : sp (revB l l.length) k = sp l k := by
  rw [← sp_back h (Nat.le_of_lt hk), sp_sg h, sp_sg (revB_ok h _), revB_len, sm_rev]
  refine sm_congr fun i hi => ?_
  show sg (revB l l.length) (l.length - 1 - i) * sg (revB l l.length) ((l.length - 1 - i + k) % l.length) = _
  rw [sg_rev (by omega), sg_rev (Nat.mod_lt _ (by omega)), rev_ix hi hk, show l.length - 1 - (l.length - 1 - i) = i by omega]
theorem sp_neg {l : List Int} (h : OkBs l) (k : Nat) : sp (negB l l.length) k = sp l k := by
  rw [sp_sg h, sp_sg (negB_ok h _), negB_len]
  refine sm_congr fun i hi => ?_
  rw [sg_neg hi, sg_neg (Nat.mod_lt _ (by omega)), Int.neg_mul_neg]
theorem spec_same {l x : List Int} (h : chkB l = 0) (h0 : 0 < l.length) (hl : x.length = l.length) (hx : OkBs x) (e : ∀ k, k < l.length → sp x k = sp l k) : chkB x = 0 ∧ specE x = 0 ∧ specR x = specR l := by
  have h1 := chkB0.1 h
  have hc : chkB x = 0 := chkB0.2 ⟨by omega, hx⟩
  have e1 : specE x = 0 := specE_0 (by omega) (by omega)
  have e2 : specE l = 0 := specE_0 (by omega) (by omega)
  refine ⟨hc, e1, ?_⟩
  unfold specR
  rw [if_pos e1, if_pos e2, hl]
  exact List.map_congr_left fun k hk => e k (List.mem_range.1 hk)
theorem specR_get {l : List Int} (h : chkB l = 0) {k : Nat} (hk : k < l.length) : (specR l).length = l.length ∧ sp l k = (specR l).getD k 0 := by
  unfold specR
  rw [if_pos (specE_0 (by omega) (by omega)), specL_len]
  exact ⟨rfl, (mapR_get 0 hk).symm⟩
theorem sq_le {a b : Int} (h1 : -b ≤ a) (h2 : a ≤ b) : 0 ≤ a * a ∧ a * a ≤ b * b := by
  have h3 : 0 ≤ (b - a) * (b + a) := Int.mul_nonneg (by omega) (by omega)
  have h4 : (b - a) * (b + a) = b * b - a * a := by grind
  have h5 : 0 ≤ a * a := by
    rcases Int.le_total 0 a with g | g
    · exact Int.mul_nonneg g g
    · have := Int.mul_nonneg (show 0 ≤ -a by omega) (show 0 ≤ -a by omega)
      rwa [Int.neg_mul_neg] at this
  omega
end Go.Proofs.Ytingkbglkaojdaa
namespace Go.Proofs.Ytingkbglkaojdaa
open Go Go.TH Go.TH.Wv
set_option maxRecDepth 10000
set_option maxHeartbeats 1000000
/-- there are full registers: their states, one after another -/
def goP (taps start : List Int) : Nat → List Int → Bool
  | 0, cur => decide (cur = start)
  | k + 1, cur => decide (cur ≠ start) && goP taps start k (stepW taps cur)
theorem goP_per {taps start : List Int} (hl : start.length = taps.length) (h0 : 0 < taps.length) : ∀ (k m : Nat), goP taps start k (winL taps start (m + 1)) = true → (∀ j, 0 < j → j < m + 1 → winL taps start j ≠ start) → IsPer taps start (m + 1 + k)
  | 0, m, h, hb => by
    unfold goP at h
    exact ⟨by omega, of_decide_eq_true h, hb⟩
  | k + 1, m, h, hb => by
    unfold goP at h
    rw [Bool.and_eq_true] at h
    have e := of_decide_eq_true h.1
    have := goP_per hl h0 k (m + 1) (by rw [win_step (by omega) hl]; exact h.2) fun j h1 h2 => by
      rcases Nat.lt_or_ge j (m + 1) with g | g
      · exact hb j h1 g
      · obtain rfl : j = m + 1 := by omega
        exact e
    rwa [show m + 1 + 1 + k = m + 1 + (k + 1) by omega] at this
theorem full_in {L n : Nat} (h : 0 < L) (hlast : n % 2 = 1) (hn : n < 2 ^ L) (hg : goP (tapsF L n) (oneL L) (2 ^ L - 2) (stepW (tapsF L n) (oneL L)) = true) (h2 : 2 ≤ 2 ^ L) : fullL L ≠ [] := by
  have hl : (oneL L).length = (tapsF L n).length := by rw [oneL_len, tapsF_len]
  have hp := goP_per hl (by rw [tapsF_len]; exact h) (2 ^ L - 2) 0 (by rw [win_step (by rw [oneL_len]; exact h) hl]; exact hg) (fun j h1 h2 => by omega)
  have hb : fullB L n = true := (fullB_per h hlast).2 (by rw [per_eq hp]; omega)
  intro e
  have : tapsF L n ∈ fullL L := List.mem_map.2 ⟨n, List.mem_filter.2 ⟨List.mem_range.2 hn, hb⟩, rfl⟩
  rw [e] at this; cases this
theorem full_some {L : Nat} (h1 : 1 ≤ L) (h7 : L ≤ 7) : fullL L ≠ [] := by
  rcases (show L = 1 ∨ L = 2 ∨ L = 3 ∨ L = 4 ∨ L = 5 ∨ L = 6 ∨ L = 7 by omega) with rfl | rfl | rfl | rfl | rfl | rfl | rfl
  · exact full_in (n := 1) (by omega) rfl (by decide) (by decide +kernel) (by decide)
  · exact full_in (n := 3) (by omega) rfl (by decide) (by decide +kernel) (by decide)
  · exact full_in (n := 3) (by omega) rfl (by decide) (by decide +kernel) (by decide)
  · exact full_in (n := 3) (by omega) rfl (by decide) (by decide +kernel) (by decide)
  · exact full_in (n := 5) (by omega) rfl (by decide) (by decide +kernel) (by decide)
  · exact full_in (n := 3) (by omega) rfl (by decide) (by decide +kernel) (by decide)
  · exact full_in (n := 3) (by omega) rfl (by decide) (by decide +kernel) (by decide)
/-- a full register, from any start that has a 1 -/
structure IsFullR (taps : List Int) (L : Nat) : Prop where
  ok : OkBs taps
  len : taps.length = L
  pos : 0 < L
  last : bt taps (L - 1) = 1
  per : ∀ start, OkBs start → start.length = L → HasOne start → IsPer taps start (2 ^ L - 1)
theorem full_is {L : Nat} (h : 0 < L) {taps : List Int} (ht : taps ∈ fullL L) : IsFullR taps L := by
  obtain ⟨n, hn, rfl⟩ := List.mem_map.1 ht
  have hb := (List.mem_filter.1 hn).2
  have hb2 := hb
  unfold fullB at hb2
  rw [decide_eq_true_eq] at hb2
  have hl1 : (oneL L).length = (tapsF L n).length := by rw [oneL_len, tapsF_len]
  have hlast : bt (tapsF L n) (L - 1) = 1 := by rw [tapsF_last h]; omega
  obtain ⟨q, _, hq⟩ := per_ex (oneL_ok L) hl1 (.inr (by rw [tapsF_len]; exact hlast))
  have hq2 : q = 2 ^ L - 1 := by
    have := (fullB_per h hb2.1).1 hb
    rw [per_eq hq] at this
    exact this
  refine ⟨tapsF_ok L n, tapsF_len L n, h, hlast, fun start hs hl ho => ?_⟩
  have hlt := sN_lt hs
  rw [hl] at hlt
  have hne : sN start ≠ 0 := fun e => (sN_zero hs).1 e ho
  obtain ⟨k, _, hk⟩ := left_nil.1 hb2.2 (sN start) (by omega) (by omega)
  have hw : winL (tapsF L n) (oneL L) k = start := sN_inj (win_ok (oneL_ok L) k) hs (by rw [win_len, oneL_len, hl]) hk
  rw [← hw, ← hq2]
  exact per_win (oneL_ok L) hl1 (.inr (by rw [tapsF_len]; exact hlast)) hq k
/-! ### how many bits are 1 -/
def lsum (l : List Nat) (g : Nat → Int) : Int := l.foldr (fun v s => g v + s) 0
theorem lsum_erase (g : Nat → Int) : ∀ (l : List Nat) (a : Nat), a ∈ l → lsum l g = g a + lsum (l.erase a) g
  | [], a, h => by cases h
  | b :: r, a, h => by
    by_cases e : b = a
    · subst e; rw [List.erase_cons_head]; rfl
    · have h2 : a ∈ r := by
        rcases List.mem_cons.1 h with q | q
        · exact absurd q.symm e
        · exact q
      rw [List.erase_cons_tail (by simpa using e)]
      show g b + lsum r g = g a + (g b + lsum (r.erase a) g)
      rw [lsum_erase g r a h2]
      omega
theorem left_sum {taps start : List Int} {M : Nat} (g : Nat → Int) (hin : ∀ k, k < M → 1 ≤ sN (winL taps start k) ∧ sN (winL taps start k) ≤ M) (hd : ∀ i j, i < j → j < M → sN (winL taps start i) ≠ sN (winL taps start j)) : ∀ m, m ≤ M → lsum (leftL taps start M 0) g = sm m (fun k => g (sN (winL taps start k))) + lsum (leftL taps start M m) g ∧ (leftL taps start M m).length = M - m
  | 0, _ => ⟨(Int.zero_add _).symm, by unfold leftL; simp⟩
  | m + 1, h => by
    obtain ⟨h1, h2⟩ := left_sum g hin hd m (by omega)
    have hm : sN (winL taps start m) ∈ leftL taps start M m := (left_mem m _).2 ⟨hin m (by omega), fun k hk => (hd k m hk (by omega)).symm⟩
    have h3 := lsum_erase g _ _ hm
    refine ⟨?_, ?_⟩
    · rw [h1]
      show sm m _ + lsum (leftL taps start M m) g = (sm m _ + g (sN (winL taps start m))) + lsum ((leftL taps start M m).erase (sN (winL taps start m))) g
      rw [h3]; omega
    · show ((leftL taps start M m).erase _).length = _
      rw [List.length_erase_of_mem hm, h2]; omega
theorem lsum_range (g : Nat → Int) : ∀ M, lsum ((List.range M).map (· + 1)) g = sm M fun k => g (k + 1) := fun M => by
  have happ : ∀ (a b : List Nat), lsum (a ++ b) g = lsum a g + lsum b g := fun a b => by
    induction a with
    | nil => exact (Int.zero_add _).symm
    | cons x r ih => show g x + lsum (r ++ b) g = (g x + lsum r g) + lsum b g; rw [ih]; omega
  induction M with
  | zero => rfl
  | succ M ih =>
    rw [List.range_succ, List.map_append, happ, ih]
    show _ + (g (M + 1) + 0) = _ + g (M + 1)
    omega
theorem odd_count : ∀ L, 0 < L → (sm (2 ^ L - 1) fun k => (((k + 1) % 2 : Nat) : Int)) = ((2 ^ (L - 1) : Nat) : Int) := fun L hL => by
  have h : ∀ m : Nat, (sm m fun k => (((k + 1) % 2 : Nat) : Int)) = (((m + 1) / 2 : Nat) : Int) := fun m => by
    induction m with
    | zero => rfl
    | succ m ih =>
      show (sm m fun k => (((k + 1) % 2 : Nat) : Int)) + (((m + 1) % 2 : Nat) : Int) = _
      rw [ih]; omega
  rw [h]
  obtain ⟨k, rfl⟩ : ∃ k, L = k + 1 := ⟨L - 1, by omega⟩
  have : 1 ≤ 2 ^ (k + 1) := Nat.one_le_two_pow
  rw [Nat.pow_succ] at this ⊢
  rw [show k + 1 - 1 = k by omega]
  omega
theorem sN_odd {l : List Int} (h : OkBs l) : ((sN l % 2 : Nat) : Int) = bt l 0 := by
  have := cf_sN h 0
  rw [← this]
  unfold cf
  have := Nat.mod_two_eq_zero_or_one (sN l)
  rcases this with g | g <;> simp [Nat.testBit_zero, g]
theorem full_ones {taps start : List Int} {L : Nat} (h : IsFullR taps L) (hs : OkBs start) (hl : start.length = L) (ho : HasOne start) : sm (2 ^ L - 1) (rb taps start) = ((2 ^ (L - 1) : Nat) : Int) := by
  have hlt : start.length = taps.length := by rw [hl, h.len]
  have h0 : 0 < taps.length := by rw [h.len]; exact h.pos
  have hlast : bt taps (taps.length - 1) = 1 := by rw [h.len]; exact h.last
  have hp := h.per start hs hl ho
  obtain ⟨e1, e2⟩ := left_sum (taps := taps) (start := start) (M := 2 ^ L - 1) (fun v => ((v % 2 : Nat) : Int)) (fun k _ => by
      have q1 : sN (winL taps start k) ≠ 0 := fun e => (sN_zero (win_ok hs k)).1 e (win_has hs hlt h0 hlast ho k)
      have q2 := sN_lt (win_ok (taps := taps) hs k)
      rw [win_len, hl] at q2
      omega) (fun i j hij hj => win_dist hs hlt h0 hlast hp hij hj) (2 ^ L - 1) (Nat.le_refl _)
  rw [Nat.sub_self] at e2
  rw [List.eq_nil_of_length_eq_zero e2] at e1
  have e3 : sm (2 ^ L - 1) (rb taps start) = sm (2 ^ L - 1) fun k => ((sN (winL taps start k) % 2 : Nat) : Int) := sm_congr fun k _ => by
    rw [sN_odd (win_ok hs k), ← rb_bt (by omega)]
    rfl
  have e4 : lsum (leftL taps start (2 ^ L - 1) 0) (fun v => ((v % 2 : Nat) : Int)) = _ := lsum_range _ _
  rw [e3, ← odd_count L h.pos, ← e4, e1]
  exact (Int.add_zero _).symm
/-! ### two places of a full register's bits -/
theorem rb_shift {taps start : List Int} (hl : start.length = taps.length) (h0 : 0 < start.length) (k i : Nat) : rb taps (winL taps start k) i = rb taps start (k + i) := by
  rw [← rb_win (by rw [win_len]; exact h0), win_win hl, rb_win h0]
theorem rb_sum {taps a b : List Int} (ha : OkBs a) (hb : OkBs b) (hla : a.length = taps.length) (hlb : b.length = taps.length) (i : Nat) : rb taps (sumL a b taps.length) i = (rb taps a i + rb taps b i) % 2 := by
  induction i using Nat.strongRecOn with
  | ind i ih =>
    rcases Nat.lt_or_ge i taps.length with g | g
    · rw [rb_start (by rw [sumL_len]; exact g), rb_start (by omega), rb_start (by omega)]
      exact mapR_get 0 g
    · rw [rb_next (by rw [sumL_len]) g, rb_next hla g, rb_next hlb g]
      have e : pre (bt taps) taps.length (rb taps (sumL a b taps.length)) i = sm taps.length fun j => bt taps j * ((rb taps a (i - 1 - j) + rb taps b (i - 1 - j)) % 2) := sm_congr fun j hj => by rw [ih (i - 1 - j) (by omega)]
      have e2 : Eq2 (sm taps.length fun j => bt taps j * ((rb taps a (i - 1 - j) + rb taps b (i - 1 - j)) % 2)) (pre (bt taps) taps.length (rb taps a) i + pre (bt taps) taps.length (rb taps b) i) := by
        unfold pre
        rw [← sm_add]
        exact sm_eq2 fun j _ => by
          rw [← Int.mul_add]
          exact (Eq2.mod _).mul _
      rw [e]
      unfold Eq2 at e2
      omega
theorem sum_ok (a b : List Int) (n : Nat) : OkBs (sumL a b n) := fun x hx => by
  unfold sumL at hx
  obtain ⟨i, _, rfl⟩ := List.mem_map.1 hx
  show _ = 0 ∨ _ = 1
  omega
theorem sum_has {a b : List Int} (ha : OkBs a) (hb : OkBs b) (hl : a.length = b.length) (hne : a ≠ b) : HasOne (sumL a b a.length) := by
  refine Classical.byContradiction fun g => hne (ext_getD 0 hl fun i hi => ?_)
  have h1 : bt (sumL a b a.length) i = (bt a i + bt b i) % 2 := mapR_get 0 hi
  have h2 := bt_zero (sum_ok a b _) g i
  rw [h1] at h2
  have h3 := bt_ok ha i
  have h4 := bt_ok hb i
  show bt a i = bt b i
  omega
theorem full_flat {taps start : List Int} {L k : Nat} (h : IsFullR taps L) (hs : OkBs start) (hl : start.length = L) (ho : HasOne start) (h1 : 0 < k) (h2 : k < 2 ^ L - 1) : sp (runL taps start (2 ^ L - 1)) k = -1 := by
  have hlt : start.length = taps.length := by rw [hl, h.len]
  have h0 : 0 < taps.length := by rw [h.len]; exact h.pos
  have hp := h.per start hs hl ho
  have hw := win_ok (taps := taps) hs k
  have hwl := win_len taps start k
  have hne : start ≠ winL taps start k := fun e => hp.2.2 k h1 h2 e.symm
  have hho := sum_has hs hw (by rw [hwl]) hne
  have hon := full_ones h (sum_ok start (winL taps start k) start.length) (by rw [sumL_len]; exact hl) hho
  unfold sp
  rw [runL_len]
  have e : sm (2 ^ L - 1) (dx (runL taps start (2 ^ L - 1)) k) = 2 * sm (2 ^ L - 1) (rb taps (sumL start (winL taps start k) start.length)) := by
    rw [← sm_mul]
    refine sm_congr fun i hi => ?_
    unfold dx
    rw [runL_len, run_bt hi, run_bt (Nat.mod_lt _ (by omega)), hlt, rb_sum hs hw hlt (by rw [hwl]; exact hlt), rb_shift hlt (by omega)]
    have e2 : rb taps start ((i + k) % (2 ^ L - 1)) = rb taps start (k + i) := by
      rcases Nat.lt_or_ge (i + k) (2 ^ L - 1) with q | q
      · rw [Nat.mod_eq_of_lt q, Nat.add_comm]
      · rw [Nat.mod_eq_sub_mod q, Nat.mod_eq_of_lt (by omega)]
        have := rb_per hlt hp (i + k - (2 ^ L - 1))
        rw [← this, show i + k - (2 ^ L - 1) + (2 ^ L - 1) = k + i by omega]
    rw [e2]
  rw [e, hon]
  obtain ⟨q, rfl⟩ : ∃ q, L = q + 1 := ⟨L - 1, by have := h.pos; omega⟩
  rw [show q + 1 - 1 = q by omega]
  have e3 : 2 ^ (q + 1) = 2 * 2 ^ q := by rw [Nat.pow_succ, Nat.mul_comm]
  have e4 : 1 ≤ 2 ^ q := Nat.one_le_two_pow
  omega
end Go.Proofs.Ytingkbglkaojdaa
namespace Go.Proofs.Ytingkbglkaojdaa
open Go Go.TH Go.TH.Wv
attribute [local irreducible] W WO pt
set_option maxRecDepth 10000
set_option maxHeartbeats 2000000
/-- the bits of a number, the lowest one first -/
def startF (f j : Nat) : List Int := (List.range j).map fun j => ((f >>> j % 2 : Nat) : Int)
theorem startF_len (f j : Nat) : (startF f j).length = j := by unfold startF; simp
theorem startF_succ (f j : Nat) : startF f (j + 1) = startF f j ++ [((f >>> j % 2 : Nat) : Int)] := by unfold startF; rw [List.range_succ, List.map_append]; rfl
theorem startF_ok (f j : Nat) : OkBs (startF f j) := fun x hx => by
  unfold startF at hx
  obtain ⟨j, _, rfl⟩ := List.mem_map.1 hx
  show _ = 0 ∨ _ = 1
  omega
theorem startF_has {f L : Nat} (h1 : 0 < f) (h2 : f < 2 ^ L) : HasOne (startF f L) := by
  refine Classical.byContradiction fun g => ?_
  have hz : f = 0 := cfb fun i => by
    rw [Nat.zero_testBit]
    rcases Nat.lt_or_ge i L with q | q
    · have h3 := bt_zero (startF_ok f L) g i
      have h4 : bt (startF f L) i = ((f >>> i % 2 : Nat) : Int) := mapR_get 0 q
      rw [h4] at h3
      rw [Nat.testBit_eq_decide_div_mod_eq, ← Nat.shiftRight_eq_div_pow]
      rw [decide_eq_false_iff_not]; omega
    · exact Nat.testBit_lt_two_pow (Nat.lt_of_lt_of_le h2 (Nat.pow_le_pow_right (by decide) q))
  omega
theorem cellV2 {C : Cx Try.prog} {H : List HP} {e n i j : Nat} {v : Value} {cs : List Value} (s : Sub H [OwC e 1 v n cs]) (hl : i < cs.length) (hj : j = i) : Cell C H (elt v j 1) (cs.getD i undef) := by
  subst hj
  exact OwC.cell1s s hl
theorem law_WaveFlat (w : World) (a wh bg : Nat) (ha : a ≤ 255) (hw : wh ≤ 255) (hb : bg ≤ 255) : Ret Try.prog 7 [.int .u8 (a : Int), .int .u8 (wh : Int), .int .u8 (bg : Int)].toArray w (.bool true) := by
  refine Ret.of mixed tyTab Try.func7 rfl rfl ?_
  obtain ⟨n, hn⟩ : ∃ n, n = 1 + a % 7 := ⟨_, rfl⟩
  have hnz : 1 + (a : Int).tmod 7 = (n : Int) := by rw [Int.tmod_eq_emod_of_nonneg (by omega)]; omega
  have hn1 : 1 ≤ n := by omega
  have hn7 : n ≤ 7 := by omega
  have hfe := fullE_0 hn1 (show n ≤ 8 by omega)
  have hfr := fullR_ok hn1 (show n ≤ 8 by omega)
  have hpos : 0 < (fullL n).length := List.length_pos_iff.2 (full_some hn1 hn7)
  have hlen := fullU_len n (2 ^ n)
  have hsl := shl_one n
  have hpw := pow_le (show n ≤ 8 by omega)
  have hp7 : 2 ^ n ≤ 128 := Nat.le_trans (Nat.pow_le_pow_right (by decide) hn7) (by decide)
  have hp2 : 2 ≤ 2 ^ n := by have := Nat.pow_le_pow_right (show 0 < 2 by decide) hn1; simpa using this
  obtain ⟨P, hP⟩ : ∃ P, P = 2 ^ n - 1 := ⟨_, rfl⟩
  obtain ⟨i, hi⟩ : ∃ i, i = wh % (fullL n).length := ⟨_, rfl⟩
  have hil : i < (fullL n).length := by rw [hi]; exact Nat.mod_lt _ hpos
  have hiz : (wh : Int).tmod ((fullL n).length : Int) = (i : Int) := by rw [hi, Int.tmod_eq_emod_of_nonneg (by omega)]; simp
  obtain ⟨f, hf⟩ : ∃ f, f = 1 + bg % P := ⟨_, rfl⟩
  have hfl : bg % P < P := Nat.mod_lt _ (by omega)
  have hfz : (1 : Int) + (bg : Int).tmod (((1 <<< n : Nat) : Int) - 1) = (f : Int) := by
    rw [show ((1 <<< n : Nat) : Int) - 1 = (P : Int) by rw [hsl]; omega, hf, Int.tmod_eq_emod_of_nonneg (by omega)]
    simp
  obtain ⟨taps, htaps⟩ : ∃ taps, taps = (fullL n).getD i [] := ⟨_, rfl⟩
  have hfull : IsFullR taps n := full_is (by omega) (by rw [htaps]; exact getD_mem hil [])
  have hho : HasOne (startF f n) := startF_has (by omega) (by omega)
  have hper : IsPer taps (startF f n) P := by rw [hP]; exact hfull.per _ (startF_ok f n) (startF_len f n) hho
  have hok : chkS taps (startF f n) = 0 := chkS0.2 ⟨⟨chkB0.2 ⟨by rw [hfull.len]; omega, hfull.ok⟩, chkB0.2 ⟨by rw [startF_len]; omega, startF_ok f n⟩⟩, by rw [startF_len, hfull.len]⟩
  have hpe : perE taps (startF f n) = 0 := perE_last hok (by rw [hfull.len]; omega) (.inr (by rw [hfull.len]; exact hfull.last))
  have hck := run_chk (taps := taps) (startF_ok f n) (show P ≤ 128 by omega)
  have hsE : specE (runL taps (startF f n) P) = 0 := specE_0 (by omega) (by rw [runL_len]; omega)
  have hz0 := sp_zero (run_ok (taps := taps) (startF_ok f n) P)
  have hones := full_ones hfull (startF_ok f n) (startF_len f n) hho
  rw [runL_len] at hz0
  rw [← hP] at hones
  have hsl1 := shl_one (n - 1)
  have hfit : ∀ s, s ≤ 8 → Fits .i64 (1 <<< s) := fun s hs => fitsP hs
  refine W.sreg ?_
  refine WO.p rfl rfl ?_
  refine WO.nil ?_
  refine W.sreg ?_
  refine WO.p rfl rfl (WO.conv64 rfl rfl rfl (by (first | (unfold in64; omega) | (unfold in64; omega))) rfl (WO.rem rfl rfl (by first | omega | assumption) rfl (WO.ar rfl rfl rfl (by (first | (unfold in64; omega) | (unfold in64; omega))) rfl (WO.p rfl rfl ?_))))
  refine WO.nil ?_
  rw [hnz]
  refine W.sreg ?_
  refine WO.p rfl rfl ?_
  refine WO.call (Post := fun r Hq => ∃ Z : Value × List Value, r = .tuple #[Z.1, .int .i64 0] ∧ Hq = [OwC 22 1 Z.1 (fullL n).length Z.2, RowsE encI 3 1 Z.2 (fullL n)]) rfl Try.call23 (fun L w hi => by have h := c_Full w (n : Int); rw [hfe, hfr] at h; exact h) rfl ?_
  rintro _ _ ⟨⟨f1, g1⟩, rfl, rfl⟩
  refine WO.p rfl rfl (WO.p rfl rfl (WO.p rfl rfl (WO.p rfl rfl (WO.p rfl rfl ?_))))
  refine WO.nil ?_
  refine W.sreg ?_
  refine WO.p rfl rfl ?_
  refine WO.call (Post := fun r Hq => ∃ Z : Value × List Value, r = .tuple #[Z.1, .int .i64 0] ∧ Hq = [OwC 22 1 Z.1 (fullL n).length Z.2, RowsE encI 3 1 Z.2 (fullL n)]) rfl Try.call24 (fun L w hi => by have h := ref_Full w (n : Int); rw [hfe, hfr] at h; exact h) rfl ?_
  rintro _ _ ⟨⟨f2, g2⟩, rfl, rfl⟩
  refine WO.p rfl rfl (WO.p rfl rfl (WO.p rfl rfl (WO.p rfl rfl (WO.p rfl rfl ?_))))
  refine WO.nil ?_
  refine W.seq ?_
  refine W.fact (OwC.sl (e := 22) (sz := 1) (n := (fullL n).length) (v := f1) (cs := g1) (by repeat (first | exact Pick.head | apply Pick.tail))) ?_
  intro hsf
  refine W.fact (RowsE.rowsLen (enc := encI) (e := 3) (sz := 1) (rv := g1) (xss := fullL n) (by repeat (first | exact Pick.head | apply Pick.tail))) ?_
  intro hg1
  refine W.sreg ?_
  refine WO.p rfl rfl (WO.p rfl rfl (WO.p rfl rfl ?_))
  refine WO.guard_bl rfl rfl (fun c1 => ?_) (fun c1 => ?_)
  · first
    | (exfalso; omega)
    | (refine WO.no rfl rfl (WO.no rfl rfl (WO.no rfl rfl (WO.no rfl rfl (WO.p rfl rfl (WO.p rfl rfl (WO.no rfl rfl (WO.no rfl rfl (WO.no rfl rfl (WO.p rfl rfl ?_)))))))))
       refine WO.nil ?_
       refine W.cond_t rfl ?_
       refine W.sreg ?_
       refine WO.p rfl rfl ?_
       refine WO.nil ?_
       refine W.ret ?_
       first | exact fin.ret (Res.one rfl (RV.tmp rfl)) rfl | (exfalso; omega))
  · first
    | (exfalso; omega)
    | (refine WO.pg rfl rfl rfl (WO.pg rfl rfl rfl (WO.go' rfl ?_))
       refine WO.callR (r := .bool true) rfl Try.call27 (fun L w hi => same_t (l_same w f1 f2 g1 g2 (fullL n) (fullL n) (RdR.of_ow encI_ok (e' := 22) (n := (fullL n).length) (by repeat (first | exact Pick.head | apply Pick.tail)) (by repeat (first | exact Pick.head | apply Pick.tail)) hi) (RdR.of_ow encI_ok (e' := 22) (n := (fullL n).length) (by repeat (first | exact Pick.head | apply Pick.tail)) (by repeat (first | exact Pick.head | apply Pick.tail)) hi)) rfl) rfl ?_
       refine WO.pg rfl rfl rfl (WO.p rfl rfl (WO.p rfl rfl (WO.pg rfl rfl rfl (WO.go' rfl ?_))))
       refine' WO.len (n := _) rfl rfl ?hs rfl ?_
       case hs => (first | exact hsf)
       refine WO.pg rfl rfl rfl (WO.p rfl rfl ?_)
       refine WO.nil ?_
       refine W.cond_bl rfl (fun c2 => ?_) (fun c2 => ?_)
       · first
         | (exfalso; omega)
         | (refine W.sreg ?_
            refine WO.p rfl rfl ?_
            refine WO.nil ?_
            refine W.ret ?_
            first | exact fin.ret (Res.one rfl (RV.tmp rfl)) rfl | (exfalso; omega))
       · first
         | (exfalso; omega)
         | (refine W.skip ?_
            refine W.sreg ?_
            refine WO.p rfl rfl (WO.p rfl rfl (WO.conv64 rfl rfl rfl (by (first | (unfold in64; omega) | (unfold in64; omega))) rfl (WO.p rfl rfl ?_)))
            refine' WO.len (n := _) rfl rfl ?hs rfl ?_
            case hs => (first | exact hsf)
            refine WO.rem rfl rfl (by first | omega | assumption) rfl ?_
            refine' WO.indexAddrZ (n := _) rfl rfl rfl ?hs ?h00 ?h1 rfl ?_
            case hs => (first | exact hsf)
            case h00 => omega
            case h1 => (first | omega | (simp; omega))
            refine' WO.load (v := _) rfl rfl ?hc rfl ?_
            case hc => (first | (refine cellV2 (e := 22) (n := (fullL n).length) (cs := g1) (i := i) (j := ((wh : Int).tmod ((fullL n).length : Int)).toNat) ?_ (by omega) (by rw [hiz]; rfl); exact (by repeat (first | exact Sub.nil | refine Sub.cons (by repeat (first | exact Pick.head | apply Pick.tail)) ?_))))
            refine WO.p rfl rfl ?_
            refine WO.nil ?_
            refine W.sreg ?_
            refine WO.p rfl rfl (WO.conv64 rfl rfl rfl (by (first | (unfold in64; omega) | (unfold in64; omega))) rfl (WO.p rfl rfl ?_))
            refine WO.shlN (a := 1) (s := n) rfl rfl (show n ≤ 64 by omega) (hfit n (by omega)) rfl ?_
            refine WO.ar rfl rfl rfl (by (first | (unfold in64; omega) | (unfold in64; omega))) rfl (WO.rem rfl rfl (by first | omega | assumption) rfl (WO.ar rfl rfl rfl (by (first | (unfold in64; omega) | (unfold in64; omega))) rfl (WO.p rfl rfl ?_)))
            refine WO.nil ?_
            rw [hfz]
            refine W.sreg ?_
            refine WO.p rfl rfl ?_
            refine WO.nil ?_
            refine W.seq ?_
            refine W.sreg ?_
            refine WO.p rfl rfl ?_
            refine WO.nil ?_
            refine W.block ?_
            refine W.chg (owNil (enc := encI) (e := 3) (sz := 1)) ?_
            refine W.loop2 (fun (j : Nat) (sv : Value) => j ≤ n)
              (fun (j : Nat) (sv : Value) => [(15, .int .i64 (j : Int)), (14, sv), (13, .int .i64 (f : Int)), (12, g1.getD i undef), (7, .int .i64 (n : Int))])
              (fun (j : Nat) (sv : Value) => [OwC 22 1 f1 (fullL n).length g1, RowsE encI 3 1 g1 (fullL n), OwE encI 3 1 sv (startF f j)])
              (fun (j : Nat) (sv : Value) => n - j) 0 (.slice none 0 0)
              (by omega) ⟨rfl, rfl, rfl, rfl, rfl, trivial⟩ (by repeat (first | exact Sub.nil | refine Sub.cons (by repeat (first | exact Pick.head | apply Pick.tail)) ?_)) ?_
            rintro j sv hj0
            refine W.seq ?_
            refine W.sreg ?_
            refine WO.p rfl rfl (WO.p rfl rfl (WO.p rfl rfl ?_))
            refine WO.nil ?_
            refine W.cond_bl rfl (fun c3 => ?_) (fun c3 => ?_)
            · first
              | (exfalso; omega)
              | (refine W.skip ?_
                 refine W.seq ?_
                 refine W.block ?_
                 refine W.region ?_
                 refine WO.p rfl rfl (WO.p rfl rfl (WO.p rfl rfl ?_))
                 refine WO.shrN (a := f) (s := j) rfl rfl (show j ≤ 64 by omega) rfl ?_
                 refine WO.rem rfl rfl (by first | omega | assumption) rfl ?_
                 refine' WO.buildSl (cs := _) rfl rfl rfl rfl ?hf rfl rfl ?hl rfl (fun v1 => ?_)
                 case hf => (conv => lhs; simp [-List.getD_eq_getElem?_getD, fillL, vcl, wrl, TTab.pl?.lget']) <;> rfl
                 case hl => rfl
                 refine' WO.appendE (enc := encI) (m := 1) (xs := startF f j) (ys := [((f >>> j : Nat) : Int).tmod 2]) encI_ok rfl rfl rfl rfl rfl (by repeat (first | exact Pick.head | apply Pick.tail)) (isSl_lit (by omega) (fun _ => ⟨_, _, rfl⟩)) (by omega) rfl (OwC.cells (by repeat (first | exact Pick.head | apply Pick.tail))) (by rw [startF_len]; omega) (by rw [startF_len]; omega) rfl (fun g c => ?_)
                 rw [show ((f >>> j : Nat) : Int).tmod 2 = ((f >>> j % 2 : Nat) : Int) by rw [Int.tmod_eq_emod_of_nonneg (Int.natCast_nonneg _)]; rfl, ← startF_succ]
                 refine WO.p rfl rfl ?_
                 refine WO.nil ?_
                 refine W.region ?_
                 refine WO.p rfl rfl (WO.ar rfl rfl rfl (by (first | (unfold in64; omega) | (unfold in64; omega))) rfl (WO.p rfl rfl ?_))
                 refine WO.nil ?_
                 refine' ⟨j + 1, _, ?hp, ?hmu, ⟨rfl, rfl, rfl, rfl, rfl, trivial⟩, ?hS⟩
                 case hS => repeat (first | exact Sub.nil | refine Sub.cons (by repeat (first | exact Pick.head | apply Pick.tail)) ?_)
                 case hp => omega
                 case hmu => omega)
            · first
              | (exfalso; omega)
              | (refine W.exit (blk_same ?_)
                 obtain rfl : n = j := by omega
                 refine W.sreg ?_
                 refine WO.p rfl rfl (WO.p rfl rfl ?_)
                 refine WO.callR (r := .tuple #[.int .i64 (P : Int), .int .i64 0]) rfl Try.call21 (fun L w hi => by have hrow := (RdR.of_ow (enc := encI) (e := 3) (sz := 1) encI_ok (e' := 22) (v := f1) (rv := g1) (xss := fullL n) (n := (fullL n).length) (by repeat (first | exact Pick.head | apply Pick.tail)) (by repeat (first | exact Pick.head | apply Pick.tail)) hi).row i hil; rw [← htaps] at hrow; rw [perV_ok hpe hper]; exact c_Period w _ _ taps (startF f n) hrow (RdF.of_ow (e := 3) encI_ok (by repeat (first | exact Pick.head | apply Pick.tail)) hi)) rfl ?_
                 refine WO.p rfl rfl (WO.p rfl rfl (WO.p rfl rfl (WO.p rfl rfl (WO.p rfl rfl ?_))))
                 refine WO.nil ?_
                 refine W.sreg ?_
                 refine WO.p rfl rfl (WO.p rfl rfl (WO.p rfl rfl ?_))
                 refine WO.shlN (a := 1) (s := n) rfl rfl (show n ≤ 64 by omega) (hfit n (by omega)) rfl ?_
                 refine WO.ar rfl rfl rfl (by (first | (unfold in64; omega) | (unfold in64; omega))) rfl ?_
                 refine WO.call (Post := fun r Hq => ∃ y : Value, r = .tuple #[y, .int .i64 0] ∧ Hq = [OwE encI 3 1 y (runL taps (startF f n) P)]) rfl Try.call31 (fun L w hi => by have hrow := (RdR.of_ow (enc := encI) (e := 3) (sz := 1) encI_ok (e' := 22) (v := f1) (rv := g1) (xss := fullL n) (n := (fullL n).length) (by repeat (first | exact Pick.head | apply Pick.tail)) (by repeat (first | exact Pick.head | apply Pick.tail)) hi).row i hil; rw [← htaps] at hrow; have h := c_Run w _ sv taps (startF f n) (((1 <<< n : Nat) : Int) - 1) hrow (RdF.of_ow (e := 3) encI_ok (by repeat (first | exact Pick.head | apply Pick.tail)) hi); rw [runE_0.2 ⟨hok, by omega, by omega⟩, if_pos rfl, show (((1 <<< n : Nat) : Int) - 1).toNat = P by omega] at h; exact h) rfl ?_
                 rintro _ _ ⟨y1, rfl, rfl⟩
                 refine WO.p rfl rfl (WO.p rfl rfl (WO.p rfl rfl (WO.p rfl rfl (WO.p rfl rfl ?_))))
                 refine WO.nil ?_
                 refine W.seq ?_
                 refine W.fact (p := HasCap y1 (runL taps (startF f n) P).length ∧ IsSl y1 (runL taps (startF f n) P).length) (fun L w hi => ⟨HasCap.of_ow (enc := encI) (e := 3) (sz := 1) (by repeat (first | exact Pick.head | apply Pick.tail)) hi, OwE.sl (enc := encI) (e := 3) (sz := 1) (by repeat (first | exact Pick.head | apply Pick.tail)) L w hi⟩) ?_
                 rintro ⟨⟨ya, yc, rfl, hyc⟩, hs1⟩
                 rw [runL_len] at hyc hs1 ⊢
                 refine W.sreg ?_
                 refine WO.p rfl rfl (WO.p rfl rfl (WO.p rfl rfl ?_))
                 refine WO.guard_bl rfl rfl (fun c4 => ?_) (fun c4 => ?_)
                 · first
                   | (exfalso; omega)
                   | (refine WO.no rfl rfl (WO.no rfl rfl (WO.p rfl rfl (WO.p rfl rfl (WO.no rfl rfl (WO.no rfl rfl (WO.no rfl rfl (WO.no rfl rfl (WO.no rfl rfl (WO.p rfl rfl (WO.p rfl rfl (WO.no rfl rfl ?_)))))))))))
                      refine WO.no rfl rfl (WO.no rfl rfl (WO.no rfl rfl (WO.p rfl rfl ?_)))
                      refine WO.nil ?_
                      refine W.cond_t rfl ?_
                      refine W.sreg ?_
                      refine WO.p rfl rfl ?_
                      refine WO.nil ?_
                      refine W.ret ?_
                      first | exact fin.ret (Res.one rfl (RV.tmp rfl)) rfl | (exfalso; omega))
                 · first
                   | (exfalso; omega)
                   | (refine WO.pg rfl rfl rfl (WO.pg rfl rfl rfl (WO.p rfl rfl (WO.p rfl rfl ?_)))
                      refine WO.guard_bl rfl rfl (fun c5 => ?_) (fun c5 => ?_)
                      · first
                        | (exfalso; omega)
                        | (refine WO.no rfl rfl (WO.no rfl rfl (WO.no rfl rfl (WO.no rfl rfl (WO.no rfl rfl (WO.p rfl rfl (WO.p rfl rfl (WO.no rfl rfl (WO.no rfl rfl (WO.no rfl rfl (WO.no rfl rfl (WO.p rfl rfl ?_)))))))))))
                           refine WO.nil ?_
                           refine W.cond_t rfl ?_
                           refine W.sreg ?_
                           refine WO.p rfl rfl ?_
                           refine WO.nil ?_
                           refine W.ret ?_
                           first | exact fin.ret (Res.one rfl (RV.tmp rfl)) rfl | (exfalso; omega))
                      · first
                        | (exfalso; omega)
                        | (refine WO.pg rfl rfl rfl (WO.pg rfl rfl rfl (WO.go' rfl ?_))
                           refine WO.shlN (a := 1) (s := n) rfl rfl (show n ≤ 64 by omega) (hfit n (by omega)) rfl ?_
                           refine WO.go' rfl (WO.ar rfl rfl rfl (by (first | (unfold in64; omega) | (unfold in64; omega))) rfl (WO.pg rfl rfl rfl (WO.p rfl rfl (WO.p rfl rfl ?_))))
                           refine WO.guard_bl rfl rfl (fun c6 => ?_) (fun c6 => ?_)
                           · first
                             | (exfalso; omega)
                             | (refine WO.no rfl rfl (WO.no rfl rfl (WO.no rfl rfl (WO.no rfl rfl (WO.p rfl rfl ?_))))
                                refine WO.nil ?_
                                refine W.cond_t rfl ?_
                                refine W.sreg ?_
                                refine WO.p rfl rfl ?_
                                refine WO.nil ?_
                                refine W.ret ?_
                                first | exact fin.ret (Res.one rfl (RV.tmp rfl)) rfl | (exfalso; omega))
                           · first
                             | (exfalso; omega)
                             | (refine WO.pg rfl rfl rfl (WO.go' rfl ?_)
                                refine' WO.len (n := _) rfl rfl ?hs rfl ?_
                                case hs => (first | exact hs1)
                                refine WO.pg rfl rfl rfl (WO.pg rfl rfl rfl (WO.p rfl rfl ?_))
                                refine WO.nil ?_
                                refine W.cond_bl rfl (fun c7 => ?_) (fun c7 => ?_)
                                · first
                                  | (exfalso; omega)
                                  | (refine W.sreg ?_
                                     refine WO.p rfl rfl ?_
                                     refine WO.nil ?_
                                     refine W.ret ?_
                                     first | exact fin.ret (Res.one rfl (RV.tmp rfl)) rfl | (exfalso; omega))
                                · first
                                  | (exfalso; omega)
                                  | (refine W.skip ?_
                                     refine W.sreg ?_
                                     refine WO.p rfl rfl ?_
                                     refine WO.call (Post := fun r Hq => ∃ y : Value, r = .tuple #[y, .int .i64 0] ∧ Hq = [OwE encI 3 1 y (specR (runL taps (startF f n) P))]) rfl Try.call25 (fun L w hi => by have h := c_Spectrum w (.slice ya P yc) (runL taps (startF f n) P) (RdF.of_ow (e := 3) encI_ok (by repeat (first | exact Pick.head | apply Pick.tail)) hi) ⟨ya, yc, by rw [runL_len], by rw [runL_len]; exact hyc⟩; rw [hsE] at h; exact h) rfl ?_
                                     rintro _ _ ⟨r3, rfl, rfl⟩
                                     refine WO.p rfl rfl (WO.p rfl rfl (WO.p rfl rfl (WO.p rfl rfl (WO.p rfl rfl ?_))))
                                     refine WO.nil ?_
                                     refine W.seq ?_
                                     have hsg : ∀ k, k < P → (specR (runL taps (startF f n) P)).length = P ∧ sp (runL taps (startF f n) P) k = (specR (runL taps (startF f n) P)).getD k 0 := fun k hk => by have q := specR_get hck (show k < (runL taps (startF f n) P).length by rw [runL_len]; exact hk); rw [runL_len] at q; exact q
                                     refine W.fact (OwE.sl (enc := encI) (e := 3) (sz := 1) (v := r3) (xs := specR (runL taps (startF f n) P)) (by repeat (first | exact Pick.head | apply Pick.tail))) ?_
                                     intro hs3
                                     rw [(hsg 0 (by omega)).1] at hs3
                                     refine W.sreg ?_
                                     refine WO.p rfl rfl (WO.p rfl rfl (WO.p rfl rfl ?_))
                                     refine WO.guard_bl rfl rfl (fun c8 => ?_) (fun c8 => ?_)
                                     · first
                                       | (exfalso; omega)
                                       | (refine WO.no rfl rfl (WO.no rfl rfl (WO.no rfl rfl (WO.no rfl rfl (WO.p rfl rfl (WO.p rfl rfl (WO.no rfl rfl (WO.no rfl rfl (WO.no rfl rfl (WO.no rfl rfl (WO.no rfl rfl (WO.p rfl rfl ?_)))))))))))
                                          refine WO.nil ?_
                                          refine W.cond_t rfl ?_
                                          refine W.sreg ?_
                                          refine WO.p rfl rfl ?_
                                          refine WO.nil ?_
                                          refine W.ret ?_
                                          first | exact fin.ret (Res.one rfl (RV.tmp rfl)) rfl | (exfalso; omega))
                                     · first
                                       | (exfalso; omega)
                                       | (refine WO.pg rfl rfl rfl (WO.go' rfl ?_)
                                          refine' WO.len (n := _) rfl rfl ?hs rfl ?_
                                          case hs => (first | exact hs3)
                                          refine WO.pg rfl rfl rfl (WO.pg rfl rfl rfl (WO.p rfl rfl (WO.p rfl rfl ?_)))
                                          refine WO.guard_bl rfl rfl (fun c9 => ?_) (fun c9 => ?_)
                                          · first
                                            | (exfalso; omega)
                                            | (refine WO.no rfl rfl (WO.no rfl rfl (WO.no rfl rfl (WO.no rfl rfl (WO.no rfl rfl (WO.p rfl rfl ?_)))))
                                               refine WO.nil ?_
                                               refine W.cond_t rfl ?_
                                               refine W.sreg ?_
                                               refine WO.p rfl rfl ?_
                                               refine WO.nil ?_
                                               refine W.ret ?_
                                               first | exact fin.ret (Res.one rfl (RV.tmp rfl)) rfl | (exfalso; omega))
                                          · first
                                            | (exfalso; omega)
                                            | (refine WO.pg rfl rfl rfl (WO.go' rfl ?_)
                                               refine' WO.indexAddr (n := _) (i := 0) rfl rfl rfl ?hs ?h1 rfl ?_
                                               case hs => (first | exact hs3)
                                               case h1 => (first | omega | (simp; omega))
                                               refine WO.go' rfl ?_
                                               refine' WO.load (v := _) rfl rfl ?hc rfl ?_
                                               case hc => (first | (refine cellI2 (e := 3) (xs := specR (runL taps (startF f n) P)) (i := 0) (j := 0) (z := sp (runL taps (startF f n) P) 0) ?_ (by rw [(hsg 0 (by omega)).1]; omega) (hsg 0 (by omega)).2 rfl; exact (by repeat (first | exact Sub.nil | refine Sub.cons (by repeat (first | exact Pick.head | apply Pick.tail)) ?_))))
                                               refine WO.pg rfl rfl rfl (WO.pg rfl rfl rfl (WO.p rfl rfl ?_))
                                               refine WO.nil ?_
                                               refine W.cond_bl rfl (fun c10 => ?_) (fun c10 => ?_)
                                               · first
                                                 | (exfalso; omega)
                                                 | (refine W.sreg ?_
                                                    refine WO.p rfl rfl ?_
                                                    refine WO.nil ?_
                                                    refine W.ret ?_
                                                    first | exact fin.ret (Res.one rfl (RV.tmp rfl)) rfl | (exfalso; omega))
                                               · first
                                                 | (exfalso; omega)
                                                 | (refine W.skip ?_
                                                    refine W.sreg ?_
                                                    refine WO.p rfl rfl ?_
                                                    refine' WO.indexAddr (n := _) (i := 0) rfl rfl rfl ?hs ?h1 rfl ?_
                                                    case hs => (first | exact hs1)
                                                    case h1 => (first | omega | (simp; omega))
                                                    refine' WO.load (v := _) rfl rfl ?hc rfl ?_
                                                    case hc => (first | (refine cellI2 (e := 3) (xs := runL taps (startF f n) P) (i := 0) (j := 0) (z := rb taps (startF f n) 0) ?_ (by rw [runL_len]; omega) (runL_get (by omega)).symm rfl; exact (by repeat (first | exact Sub.nil | refine Sub.cons (by repeat (first | exact Pick.head | apply Pick.tail)) ?_))))
                                                    refine WO.p rfl rfl ?_
                                                    refine WO.nil ?_
                                                    refine W.seq ?_
                                                    refine W.sreg ?_
                                                    refine WO.p rfl rfl ?_
                                                    refine WO.nil ?_
                                                    refine W.block ?_
                                                    refine W.loop2 (fun (k : Nat) (z : Int) => 1 ≤ k ∧ k ≤ P ∧ z = sm k (rb taps (startF f n)) ∧ 0 ≤ z ∧ z ≤ (k : Int))
                                                      (fun (k : Nat) (z : Int) => [(22, .int .i64 (k : Int)), (21, .int .i64 z), (20, r3), (18, .slice ya P yc), (16, .int .i64 (P : Int)), (7, .int .i64 (n : Int))])
                                                      (fun (k : Nat) (z : Int) => [OwE encI 3 1 (.slice ya P yc) (runL taps (startF f n) P), OwE encI 3 1 r3 (specR (runL taps (startF f n) P))])
                                                      (fun (k : Nat) (z : Int) => P - k) 1 (rb taps (startF f n) 0)
                                                      (by exact ⟨by omega, by omega, (Int.zero_add _).symm, by have := rb_01 (taps := taps) (startF_ok f n) 0; omega, by have := rb_01 (taps := taps) (startF_ok f n) 0; omega⟩) ⟨rfl, rfl, rfl, rfl, rfl, rfl, trivial⟩ (by repeat (first | exact Sub.nil | refine Sub.cons (by repeat (first | exact Pick.head | apply Pick.tail)) ?_)) ?_
                                                    rintro k z ⟨hk1, hk2, hz, hz1, hz2⟩
                                                    refine W.seq ?_
                                                    refine W.sreg ?_
                                                    refine WO.p rfl rfl (WO.p rfl rfl (WO.p rfl rfl ?_))
                                                    refine WO.nil ?_
                                                    refine W.cond_bl rfl (fun c11 => ?_) (fun c11 => ?_)
                                                    · first
                                                      | (exfalso; omega)
                                                      | (refine W.skip ?_
                                                         refine W.seq ?_
                                                         refine W.block ?_
                                                         have hrb := rb_01 (taps := taps) (startF_ok f n) k
                                                         have hflat : sp (runL taps (startF f n) P) k = -1 := by rw [hP]; exact full_flat hfull (startF_ok f n) (startF_len f n) hho (by omega) (by omega)
                                                         refine W.sreg ?_
                                                         refine WO.p rfl rfl (WO.p rfl rfl (WO.p rfl rfl ?_))
                                                         refine' WO.indexAddr (n := _) (i := _) rfl rfl rfl ?hs ?h1 rfl ?_
                                                         case hs => (first | exact hs1)
                                                         case h1 => (first | omega | (simp; omega))
                                                         refine' WO.load (v := _) rfl rfl ?hc rfl ?_
                                                         case hc => (first | (refine cellI2 (e := 3) (xs := runL taps (startF f n) P) (i := k) (j := k) (z := rb taps (startF f n) k) ?_ (by rw [runL_len]; omega) (runL_get (by omega)).symm rfl; exact (by repeat (first | exact Sub.nil | refine Sub.cons (by repeat (first | exact Pick.head | apply Pick.tail)) ?_))))
                                                         refine WO.ar rfl rfl rfl (by (first | (unfold in64; omega) | (unfold in64; omega))) rfl (WO.p rfl rfl ?_)
                                                         refine WO.nil ?_
                                                         refine W.sreg ?_
                                                         refine WO.p rfl rfl (WO.p rfl rfl ?_)
                                                         refine' WO.indexAddr (n := _) (i := _) rfl rfl rfl ?hs ?h1 rfl ?_
                                                         case hs => (first | exact hs3)
                                                         case h1 => (first | omega | (simp; omega))
                                                         refine' WO.load (v := _) rfl rfl ?hc rfl ?_
                                                         case hc => (first | (refine cellI2 (e := 3) (xs := specR (runL taps (startF f n) P)) (i := k) (j := k) (z := sp (runL taps (startF f n) P) k) ?_ (by rw [(hsg k (by omega)).1]; omega) (hsg k (by omega)).2 rfl; exact (by repeat (first | exact Sub.nil | refine Sub.cons (by repeat (first | exact Pick.head | apply Pick.tail)) ?_))))
                                                         refine WO.p rfl rfl ?_
                                                         refine WO.nil ?_
                                                         refine W.cond_bl rfl (fun c12 => ?_) (fun c12 => ?_)
                                                         · first
                                                           | (exfalso; omega)
                                                           | (refine W.sreg ?_
                                                              refine WO.p rfl rfl ?_
                                                              refine WO.nil ?_
                                                              refine W.ret ?_
                                                              first | exact fin.ret (Res.one rfl (RV.tmp rfl)) rfl | (exfalso; omega))
                                                         · first
                                                           | (exfalso; omega)
                                                           | (refine W.skip ?_
                                                              refine W.region ?_
                                                              refine WO.p rfl rfl (WO.ar rfl rfl rfl (by (first | (unfold in64; omega) | (unfold in64; omega))) rfl (WO.p rfl rfl ?_))
                                                              refine WO.nil ?_
                                                              refine' ⟨k + 1, _, ?hp, ?hmu, ⟨rfl, rfl, rfl, rfl, rfl, rfl, trivial⟩, ?hS⟩
                                                              case hS => repeat (first | exact Sub.nil | refine Sub.cons (by repeat (first | exact Pick.head | apply Pick.tail)) ?_)
                                                              case hp => exact ⟨by omega, by omega, by rw [hz]; rfl, by omega, by omega⟩
                                                              case hmu => omega))
                                                    · first
                                                      | (exfalso; omega)
                                                      | (refine W.exit (blk_same ?_)
                                                         obtain rfl : k = P := by omega
                                                         refine W.sreg ?_
                                                         refine WO.p rfl rfl (WO.p rfl rfl (WO.ar rfl rfl rfl (by (first | (unfold in64; omega) | (unfold in64; omega))) rfl ?_))
                                                         refine WO.shlN (a := 1) (s := n - 1) rfl (by rw [show ((n - 1 : Nat) : Int) = (n : Int) - 1 by omega]; rfl) (show n - 1 ≤ 64 by omega) (hfit (n - 1) (by omega)) rfl ?_
                                                         refine WO.p rfl rfl (WO.p rfl rfl ?_)
                                                         refine WO.guard_bl rfl rfl (fun c13 => ?_) (fun c13 => ?_)
                                                         · first
                                                           | (exfalso; omega)
                                                           | (refine WO.go' rfl ?_
                                                              refine WO.callR rfl Try.call15 (fun L w hi => l_Works w) rfl ?_
                                                              refine WO.p rfl rfl (WO.p rfl rfl ?_)
                                                              refine WO.nil ?_
                                                              refine W.ret ?_
                                                              first | exact fin.ret (Res.one rfl (RV.tmp rfl)) rfl | (exfalso; omega))
                                                         · first
                                                           | (exfalso; omega)
                                                           | (refine WO.no rfl rfl (WO.p rfl rfl (WO.p rfl rfl ?_))
                                                              refine WO.nil ?_
                                                              refine W.ret ?_
                                                              first | exact fin.ret (Res.one rfl (RV.tmp rfl)) rfl | (exfalso; omega)))))))))))))
end Go.Proofs.Ytingkbglkaojdaa
