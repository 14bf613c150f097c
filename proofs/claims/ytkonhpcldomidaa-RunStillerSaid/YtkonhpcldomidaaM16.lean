/-
  What is proved here: is a run in a set, and plain: a table is checked entry by entry. Conditions: none; each contract states its own.
  What is proved here: plain: how many runs a table knows. Conditions: none; each theorem states its own.
-/
import Derived.Test.YtkonhpcldomidaaM7
import Derived.Test.YtkonhpcldomidaaM12
set_option linter.unusedVariables false
set_option linter.unusedSimpArgs false
namespace Go.Proofs.Ytkonhpcldomidaa
open Go Go.TH
attribute [local irreducible] W WO pt
set_option maxRecDepth 10000
set_option maxHeartbeats 1000000
theorem ref_in (w : World) (s i : Nat) (hi : i ≤ 64) : Ret Try.prog 55 [.int .i64 (s : Int), .int .i64 (i : Int)].toArray w (.bool (bl (hasB s i))) := by
  refine Ret.of mixed tyTab Try.func55 rfl rfl ?_
  refine W.sreg ?_
  refine WO.p rfl rfl ?_
  refine WO.nil ?_
  refine W.sreg ?_
  refine WO.p rfl rfl (WO.p rfl rfl ?_)
  refine WO.shrN (a := s) (s := i) rfl rfl (by show i ≤ 64; omega) rfl ?_
  refine WO.rem (b := 2) rfl rfl (by decide) rfl ?_
  rw [show ((s >>> i : Nat) : Int).tmod 2 = ((s >>> i % 2 : Nat) : Int) from (Int.ofNat_tmod _ _).symm]
  refine WO.p rfl rfl (WO.p rfl rfl ?_)
  refine WO.nil ?_
  refine W.ret ?_
  refine fin.ret (Res.one rfl (RV.tmp rfl)) (congrArg Value.bool (bl_cg ?_))
  unfold hasB
  rw [Nat.and_one_is_mod]
  omega
theorem cntN_succ (s k : Nat) : cntN s (k + 1) = cntN s k + if hasB s k then 1 else 0 := by
  unfold cntN
  rw [List.range_succ, List.filter_append, List.length_append]
  by_cases h : hasB s k
  · rw [if_pos h]; simp [h]
  rw [if_neg h]; simp [h]
theorem cntN_le (s : Nat) : ∀ k, cntN s k ≤ k
  | 0 => by simp [cntN]
  | k + 1 => by
    rw [cntN_succ]
    have := cntN_le s k
    split <;> omega
theorem hasB_lt {s n k : Nat} (hs : s < 2 ^ n) (h : hasB s k) : k < n := by
  rcases Nat.lt_or_ge k n with g | g
  · exact g
  have h1 := hasB_tb.1 h
  rw [Nat.testBit_lt_two_pow (Nat.lt_of_lt_of_le hs (Nat.pow_le_pow_right (by omega) g))] at h1
  cases h1
theorem cntN_8 {s n : Nat} (hs : s < 2 ^ n) : ∀ {k : Nat}, n ≤ k → cntN s k = cntN s n
  | 0, h => by rw [show n = 0 by omega]
  | k + 1, h => by
    rcases Nat.lt_or_ge k n with g | g
    · rw [show n = k + 1 by omega]
    rw [cntN_succ, if_neg (fun q => by have := hasB_lt hs q; omega), Nat.add_zero]
    exact cntN_8 hs g
/-- one run alone -/
theorem cnt_1 {s n i : Nat} (hs : s < 2 ^ n) (hb : hasB s i) : cntN s n = 1 ↔ wo s i = 0 := by
  have hm : ∀ j, j ∈ (List.range n).filter (fun i => decide (hasB s i)) ↔ hasB s j := fun j => by
    rw [List.mem_filter, List.mem_range, decide_eq_true_eq]
    exact ⟨fun h => h.2, fun h => ⟨hasB_lt hs h, h⟩⟩
  have hn : ((List.range n).filter (fun i => decide (hasB s i))).Nodup := List.nodup_range.filter _
  unfold cntN
  generalize (List.range n).filter (fun i => decide (hasB s i)) = L at hm hn
  constructor
  · intro h
    match L, h, hm with
    | [a], _, hm =>
      have ha : i = a := List.mem_singleton.1 ((hm i).2 hb)
      refine Nat.eq_of_testBit_eq fun j => ?_
      rw [wo_tb, Nat.zero_testBit]
      by_cases e : i = j
      · simp [e]
      cases hq : s.testBit j with
      | false => rfl
      | true => exact absurd (ha.trans (List.mem_singleton.1 ((hm j).2 (hasB_tb.2 hq))).symm) e
  intro h
  have hall : ∀ j ∈ L, j = i := fun j hj => by
    have h1 := hasB_tb.1 ((hm j).1 hj)
    rcases Nat.decEq i j with e | e
    · have h2 := wo_tb s i j
      rw [h, h1, Nat.zero_testBit] at h2
      simp [e] at h2
    exact e.symm
  have hi := (hm i).2 hb
  match L, hi, hall, hn with
  | [], h, _, _ => simp at h
  | [a], _, _, _ => rfl
  | a :: c :: r, _, hall, hn =>
    have h1 := hall a (by simp)
    have h2 := hall c (by simp)
    rw [List.nodup_cons] at hn
    exact absurd (by rw [h1, h2]; simp) hn.1
theorem foldmin_le {v : Int} {xs : List Int} {g : Int} (h : v ≤ g) (hx : ∀ x ∈ xs, v ≤ x) : v ≤ xs.foldl min g := by
  rcases (foldmin_mem xs g).2.2 with q | q
  · omega
  exact hx _ q
section
variable (b : Int) (l : List Rn) (xs : List Int)
/-- all entries of a part keep the law -/
def okC (c : Nat) : Prop := ∀ x, x < c → ¬ wrX b l xs x
def mostC (c : Nat) : Nat := (List.range c).foldl (fun g x => if cnX l xs x then max g (cntN (x / l.length) 8) else g) 0
end
section
variable {b : Int} {l : List Rn} {xs : List Int}
theorem okC_0 : okC b l xs 0 := fun x h => by omega
theorem okC_succ {c : Nat} (h : okC b l xs c) (h2 : ¬ wrX b l xs c) : okC b l xs (c + 1) := fun x hx => by
  rcases Nat.lt_or_ge x c with g | g
  · exact h x g
  rw [show x = c by omega]; exact h2
theorem mostC_yes {c : Nat} (h : cnX l xs c) : mostC l xs (c + 1) = max (mostC l xs c) (cntN (c / l.length) 8) := by
  unfold mostC; rw [List.range_succ, List.foldl_append]; exact if_pos h
theorem mostC_no {c : Nat} (h : ¬ cnX l xs c) : mostC l xs (c + 1) = mostC l xs c := by
  unfold mostC; rw [List.range_succ, List.foldl_append]; exact if_neg h
theorem mostC_bd : ∀ c, mostC l xs c ≤ 8
  | 0 => by simp [mostC]
  | c + 1 => by
    have ih := mostC_bd c
    have h8 := cntN_le (c / l.length) 8
    by_cases h : cnX l xs c
    · rw [mostC_yes h]; omega
    rw [mostC_no h]; exact ih
theorem okC_14 (h : okC b l xs xs.length) : ¬ bad14 b l xs := by
  rintro ⟨x, hx, hw⟩
  exact h x (List.mem_range.1 hx) hw
theorem wrX_at {s i : Nat} (hi : i < l.length) : wrX b l xs (s * l.length + i) ↔ wrK b l (fT l xs xs.length) s i (xs.getD (s * l.length + i) 0) := by
  unfold wrX; rw [(at_dm hi).1, (at_dm hi).2]
theorem cnX_at {s i : Nat} (hi : i < l.length) : cnX l xs (s * l.length + i) ↔ hasB s i ∧ xs.getD (s * l.length + i) 0 < nev := by
  unfold cnX; rw [(at_dm hi).1, (at_dm hi).2]
theorem wrX_14 {s i : Nat} (hi : i < l.length) (hx : s * l.length + i < xs.length) (h : wrK b l (fT l xs xs.length) s i (xs.getD (s * l.length + i) 0)) : bad14 b l xs :=
  ⟨s * l.length + i, List.mem_range.2 hx, (wrX_at hi).2 h⟩
theorem fT_get {s i : Nat} (hi : i < l.length) (hx : s * l.length + i < xs.length) : atM (fT l xs xs.length) (s, i) = xs.getD (s * l.length + i) 0 := by
  unfold atM fT
  rw [if_pos ⟨hi, hx⟩]; rfl
/-- the runs before it that are tried -/
def jI (b : Int) (l : List Rn) (xs : List Int) (s i j : Nat) (v : Int) : Prop := (∀ z ∈ foA b l s i, v ≤ z) ∧ ∀ k, k < j → ∀ z ∈ fo1 b l (fT l xs xs.length) s i k, v ≤ z
theorem jI_0 {a : Int} (hd : OkD a b l) {s i : Nat} {v : Int} (hs : s < 2 ^ l.length) (hi : i < l.length) (hb : hasB s i) (h : ¬ (cntN s l.length = 1 ∧ (l.getD i rn0).fr + (l.getD i rn0).mi < v)) : jI b l xs s i 0 v := by
  refine ⟨fun z hz => ?_, fun k hk => by omega⟩
  unfold foA at hz
  split at hz
  · rename_i h0
    have h1 := (cnt_1 hs hb).2 h0
    unfold putL at hz
    split at hz
    · rw [List.mem_singleton.1 hz, bgA_n (by omega)]; omega
    simp at hz
  simp at hz
theorem jA_14 {a : Int} (hd : OkD a b l) {s i : Nat} (hs : s < 2 ^ l.length) (hi : i < l.length) (hb : hasB s i) (hx : s * l.length + i < xs.length) (h : cntN s l.length = 1 ∧ (l.getD i rn0).fr + (l.getD i rn0).mi < xs.getD (s * l.length + i) 0) : bad14 b l xs := by
  refine wrX_14 hi hx (.inr ⟨hb, ?_⟩)
  have h1 := (cnt_1 hs hb).1 h.1
  have hr := hd.at_ hi
  unfold OkR at hr
  have he : bgE b l (-1) 0 i = 0 := by
    unfold bgE
    rw [if_neg (by omega), bgA_n (by omega), if_neg (by omega)]
  have h2 := (foldmin_mem (foT b l (fT l xs xs.length) s i l.length) nev).2.1 ((l.getD i rn0).fr + (l.getD i rn0).mi) (by
    unfold foT foA
    refine List.mem_append.2 (.inl ?_)
    rw [if_pos h1]
    unfold putL
    rw [if_pos he, bgA_n (by omega)]
    exact List.mem_singleton.2 rfl)
  have h3 : fow b l (fT l xs xs.length) s i = (foT b l (fT l xs xs.length) s i l.length).foldl min nev := rfl
  omega
theorem jI_end {s i : Nat} (hi : i < l.length) (hb : hasB s i) (h : jI b l xs s i l.length (xs.getD (s * l.length + i) 0)) (hn : xs.getD (s * l.length + i) 0 ≤ nev) : ¬ wrX b l xs (s * l.length + i) := by
  rw [wrX_at hi]
  have h1 : xs.getD (s * l.length + i) 0 ≤ fow b l (fT l xs xs.length) s i := by
    unfold fow
    refine foldmin_le hn fun z hz => ?_
    unfold foT at hz
    rcases List.mem_append.1 hz with q | q
    · exact h.1 z q
    obtain ⟨k, hk, q⟩ := List.mem_flatMap.1 q
    exact h.2 k (List.mem_range.1 hk) z q
  rintro (⟨h2, _⟩ | ⟨_, h2⟩)
  · exact h2 hb
  omega
theorem wo_has {s i j : Nat} : hasB (wo s i) j ↔ i ≠ j ∧ hasB s j := by
  rw [hasB_tb, hasB_tb, wo_tb]
  cases s.testBit j <;> simp
theorem jI_succ {s i j : Nat} {v : Int} (h : jI b l xs s i j v) (h2 : ∀ z ∈ fo1 b l (fT l xs xs.length) s i j, v ≤ z) : jI b l xs s i (j + 1) v := ⟨h.1, fun k hk => by
  rcases Nat.lt_or_ge k j with g | g
  · exact h.2 k g
  rw [show k = j by omega]; exact h2⟩
theorem fo1_skip {a : Int} (hd : OkD a b l) {s i j : Nat} (hj : j < l.length) (hx : wo s i * l.length + j < xs.length) (h : j = i ∨ ¬ hasB s j ∨ xs.getD (wo s i * l.length + j) 0 = nev ∨ wOf b l j i < 0) : fo1 b l (fT l xs xs.length) s i j = [] := by
  unfold fo1
  rw [fT_get hj hx]
  split
  · rename_i q
    have q1 := wo_has.1 q.1
    have hw := hd.w hj i
    unfold putL
    refine if_neg fun he => ?_
    unfold bgE at he
    rcases h with h | h | h | h
    · exact q1.1 h.symm
    · exact h q1.2
    · omega
    rw [if_pos ⟨by omega, by rw [Int.toNat_natCast]; omega⟩] at he; omega
  rfl
theorem fo1_at {a : Int} (hd : OkD a b l) {s i j : Nat} (hj : j < l.length) (hx : wo s i * l.length + j < xs.length) (hn : xs.getD (wo s i * l.length + j) 0 ≤ nev) (h : ¬ (j = i ∨ ¬ hasB s j ∨ xs.getD (wo s i * l.length + j) 0 = nev ∨ wOf b l j i < 0)) : fo1 b l (fT l xs xs.length) s i j = if max (l.getD i rn0).fr (xs.getD (wo s i * l.length + j) 0 + wOf b l j i) ≤ (l.getD i rn0).un then [max (l.getD i rn0).fr (xs.getD (wo s i * l.length + j) 0 + wOf b l j i) + (l.getD i rn0).mi] else [] := by
  have hh : hasB s j := Decidable.not_not.1 fun q => h (.inr (.inl q))
  unfold fo1
  rw [fT_get hj hx, if_pos ⟨wo_has.2 ⟨fun e => h (.inl e.symm), hh⟩, by omega⟩]
  unfold putL
  have e1 : bgE b l (j : Int) (xs.getD (wo s i * l.length + j) 0) i = 0 ↔ max (l.getD i rn0).fr (xs.getD (wo s i * l.length + j) 0 + wOf b l j i) ≤ (l.getD i rn0).un := by
    unfold bgE
    rw [if_neg (fun q => by rw [Int.toNat_natCast] at q; omega), bgA_i]
    split <;> omega
  rw [bgA_i]
  by_cases q : max (l.getD i rn0).fr (xs.getD (wo s i * l.length + j) 0 + wOf b l j i) ≤ (l.getD i rn0).un
  · rw [if_pos q, if_pos (e1.2 q)]
  rw [if_neg q, if_neg (fun z => q (e1.1 z))]
theorem fo1_14 {s i j : Nat} {z : Int} (hi : i < l.length) (hj : j < l.length) (hb : hasB s i) (hx : s * l.length + i < xs.length) (hz : z ∈ fo1 b l (fT l xs xs.length) s i j) (h : z < xs.getD (s * l.length + i) 0) : bad14 b l xs := by
  refine wrX_14 hi hx (.inr ⟨hb, ?_⟩)
  have h2 := (foldmin_mem (foT b l (fT l xs xs.length) s i l.length) nev).2.1 z (by
    unfold foT
    exact List.mem_append.2 (.inr (List.mem_flatMap.2 ⟨j, List.mem_range.2 hj, hz⟩)))
  have h3 : fow b l (fT l xs xs.length) s i = (foT b l (fT l xs xs.length) s i l.length).foldl min nev := rfl
  omega
end
end Go.Proofs.Ytkonhpcldomidaa
namespace Go.Proofs.Ytkonhpcldomidaa
open Go Go.TH
set_option maxRecDepth 10000
set_option maxHeartbeats 1000000
theorem flatMap_eq {α β : Type} {f g : α → List β} : ∀ {xs : List α}, (∀ x ∈ xs, f x = g x) → xs.flatMap f = xs.flatMap g
  | [], _ => rfl
  | x :: xs, h => by
    rw [List.flatMap_cons, List.flatMap_cons, h x (by simp), flatMap_eq (fun y hy => h y (by simp [hy]))]
theorem cnt_same {s s' : Nat} : ∀ k, (∀ j, j < k → (hasB s j ↔ hasB s' j)) → cntN s k = cntN s' k
  | 0, _ => by simp [cntN]
  | k + 1, h => by
    rw [cntN_succ, cntN_succ, cnt_same k (fun j hj => h j (by omega))]
    by_cases e : hasB s k
    · rw [if_pos e, if_pos ((h k (by omega)).1 e)]
    rw [if_neg e, if_neg (fun q => e ((h k (by omega)).2 q))]
theorem has_or {s i j : Nat} : hasB (s ||| 1 <<< i) j ↔ hasB s j ∨ i = j := by
  rw [hasB_tb, hasB_tb, Nat.testBit_or, one_tb]
  simp
theorem cnt_or {s i : Nat} (h : ¬ hasB s i) : ∀ k, i < k → cntN (s ||| 1 <<< i) k = cntN s k + 1
  | 0, hk => by omega
  | k + 1, hk => by
    rw [cntN_succ, cntN_succ]
    rcases Nat.lt_or_ge i k with g | g
    · rw [cnt_or h k g]
      by_cases e : hasB s k
      · rw [if_pos e, if_pos (has_or.2 (.inl e))]
      rw [if_neg e, if_neg (fun q => (has_or.1 q).elim e (fun q => by omega))]
    obtain rfl : i = k := by omega
    rw [if_neg h, if_pos (has_or.2 (.inr rfl)), cnt_same i (fun j hj => ⟨fun q => (has_or.1 q).elim id (fun q => by omega), fun q => has_or.2 (.inl q)⟩)]
section
variable {a b : Int} {l : List Rn}
/-- an order's set has as many runs as the order -/
theorem cnt_bsO (h8 : l.length ≤ 8) : ∀ (n : Nat) (o : List Int), o.length = n → VO b l o → cntN (bsO o) 8 = n
  | 0, o, hl, _ => by
    rw [List.length_eq_zero_iff.1 hl]
    decide +kernel
  | n + 1, o, hl, h => by
    obtain ⟨o', i, rfl⟩ := h.snoc' (fun e => by rw [e] at hl; simp at hl)
    obtain ⟨h1, hi, hx⟩ := h.front
    rw [bsO_snoc, Int.toNat_natCast, cnt_or (fun q => hx.1 ((bsO_tb h1.1 i).1 q)) 8 (by omega), cnt_bsO h8 n o' (by simpa using hl) h1]
theorem updL_len (b : Int) (l : List Rn) (bs o : List Int) : bs.length ≤ (updL b l bs o).length ∧ o.length ≤ (updL b l bs o).length ∧ (updL b l bs o = bs ∨ updL b l bs o = o) := by
  unfold updL
  split
  · exact ⟨by omega, by omega, .inr rfl⟩
  exact ⟨by omega, by omega, .inl rfl⟩
theorem fold_updL (b : Int) (l : List Rn) : ∀ (xs : List (List Int)) (g : List Int), let r := xs.foldl (updL b l) g; g.length ≤ r.length ∧ (∀ x ∈ xs, x.length ≤ r.length) ∧ (r = g ∨ r ∈ xs)
  | [], g => ⟨Nat.le_refl _, fun x h => by simp at h, .inl rfl⟩
  | x :: xs, g => by
    intro r
    have hr : r = xs.foldl (updL b l) (updL b l g x) := rfl
    obtain ⟨h1, h2, h3⟩ := fold_updL b l xs (updL b l g x)
    rw [← hr] at h1 h2 h3
    obtain ⟨q1, q2, q3⟩ := updL_len b l g x
    refine ⟨by omega, fun y hy => ?_, ?_⟩
    · rcases List.mem_cons.1 hy with rfl | hy
      · omega
      exact h2 y hy
    rcases h3 with h | h
    · rcases q3 with e | e
      · exact .inl (h.trans e)
      exact .inr (by rw [h, e]; simp)
    exact .inr (List.mem_cons_of_mem _ h)
/-- the best order -/
theorem bsL_ok (hc : chkD a b l = 0) : VO b l (bsL a b l) ∧ (∀ o, VO b l o → o.length ≤ (bsL a b l).length) ∧ 1 ≤ (bsL a b l).length := by
  have e : bsL a b l = (ords b l l.length []).foldl (updL b l) [] := by unfold bsL; rw [if_neg (by omega), bsS_L]
  obtain ⟨h1, h2, h3⟩ := fold_updL b l (ords b l l.length []) []
  rw [← e] at h1 h2 h3
  have hall : ∀ o, VO b l o → o.length ≤ (bsL a b l).length := fun o h => by
    have hm := ords_all (b := b) (l := l) (f := l.length) (o := []) o (by simpa using h) (by simpa using h.len)
    rw [List.nil_append] at hm
    exact h2 o hm
  obtain ⟨hln, hd⟩ := chkD0.1 hc
  refine ⟨?_, hall, ?_⟩
  · rcases h3 with h | h
    · rw [h]; exact VO.nil
    exact (ords_mem VO.nil h).1
  have hr := hd.at_ (i := 0) (by omega)
  unfold OkR at hr
  have hv : VO b l [(0 : Int)] := VO.nil.snoc (i := 0) (by omega) ⟨by simp, by
    show bgE b l (-1) 0 0 = 0
    unfold bgE
    rw [if_neg (by omega), bgA_n (by omega), if_neg (by omega)]⟩
  exact hall _ hv
theorem fow_foT {f : Sk → Option Int} {s i : Nat} {z : Int} (h : z ∈ foT b l f s i l.length) : fow b l f s i ≤ z := (foldmin_mem (foT b l f s i l.length) nev).2.1 z h
/-- a table that keeps the law knows no order later than it is -/
theorem ct_le {xs : List Int} (hd : OkD a b l) (hl : xs.length = 2 ^ l.length * l.length) (h14 : ¬ bad14 b l xs) : ∀ (n : Nat) (o : List Int) (i : Nat), o.length = n → VO b l (o ++ [(i : Int)]) → xs.getD (bsO (o ++ [(i : Int)]) * l.length + i) 0 ≤ ovF b l (o ++ [(i : Int)]) := by
  have hwr : ∀ s i, hasB s i → i < l.length → s * l.length + i < xs.length → xs.getD (s * l.length + i) 0 ≤ fow b l (fT l xs xs.length) s i := fun s i hb hi hx => by
    rcases Int.lt_or_le (fow b l (fT l xs xs.length) s i) (xs.getD (s * l.length + i) 0) with g | g
    · exact absurd (wrX_14 hi hx (.inr ⟨hb, g⟩)) h14
    exact g
  intro n
  induction n with
  | zero =>
    intro o i ho hv
    obtain ⟨rfl⟩ : o = [] := List.length_eq_zero_iff.1 ho
    obtain ⟨h1, hi, hx⟩ := hv.front
    have hb : hasB (bsO ([] ++ [(i : Int)])) i := (bsO_tb hv.1 i).2 (by simp)
    have hk := kyO_lt hv (by simp)
    rw [kyO_of, ← hl] at hk
    have hw : wo (bsO ([] ++ [(i : Int)])) i = 0 := by
      rw [bsO_snoc, Int.toNat_natCast]
      exact or_wo (fun h => by have := (bsO_tb (l := l) (o := []) (fun x hx => by simp at hx) i).1 h; simp at this)
    refine Int.le_trans (hwr _ _ hb hi hk) (fow_foT ?_)
    unfold foT foA
    rw [if_pos hw]
    refine List.mem_append.2 (.inl ?_)
    unfold putL
    have h2 : bgE b l (-1) 0 i = 0 := hx.2
    rw [if_pos h2, ovF_snoc]
    exact List.mem_singleton.2 rfl
  | succ n ih =>
    intro o i ho hv
    obtain ⟨h1, hi, hx⟩ := hv.front
    obtain ⟨o', j, rfl⟩ := h1.snoc' (fun e => by rw [e] at ho; simp at ho)
    have ih1 := ih o' j (by simpa using ho) h1
    obtain ⟨_, hj, _⟩ := h1.front
    have hb : hasB (bsO (o' ++ [(j : Int)] ++ [(i : Int)])) i := (bsO_tb hv.1 i).2 (by simp)
    have hk := kyO_lt hv (by simp)
    rw [kyO_of, ← hl] at hk
    have hkj := kyO_lt h1 (by simp)
    rw [kyO_of, ← hl] at hkj
    have hw : wo (bsO (o' ++ [(j : Int)] ++ [(i : Int)])) i = bsO (o' ++ [(j : Int)]) := by
      rw [bsO_snoc (o' ++ [(j : Int)]), Int.toNat_natCast]
      exact or_wo (fun h => hx.1 ((bsO_tb h1.1 i).1 h))
    have hbd := ovF_bd hd h1
    have hnv : nev = 1048576 := rfl
    have he : bgE b l (j : Int) (ovF b l (o' ++ [(j : Int)])) i = 0 := by
      have := hx.2
      rw [stK_last] at this
      exact this
    obtain ⟨hm1, hm2⟩ := bgE_mono ih1 he
    have h3 := fow_foT (b := b) (l := l) (f := fT l xs xs.length) (s := bsO (o' ++ [(j : Int)] ++ [(i : Int)])) (i := i) (z := bgA b l (j : Int) (xs.getD (bsO (o' ++ [(j : Int)]) * l.length + j) 0) i + (l.getD i rn0).mi) (by
      unfold foT
      refine List.mem_append.2 (.inr (List.mem_flatMap.2 ⟨j, List.mem_range.2 hj, ?_⟩))
      unfold fo1
      rw [hw, fT_get hj hkj, if_pos ⟨(bsO_tb h1.1 j).2 (by simp), by omega⟩]
      unfold putL
      rw [if_pos hm1]
      exact List.mem_singleton.2 rfl)
    have h4 := hwr _ _ hb hi hk
    have h5 := ovF_snoc (b := b) (l := l) (o' ++ [(j : Int)]) i
    rw [stK_last] at h5
    omega
/-- it knows of as many runs as can be -/
theorem ct_most {xs : List Int} (hc : chkD a b l = 0) (hl : xs.length = 2 ^ l.length * l.length) (h14 : ¬ bad14 b l xs) : (bsL a b l).length ≤ mostF l xs := by
  obtain ⟨hln, hd⟩ := chkD0.1 hc
  obtain ⟨hv, _, h1⟩ := bsL_ok hc
  obtain ⟨o, i, he⟩ := hv.snoc' (fun e => by rw [e] at h1; simp at h1)
  have hc8 := cnt_bsO hln.2 _ _ rfl hv
  have hle := fun h => ct_le hd hl h14 o.length o i rfl (he ▸ h)
  have hle := hle hv
  have hi := (he ▸ hv : VO b l (o ++ [(i : Int)])).front.2.1
  have hbd := ovF_bd hd hv
  have hk := kyO_lt hv (fun e => by rw [e] at h1; simp at h1)
  rw [he, kyO_of, ← hl] at hk
  rw [he] at hbd hc8
  have hnv : nev = 1048576 := rfl
  obtain ⟨q1, q2, q3⟩ := foldmost (cnX l xs) (fun x => cntN (x / l.length) 8) (List.range xs.length) 0
  have h2 := q2 (bsO (o ++ [(i : Int)]) * l.length + i) (List.mem_range.2 hk) ((cnX_at hi).2 ⟨(bsO_tb (he ▸ hv : VO b l (o ++ [(i : Int)])).1 i).2 (by simp), by omega⟩)
  have e2 : cntN ((bsO (o ++ [(i : Int)]) * l.length + i) / l.length) 8 = (bsL a b l).length := by rw [(at_dm hi).1, hc8, he]
  have hm : mostF l xs = (List.range xs.length).foldl (fun g x => if cnX l xs x then max g ((fun x => cntN (x / l.length) 8) x) else g) 0 := rfl
  rw [← hm] at h2
  have h3 : cntN ((bsO (o ++ [(i : Int)]) * l.length + i) / l.length) 8 ≤ mostF l xs := h2
  omega
/-- the right table -/
theorem tb_good (hc : chkD a b l = 0) : ctE b l (TbL a b l) a = 0 ∧ mostF l (TbL a b l) = (bsL a b l).length := by
  obtain ⟨hln, hd⟩ := chkD0.1 hc
  have hl := TbL_len hc
  have hnv : nev = 1048576 := rfl
  have h0 : 0 < l.length := by omega
  have hT : TbL a b l = tbT l (tabM b l (2 ^ l.length)) (2 ^ l.length * l.length) := by unfold TbL; rw [if_neg (by omega)]
  have hget : ∀ s i, s < 2 ^ l.length → i < l.length → s * l.length + i < (TbL a b l).length → (TbL a b l).getD (s * l.length + i) 0 = atM (tabM b l (2 ^ l.length)) (s, i) := fun s i hs hi hx => by
    rw [hl] at hx
    rw [hT]
    unfold tbT
    rw [List.getD_eq_getElem?_getD, List.getElem?_map, List.getElem?_range hx]
    show atM (tabM b l (2 ^ l.length)) ((s * l.length + i) / l.length, (s * l.length + i) % l.length) = _
    rw [(at_dm hi).1, (at_dm hi).2]
  have hsi : ∀ x, x < (TbL a b l).length → ∃ s i, s < 2 ^ l.length ∧ i < l.length ∧ x = s * l.length + i := fun x hx => by
    rw [hl] at hx
    exact ⟨x / l.length, x % l.length, Nat.div_lt_of_lt_mul (by rw [Nat.mul_comm]; exact hx), Nat.mod_lt _ h0, by rw [Nat.mul_comm]; exact (Nat.div_add_mod x l.length).symm⟩
  have hfT : ∀ s i, s < 2 ^ l.length → i < l.length → atM (fT l (TbL a b l) (TbL a b l).length) (s, i) = atM (tabM b l (2 ^ l.length)) (s, i) := fun s i hs hi => by
    have hx : s * l.length + i < (TbL a b l).length := by
      have : (s + 1) * l.length ≤ 2 ^ l.length * l.length := Nat.mul_le_mul_right _ hs
      rw [Nat.add_mul] at this
      omega
    rw [fT_get hi hx, hget s i hs hi hx]
  have hfow : ∀ s i, s < 2 ^ l.length → hasB s i → fow b l (fT l (TbL a b l) (TbL a b l).length) s i = fow b l (tabM b l (2 ^ l.length)) s i := fun s i hs hb => by
    have hw := wo_less hb
    have h9 : (List.range l.length).flatMap (fo1 b l (fT l (TbL a b l) (TbL a b l).length) s i) = (List.range l.length).flatMap (fo1 b l (tabM b l (2 ^ l.length)) s i) := flatMap_eq fun j hj => by
      have hj := List.mem_range.1 hj
      unfold fo1
      rw [hfT (wo s i) j (by omega) hj]
    unfold fow foT
    rw [h9]
  have h3 : ¬ bad3 (TbL a b l) := by
    rintro ⟨z, hz, hw⟩
    obtain ⟨x, hx, rfl⟩ := List.getElem_of_mem hz
    have e : (TbL a b l)[x] = (TbL a b l).getD x 0 := by rw [List.getD_eq_getElem?_getD, List.getElem?_eq_getElem hx]; rfl
    rw [e] at hw
    obtain ⟨s, i, hs, hi, rfl⟩ := hsi x hx
    rw [hget s i hs hi hx] at hw
    have h4 := tabM_nn hd (2 ^ l.length) (s, i)
    have h5 : atM (tabM b l (2 ^ l.length)) (s, i) ≤ nev := by rw [atM_tab hs hi]; split <;> omega
    omega
  have h14 : ¬ bad14 b l (TbL a b l) := by
    rintro ⟨x, hx, hw⟩
    have hx := List.mem_range.1 hx
    obtain ⟨s, i, hs, hi, rfl⟩ := hsi x hx
    rw [wrX_at hi, hget s i hs hi hx, atM_tab hs hi] at hw
    rcases hw with ⟨h1, h2⟩ | ⟨h1, h2⟩
    · rw [if_neg h1] at h2; exact h2 rfl
    rw [if_pos h1, hfow s i hs h1] at h2; omega
  refine ⟨ctE_0 (by omega) hl h3 h14, ?_⟩
  refine Nat.le_antisymm ?_ (ct_most hc hl h14)
  obtain ⟨q1, q2, q3⟩ := foldmost (cnX l (TbL a b l)) (fun x => cntN (x / l.length) 8) (List.range (TbL a b l).length) 0
  have hm : mostF l (TbL a b l) = (List.range (TbL a b l).length).foldl (fun g x => if cnX l (TbL a b l) x then max g ((fun x => cntN (x / l.length) 8) x) else g) 0 := rfl
  rw [← hm] at q3
  rcases q3 with h | ⟨x, hx, hcn, h⟩
  · omega
  have hx := List.mem_range.1 hx
  obtain ⟨s, i, hs, hi, rfl⟩ := hsi x hx
  have hcn := (cnX_at hi).1 hcn
  rw [hget s i hs hi hx] at hcn
  obtain ⟨o, hv, hso, _⟩ := tab_ex rfl s hs i hi hcn.2
  have h5 : mostF l (TbL a b l) = cntN s 8 := by rw [h]; show cntN ((s * l.length + i) / l.length) 8 = _; rw [(at_dm hi).1]
  have h6 := cnt_bsO hln.2 _ _ rfl hv
  rw [hso] at h6
  have h7 := (bsL_ok hc).2.1 _ hv
  omega
end
end Go.Proofs.Ytkonhpcldomidaa
