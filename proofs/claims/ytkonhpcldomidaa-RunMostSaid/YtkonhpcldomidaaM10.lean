/-
  What is proved here: is a run in a set, and plain: a table is checked entry by entry. Conditions: none; each contract states its own.
  What is proved here: the reference checks a table. Conditions: none; each contract states its own.
-/
import Derived.Test.YtkonhpcldomidaaM7
set_option linter.unusedVariables false
set_option linter.unusedSimpArgs false
namespace Go.Proofs.Ytkonhpcldomidaa
open Go Go.TH
attribute [local irreducible] W WO pt
set_option maxRecDepth 10000
set_option maxHeartbeats 1000000
theorem ref_in (w : World) (s i : Nat) (hi : i ≤ 64) : Ret Try.prog 55 [.int .i64 (s : Int), .int .i64 (i : Int)].toArray w (.bool (bl (hasB s i))) := by
  refine Ret.of mixed tyTab Try.func55 rfl rfl ?_
  refine W.sreg ?_
  refine WO.p rfl rfl ?_
  refine WO.nil ?_
  refine W.sreg ?_
  refine WO.p rfl rfl (WO.p rfl rfl ?_)
  refine WO.shrN (a := s) (s := i) rfl rfl (by show i ≤ 64; omega) rfl ?_
  refine WO.rem (b := 2) rfl rfl (by decide) rfl ?_
  rw [show ((s >>> i : Nat) : Int).tmod 2 = ((s >>> i % 2 : Nat) : Int) from (Int.ofNat_tmod _ _).symm]
  refine WO.p rfl rfl (WO.p rfl rfl ?_)
  refine WO.nil ?_
  refine W.ret ?_
  refine fin.ret (Res.one rfl (RV.tmp rfl)) (congrArg Value.bool (bl_cg ?_))
  unfold hasB
  rw [Nat.and_one_is_mod]
  omega
theorem cntN_succ (s k : Nat) : cntN s (k + 1) = cntN s k + if hasB s k then 1 else 0 := by
  unfold cntN
  rw [List.range_succ, List.filter_append, List.length_append]
  by_cases h : hasB s k
  · rw [if_pos h]; simp [h]
  rw [if_neg h]; simp [h]
theorem cntN_le (s : Nat) : ∀ k, cntN s k ≤ k
  | 0 => by simp [cntN]
  | k + 1 => by
    rw [cntN_succ]
    have := cntN_le s k
    split <;> omega
theorem hasB_lt {s n k : Nat} (hs : s < 2 ^ n) (h : hasB s k) : k < n := by
  rcases Nat.lt_or_ge k n with g | g
  · exact g
  have h1 := hasB_tb.1 h
  rw [Nat.testBit_lt_two_pow (Nat.lt_of_lt_of_le hs (Nat.pow_le_pow_right (by omega) g))] at h1
  cases h1
theorem cntN_8 {s n : Nat} (hs : s < 2 ^ n) : ∀ {k : Nat}, n ≤ k → cntN s k = cntN s n
  | 0, h => by rw [show n = 0 by omega]
  | k + 1, h => by
    rcases Nat.lt_or_ge k n with g | g
    · rw [show n = k + 1 by omega]
    rw [cntN_succ, if_neg (fun q => by have := hasB_lt hs q; omega), Nat.add_zero]
    exact cntN_8 hs g
/-- one run alone -/
theorem cnt_1 {s n i : Nat} (hs : s < 2 ^ n) (hb : hasB s i) : cntN s n = 1 ↔ wo s i = 0 := by
  have hm : ∀ j, j ∈ (List.range n).filter (fun i => decide (hasB s i)) ↔ hasB s j := fun j => by
    rw [List.mem_filter, List.mem_range, decide_eq_true_eq]
    exact ⟨fun h => h.2, fun h => ⟨hasB_lt hs h, h⟩⟩
  have hn : ((List.range n).filter (fun i => decide (hasB s i))).Nodup := List.nodup_range.filter _
  unfold cntN
  generalize (List.range n).filter (fun i => decide (hasB s i)) = L at hm hn
  constructor
  · intro h
    match L, h, hm with
    | [a], _, hm =>
      have ha : i = a := List.mem_singleton.1 ((hm i).2 hb)
      refine Nat.eq_of_testBit_eq fun j => ?_
      rw [wo_tb, Nat.zero_testBit]
      by_cases e : i = j
      · simp [e]
      cases hq : s.testBit j with
      | false => rfl
      | true => exact absurd (ha.trans (List.mem_singleton.1 ((hm j).2 (hasB_tb.2 hq))).symm) e
  intro h
  have hall : ∀ j ∈ L, j = i := fun j hj => by
    have h1 := hasB_tb.1 ((hm j).1 hj)
    rcases Nat.decEq i j with e | e
    · have h2 := wo_tb s i j
      rw [h, h1, Nat.zero_testBit] at h2
      simp [e] at h2
    exact e.symm
  have hi := (hm i).2 hb
  match L, hi, hall, hn with
  | [], h, _, _ => simp at h
  | [a], _, _, _ => rfl
  | a :: c :: r, _, hall, hn =>
    have h1 := hall a (by simp)
    have h2 := hall c (by simp)
    rw [List.nodup_cons] at hn
    exact absurd (by rw [h1, h2]; simp) hn.1
theorem foldmin_le {v : Int} {xs : List Int} {g : Int} (h : v ≤ g) (hx : ∀ x ∈ xs, v ≤ x) : v ≤ xs.foldl min g := by
  rcases (foldmin_mem xs g).2.2 with q | q
  · omega
  exact hx _ q
section
variable (b : Int) (l : List Rn) (xs : List Int)
/-- all entries of a part keep the law -/
def okC (c : Nat) : Prop := ∀ x, x < c → ¬ wrX b l xs x
def mostC (c : Nat) : Nat := (List.range c).foldl (fun g x => if cnX l xs x then max g (cntN (x / l.length) 8) else g) 0
end
section
variable {b : Int} {l : List Rn} {xs : List Int}
theorem okC_0 : okC b l xs 0 := fun x h => by omega
theorem okC_succ {c : Nat} (h : okC b l xs c) (h2 : ¬ wrX b l xs c) : okC b l xs (c + 1) := fun x hx => by
  rcases Nat.lt_or_ge x c with g | g
  · exact h x g
  rw [show x = c by omega]; exact h2
theorem mostC_yes {c : Nat} (h : cnX l xs c) : mostC l xs (c + 1) = max (mostC l xs c) (cntN (c / l.length) 8) := by
  unfold mostC; rw [List.range_succ, List.foldl_append]; exact if_pos h
theorem mostC_no {c : Nat} (h : ¬ cnX l xs c) : mostC l xs (c + 1) = mostC l xs c := by
  unfold mostC; rw [List.range_succ, List.foldl_append]; exact if_neg h
theorem mostC_bd : ∀ c, mostC l xs c ≤ 8
  | 0 => by simp [mostC]
  | c + 1 => by
    have ih := mostC_bd c
    have h8 := cntN_le (c / l.length) 8
    by_cases h : cnX l xs c
    · rw [mostC_yes h]; omega
    rw [mostC_no h]; exact ih
theorem okC_14 (h : okC b l xs xs.length) : ¬ bad14 b l xs := by
  rintro ⟨x, hx, hw⟩
  exact h x (List.mem_range.1 hx) hw
theorem wrX_at {s i : Nat} (hi : i < l.length) : wrX b l xs (s * l.length + i) ↔ wrK b l (fT l xs xs.length) s i (xs.getD (s * l.length + i) 0) := by
  unfold wrX; rw [(at_dm hi).1, (at_dm hi).2]
theorem cnX_at {s i : Nat} (hi : i < l.length) : cnX l xs (s * l.length + i) ↔ hasB s i ∧ xs.getD (s * l.length + i) 0 < nev := by
  unfold cnX; rw [(at_dm hi).1, (at_dm hi).2]
theorem wrX_14 {s i : Nat} (hi : i < l.length) (hx : s * l.length + i < xs.length) (h : wrK b l (fT l xs xs.length) s i (xs.getD (s * l.length + i) 0)) : bad14 b l xs :=
  ⟨s * l.length + i, List.mem_range.2 hx, (wrX_at hi).2 h⟩
theorem fT_get {s i : Nat} (hi : i < l.length) (hx : s * l.length + i < xs.length) : atM (fT l xs xs.length) (s, i) = xs.getD (s * l.length + i) 0 := by
  unfold atM fT
  rw [if_pos ⟨hi, hx⟩]; rfl
/-- the runs before it that are tried -/
def jI (b : Int) (l : List Rn) (xs : List Int) (s i j : Nat) (v : Int) : Prop := (∀ z ∈ foA b l s i, v ≤ z) ∧ ∀ k, k < j → ∀ z ∈ fo1 b l (fT l xs xs.length) s i k, v ≤ z
theorem jI_0 {a : Int} (hd : OkD a b l) {s i : Nat} {v : Int} (hs : s < 2 ^ l.length) (hi : i < l.length) (hb : hasB s i) (h : ¬ (cntN s l.length = 1 ∧ (l.getD i rn0).fr + (l.getD i rn0).mi < v)) : jI b l xs s i 0 v := by
  refine ⟨fun z hz => ?_, fun k hk => by omega⟩
  unfold foA at hz
  split at hz
  · rename_i h0
    have h1 := (cnt_1 hs hb).2 h0
    unfold putL at hz
    split at hz
    · rw [List.mem_singleton.1 hz, bgA_n (by omega)]; omega
    simp at hz
  simp at hz
theorem jA_14 {a : Int} (hd : OkD a b l) {s i : Nat} (hs : s < 2 ^ l.length) (hi : i < l.length) (hb : hasB s i) (hx : s * l.length + i < xs.length) (h : cntN s l.length = 1 ∧ (l.getD i rn0).fr + (l.getD i rn0).mi < xs.getD (s * l.length + i) 0) : bad14 b l xs := by
  refine wrX_14 hi hx (.inr ⟨hb, ?_⟩)
  have h1 := (cnt_1 hs hb).1 h.1
  have hr := hd.at_ hi
  unfold OkR at hr
  have he : bgE b l (-1) 0 i = 0 := by
    unfold bgE
    rw [if_neg (by omega), bgA_n (by omega), if_neg (by omega)]
  have h2 := (foldmin_mem (foT b l (fT l xs xs.length) s i l.length) nev).2.1 ((l.getD i rn0).fr + (l.getD i rn0).mi) (by
    unfold foT foA
    refine List.mem_append.2 (.inl ?_)
    rw [if_pos h1]
    unfold putL
    rw [if_pos he, bgA_n (by omega)]
    exact List.mem_singleton.2 rfl)
  have h3 : fow b l (fT l xs xs.length) s i = (foT b l (fT l xs xs.length) s i l.length).foldl min nev := rfl
  omega
theorem jI_end {s i : Nat} (hi : i < l.length) (hb : hasB s i) (h : jI b l xs s i l.length (xs.getD (s * l.length + i) 0)) (hn : xs.getD (s * l.length + i) 0 ≤ nev) : ¬ wrX b l xs (s * l.length + i) := by
  rw [wrX_at hi]
  have h1 : xs.getD (s * l.length + i) 0 ≤ fow b l (fT l xs xs.length) s i := by
    unfold fow
    refine foldmin_le hn fun z hz => ?_
    unfold foT at hz
    rcases List.mem_append.1 hz with q | q
    · exact h.1 z q
    obtain ⟨k, hk, q⟩ := List.mem_flatMap.1 q
    exact h.2 k (List.mem_range.1 hk) z q
  rintro (⟨h2, _⟩ | ⟨_, h2⟩)
  · exact h2 hb
  omega
theorem wo_has {s i j : Nat} : hasB (wo s i) j ↔ i ≠ j ∧ hasB s j := by
  rw [hasB_tb, hasB_tb, wo_tb]
  cases s.testBit j <;> simp
theorem jI_succ {s i j : Nat} {v : Int} (h : jI b l xs s i j v) (h2 : ∀ z ∈ fo1 b l (fT l xs xs.length) s i j, v ≤ z) : jI b l xs s i (j + 1) v := ⟨h.1, fun k hk => by
  rcases Nat.lt_or_ge k j with g | g
  · exact h.2 k g
  rw [show k = j by omega]; exact h2⟩
theorem fo1_skip {a : Int} (hd : OkD a b l) {s i j : Nat} (hj : j < l.length) (hx : wo s i * l.length + j < xs.length) (h : j = i ∨ ¬ hasB s j ∨ xs.getD (wo s i * l.length + j) 0 = nev ∨ wOf b l j i < 0) : fo1 b l (fT l xs xs.length) s i j = [] := by
  unfold fo1
  rw [fT_get hj hx]
  split
  · rename_i q
    have q1 := wo_has.1 q.1
    have hw := hd.w hj i
    unfold putL
    refine if_neg fun he => ?_
    unfold bgE at he
    rcases h with h | h | h | h
    · exact q1.1 h.symm
    · exact h q1.2
    · omega
    rw [if_pos ⟨by omega, by rw [Int.toNat_natCast]; omega⟩] at he; omega
  rfl
theorem fo1_at {a : Int} (hd : OkD a b l) {s i j : Nat} (hj : j < l.length) (hx : wo s i * l.length + j < xs.length) (hn : xs.getD (wo s i * l.length + j) 0 ≤ nev) (h : ¬ (j = i ∨ ¬ hasB s j ∨ xs.getD (wo s i * l.length + j) 0 = nev ∨ wOf b l j i < 0)) : fo1 b l (fT l xs xs.length) s i j = if max (l.getD i rn0).fr (xs.getD (wo s i * l.length + j) 0 + wOf b l j i) ≤ (l.getD i rn0).un then [max (l.getD i rn0).fr (xs.getD (wo s i * l.length + j) 0 + wOf b l j i) + (l.getD i rn0).mi] else [] := by
  have hh : hasB s j := Decidable.not_not.1 fun q => h (.inr (.inl q))
  unfold fo1
  rw [fT_get hj hx, if_pos ⟨wo_has.2 ⟨fun e => h (.inl e.symm), hh⟩, by omega⟩]
  unfold putL
  have e1 : bgE b l (j : Int) (xs.getD (wo s i * l.length + j) 0) i = 0 ↔ max (l.getD i rn0).fr (xs.getD (wo s i * l.length + j) 0 + wOf b l j i) ≤ (l.getD i rn0).un := by
    unfold bgE
    rw [if_neg (fun q => by rw [Int.toNat_natCast] at q; omega), bgA_i]
    split <;> omega
  rw [bgA_i]
  by_cases q : max (l.getD i rn0).fr (xs.getD (wo s i * l.length + j) 0 + wOf b l j i) ≤ (l.getD i rn0).un
  · rw [if_pos q, if_pos (e1.2 q)]
  rw [if_neg q, if_neg (fun z => q (e1.1 z))]
theorem fo1_14 {s i j : Nat} {z : Int} (hi : i < l.length) (hj : j < l.length) (hb : hasB s i) (hx : s * l.length + i < xs.length) (hz : z ∈ fo1 b l (fT l xs xs.length) s i j) (h : z < xs.getD (s * l.length + i) 0) : bad14 b l xs := by
  refine wrX_14 hi hx (.inr ⟨hb, ?_⟩)
  have h2 := (foldmin_mem (foT b l (fT l xs xs.length) s i l.length) nev).2.1 z (by
    unfold foT
    exact List.mem_append.2 (.inr (List.mem_flatMap.2 ⟨j, List.mem_range.2 hj, hz⟩)))
  have h3 : fow b l (fT l xs xs.length) s i = (foT b l (fT l xs xs.length) s i l.length).foldl min nev := rfl
  omega
end
end Go.Proofs.Ytkonhpcldomidaa
namespace Go.Proofs.Ytkonhpcldomidaa
open Go Go.TH
attribute [local irreducible] W WO pt
set_option maxRecDepth 10000
set_option maxHeartbeats 1000000
theorem bad3_of {xs : List Int} {x : Nat} (hx : x < xs.length) (h : ¬ (0 ≤ xs.getD x 0 ∧ xs.getD x 0 ≤ nev)) : bad3 xs := ⟨_, getD_mem hx 0, by omega⟩
theorem not3_of {xs : List Int} {c : Nat} (hc : xs.length ≤ c) (h : ∀ x, x < c → x < xs.length → 0 ≤ xs.getD x 0 ∧ xs.getD x 0 ≤ nev) : ¬ bad3 xs := by
  rintro ⟨z, hz, hw⟩
  obtain ⟨x, hx, rfl⟩ := List.getElem_of_mem hz
  have h1 := h x (by omega) hx
  rw [List.getD_eq_getElem?_getD, List.getElem?_eq_getElem hx, Option.getD_some] at h1
  omega
theorem nw_out {b : Int} {l : List Rn} {xs : List Int} {s i : Nat} (hi : i < l.length) (hb : ¬ hasB s i) (h : xs.getD (s * l.length + i) 0 = nev) : ¬ wrX b l xs (s * l.length + i) := by
  rw [wrX_at hi]
  rintro (⟨_, q⟩ | ⟨q, _⟩)
  · exact q h
  exact hb q
theorem mo_out {l : List Rn} {xs : List Int} {s i g : Nat} (hi : i < l.length) (hg : g = mostC l xs (s * l.length + i)) (hb : ¬ hasB s i) : g = mostC l xs (s * l.length + (i + 1)) := by
  rw [hg]
  exact (mostC_no (fun h => hb ((cnX_at hi).1 h).1)).symm
theorem mo_in {l : List Rn} {xs : List Int} {s i g g3 : Nat} (hi : i < l.length) (h8 : cntN s 8 = cntN s l.length) (hg : g = mostC l xs (s * l.length + i)) (hb : hasB s i) (h3 : (g3 = max g (cntN s l.length) ∧ xs.getD (s * l.length + i) 0 < nev) ∨ (g3 = g ∧ ¬ xs.getD (s * l.length + i) 0 < nev)) : g3 = mostC l xs (s * l.length + (i + 1)) := by
  show g3 = mostC l xs (s * l.length + i + 1)
  rcases h3 with ⟨e, q⟩ | ⟨e, q⟩
  · rw [mostC_yes ((cnX_at hi).2 ⟨hb, q⟩), (at_dm hi).1, h8, e, hg]
  rw [mostC_no (fun h => q ((cnX_at hi).1 h).2), e, hg]
section
variable {a b : Int} {l : List Rn} {xs : List Int} {s i j : Nat} {p t : Int}
theorem jz1 (hd : OkD a b l) (hj : j < l.length) (hx : wo s i * l.length + j < xs.length) (hp : p = xs.getD (wo s i * l.length + j) 0) (h : j = i ∨ p = nev ∨ wOf b l j i < 0) : ∀ z ∈ fo1 b l (fT l xs xs.length) s i j, t ≤ z := by
  intro z hz
  rw [fo1_skip hd hj hx (by rw [← hp]; rcases h with h | h | h; exact .inl h; exact .inr (.inr (.inl h)); exact .inr (.inr (.inr h)))] at hz
  exact absurd hz List.not_mem_nil
theorem jz2 (hj : j < l.length) (hx : wo s i * l.length + j < xs.length) (hp : p = xs.getD (wo s i * l.length + j) 0) (h : ¬ hasB s j) : ∀ z ∈ fo1 b l (fT l xs xs.length) s i j, t ≤ z := by
  intro z hz
  unfold fo1 at hz
  rw [if_neg (fun q => h (wo_has.1 q.1).2)] at hz
  exact absurd hz List.not_mem_nil
theorem jsk (hp : p = xs.getD (wo s i * l.length + j) 0) (h1 : ¬ j = i) (h2 : hasB s j) (h3 : ¬ p = nev) (h4 : ¬ wOf b l j i < 0) : ¬ (j = i ∨ ¬ hasB s j ∨ xs.getD (wo s i * l.length + j) 0 = nev ∨ wOf b l j i < 0) := by
  rw [← hp]
  rintro (q | q | q | q)
  · exact h1 q
  · exact q h2
  · exact h3 q
  exact h4 q
theorem jz3 (hd : OkD a b l) (hj : j < l.length) (hx : wo s i * l.length + j < xs.length) (hp : p = xs.getD (wo s i * l.length + j) 0) (hn : p ≤ nev) (h1 : ¬ j = i) (h2 : hasB s j) (h3 : ¬ p = nev) (h4 : ¬ wOf b l j i < 0) (h : ¬ (max (l.getD i rn0).fr (p + wOf b l j i) ≤ (l.getD i rn0).un ∧ max (l.getD i rn0).fr (p + wOf b l j i) + (l.getD i rn0).mi < t)) : ∀ z ∈ fo1 b l (fT l xs xs.length) s i j, t ≤ z := by
  intro z hz
  rw [fo1_at hd hj hx (by omega) (jsk hp h1 h2 h3 h4), ← hp] at hz
  by_cases qq : max (l.getD i rn0).fr (p + wOf b l j i) ≤ (l.getD i rn0).un
  · rw [if_pos qq] at hz
    have e := List.mem_singleton.1 hz
    omega
  rw [if_neg qq] at hz
  exact absurd hz List.not_mem_nil
theorem j14 (hd : OkD a b l) (hi : i < l.length) (hj : j < l.length) (hb : hasB s i) (hx : wo s i * l.length + j < xs.length) (hix : s * l.length + i < xs.length) (hp : p = xs.getD (wo s i * l.length + j) 0) (ht : t = xs.getD (s * l.length + i) 0) (hn : p ≤ nev) (h1 : ¬ j = i) (h2 : hasB s j) (h3 : ¬ p = nev) (h4 : ¬ wOf b l j i < 0) (h5 : max (l.getD i rn0).fr (p + wOf b l j i) ≤ (l.getD i rn0).un) (h6 : max (l.getD i rn0).fr (p + wOf b l j i) + (l.getD i rn0).mi < t) : bad14 b l xs :=
  fo1_14 (z := max (l.getD i rn0).fr (p + wOf b l j i) + (l.getD i rn0).mi) hi hj hb hix (by rw [fo1_at hd hj hx (by omega) (jsk hp h1 h2 h3 h4), ← hp, if_pos h5]; exact List.mem_singleton.2 rfl) (by omega)
end
theorem ref_CheckTable (w : World) (v u : Value) (a b : Int) (l : List Rn) (xs : List Int) (hR : RdF encR 6 w.heap.size w v l) (hX : RdF encI 1 w.heap.size w u xs) : Ret Try.prog 25 [dayV a b v, u].toArray w (ctV b l xs a) := by
  refine Ret.of mixed tyTab Try.func25 rfl rfl ?_
  replace hR : RdF encR 6 (fnCx mixed tyTab Try.f25.ntmps w).B (fnCx mixed tyTab Try.f25.ntmps w).w0 v l := hR
  replace hX : RdF encI 1 (fnCx mixed tyTab Try.f25.ntmps w).B (fnCx mixed tyTab Try.f25.ntmps w).w0 u xs := hX
  have ho := hR.sl.oc
  have hxle := hX.sl.le
  have hnv : nev = 1048576 := rfl
  refine W.sreg ?_
  refine WO.boxA rfl rfl (fun b1 hb1 => ?_)
  refine WO.p rfl rfl (WO.p rfl rfl ?_)
  refine WO.nil ?_
  refine W.seq ?_
  refine W.sreg ?_
  refine WO.loadA rfl rfl (Cells.own Pick.head) rfl rfl ?_
  refine WO.callR rfl Try.call35 (fun L w hi => ref_CheckDay w v a b l (hR.later hi)) rfl ?_
  refine WO.p rfl rfl ?_
  refine WO.nil ?_
  refine W.cond_bl rfl (fun c1 => ?_) (fun c1 => ?_)
  · first
    | (exfalso; omega)
    | (refine W.sreg ?_
       refine WO.loadA rfl rfl (Cells.own Pick.head) rfl rfl ?_
       refine WO.callR rfl Try.call35 (fun L w hi => ref_CheckDay w v a b l (hR.later hi)) rfl ?_
       refine WO.p rfl rfl (WO.p rfl rfl ?_)
       refine WO.nil ?_
       refine W.ret ?_
       first | (rw [ctV_bad (ctE_1 (by assumption)) (by assumption)]; exact fin.ret (Res.two rfl (RV.tmp rfl) (RV.tmp rfl)) rfl) | (rw [ctV_bad (ctE_15 (by omega) (by omega)) (by decide)]; exact fin.ret (Res.two rfl (RV.tmp rfl) (RV.tmp rfl)) rfl) | (rw [ctV_bad (ctE_3 (by omega) hxl (bad3_of (x := c) (by omega) (by omega))) (by decide)]; exact fin.ret (Res.two rfl (RV.tmp rfl) (RV.tmp rfl)) rfl) | (rw [ctV_bad (ctE_14 (by omega) hxl hn3 (wrX_14 hil hix (by rw [← ht]; exact .inl ⟨by assumption, by omega⟩))) (by decide)]; exact fin.ret (Res.two rfl (RV.tmp rfl) (RV.tmp rfl)) rfl) | (rw [ctV_bad (ctE_14 (by omega) hxl hn3 (jA_14 hd hs2 hil hb hix (by rw [← ht]; omega))) (by decide)]; exact fin.ret (Res.two rfl (RV.tmp rfl) (RV.tmp rfl)) rfl) | (rw [ctV_bad (ctE_14 (by omega) hxl hn3 (j14 hd hil hjl hb hjx hix hp ht hpb.2 (by omega) (by assumption) (by omega) (by omega) (by omega) (by omega))) (by decide)]; exact fin.ret (Res.two rfl (RV.tmp rfl) (RV.tmp rfl)) rfl) | (have e1 : xs.length = s * l.length := (by rw [show s = N by omega]; rw [hN]; exact hxl); have e0 : ctE b l xs a = 0 := ctE_0 (by omega) hxl hn3 (okC_14 (by rw [e1]; exact hok)); unfold ctV ctM; rw [e0, if_pos rfl, show mostF l xs = g by rw [hg, ← e1]; rfl]; exact fin.ret (Res.two rfl (RV.tmp rfl) (RV.tmp rfl)) rfl))
  first
  | (exfalso; omega)
  | (refine W.skip ?_
     have hc : chkD a b l = 0 := by omega
     obtain ⟨hln, hd⟩ := chkD0.1 hc
     have hsh := shl8 hln.2
     have hn0 : 0 < l.length := by omega
     have hcb : 2 ^ l.length * l.length ≤ 256 * 8 := Nat.mul_le_mul hsh.2 hln.2
     refine W.sreg ?_
     refine WO.fieldL rfl rfl rfl (WO.load rfl rfl (Cell.own Pick.head rfl) rfl ?_)
     refine' WO.len (n := _) rfl rfl ?hs rfl ?_
     case hs => (first | exact hR.sl)
     refine WO.p rfl rfl ?_
     refine WO.nil ?_
     refine W.seq ?_
     refine W.sreg ?_
     refine WO.p rfl rfl ?_
     refine' WO.len (n := _) rfl rfl ?hs rfl ?_
     case hs => (first | exact hX.sl)
     refine WO.p rfl rfl (WO.p rfl rfl ?_)
     refine WO.shlN (a := l.length) (s := l.length) rfl rfl (by show l.length ≤ 64; omega) (fit (by rw [Nat.shiftLeft_eq, Nat.mul_comm]; omega)) rfl ?_
     rw [show l.length <<< l.length = 2 ^ l.length * l.length by rw [Nat.shiftLeft_eq, Nat.mul_comm]]
     refine WO.p rfl rfl ?_
     refine WO.nil ?_
     refine W.cond_bl rfl (fun c2 => ?_) (fun c2 => ?_)
     · first
       | (exfalso; omega)
       | (refine W.sreg ?_
          refine WO.p rfl rfl (WO.p rfl rfl ?_)
          refine WO.nil ?_
          refine W.ret ?_
          first | (rw [ctV_bad (ctE_1 (by assumption)) (by assumption)]; exact fin.ret (Res.two rfl (RV.tmp rfl) (RV.tmp rfl)) rfl) | (rw [ctV_bad (ctE_15 (by omega) (by omega)) (by decide)]; exact fin.ret (Res.two rfl (RV.tmp rfl) (RV.tmp rfl)) rfl) | (rw [ctV_bad (ctE_3 (by omega) hxl (bad3_of (x := c) (by omega) (by omega))) (by decide)]; exact fin.ret (Res.two rfl (RV.tmp rfl) (RV.tmp rfl)) rfl) | (rw [ctV_bad (ctE_14 (by omega) hxl hn3 (wrX_14 hil hix (by rw [← ht]; exact .inl ⟨by assumption, by omega⟩))) (by decide)]; exact fin.ret (Res.two rfl (RV.tmp rfl) (RV.tmp rfl)) rfl) | (rw [ctV_bad (ctE_14 (by omega) hxl hn3 (jA_14 hd hs2 hil hb hix (by rw [← ht]; omega))) (by decide)]; exact fin.ret (Res.two rfl (RV.tmp rfl) (RV.tmp rfl)) rfl) | (rw [ctV_bad (ctE_14 (by omega) hxl hn3 (j14 hd hil hjl hb hjx hix hp ht hpb.2 (by omega) (by assumption) (by omega) (by omega) (by omega) (by omega))) (by decide)]; exact fin.ret (Res.two rfl (RV.tmp rfl) (RV.tmp rfl)) rfl) | (have e1 : xs.length = s * l.length := (by rw [show s = N by omega]; rw [hN]; exact hxl); have e0 : ctE b l xs a = 0 := ctE_0 (by omega) hxl hn3 (okC_14 (by rw [e1]; exact hok)); unfold ctV ctM; rw [e0, if_pos rfl, show mostF l xs = g by rw [hg, ← e1]; rfl]; exact fin.ret (Res.two rfl (RV.tmp rfl) (RV.tmp rfl)) rfl))
     first
     | (exfalso; omega)
     | (refine W.skip ?_
        refine W.seq ?_
        have hxl : xs.length = 2 ^ l.length * l.length := by omega
        obtain ⟨N, hN⟩ : ∃ N, N = 2 ^ l.length := ⟨_, rfl⟩
        refine W.sreg ?_
        refine WO.p rfl rfl ?_
        refine WO.nil ?_
        refine W.block ?_
        refine W.loop (fun (c : Nat) => c ≤ xs.length ∧ ∀ x, x < c → x < xs.length → 0 ≤ xs.getD x 0 ∧ xs.getD x 0 ≤ nev)
          (fun (c : Nat) => [(1, u), (2, .pointer (some ⟨b1, 0, none⟩)), (6, .int .i64 (l.length : Int)), (7, .int .i64 (c : Int))])
          (fun (c : Nat) => [pt b1 (.cells #[.int .i64 a, .int .i64 b, v] 26 (0, 0))])
          (fun (c : Nat) => xs.length - c) 0
          (by exact ⟨by omega, fun x h => by omega⟩) ⟨rfl, rfl, rfl, rfl, trivial⟩ (by repeat (first | exact Sub.nil | refine Sub.cons (by repeat (first | exact Pick.head | apply Pick.tail)) ?_)) ?_
        rintro c ⟨hcx, hcs⟩
        refine W.seq ?_
        refine W.sreg ?_
        refine WO.p rfl rfl (WO.p rfl rfl ?_)
        refine' WO.len (n := _) rfl rfl ?hs rfl ?_
        case hs => (first | exact hX.sl)
        refine WO.p rfl rfl ?_
        refine WO.nil ?_
        refine W.cond_bl rfl (fun c3 => ?_) (fun c3 => ?_)
        · first
          | (exfalso; omega)
          | (refine W.skip ?_
             refine W.seq ?_
             refine W.block ?_
             refine W.sreg ?_
             refine WO.p rfl rfl (WO.p rfl rfl ?_)
             refine' WO.indexAddr (n := _) (i := _) rfl rfl rfl ?hs ?h1 rfl ?_
             case hs => (first | exact hX.sl)
             case h1 => (first | omega | (simp; omega))
             refine' WO.load (v := _) rfl rfl ?hc rfl ?_
             case hc => (first | (refine hX.cell0 (i := c) (by omega) 0 ?_; rfl))
             refine WO.callR rfl Try.call43 (fun L w hi => ref_between w _ 0 1048576) rfl ?_
             refine WO.p rfl rfl ?_
             refine WO.nil ?_
             refine W.cond_nbl rfl (fun c4 => ?_) (fun c4 => ?_)
             · first
               | (exfalso; omega)
               | (refine W.sreg ?_
                  refine WO.p rfl rfl (WO.p rfl rfl ?_)
                  refine WO.nil ?_
                  refine W.ret ?_
                  first | (rw [ctV_bad (ctE_1 (by assumption)) (by assumption)]; exact fin.ret (Res.two rfl (RV.tmp rfl) (RV.tmp rfl)) rfl) | (rw [ctV_bad (ctE_15 (by omega) (by omega)) (by decide)]; exact fin.ret (Res.two rfl (RV.tmp rfl) (RV.tmp rfl)) rfl) | (rw [ctV_bad (ctE_3 (by omega) hxl (bad3_of (x := c) (by omega) (by omega))) (by decide)]; exact fin.ret (Res.two rfl (RV.tmp rfl) (RV.tmp rfl)) rfl) | (rw [ctV_bad (ctE_14 (by omega) hxl hn3 (wrX_14 hil hix (by rw [← ht]; exact .inl ⟨by assumption, by omega⟩))) (by decide)]; exact fin.ret (Res.two rfl (RV.tmp rfl) (RV.tmp rfl)) rfl) | (rw [ctV_bad (ctE_14 (by omega) hxl hn3 (jA_14 hd hs2 hil hb hix (by rw [← ht]; omega))) (by decide)]; exact fin.ret (Res.two rfl (RV.tmp rfl) (RV.tmp rfl)) rfl) | (rw [ctV_bad (ctE_14 (by omega) hxl hn3 (j14 hd hil hjl hb hjx hix hp ht hpb.2 (by omega) (by assumption) (by omega) (by omega) (by omega) (by omega))) (by decide)]; exact fin.ret (Res.two rfl (RV.tmp rfl) (RV.tmp rfl)) rfl) | (have e1 : xs.length = s * l.length := (by rw [show s = N by omega]; rw [hN]; exact hxl); have e0 : ctE b l xs a = 0 := ctE_0 (by omega) hxl hn3 (okC_14 (by rw [e1]; exact hok)); unfold ctV ctM; rw [e0, if_pos rfl, show mostF l xs = g by rw [hg, ← e1]; rfl]; exact fin.ret (Res.two rfl (RV.tmp rfl) (RV.tmp rfl)) rfl))
             first
             | (exfalso; omega)
             | (refine W.skip ?_
                refine W.region ?_
                refine WO.p rfl rfl (WO.ar rfl rfl rfl (by (first | (unfold in64; omega) | (unfold in64; omega))) rfl (WO.p rfl rfl ?_))
                refine WO.nil ?_
                refine' ⟨c + 1, ?hp, ?hmu, ⟨rfl, rfl, rfl, rfl, trivial⟩, ?hS⟩
                case hS => repeat (first | exact Sub.nil | refine Sub.cons (by repeat (first | exact Pick.head | apply Pick.tail)) ?_)
                case hp => exact ⟨by omega, fun x h1 h2 => by rcases Nat.lt_or_ge x c with g | g; exact hcs x g h2; rw [show x = c by omega]; rw [hnv]; omega⟩
                case hmu => omega))
        first
        | (exfalso; omega)
        | (refine W.exit (blk_same ?_)
           have hn3 : ¬ bad3 xs := not3_of (by omega) hcs
           clear hcs
           refine W.sreg ?_
           refine WO.p rfl rfl ?_
           refine WO.nil ?_
           refine W.seq ?_
           refine W.sreg ?_
           refine WO.p rfl rfl ?_
           refine WO.nil ?_
           refine W.block ?_
           refine W.loop2 (fun (s : Nat) (g : Nat) => s ≤ N ∧ okC b l xs (s * l.length) ∧ g = mostC l xs (s * l.length))
             (fun (s : Nat) (g : Nat) => [(1, u), (2, .pointer (some ⟨b1, 0, none⟩)), (6, .int .i64 (l.length : Int)), (8, .int .i64 (g : Int)), (9, .int .i64 (s : Int))])
             (fun (s : Nat) (g : Nat) => [pt b1 (.cells #[.int .i64 a, .int .i64 b, v] 26 (0, 0))])
             (fun (s : Nat) (g : Nat) => N - s) 0 0
             (by exact ⟨by omega, by rw [Nat.zero_mul]; exact okC_0, by rw [Nat.zero_mul]; rfl⟩) ⟨rfl, rfl, rfl, rfl, rfl, trivial⟩ (by repeat (first | exact Sub.nil | refine Sub.cons (by repeat (first | exact Pick.head | apply Pick.tail)) ?_)) ?_
           rintro s g ⟨hs, hok, hg⟩
           refine W.seq ?_
           refine W.sreg ?_
           refine WO.p rfl rfl (WO.p rfl rfl ?_)
           refine WO.shlN (a := 1) (s := l.length) rfl rfl (by show l.length ≤ 64; omega) (fit (by omega)) rfl ?_
           rw [hsh.1]
           rw [← hN]
           refine WO.p rfl rfl ?_
           refine WO.nil ?_
           refine W.cond_bl rfl (fun c4 => ?_) (fun c4 => ?_)
           · first
             | (exfalso; omega)
             | (refine W.skip ?_
                refine W.seq ?_
                refine W.block ?_
                have hsN : s < N := by omega
                have hs2 : s < 2 ^ l.length := by omega
                have hs256 : s < 256 := by omega
                have hsl : (s + 1) * l.length ≤ N * l.length := Nat.mul_le_mul_right _ (by omega)
                rw [Nat.add_mul] at hsl
                have hxl2 : xs.length = N * l.length := by rw [hN]; exact hxl
                refine W.sreg ?_
                refine WO.p rfl rfl ?_
                refine WO.nil ?_
                refine W.seq ?_
                refine W.sreg ?_
                refine WO.p rfl rfl ?_
                refine WO.nil ?_
                refine W.block ?_
                refine W.loop (fun (k : Nat) => k ≤ l.length)
                  (fun (k : Nat) => [(1, u), (2, .pointer (some ⟨b1, 0, none⟩)), (6, .int .i64 (l.length : Int)), (8, .int .i64 (g : Int)), (9, .int .i64 (s : Int)), (10, .int .i64 (cntN s k : Int)), (11, .int .i64 (k : Int))])
                  (fun (k : Nat) => [pt b1 (.cells #[.int .i64 a, .int .i64 b, v] 26 (0, 0))])
                  (fun (k : Nat) => l.length - k) 0
                  (by omega) ⟨rfl, rfl, rfl, rfl, rfl, rfl, rfl, trivial⟩ (by repeat (first | exact Sub.nil | refine Sub.cons (by repeat (first | exact Pick.head | apply Pick.tail)) ?_)) ?_
                rintro k hk
                refine W.seq ?_
                refine W.sreg ?_
                refine WO.p rfl rfl (WO.p rfl rfl (WO.p rfl rfl ?_))
                refine WO.nil ?_
                refine W.cond_bl rfl (fun c5 => ?_) (fun c5 => ?_)
                · first
                  | (exfalso; omega)
                  | (refine W.skip ?_
                     refine W.seq ?_
                     refine W.block ?_
                     refine W.sreg ?_
                     refine WO.p rfl rfl (WO.p rfl rfl ?_)
                     refine WO.callR rfl Try.call55 (fun L w hi => ref_in w s k (by omega)) rfl ?_
                     have hck := cntN_le s k
                     refine WO.nil ?_
                     refine W.cond_bl rfl (fun c6 => ?_) (fun c6 => ?_)
                     · first
                       | (exfalso; omega)
                       | (refine W.region ?_
                          refine WO.p rfl rfl (WO.ar rfl rfl rfl (by (first | (unfold in64; omega) | (unfold in64; omega))) rfl (WO.p rfl rfl ?_))
                          refine WO.nil ?_
                          first | rw [show (cntN s k : Int) + 1 = ((cntN s (k + 1) : Nat) : Int) by rw [cntN_succ, if_pos (by assumption)]; rfl] | rw [show cntN s k = cntN s (k + 1) by rw [cntN_succ, if_neg (by assumption), Nat.add_zero]]
                          refine W.region ?_
                          refine WO.p rfl rfl (WO.ar rfl rfl rfl (by (first | (unfold in64; omega) | (unfold in64; omega))) rfl (WO.p rfl rfl ?_))
                          refine WO.nil ?_
                          refine' ⟨k + 1, ?hp, ?hmu, ⟨rfl, rfl, rfl, rfl, rfl, rfl, rfl, trivial⟩, ?hS⟩
                          case hS => repeat (first | exact Sub.nil | refine Sub.cons (by repeat (first | exact Pick.head | apply Pick.tail)) ?_)
                          case hp => omega
                          case hmu => omega)
                     first
                     | (exfalso; omega)
                     | (refine W.skip ?_
                        first | rw [show (cntN s k : Int) + 1 = ((cntN s (k + 1) : Nat) : Int) by rw [cntN_succ, if_pos (by assumption)]; rfl] | rw [show cntN s k = cntN s (k + 1) by rw [cntN_succ, if_neg (by assumption), Nat.add_zero]]
                        refine W.region ?_
                        refine WO.p rfl rfl (WO.ar rfl rfl rfl (by (first | (unfold in64; omega) | (unfold in64; omega))) rfl (WO.p rfl rfl ?_))
                        refine WO.nil ?_
                        refine' ⟨k + 1, ?hp, ?hmu, ⟨rfl, rfl, rfl, rfl, rfl, rfl, rfl, trivial⟩, ?hS⟩
                        case hS => repeat (first | exact Sub.nil | refine Sub.cons (by repeat (first | exact Pick.head | apply Pick.tail)) ?_)
                        case hp => omega
                        case hmu => omega))
                first
                | (exfalso; omega)
                | (refine W.exit (blk_same ?_)
                   obtain rfl : k = l.length := by omega
                   have hc8 : cntN s 8 = cntN s l.length := cntN_8 hs2 hln.2
                   have hcl := cntN_le s l.length
                   refine W.sreg ?_
                   refine WO.p rfl rfl ?_
                   refine WO.nil ?_
                   refine W.block ?_
                   refine W.loop2 (fun (i : Nat) (g2 : Nat) => i ≤ l.length ∧ okC b l xs (s * l.length + i) ∧ g2 = mostC l xs (s * l.length + i))
                     (fun (i : Nat) (g2 : Nat) => [(1, u), (2, .pointer (some ⟨b1, 0, none⟩)), (6, .int .i64 (l.length : Int)), (8, .int .i64 (g2 : Int)), (9, .int .i64 (s : Int)), (10, .int .i64 (cntN s l.length : Int)), (12, .int .i64 (i : Int))])
                     (fun (i : Nat) (g2 : Nat) => [pt b1 (.cells #[.int .i64 a, .int .i64 b, v] 26 (0, 0))])
                     (fun (i : Nat) (g2 : Nat) => l.length - i) 0 g
                     (by exact ⟨by omega, hok, hg⟩) ⟨rfl, rfl, rfl, rfl, rfl, rfl, rfl, trivial⟩ (by repeat (first | exact Sub.nil | refine Sub.cons (by repeat (first | exact Pick.head | apply Pick.tail)) ?_)) ?_
                   rintro i g2 ⟨hi, hok2, hg2⟩
                   refine W.seq ?_
                   refine W.sreg ?_
                   refine WO.p rfl rfl (WO.p rfl rfl (WO.p rfl rfl ?_))
                   refine WO.nil ?_
                   refine W.cond_bl rfl (fun c6 => ?_) (fun c6 => ?_)
                   · first
                     | (exfalso; omega)
                     | (refine W.skip ?_
                        refine W.seq ?_
                        refine W.block ?_
                        have hil : i < l.length := by omega
                        have hix : s * l.length + i < xs.length := by omega
                        obtain ⟨t, ht⟩ : ∃ t, t = xs.getD (s * l.length + i) 0 := ⟨_, rfl⟩
                        have htb := not3 hn3 hix
                        rw [← ht] at htb
                        have hmb := mostC_bd (l := l) (xs := xs) (s * l.length + i)
                        refine W.sreg ?_
                        refine WO.p rfl rfl (WO.p rfl rfl (WO.p rfl rfl ?_))
                        refine WO.mul rfl rfl (by rw [← Int.natCast_mul]; unfold in64; omega) rfl ?_
                        rw [← Int.natCast_mul]
                        refine WO.p rfl rfl ?_
                        refine WO.add rfl rfl (by unfold in64; omega) rfl ?_
                        rw [← Int.natCast_add]
                        refine' WO.indexAddr (n := _) (i := _) rfl rfl rfl ?hs ?h1 rfl ?_
                        case hs => (first | exact hX.sl)
                        case h1 => (first | omega | (simp; omega))
                        refine' WO.load (v := _) rfl rfl ?hc rfl ?_
                        case hc => (first | (refine hX.cell0 (i := s * l.length + i) hix 0 ?_; rw [← ht]; rfl))
                        refine WO.p rfl rfl ?_
                        refine WO.nil ?_
                        refine W.seq ?_
                        refine W.sreg ?_
                        refine WO.p rfl rfl (WO.p rfl rfl ?_)
                        refine WO.callR rfl Try.call55 (fun L w hi => ref_in w s i (by omega)) rfl ?_
                        refine WO.p rfl rfl ?_
                        refine WO.nil ?_
                        refine W.cond_nbl rfl (fun c7 => ?_) (fun c7 => ?_)
                        · first
                          | (exfalso; omega)
                          | (refine W.seq ?_
                             refine W.sreg ?_
                             refine WO.p rfl rfl (WO.p rfl rfl ?_)
                             refine WO.nil ?_
                             refine W.cond_bl rfl (fun c8 => ?_) (fun c8 => ?_)
                             · first
                               | (exfalso; omega)
                               | (refine W.sreg ?_
                                  refine WO.p rfl rfl (WO.p rfl rfl ?_)
                                  refine WO.nil ?_
                                  refine W.ret ?_
                                  first | (rw [ctV_bad (ctE_1 (by assumption)) (by assumption)]; exact fin.ret (Res.two rfl (RV.tmp rfl) (RV.tmp rfl)) rfl) | (rw [ctV_bad (ctE_15 (by omega) (by omega)) (by decide)]; exact fin.ret (Res.two rfl (RV.tmp rfl) (RV.tmp rfl)) rfl) | (rw [ctV_bad (ctE_3 (by omega) hxl (bad3_of (x := c) (by omega) (by omega))) (by decide)]; exact fin.ret (Res.two rfl (RV.tmp rfl) (RV.tmp rfl)) rfl) | (rw [ctV_bad (ctE_14 (by omega) hxl hn3 (wrX_14 hil hix (by rw [← ht]; exact .inl ⟨by assumption, by omega⟩))) (by decide)]; exact fin.ret (Res.two rfl (RV.tmp rfl) (RV.tmp rfl)) rfl) | (rw [ctV_bad (ctE_14 (by omega) hxl hn3 (jA_14 hd hs2 hil hb hix (by rw [← ht]; omega))) (by decide)]; exact fin.ret (Res.two rfl (RV.tmp rfl) (RV.tmp rfl)) rfl) | (rw [ctV_bad (ctE_14 (by omega) hxl hn3 (j14 hd hil hjl hb hjx hix hp ht hpb.2 (by omega) (by assumption) (by omega) (by omega) (by omega) (by omega))) (by decide)]; exact fin.ret (Res.two rfl (RV.tmp rfl) (RV.tmp rfl)) rfl) | (have e1 : xs.length = s * l.length := (by rw [show s = N by omega]; rw [hN]; exact hxl); have e0 : ctE b l xs a = 0 := ctE_0 (by omega) hxl hn3 (okC_14 (by rw [e1]; exact hok)); unfold ctV ctM; rw [e0, if_pos rfl, show mostF l xs = g by rw [hg, ← e1]; rfl]; exact fin.ret (Res.two rfl (RV.tmp rfl) (RV.tmp rfl)) rfl))
                             first
                             | (exfalso; omega)
                             | (refine W.skip ?_
                                refine W.exit (blk_same ?_)
                                refine W.region ?_
                                refine WO.p rfl rfl (WO.ar rfl rfl rfl (by (first | (unfold in64; omega) | (unfold in64; omega))) rfl (WO.p rfl rfl ?_))
                                refine WO.nil ?_
                                refine' ⟨i + 1, _, ?hp, ?hmu, ⟨rfl, rfl, rfl, rfl, rfl, rfl, rfl, trivial⟩, ?hS⟩
                                case hS => repeat (first | exact Sub.nil | refine Sub.cons (by repeat (first | exact Pick.head | apply Pick.tail)) ?_)
                                case hp => first | exact ⟨by omega, okC_succ hok2 (nw_out hil (by assumption) (by omega)), mo_out hil hg2 (by assumption)⟩ | exact ⟨by omega, okC_succ hok2 (jI_end hil hb (by rw [← ht, show l.length = j by omega]; exact hjI) (by omega)), mo_in hil hc8 hg2 hb (by rw [← ht]; exact hg3)⟩
                                case hmu => omega))
                        first
                        | (exfalso; omega)
                        | (refine W.skip ?_
                           refine W.seq ?_
                           refine W.sreg ?_
                           refine WO.p rfl rfl (WO.p rfl rfl ?_)
                           refine WO.nil ?_
                           refine W.cond_bl rfl (fun c8 => ?_) (fun c8 => ?_)
                           · first
                             | (exfalso; omega)
                             | (refine W.region ?_
                                refine WO.p rfl rfl (WO.p rfl rfl ?_)
                                refine WO.max2 rfl rfl rfl ?_
                                rw [show max (g2 : Int) (cntN s l.length : Int) = ((max g2 (cntN s l.length) : Nat) : Int) by omega]
                                refine WO.p rfl rfl ?_
                                refine WO.nil ?_
                                first | (have q : t < 1048576 := (by assumption); obtain ⟨g3, hg3e, hg3⟩ : ∃ g3, g3 = max g2 (cntN s l.length) ∧ ((g3 = max g2 (cntN s l.length) ∧ t < nev) ∨ (g3 = g2 ∧ ¬ t < nev)) := ⟨_, rfl, .inl ⟨rfl, q⟩⟩; rw [← hg3e]) | (have q : ¬ t < 1048576 := (by assumption); obtain ⟨g3, hg3e, hg3⟩ : ∃ g3, g3 = g2 ∧ ((g3 = max g2 (cntN s l.length) ∧ t < nev) ∨ (g3 = g2 ∧ ¬ t < nev)) := ⟨_, rfl, .inr ⟨rfl, q⟩⟩; rw [← hg3e])
                                have hb : hasB s i := by assumption
                                have hri := hd.at_ hil
                                unfold OkR at hri
                                refine W.sreg ?_
                                refine WO.fieldL rfl rfl rfl (WO.load rfl rfl (Cell.own Pick.head rfl) rfl (WO.p rfl rfl ?_))
                                refine' WO.indexAddr (n := _) (i := _) rfl rfl rfl ?hs ?h1 rfl ?_
                                case hs => (first | exact hR.sl)
                                case h1 => (first | omega | (simp; omega))
                                refine' WO.loadA (vs := _) rfl rfl ?hc ?hl rfl ?_
                                case hc => (first | exact RdF.cellsR hR (i := i) (by omega))
                                case hl => rfl
                                refine WO.alloc rfl rfl rfl (fun b2 hb2 => ?_)
                                refine WO.storeA rfl rfl rfl rfl Pick.head rfl rfl ?_
                                refine WO.nil ?_
                                refine W.seq ?_
                                refine W.sreg ?_
                                refine WO.p rfl rfl (WO.p rfl rfl (WO.p rfl rfl ?_))
                                refine WO.guard_bl rfl rfl (fun c9 => ?_) (fun c9 => ?_)
                                · first
                                  | (exfalso; omega)
                                  | (refine WO.pg rfl rfl rfl (WO.go' rfl (WO.fieldL rfl rfl rfl (WO.go' rfl (WO.load rfl rfl (Cell.own Pick.head rfl) rfl (WO.go' rfl (WO.field0 rfl rfl rfl (WO.go' rfl (WO.load rfl rfl (Cell.own Pick.head rfl) rfl (WO.go' rfl (WO.ar rfl rfl rfl (by (first | (unfold in64; omega) | (unfold in64; omega))) rfl (WO.pg rfl rfl rfl ?_)))))))))))
                                     refine WO.p rfl rfl ?_
                                     refine WO.nil ?_
                                     refine W.cond_bl rfl (fun c10 => ?_) (fun c10 => ?_)
                                     · first
                                       | (exfalso; omega)
                                       | (refine W.sreg ?_
                                          refine WO.p rfl rfl (WO.p rfl rfl ?_)
                                          refine WO.nil ?_
                                          refine W.ret ?_
                                          first | (rw [ctV_bad (ctE_1 (by assumption)) (by assumption)]; exact fin.ret (Res.two rfl (RV.tmp rfl) (RV.tmp rfl)) rfl) | (rw [ctV_bad (ctE_15 (by omega) (by omega)) (by decide)]; exact fin.ret (Res.two rfl (RV.tmp rfl) (RV.tmp rfl)) rfl) | (rw [ctV_bad (ctE_3 (by omega) hxl (bad3_of (x := c) (by omega) (by omega))) (by decide)]; exact fin.ret (Res.two rfl (RV.tmp rfl) (RV.tmp rfl)) rfl) | (rw [ctV_bad (ctE_14 (by omega) hxl hn3 (wrX_14 hil hix (by rw [← ht]; exact .inl ⟨by assumption, by omega⟩))) (by decide)]; exact fin.ret (Res.two rfl (RV.tmp rfl) (RV.tmp rfl)) rfl) | (rw [ctV_bad (ctE_14 (by omega) hxl hn3 (jA_14 hd hs2 hil hb hix (by rw [← ht]; omega))) (by decide)]; exact fin.ret (Res.two rfl (RV.tmp rfl) (RV.tmp rfl)) rfl) | (rw [ctV_bad (ctE_14 (by omega) hxl hn3 (j14 hd hil hjl hb hjx hix hp ht hpb.2 (by omega) (by assumption) (by omega) (by omega) (by omega) (by omega))) (by decide)]; exact fin.ret (Res.two rfl (RV.tmp rfl) (RV.tmp rfl)) rfl) | (have e1 : xs.length = s * l.length := (by rw [show s = N by omega]; rw [hN]; exact hxl); have e0 : ctE b l xs a = 0 := ctE_0 (by omega) hxl hn3 (okC_14 (by rw [e1]; exact hok)); unfold ctV ctM; rw [e0, if_pos rfl, show mostF l xs = g by rw [hg, ← e1]; rfl]; exact fin.ret (Res.two rfl (RV.tmp rfl) (RV.tmp rfl)) rfl))
                                     first
                                     | (exfalso; omega)
                                     | (refine W.skip ?_
                                        have hj0 := jI_0 (xs := xs) hd hs2 hil hb (v := t) (by omega)
                                        refine W.sreg ?_
                                        refine WO.p rfl rfl ?_
                                        refine WO.nil ?_
                                        refine W.block ?_
                                        refine W.loop (fun (j : Nat) => j ≤ l.length ∧ jI b l xs s i j t)
                                          (fun (j : Nat) => [(1, u), (2, .pointer (some ⟨b1, 0, none⟩)), (6, .int .i64 (l.length : Int)), (8, .int .i64 (g3 : Int)), (9, .int .i64 (s : Int)), (10, .int .i64 (cntN s l.length : Int)), (12, .int .i64 (i : Int)), (13, .int .i64 t), (14, .pointer (some ⟨b2, 0, none⟩)), (15, .int .i64 (j : Int))])
                                          (fun (j : Nat) => [pt b1 (.cells #[.int .i64 a, .int .i64 b, v] 26 (0, 0)), pt b2 (.cells #[.int .i64 (l.getD i rn0).mi, .int .i64 (l.getD i rn0).lo, .int .i64 (l.getD i rn0).hi, .int .i64 (l.getD i rn0).st, .int .i64 (l.getD i rn0).fr, .int .i64 (l.getD i rn0).un] 48 (0, 0))])
                                          (fun (j : Nat) => l.length - j) 0
                                          (by exact ⟨by omega, hj0⟩) ⟨rfl, rfl, rfl, rfl, rfl, rfl, rfl, rfl, rfl, rfl, trivial⟩ (by repeat (first | exact Sub.nil | refine Sub.cons (by repeat (first | exact Pick.head | apply Pick.tail)) ?_)) ?_
                                        rintro j ⟨hj, hjI⟩
                                        refine W.seq ?_
                                        refine W.sreg ?_
                                        refine WO.p rfl rfl (WO.p rfl rfl (WO.p rfl rfl ?_))
                                        refine WO.nil ?_
                                        refine W.cond_bl rfl (fun c11 => ?_) (fun c11 => ?_)
                                        · first
                                          | (exfalso; omega)
                                          | (refine W.skip ?_
                                             refine W.seq ?_
                                             refine W.block ?_
                                             have hjl : j < l.length := by omega
                                             have hwo : wo s i < s := wo_less hb
                                             have hw1 : (wo s i + 1) * l.length ≤ N * l.length := Nat.mul_le_mul_right _ (by omega)
                                             rw [Nat.add_mul] at hw1
                                             have hjx : wo s i * l.length + j < xs.length := by omega
                                             obtain ⟨p, hp⟩ : ∃ p, p = xs.getD (wo s i * l.length + j) 0 := ⟨_, rfl⟩
                                             have hpb := not3 hn3 hjx
                                             rw [← hp] at hpb
                                             have hwb := hd.w hjl i
                                             refine W.sreg ?_
                                             refine WO.p rfl rfl (WO.p rfl rfl ?_)
                                             refine WO.shlN (a := 1) (s := i) rfl rfl (by show i ≤ 64; omega) (fit (by have := shl1 (show i ≤ 8 by omega); omega)) rfl ?_
                                             refine WO.andNotN (a := s) (b := 1 <<< i) rfl rfl (fit (by omega)) (fit (by have := shl1 (show i ≤ 8 by omega); omega)) rfl ?_
                                             rw [show s ^^^ (s &&& (1 <<< i)) = wo s i from rfl]
                                             refine WO.p rfl rfl ?_
                                             refine WO.nil ?_
                                             refine W.seq ?_
                                             refine W.sreg ?_
                                             refine WO.p rfl rfl (WO.p rfl rfl (WO.p rfl rfl (WO.p rfl rfl ?_)))
                                             refine WO.guard_bl rfl rfl (fun c12 => ?_) (fun c12 => ?_)
                                             · first
                                               | (exfalso; omega)
                                               | (refine WO.no rfl rfl (WO.no rfl rfl (WO.no rfl rfl (WO.no rfl rfl (WO.p rfl rfl (WO.p rfl rfl (WO.no rfl rfl (WO.no rfl rfl (WO.no rfl rfl (WO.no rfl rfl (WO.no rfl rfl (WO.no rfl rfl ?_)))))))))))
                                                  refine WO.no rfl rfl (WO.no rfl rfl (WO.no rfl rfl (WO.p rfl rfl (WO.p rfl rfl (WO.no rfl rfl (WO.no rfl rfl (WO.no rfl rfl (WO.no rfl rfl (WO.no rfl rfl (WO.p rfl rfl ?_))))))))))
                                                  refine WO.nil ?_
                                                  refine W.cond_t rfl ?_
                                                  refine W.exit (blk_same ?_)
                                                  refine W.region ?_
                                                  refine WO.p rfl rfl (WO.ar rfl rfl rfl (by (first | (unfold in64; omega) | (unfold in64; omega))) rfl (WO.p rfl rfl ?_))
                                                  refine WO.nil ?_
                                                  refine' ⟨j + 1, ?hp, ?hmu, ⟨rfl, rfl, rfl, rfl, rfl, rfl, rfl, rfl, rfl, rfl, trivial⟩, ?hS⟩
                                                  case hS => repeat (first | exact Sub.nil | refine Sub.cons (by repeat (first | exact Pick.head | apply Pick.tail)) ?_)
                                                  case hp => exact ⟨by omega, jI_succ hjI (by first | exact jz1 hd hjl hjx hp (by omega) | exact jz2 hjl hjx hp (by assumption) | exact jz3 hd hjl hjx hp hpb.2 (by omega) (by assumption) (by omega) (by omega) (by omega))⟩
                                                  case hmu => omega)
                                             first
                                             | (exfalso; omega)
                                             | (refine WO.pg rfl rfl rfl (WO.pg rfl rfl rfl (WO.go' rfl ?_))
                                                refine WO.callR rfl Try.call55 (fun L w hi => ref_in w s j (by omega)) rfl ?_
                                                refine WO.pg rfl rfl rfl (WO.p rfl rfl (WO.p rfl rfl ?_))
                                                refine WO.guard_nbl rfl rfl (fun c13 => ?_) (fun c13 => ?_)
                                                · first
                                                  | (exfalso; omega)
                                                  | (refine WO.no rfl rfl (WO.no rfl rfl (WO.no rfl rfl (WO.no rfl rfl (WO.no rfl rfl (WO.no rfl rfl (WO.no rfl rfl (WO.no rfl rfl (WO.no rfl rfl (WO.p rfl rfl (WO.p rfl rfl (WO.no rfl rfl ?_)))))))))))
                                                     refine WO.no rfl rfl (WO.no rfl rfl (WO.no rfl rfl (WO.no rfl rfl (WO.p rfl rfl ?_))))
                                                     refine WO.nil ?_
                                                     refine W.cond_t rfl ?_
                                                     refine W.exit (blk_same ?_)
                                                     refine W.region ?_
                                                     refine WO.p rfl rfl (WO.ar rfl rfl rfl (by (first | (unfold in64; omega) | (unfold in64; omega))) rfl (WO.p rfl rfl ?_))
                                                     refine WO.nil ?_
                                                     refine' ⟨j + 1, ?hp, ?hmu, ⟨rfl, rfl, rfl, rfl, rfl, rfl, rfl, rfl, rfl, rfl, trivial⟩, ?hS⟩
                                                     case hS => repeat (first | exact Sub.nil | refine Sub.cons (by repeat (first | exact Pick.head | apply Pick.tail)) ?_)
                                                     case hp => exact ⟨by omega, jI_succ hjI (by first | exact jz1 hd hjl hjx hp (by omega) | exact jz2 hjl hjx hp (by assumption) | exact jz3 hd hjl hjx hp hpb.2 (by omega) (by assumption) (by omega) (by omega) (by omega))⟩
                                                     case hmu => omega)
                                                first
                                                | (exfalso; omega)
                                                | (refine WO.pg rfl rfl rfl (WO.pg rfl rfl rfl (WO.pg rfl rfl rfl (WO.go' rfl ?_)))
                                                   refine WO.mul rfl rfl (by rw [← Int.natCast_mul]; unfold in64; omega) rfl ?_
                                                   rw [← Int.natCast_mul]
                                                   refine WO.pg rfl rfl rfl (WO.go' rfl ?_)
                                                   refine WO.add rfl rfl (by unfold in64; omega) rfl ?_
                                                   rw [← Int.natCast_add]
                                                   refine WO.go' rfl ?_
                                                   refine' WO.indexAddr (n := _) (i := _) rfl rfl rfl ?hs ?h1 rfl ?_
                                                   case hs => (first | exact hX.sl)
                                                   case h1 => (first | omega | (simp; omega))
                                                   refine WO.go' rfl ?_
                                                   refine' WO.load (v := _) rfl rfl ?hc rfl ?_
                                                   case hc => (first | (refine hX.cell0 (i := wo s i * l.length + j) hjx 0 ?_; rw [← hp]; rfl))
                                                   refine WO.pg rfl rfl rfl (WO.p rfl rfl (WO.p rfl rfl ?_))
                                                   refine WO.guard_bl rfl rfl (fun c14 => ?_) (fun c14 => ?_)
                                                   · first
                                                     | (exfalso; omega)
                                                     | (refine WO.no rfl rfl (WO.no rfl rfl (WO.no rfl rfl (WO.no rfl rfl (WO.no rfl rfl (WO.p rfl rfl ?_)))))
                                                        refine WO.nil ?_
                                                        refine W.cond_t rfl ?_
                                                        refine W.exit (blk_same ?_)
                                                        refine W.region ?_
                                                        refine WO.p rfl rfl (WO.ar rfl rfl rfl (by (first | (unfold in64; omega) | (unfold in64; omega))) rfl (WO.p rfl rfl ?_))
                                                        refine WO.nil ?_
                                                        refine' ⟨j + 1, ?hp, ?hmu, ⟨rfl, rfl, rfl, rfl, rfl, rfl, rfl, rfl, rfl, rfl, trivial⟩, ?hS⟩
                                                        case hS => repeat (first | exact Sub.nil | refine Sub.cons (by repeat (first | exact Pick.head | apply Pick.tail)) ?_)
                                                        case hp => exact ⟨by omega, jI_succ hjI (by first | exact jz1 hd hjl hjx hp (by omega) | exact jz2 hjl hjx hp (by assumption) | exact jz3 hd hjl hjx hp hpb.2 (by omega) (by assumption) (by omega) (by omega) (by omega))⟩
                                                        case hmu => omega)
                                                   first
                                                   | (exfalso; omega)
                                                   | (refine WO.go' rfl (WO.loadA rfl rfl (Cells.own Pick.head) rfl rfl (WO.pg rfl rfl rfl (WO.pg rfl rfl rfl (WO.go' rfl ?_))))
                                                      refine WO.callR rfl Try.call56 (fun L w hi => ref_Waits w v a b l j i (hR.later hi) hd hjl hil) rfl ?_
                                                      refine WO.pg rfl rfl rfl (WO.p rfl rfl ?_)
                                                      refine WO.nil ?_
                                                      refine W.cond_bl rfl (fun c15 => ?_) (fun c15 => ?_)
                                                      · first
                                                        | (exfalso; omega)
                                                        | (refine W.exit (blk_same ?_)
                                                           refine W.region ?_
                                                           refine WO.p rfl rfl (WO.ar rfl rfl rfl (by (first | (unfold in64; omega) | (unfold in64; omega))) rfl (WO.p rfl rfl ?_))
                                                           refine WO.nil ?_
                                                           refine' ⟨j + 1, ?hp, ?hmu, ⟨rfl, rfl, rfl, rfl, rfl, rfl, rfl, rfl, rfl, rfl, trivial⟩, ?hS⟩
                                                           case hS => repeat (first | exact Sub.nil | refine Sub.cons (by repeat (first | exact Pick.head | apply Pick.tail)) ?_)
                                                           case hp => exact ⟨by omega, jI_succ hjI (by first | exact jz1 hd hjl hjx hp (by omega) | exact jz2 hjl hjx hp (by assumption) | exact jz3 hd hjl hjx hp hpb.2 (by omega) (by assumption) (by omega) (by omega) (by omega))⟩
                                                           case hmu => omega)
                                                      first
                                                      | (exfalso; omega)
                                                      | (refine W.skip ?_
                                                         refine W.seq ?_
                                                         refine W.drawD 15 [.r 0 [], .b 1 [], .r 2 [], .r 3 [], .r 4 [], .r 5 [], .r 6 [], .r 7 [], .r 8 [], .b 9 [], .b 10 [], .r 11 [], .r 12 [], .b 13 [], .r 14 []] [] (A0 := []) (Sub.refl _) (by kernel_rfl) ?_ ?_
                                                         · exact (ALok.r (ALok.b (ALok.r (ALok.r (ALok.r (ALok.r (ALok.r (ALok.r (ALok.r (ALok.b (ALok.b (ALok.r (ALok.r (ALok.b (ALok.r ALok.nil)))))))))))))))
                                                         refine' DT.r rfl rfl rfl ?hq ?_
                                                         case hq =>
                                                           refine WO.fieldL rfl rfl rfl ?_
                                                           exact WO.nil ⟨rfl, rfl⟩
                                                         refine' DT.b rfl rfl rfl ?hq ?_
                                                         case hq =>
                                                           refine WO.load rfl rfl (Cell.own (Pick.tail (Pick.head)) rfl) rfl ?_
                                                           exact WO.nil ⟨rfl, rfl⟩
                                                         refine' DT.r rfl rfl rfl ?hq ?_
                                                         case hq =>
                                                           refine WO.p rfl rfl ?_
                                                           exact WO.nil ⟨rfl, rfl⟩
                                                         refine' DT.r rfl rfl rfl ?hq ?_
                                                         case hq =>
                                                           refine WO.p rfl rfl ?_
                                                           exact WO.nil ⟨rfl, rfl⟩
                                                         refine' DT.r rfl rfl rfl ?hq ?_
                                                         case hq =>
                                                           refine WO.p rfl rfl ?_
                                                           exact WO.nil ⟨rfl, rfl⟩
                                                         refine' DT.r rfl rfl rfl ?hq ?_
                                                         case hq =>
                                                           refine WO.mul rfl rfl (by rw [← Int.natCast_mul]; unfold in64; omega) rfl ?_
                                                           rw [← Int.natCast_mul]
                                                           exact WO.nil ⟨rfl, rfl⟩
                                                         refine' DT.r rfl rfl rfl ?hq ?_
                                                         case hq =>
                                                           refine WO.p rfl rfl ?_
                                                           exact WO.nil ⟨rfl, rfl⟩
                                                         refine' DT.r rfl rfl rfl ?hq ?_
                                                         case hq =>
                                                           refine WO.add rfl rfl (by unfold in64; omega) rfl ?_
                                                           rw [← Int.natCast_add]
                                                           exact WO.nil ⟨rfl, rfl⟩
                                                         refine' DT.r rfl rfl rfl ?hq ?_
                                                         case hq =>
                                                           refine' WO.indexAddr (n := _) (i := _) rfl rfl rfl ?hs ?h1 rfl ?_
                                                           case hs => (first | exact hX.sl)
                                                           case h1 => (first | omega | (simp; omega))
                                                           exact WO.nil ⟨rfl, rfl⟩
                                                         refine' DT.b rfl rfl rfl ?hq ?_
                                                         case hq =>
                                                           refine' WO.load (v := _) rfl rfl ?hc rfl ?_
                                                           case hc => (first | (refine hX.cell0 (i := wo s i * l.length + j) hjx 0 ?_; rw [← hp]; rfl))
                                                           exact WO.nil ⟨rfl, rfl⟩
                                                         refine' DT.b rfl rfl rfl ?hq ?_
                                                         case hq =>
                                                           refine WO.loadA rfl rfl (Cells.own Pick.head) rfl rfl ?_
                                                           exact WO.nil ⟨rfl, rfl⟩
                                                         refine' DT.r rfl rfl rfl ?hq ?_
                                                         case hq =>
                                                           refine WO.p rfl rfl ?_
                                                           exact WO.nil ⟨rfl, rfl⟩
                                                         refine' DT.r rfl rfl rfl ?hq ?_
                                                         case hq =>
                                                           refine WO.p rfl rfl ?_
                                                           exact WO.nil ⟨rfl, rfl⟩
                                                         refine' DT.b rfl rfl rfl ?hq ?_
                                                         case hq =>
                                                           refine WO.callR rfl Try.call56 (fun L w hi => ref_Waits w v a b l j i (hR.later hi) hd hjl hil) rfl ?_
                                                           exact WO.nil ⟨rfl, rfl⟩
                                                         refine' DT.r rfl rfl rfl ?hq ?_
                                                         case hq =>
                                                           refine WO.ar rfl rfl rfl (by (first | (unfold in64; omega) | (unfold in64; omega))) rfl ?_
                                                           exact WO.nil ⟨rfl, rfl⟩
                                                         refine DT.nil [_, _] rfl ?_
                                                         refine WO.max2 rfl rfl rfl ?_
                                                         refine WO.p rfl rfl ?_
                                                         refine WO.nil ?_
                                                         refine W.sreg ?_
                                                         refine WO.p rfl rfl (WO.fieldL rfl rfl rfl (WO.load rfl rfl (Cell.own (Pick.tail (Pick.head)) rfl) rfl (WO.p rfl rfl (WO.p rfl rfl ?_))))
                                                         refine WO.guard_bl rfl rfl (fun c16 => ?_) (fun c16 => ?_)
                                                         · first
                                                           | (exfalso; omega)
                                                           | (refine WO.pg rfl rfl rfl (WO.pg rfl rfl rfl (WO.go' rfl (WO.field0 rfl rfl rfl (WO.go' rfl (WO.load rfl rfl (Cell.own (Pick.tail (Pick.head)) rfl) rfl (WO.go' rfl (WO.ar rfl rfl rfl (by (first | (unfold in64; omega) | (unfold in64; omega))) rfl (WO.pg rfl rfl rfl (WO.p rfl rfl ?_)))))))))
                                                              refine WO.nil ?_
                                                              refine W.cond_bl rfl (fun c17 => ?_) (fun c17 => ?_)
                                                              · first
                                                                | (exfalso; omega)
                                                                | (refine W.sreg ?_
                                                                   refine WO.p rfl rfl (WO.p rfl rfl ?_)
                                                                   refine WO.nil ?_
                                                                   refine W.ret ?_
                                                                   first | (rw [ctV_bad (ctE_1 (by assumption)) (by assumption)]; exact fin.ret (Res.two rfl (RV.tmp rfl) (RV.tmp rfl)) rfl) | (rw [ctV_bad (ctE_15 (by omega) (by omega)) (by decide)]; exact fin.ret (Res.two rfl (RV.tmp rfl) (RV.tmp rfl)) rfl) | (rw [ctV_bad (ctE_3 (by omega) hxl (bad3_of (x := c) (by omega) (by omega))) (by decide)]; exact fin.ret (Res.two rfl (RV.tmp rfl) (RV.tmp rfl)) rfl) | (rw [ctV_bad (ctE_14 (by omega) hxl hn3 (wrX_14 hil hix (by rw [← ht]; exact .inl ⟨by assumption, by omega⟩))) (by decide)]; exact fin.ret (Res.two rfl (RV.tmp rfl) (RV.tmp rfl)) rfl) | (rw [ctV_bad (ctE_14 (by omega) hxl hn3 (jA_14 hd hs2 hil hb hix (by rw [← ht]; omega))) (by decide)]; exact fin.ret (Res.two rfl (RV.tmp rfl) (RV.tmp rfl)) rfl) | (rw [ctV_bad (ctE_14 (by omega) hxl hn3 (j14 hd hil hjl hb hjx hix hp ht hpb.2 (by omega) (by assumption) (by omega) (by omega) (by omega) (by omega))) (by decide)]; exact fin.ret (Res.two rfl (RV.tmp rfl) (RV.tmp rfl)) rfl) | (have e1 : xs.length = s * l.length := (by rw [show s = N by omega]; rw [hN]; exact hxl); have e0 : ctE b l xs a = 0 := ctE_0 (by omega) hxl hn3 (okC_14 (by rw [e1]; exact hok)); unfold ctV ctM; rw [e0, if_pos rfl, show mostF l xs = g by rw [hg, ← e1]; rfl]; exact fin.ret (Res.two rfl (RV.tmp rfl) (RV.tmp rfl)) rfl))
                                                              first
                                                              | (exfalso; omega)
                                                              | (refine W.skip ?_
                                                                 refine W.region ?_
                                                                 refine WO.p rfl rfl (WO.ar rfl rfl rfl (by (first | (unfold in64; omega) | (unfold in64; omega))) rfl (WO.p rfl rfl ?_))
                                                                 refine WO.nil ?_
                                                                 refine' ⟨j + 1, ?hp, ?hmu, ⟨rfl, rfl, rfl, rfl, rfl, rfl, rfl, rfl, rfl, rfl, trivial⟩, ?hS⟩
                                                                 case hS => repeat (first | exact Sub.nil | refine Sub.cons (by repeat (first | exact Pick.head | apply Pick.tail)) ?_)
                                                                 case hp => exact ⟨by omega, jI_succ hjI (by first | exact jz1 hd hjl hjx hp (by omega) | exact jz2 hjl hjx hp (by assumption) | exact jz3 hd hjl hjx hp hpb.2 (by omega) (by assumption) (by omega) (by omega) (by omega))⟩
                                                                 case hmu => omega))
                                                         first
                                                         | (exfalso; omega)
                                                         | (refine WO.no rfl rfl (WO.no rfl rfl (WO.no rfl rfl (WO.no rfl rfl (WO.no rfl rfl (WO.no rfl rfl (WO.p rfl rfl ?_))))))
                                                            refine WO.nil ?_
                                                            refine W.cond_f rfl ?_
                                                            refine W.skip ?_
                                                            refine W.region ?_
                                                            refine WO.p rfl rfl (WO.ar rfl rfl rfl (by (first | (unfold in64; omega) | (unfold in64; omega))) rfl (WO.p rfl rfl ?_))
                                                            refine WO.nil ?_
                                                            refine' ⟨j + 1, ?hp, ?hmu, ⟨rfl, rfl, rfl, rfl, rfl, rfl, rfl, rfl, rfl, rfl, trivial⟩, ?hS⟩
                                                            case hS => repeat (first | exact Sub.nil | refine Sub.cons (by repeat (first | exact Pick.head | apply Pick.tail)) ?_)
                                                            case hp => exact ⟨by omega, jI_succ hjI (by first | exact jz1 hd hjl hjx hp (by omega) | exact jz2 hjl hjx hp (by assumption) | exact jz3 hd hjl hjx hp hpb.2 (by omega) (by assumption) (by omega) (by omega) (by omega))⟩
                                                            case hmu => omega))))))
                                        first
                                        | (exfalso; omega)
                                        | (refine W.exit (blk_same ?_)
                                           refine W.region ?_
                                           refine WO.p rfl rfl (WO.ar rfl rfl rfl (by (first | (unfold in64; omega) | (unfold in64; omega))) rfl (WO.p rfl rfl ?_))
                                           refine WO.nil ?_
                                           refine' ⟨i + 1, _, ?hp, ?hmu, ⟨rfl, rfl, rfl, rfl, rfl, rfl, rfl, trivial⟩, ?hS⟩
                                           case hS => repeat (first | exact Sub.nil | refine Sub.cons (by repeat (first | exact Pick.head | apply Pick.tail)) ?_)
                                           case hp => first | exact ⟨by omega, okC_succ hok2 (nw_out hil (by assumption) (by omega)), mo_out hil hg2 (by assumption)⟩ | exact ⟨by omega, okC_succ hok2 (jI_end hil hb (by rw [← ht, show l.length = j by omega]; exact hjI) (by omega)), mo_in hil hc8 hg2 hb (by rw [← ht]; exact hg3)⟩
                                           case hmu => omega)))
                                first
                                | (exfalso; omega)
                                | (refine WO.no rfl rfl (WO.no rfl rfl (WO.no rfl rfl (WO.no rfl rfl (WO.no rfl rfl (WO.no rfl rfl (WO.no rfl rfl (WO.p rfl rfl ?_)))))))
                                   refine WO.nil ?_
                                   refine W.cond_f rfl ?_
                                   refine W.skip ?_
                                   have hj0 := jI_0 (xs := xs) hd hs2 hil hb (v := t) (by omega)
                                   refine W.sreg ?_
                                   refine WO.p rfl rfl ?_
                                   refine WO.nil ?_
                                   refine W.block ?_
                                   refine W.loop (fun (j : Nat) => j ≤ l.length ∧ jI b l xs s i j t)
                                     (fun (j : Nat) => [(1, u), (2, .pointer (some ⟨b1, 0, none⟩)), (6, .int .i64 (l.length : Int)), (8, .int .i64 (g3 : Int)), (9, .int .i64 (s : Int)), (10, .int .i64 (cntN s l.length : Int)), (12, .int .i64 (i : Int)), (13, .int .i64 t), (14, .pointer (some ⟨b2, 0, none⟩)), (15, .int .i64 (j : Int))])
                                     (fun (j : Nat) => [pt b1 (.cells #[.int .i64 a, .int .i64 b, v] 26 (0, 0)), pt b2 (.cells #[.int .i64 (l.getD i rn0).mi, .int .i64 (l.getD i rn0).lo, .int .i64 (l.getD i rn0).hi, .int .i64 (l.getD i rn0).st, .int .i64 (l.getD i rn0).fr, .int .i64 (l.getD i rn0).un] 48 (0, 0))])
                                     (fun (j : Nat) => l.length - j) 0
                                     (by exact ⟨by omega, hj0⟩) ⟨rfl, rfl, rfl, rfl, rfl, rfl, rfl, rfl, rfl, rfl, trivial⟩ (by repeat (first | exact Sub.nil | refine Sub.cons (by repeat (first | exact Pick.head | apply Pick.tail)) ?_)) ?_
                                   rintro j ⟨hj, hjI⟩
                                   refine W.seq ?_
                                   refine W.sreg ?_
                                   refine WO.p rfl rfl (WO.p rfl rfl (WO.p rfl rfl ?_))
                                   refine WO.nil ?_
                                   refine W.cond_bl rfl (fun c10 => ?_) (fun c10 => ?_)
                                   · first
                                     | (exfalso; omega)
                                     | (refine W.skip ?_
                                        refine W.seq ?_
                                        refine W.block ?_
                                        have hjl : j < l.length := by omega
                                        have hwo : wo s i < s := wo_less hb
                                        have hw1 : (wo s i + 1) * l.length ≤ N * l.length := Nat.mul_le_mul_right _ (by omega)
                                        rw [Nat.add_mul] at hw1
                                        have hjx : wo s i * l.length + j < xs.length := by omega
                                        obtain ⟨p, hp⟩ : ∃ p, p = xs.getD (wo s i * l.length + j) 0 := ⟨_, rfl⟩
                                        have hpb := not3 hn3 hjx
                                        rw [← hp] at hpb
                                        have hwb := hd.w hjl i
                                        refine W.sreg ?_
                                        refine WO.p rfl rfl (WO.p rfl rfl ?_)
                                        refine WO.shlN (a := 1) (s := i) rfl rfl (by show i ≤ 64; omega) (fit (by have := shl1 (show i ≤ 8 by omega); omega)) rfl ?_
                                        refine WO.andNotN (a := s) (b := 1 <<< i) rfl rfl (fit (by omega)) (fit (by have := shl1 (show i ≤ 8 by omega); omega)) rfl ?_
                                        rw [show s ^^^ (s &&& (1 <<< i)) = wo s i from rfl]
                                        refine WO.p rfl rfl ?_
                                        refine WO.nil ?_
                                        refine W.seq ?_
                                        refine W.sreg ?_
                                        refine WO.p rfl rfl (WO.p rfl rfl (WO.p rfl rfl (WO.p rfl rfl ?_)))
                                        refine WO.guard_bl rfl rfl (fun c11 => ?_) (fun c11 => ?_)
                                        · first
                                          | (exfalso; omega)
                                          | (refine WO.no rfl rfl (WO.no rfl rfl (WO.no rfl rfl (WO.no rfl rfl (WO.p rfl rfl (WO.p rfl rfl (WO.no rfl rfl (WO.no rfl rfl (WO.no rfl rfl (WO.no rfl rfl (WO.no rfl rfl (WO.no rfl rfl ?_)))))))))))
                                             refine WO.no rfl rfl (WO.no rfl rfl (WO.no rfl rfl (WO.p rfl rfl (WO.p rfl rfl (WO.no rfl rfl (WO.no rfl rfl (WO.no rfl rfl (WO.no rfl rfl (WO.no rfl rfl (WO.p rfl rfl ?_))))))))))
                                             refine WO.nil ?_
                                             refine W.cond_t rfl ?_
                                             refine W.exit (blk_same ?_)
                                             refine W.region ?_
                                             refine WO.p rfl rfl (WO.ar rfl rfl rfl (by (first | (unfold in64; omega) | (unfold in64; omega))) rfl (WO.p rfl rfl ?_))
                                             refine WO.nil ?_
                                             refine' ⟨j + 1, ?hp, ?hmu, ⟨rfl, rfl, rfl, rfl, rfl, rfl, rfl, rfl, rfl, rfl, trivial⟩, ?hS⟩
                                             case hS => repeat (first | exact Sub.nil | refine Sub.cons (by repeat (first | exact Pick.head | apply Pick.tail)) ?_)
                                             case hp => exact ⟨by omega, jI_succ hjI (by first | exact jz1 hd hjl hjx hp (by omega) | exact jz2 hjl hjx hp (by assumption) | exact jz3 hd hjl hjx hp hpb.2 (by omega) (by assumption) (by omega) (by omega) (by omega))⟩
                                             case hmu => omega)
                                        first
                                        | (exfalso; omega)
                                        | (refine WO.pg rfl rfl rfl (WO.pg rfl rfl rfl (WO.go' rfl ?_))
                                           refine WO.callR rfl Try.call55 (fun L w hi => ref_in w s j (by omega)) rfl ?_
                                           refine WO.pg rfl rfl rfl (WO.p rfl rfl (WO.p rfl rfl ?_))
                                           refine WO.guard_nbl rfl rfl (fun c12 => ?_) (fun c12 => ?_)
                                           · first
                                             | (exfalso; omega)
                                             | (refine WO.no rfl rfl (WO.no rfl rfl (WO.no rfl rfl (WO.no rfl rfl (WO.no rfl rfl (WO.no rfl rfl (WO.no rfl rfl (WO.no rfl rfl (WO.no rfl rfl (WO.p rfl rfl (WO.p rfl rfl (WO.no rfl rfl ?_)))))))))))
                                                refine WO.no rfl rfl (WO.no rfl rfl (WO.no rfl rfl (WO.no rfl rfl (WO.p rfl rfl ?_))))
                                                refine WO.nil ?_
                                                refine W.cond_t rfl ?_
                                                refine W.exit (blk_same ?_)
                                                refine W.region ?_
                                                refine WO.p rfl rfl (WO.ar rfl rfl rfl (by (first | (unfold in64; omega) | (unfold in64; omega))) rfl (WO.p rfl rfl ?_))
                                                refine WO.nil ?_
                                                refine' ⟨j + 1, ?hp, ?hmu, ⟨rfl, rfl, rfl, rfl, rfl, rfl, rfl, rfl, rfl, rfl, trivial⟩, ?hS⟩
                                                case hS => repeat (first | exact Sub.nil | refine Sub.cons (by repeat (first | exact Pick.head | apply Pick.tail)) ?_)
                                                case hp => exact ⟨by omega, jI_succ hjI (by first | exact jz1 hd hjl hjx hp (by omega) | exact jz2 hjl hjx hp (by assumption) | exact jz3 hd hjl hjx hp hpb.2 (by omega) (by assumption) (by omega) (by omega) (by omega))⟩
                                                case hmu => omega)
                                           first
                                           | (exfalso; omega)
                                           | (refine WO.pg rfl rfl rfl (WO.pg rfl rfl rfl (WO.pg rfl rfl rfl (WO.go' rfl ?_)))
                                              refine WO.mul rfl rfl (by rw [← Int.natCast_mul]; unfold in64; omega) rfl ?_
                                              rw [← Int.natCast_mul]
                                              refine WO.pg rfl rfl rfl (WO.go' rfl ?_)
                                              refine WO.add rfl rfl (by unfold in64; omega) rfl ?_
                                              rw [← Int.natCast_add]
                                              refine WO.go' rfl ?_
                                              refine' WO.indexAddr (n := _) (i := _) rfl rfl rfl ?hs ?h1 rfl ?_
                                              case hs => (first | exact hX.sl)
                                              case h1 => (first | omega | (simp; omega))
                                              refine WO.go' rfl ?_
                                              refine' WO.load (v := _) rfl rfl ?hc rfl ?_
                                              case hc => (first | (refine hX.cell0 (i := wo s i * l.length + j) hjx 0 ?_; rw [← hp]; rfl))
                                              refine WO.pg rfl rfl rfl (WO.p rfl rfl (WO.p rfl rfl ?_))
                                              refine WO.guard_bl rfl rfl (fun c13 => ?_) (fun c13 => ?_)
                                              · first
                                                | (exfalso; omega)
                                                | (refine WO.no rfl rfl (WO.no rfl rfl (WO.no rfl rfl (WO.no rfl rfl (WO.no rfl rfl (WO.p rfl rfl ?_)))))
                                                   refine WO.nil ?_
                                                   refine W.cond_t rfl ?_
                                                   refine W.exit (blk_same ?_)
                                                   refine W.region ?_
                                                   refine WO.p rfl rfl (WO.ar rfl rfl rfl (by (first | (unfold in64; omega) | (unfold in64; omega))) rfl (WO.p rfl rfl ?_))
                                                   refine WO.nil ?_
                                                   refine' ⟨j + 1, ?hp, ?hmu, ⟨rfl, rfl, rfl, rfl, rfl, rfl, rfl, rfl, rfl, rfl, trivial⟩, ?hS⟩
                                                   case hS => repeat (first | exact Sub.nil | refine Sub.cons (by repeat (first | exact Pick.head | apply Pick.tail)) ?_)
                                                   case hp => exact ⟨by omega, jI_succ hjI (by first | exact jz1 hd hjl hjx hp (by omega) | exact jz2 hjl hjx hp (by assumption) | exact jz3 hd hjl hjx hp hpb.2 (by omega) (by assumption) (by omega) (by omega) (by omega))⟩
                                                   case hmu => omega)
                                              first
                                              | (exfalso; omega)
                                              | (refine WO.go' rfl (WO.loadA rfl rfl (Cells.own Pick.head) rfl rfl (WO.pg rfl rfl rfl (WO.pg rfl rfl rfl (WO.go' rfl ?_))))
                                                 refine WO.callR rfl Try.call56 (fun L w hi => ref_Waits w v a b l j i (hR.later hi) hd hjl hil) rfl ?_
                                                 refine WO.pg rfl rfl rfl (WO.p rfl rfl ?_)
                                                 refine WO.nil ?_
                                                 refine W.cond_bl rfl (fun c14 => ?_) (fun c14 => ?_)
                                                 · first
                                                   | (exfalso; omega)
                                                   | (refine W.exit (blk_same ?_)
                                                      refine W.region ?_
                                                      refine WO.p rfl rfl (WO.ar rfl rfl rfl (by (first | (unfold in64; omega) | (unfold in64; omega))) rfl (WO.p rfl rfl ?_))
                                                      refine WO.nil ?_
                                                      refine' ⟨j + 1, ?hp, ?hmu, ⟨rfl, rfl, rfl, rfl, rfl, rfl, rfl, rfl, rfl, rfl, trivial⟩, ?hS⟩
                                                      case hS => repeat (first | exact Sub.nil | refine Sub.cons (by repeat (first | exact Pick.head | apply Pick.tail)) ?_)
                                                      case hp => exact ⟨by omega, jI_succ hjI (by first | exact jz1 hd hjl hjx hp (by omega) | exact jz2 hjl hjx hp (by assumption) | exact jz3 hd hjl hjx hp hpb.2 (by omega) (by assumption) (by omega) (by omega) (by omega))⟩
                                                      case hmu => omega)
                                                 first
                                                 | (exfalso; omega)
                                                 | (refine W.skip ?_
                                                    refine W.seq ?_
                                                    refine W.drawD 15 [.r 0 [], .b 1 [], .r 2 [], .r 3 [], .r 4 [], .r 5 [], .r 6 [], .r 7 [], .r 8 [], .b 9 [], .b 10 [], .r 11 [], .r 12 [], .b 13 [], .r 14 []] [] (A0 := []) (Sub.refl _) (by kernel_rfl) ?_ ?_
                                                    · exact (ALok.r (ALok.b (ALok.r (ALok.r (ALok.r (ALok.r (ALok.r (ALok.r (ALok.r (ALok.b (ALok.b (ALok.r (ALok.r (ALok.b (ALok.r ALok.nil)))))))))))))))
                                                    refine' DT.r rfl rfl rfl ?hq ?_
                                                    case hq =>
                                                      refine WO.fieldL rfl rfl rfl ?_
                                                      exact WO.nil ⟨rfl, rfl⟩
                                                    refine' DT.b rfl rfl rfl ?hq ?_
                                                    case hq =>
                                                      refine WO.load rfl rfl (Cell.own (Pick.tail (Pick.head)) rfl) rfl ?_
                                                      exact WO.nil ⟨rfl, rfl⟩
                                                    refine' DT.r rfl rfl rfl ?hq ?_
                                                    case hq =>
                                                      refine WO.p rfl rfl ?_
                                                      exact WO.nil ⟨rfl, rfl⟩
                                                    refine' DT.r rfl rfl rfl ?hq ?_
                                                    case hq =>
                                                      refine WO.p rfl rfl ?_
                                                      exact WO.nil ⟨rfl, rfl⟩
                                                    refine' DT.r rfl rfl rfl ?hq ?_
                                                    case hq =>
                                                      refine WO.p rfl rfl ?_
                                                      exact WO.nil ⟨rfl, rfl⟩
                                                    refine' DT.r rfl rfl rfl ?hq ?_
                                                    case hq =>
                                                      refine WO.mul rfl rfl (by rw [← Int.natCast_mul]; unfold in64; omega) rfl ?_
                                                      rw [← Int.natCast_mul]
                                                      exact WO.nil ⟨rfl, rfl⟩
                                                    refine' DT.r rfl rfl rfl ?hq ?_
                                                    case hq =>
                                                      refine WO.p rfl rfl ?_
                                                      exact WO.nil ⟨rfl, rfl⟩
                                                    refine' DT.r rfl rfl rfl ?hq ?_
                                                    case hq =>
                                                      refine WO.add rfl rfl (by unfold in64; omega) rfl ?_
                                                      rw [← Int.natCast_add]
                                                      exact WO.nil ⟨rfl, rfl⟩
                                                    refine' DT.r rfl rfl rfl ?hq ?_
                                                    case hq =>
                                                      refine' WO.indexAddr (n := _) (i := _) rfl rfl rfl ?hs ?h1 rfl ?_
                                                      case hs => (first | exact hX.sl)
                                                      case h1 => (first | omega | (simp; omega))
                                                      exact WO.nil ⟨rfl, rfl⟩
                                                    refine' DT.b rfl rfl rfl ?hq ?_
                                                    case hq =>
                                                      refine' WO.load (v := _) rfl rfl ?hc rfl ?_
                                                      case hc => (first | (refine hX.cell0 (i := wo s i * l.length + j) hjx 0 ?_; rw [← hp]; rfl))
                                                      exact WO.nil ⟨rfl, rfl⟩
                                                    refine' DT.b rfl rfl rfl ?hq ?_
                                                    case hq =>
                                                      refine WO.loadA rfl rfl (Cells.own Pick.head) rfl rfl ?_
                                                      exact WO.nil ⟨rfl, rfl⟩
                                                    refine' DT.r rfl rfl rfl ?hq ?_
                                                    case hq =>
                                                      refine WO.p rfl rfl ?_
                                                      exact WO.nil ⟨rfl, rfl⟩
                                                    refine' DT.r rfl rfl rfl ?hq ?_
                                                    case hq =>
                                                      refine WO.p rfl rfl ?_
                                                      exact WO.nil ⟨rfl, rfl⟩
                                                    refine' DT.b rfl rfl rfl ?hq ?_
                                                    case hq =>
                                                      refine WO.callR rfl Try.call56 (fun L w hi => ref_Waits w v a b l j i (hR.later hi) hd hjl hil) rfl ?_
                                                      exact WO.nil ⟨rfl, rfl⟩
                                                    refine' DT.r rfl rfl rfl ?hq ?_
                                                    case hq =>
                                                      refine WO.ar rfl rfl rfl (by (first | (unfold in64; omega) | (unfold in64; omega))) rfl ?_
                                                      exact WO.nil ⟨rfl, rfl⟩
                                                    refine DT.nil [_, _] rfl ?_
                                                    refine WO.max2 rfl rfl rfl ?_
                                                    refine WO.p rfl rfl ?_
                                                    refine WO.nil ?_
                                                    refine W.sreg ?_
                                                    refine WO.p rfl rfl (WO.fieldL rfl rfl rfl (WO.load rfl rfl (Cell.own (Pick.tail (Pick.head)) rfl) rfl (WO.p rfl rfl (WO.p rfl rfl ?_))))
                                                    refine WO.guard_bl rfl rfl (fun c15 => ?_) (fun c15 => ?_)
                                                    · first
                                                      | (exfalso; omega)
                                                      | (refine WO.pg rfl rfl rfl (WO.pg rfl rfl rfl (WO.go' rfl (WO.field0 rfl rfl rfl (WO.go' rfl (WO.load rfl rfl (Cell.own (Pick.tail (Pick.head)) rfl) rfl (WO.go' rfl (WO.ar rfl rfl rfl (by (first | (unfold in64; omega) | (unfold in64; omega))) rfl (WO.pg rfl rfl rfl (WO.p rfl rfl ?_)))))))))
                                                         refine WO.nil ?_
                                                         refine W.cond_bl rfl (fun c16 => ?_) (fun c16 => ?_)
                                                         · first
                                                           | (exfalso; omega)
                                                           | (refine W.sreg ?_
                                                              refine WO.p rfl rfl (WO.p rfl rfl ?_)
                                                              refine WO.nil ?_
                                                              refine W.ret ?_
                                                              first | (rw [ctV_bad (ctE_1 (by assumption)) (by assumption)]; exact fin.ret (Res.two rfl (RV.tmp rfl) (RV.tmp rfl)) rfl) | (rw [ctV_bad (ctE_15 (by omega) (by omega)) (by decide)]; exact fin.ret (Res.two rfl (RV.tmp rfl) (RV.tmp rfl)) rfl) | (rw [ctV_bad (ctE_3 (by omega) hxl (bad3_of (x := c) (by omega) (by omega))) (by decide)]; exact fin.ret (Res.two rfl (RV.tmp rfl) (RV.tmp rfl)) rfl) | (rw [ctV_bad (ctE_14 (by omega) hxl hn3 (wrX_14 hil hix (by rw [← ht]; exact .inl ⟨by assumption, by omega⟩))) (by decide)]; exact fin.ret (Res.two rfl (RV.tmp rfl) (RV.tmp rfl)) rfl) | (rw [ctV_bad (ctE_14 (by omega) hxl hn3 (jA_14 hd hs2 hil hb hix (by rw [← ht]; omega))) (by decide)]; exact fin.ret (Res.two rfl (RV.tmp rfl) (RV.tmp rfl)) rfl) | (rw [ctV_bad (ctE_14 (by omega) hxl hn3 (j14 hd hil hjl hb hjx hix hp ht hpb.2 (by omega) (by assumption) (by omega) (by omega) (by omega) (by omega))) (by decide)]; exact fin.ret (Res.two rfl (RV.tmp rfl) (RV.tmp rfl)) rfl) | (have e1 : xs.length = s * l.length := (by rw [show s = N by omega]; rw [hN]; exact hxl); have e0 : ctE b l xs a = 0 := ctE_0 (by omega) hxl hn3 (okC_14 (by rw [e1]; exact hok)); unfold ctV ctM; rw [e0, if_pos rfl, show mostF l xs = g by rw [hg, ← e1]; rfl]; exact fin.ret (Res.two rfl (RV.tmp rfl) (RV.tmp rfl)) rfl))
                                                         first
                                                         | (exfalso; omega)
                                                         | (refine W.skip ?_
                                                            refine W.region ?_
                                                            refine WO.p rfl rfl (WO.ar rfl rfl rfl (by (first | (unfold in64; omega) | (unfold in64; omega))) rfl (WO.p rfl rfl ?_))
                                                            refine WO.nil ?_
                                                            refine' ⟨j + 1, ?hp, ?hmu, ⟨rfl, rfl, rfl, rfl, rfl, rfl, rfl, rfl, rfl, rfl, trivial⟩, ?hS⟩
                                                            case hS => repeat (first | exact Sub.nil | refine Sub.cons (by repeat (first | exact Pick.head | apply Pick.tail)) ?_)
                                                            case hp => exact ⟨by omega, jI_succ hjI (by first | exact jz1 hd hjl hjx hp (by omega) | exact jz2 hjl hjx hp (by assumption) | exact jz3 hd hjl hjx hp hpb.2 (by omega) (by assumption) (by omega) (by omega) (by omega))⟩
                                                            case hmu => omega))
                                                    first
                                                    | (exfalso; omega)
                                                    | (refine WO.no rfl rfl (WO.no rfl rfl (WO.no rfl rfl (WO.no rfl rfl (WO.no rfl rfl (WO.no rfl rfl (WO.p rfl rfl ?_))))))
                                                       refine WO.nil ?_
                                                       refine W.cond_f rfl ?_
                                                       refine W.skip ?_
                                                       refine W.region ?_
                                                       refine WO.p rfl rfl (WO.ar rfl rfl rfl (by (first | (unfold in64; omega) | (unfold in64; omega))) rfl (WO.p rfl rfl ?_))
                                                       refine WO.nil ?_
                                                       refine' ⟨j + 1, ?hp, ?hmu, ⟨rfl, rfl, rfl, rfl, rfl, rfl, rfl, rfl, rfl, rfl, trivial⟩, ?hS⟩
                                                       case hS => repeat (first | exact Sub.nil | refine Sub.cons (by repeat (first | exact Pick.head | apply Pick.tail)) ?_)
                                                       case hp => exact ⟨by omega, jI_succ hjI (by first | exact jz1 hd hjl hjx hp (by omega) | exact jz2 hjl hjx hp (by assumption) | exact jz3 hd hjl hjx hp hpb.2 (by omega) (by assumption) (by omega) (by omega) (by omega))⟩
                                                       case hmu => omega))))))
                                   first
                                   | (exfalso; omega)
                                   | (refine W.exit (blk_same ?_)
                                      refine W.region ?_
                                      refine WO.p rfl rfl (WO.ar rfl rfl rfl (by (first | (unfold in64; omega) | (unfold in64; omega))) rfl (WO.p rfl rfl ?_))
                                      refine WO.nil ?_
                                      refine' ⟨i + 1, _, ?hp, ?hmu, ⟨rfl, rfl, rfl, rfl, rfl, rfl, rfl, trivial⟩, ?hS⟩
                                      case hS => repeat (first | exact Sub.nil | refine Sub.cons (by repeat (first | exact Pick.head | apply Pick.tail)) ?_)
                                      case hp => first | exact ⟨by omega, okC_succ hok2 (nw_out hil (by assumption) (by omega)), mo_out hil hg2 (by assumption)⟩ | exact ⟨by omega, okC_succ hok2 (jI_end hil hb (by rw [← ht, show l.length = j by omega]; exact hjI) (by omega)), mo_in hil hc8 hg2 hb (by rw [← ht]; exact hg3)⟩
                                      case hmu => omega)))
                           first
                           | (exfalso; omega)
                           | (refine W.skip ?_
                              first | (have q : t < 1048576 := (by assumption); obtain ⟨g3, hg3e, hg3⟩ : ∃ g3, g3 = max g2 (cntN s l.length) ∧ ((g3 = max g2 (cntN s l.length) ∧ t < nev) ∨ (g3 = g2 ∧ ¬ t < nev)) := ⟨_, rfl, .inl ⟨rfl, q⟩⟩; rw [← hg3e]) | (have q : ¬ t < 1048576 := (by assumption); obtain ⟨g3, hg3e, hg3⟩ : ∃ g3, g3 = g2 ∧ ((g3 = max g2 (cntN s l.length) ∧ t < nev) ∨ (g3 = g2 ∧ ¬ t < nev)) := ⟨_, rfl, .inr ⟨rfl, q⟩⟩; rw [← hg3e])
                              have hb : hasB s i := by assumption
                              have hri := hd.at_ hil
                              unfold OkR at hri
                              refine W.sreg ?_
                              refine WO.fieldL rfl rfl rfl (WO.load rfl rfl (Cell.own Pick.head rfl) rfl (WO.p rfl rfl ?_))
                              refine' WO.indexAddr (n := _) (i := _) rfl rfl rfl ?hs ?h1 rfl ?_
                              case hs => (first | exact hR.sl)
                              case h1 => (first | omega | (simp; omega))
                              refine' WO.loadA (vs := _) rfl rfl ?hc ?hl rfl ?_
                              case hc => (first | exact RdF.cellsR hR (i := i) (by omega))
                              case hl => rfl
                              refine WO.alloc rfl rfl rfl (fun b2 hb2 => ?_)
                              refine WO.storeA rfl rfl rfl rfl Pick.head rfl rfl ?_
                              refine WO.nil ?_
                              refine W.seq ?_
                              refine W.sreg ?_
                              refine WO.p rfl rfl (WO.p rfl rfl (WO.p rfl rfl ?_))
                              refine WO.guard_bl rfl rfl (fun c9 => ?_) (fun c9 => ?_)
                              · first
                                | (exfalso; omega)
                                | (refine WO.pg rfl rfl rfl (WO.go' rfl (WO.fieldL rfl rfl rfl (WO.go' rfl (WO.load rfl rfl (Cell.own Pick.head rfl) rfl (WO.go' rfl (WO.field0 rfl rfl rfl (WO.go' rfl (WO.load rfl rfl (Cell.own Pick.head rfl) rfl (WO.go' rfl (WO.ar rfl rfl rfl (by (first | (unfold in64; omega) | (unfold in64; omega))) rfl (WO.pg rfl rfl rfl ?_)))))))))))
                                   refine WO.p rfl rfl ?_
                                   refine WO.nil ?_
                                   refine W.cond_bl rfl (fun c10 => ?_) (fun c10 => ?_)
                                   · first
                                     | (exfalso; omega)
                                     | (refine W.sreg ?_
                                        refine WO.p rfl rfl (WO.p rfl rfl ?_)
                                        refine WO.nil ?_
                                        refine W.ret ?_
                                        first | (rw [ctV_bad (ctE_1 (by assumption)) (by assumption)]; exact fin.ret (Res.two rfl (RV.tmp rfl) (RV.tmp rfl)) rfl) | (rw [ctV_bad (ctE_15 (by omega) (by omega)) (by decide)]; exact fin.ret (Res.two rfl (RV.tmp rfl) (RV.tmp rfl)) rfl) | (rw [ctV_bad (ctE_3 (by omega) hxl (bad3_of (x := c) (by omega) (by omega))) (by decide)]; exact fin.ret (Res.two rfl (RV.tmp rfl) (RV.tmp rfl)) rfl) | (rw [ctV_bad (ctE_14 (by omega) hxl hn3 (wrX_14 hil hix (by rw [← ht]; exact .inl ⟨by assumption, by omega⟩))) (by decide)]; exact fin.ret (Res.two rfl (RV.tmp rfl) (RV.tmp rfl)) rfl) | (rw [ctV_bad (ctE_14 (by omega) hxl hn3 (jA_14 hd hs2 hil hb hix (by rw [← ht]; omega))) (by decide)]; exact fin.ret (Res.two rfl (RV.tmp rfl) (RV.tmp rfl)) rfl) | (rw [ctV_bad (ctE_14 (by omega) hxl hn3 (j14 hd hil hjl hb hjx hix hp ht hpb.2 (by omega) (by assumption) (by omega) (by omega) (by omega) (by omega))) (by decide)]; exact fin.ret (Res.two rfl (RV.tmp rfl) (RV.tmp rfl)) rfl) | (have e1 : xs.length = s * l.length := (by rw [show s = N by omega]; rw [hN]; exact hxl); have e0 : ctE b l xs a = 0 := ctE_0 (by omega) hxl hn3 (okC_14 (by rw [e1]; exact hok)); unfold ctV ctM; rw [e0, if_pos rfl, show mostF l xs = g by rw [hg, ← e1]; rfl]; exact fin.ret (Res.two rfl (RV.tmp rfl) (RV.tmp rfl)) rfl))
                                   first
                                   | (exfalso; omega)
                                   | (refine W.skip ?_
                                      have hj0 := jI_0 (xs := xs) hd hs2 hil hb (v := t) (by omega)
                                      refine W.sreg ?_
                                      refine WO.p rfl rfl ?_
                                      refine WO.nil ?_
                                      refine W.block ?_
                                      refine W.loop (fun (j : Nat) => j ≤ l.length ∧ jI b l xs s i j t)
                                        (fun (j : Nat) => [(1, u), (2, .pointer (some ⟨b1, 0, none⟩)), (6, .int .i64 (l.length : Int)), (8, .int .i64 (g3 : Int)), (9, .int .i64 (s : Int)), (10, .int .i64 (cntN s l.length : Int)), (12, .int .i64 (i : Int)), (13, .int .i64 t), (14, .pointer (some ⟨b2, 0, none⟩)), (15, .int .i64 (j : Int))])
                                        (fun (j : Nat) => [pt b1 (.cells #[.int .i64 a, .int .i64 b, v] 26 (0, 0)), pt b2 (.cells #[.int .i64 (l.getD i rn0).mi, .int .i64 (l.getD i rn0).lo, .int .i64 (l.getD i rn0).hi, .int .i64 (l.getD i rn0).st, .int .i64 (l.getD i rn0).fr, .int .i64 (l.getD i rn0).un] 48 (0, 0))])
                                        (fun (j : Nat) => l.length - j) 0
                                        (by exact ⟨by omega, hj0⟩) ⟨rfl, rfl, rfl, rfl, rfl, rfl, rfl, rfl, rfl, rfl, trivial⟩ (by repeat (first | exact Sub.nil | refine Sub.cons (by repeat (first | exact Pick.head | apply Pick.tail)) ?_)) ?_
                                      rintro j ⟨hj, hjI⟩
                                      refine W.seq ?_
                                      refine W.sreg ?_
                                      refine WO.p rfl rfl (WO.p rfl rfl (WO.p rfl rfl ?_))
                                      refine WO.nil ?_
                                      refine W.cond_bl rfl (fun c11 => ?_) (fun c11 => ?_)
                                      · first
                                        | (exfalso; omega)
                                        | (refine W.skip ?_
                                           refine W.seq ?_
                                           refine W.block ?_
                                           have hjl : j < l.length := by omega
                                           have hwo : wo s i < s := wo_less hb
                                           have hw1 : (wo s i + 1) * l.length ≤ N * l.length := Nat.mul_le_mul_right _ (by omega)
                                           rw [Nat.add_mul] at hw1
                                           have hjx : wo s i * l.length + j < xs.length := by omega
                                           obtain ⟨p, hp⟩ : ∃ p, p = xs.getD (wo s i * l.length + j) 0 := ⟨_, rfl⟩
                                           have hpb := not3 hn3 hjx
                                           rw [← hp] at hpb
                                           have hwb := hd.w hjl i
                                           refine W.sreg ?_
                                           refine WO.p rfl rfl (WO.p rfl rfl ?_)
                                           refine WO.shlN (a := 1) (s := i) rfl rfl (by show i ≤ 64; omega) (fit (by have := shl1 (show i ≤ 8 by omega); omega)) rfl ?_
                                           refine WO.andNotN (a := s) (b := 1 <<< i) rfl rfl (fit (by omega)) (fit (by have := shl1 (show i ≤ 8 by omega); omega)) rfl ?_
                                           rw [show s ^^^ (s &&& (1 <<< i)) = wo s i from rfl]
                                           refine WO.p rfl rfl ?_
                                           refine WO.nil ?_
                                           refine W.seq ?_
                                           refine W.sreg ?_
                                           refine WO.p rfl rfl (WO.p rfl rfl (WO.p rfl rfl (WO.p rfl rfl ?_)))
                                           refine WO.guard_bl rfl rfl (fun c12 => ?_) (fun c12 => ?_)
                                           · first
                                             | (exfalso; omega)
                                             | (refine WO.no rfl rfl (WO.no rfl rfl (WO.no rfl rfl (WO.no rfl rfl (WO.p rfl rfl (WO.p rfl rfl (WO.no rfl rfl (WO.no rfl rfl (WO.no rfl rfl (WO.no rfl rfl (WO.no rfl rfl (WO.no rfl rfl ?_)))))))))))
                                                refine WO.no rfl rfl (WO.no rfl rfl (WO.no rfl rfl (WO.p rfl rfl (WO.p rfl rfl (WO.no rfl rfl (WO.no rfl rfl (WO.no rfl rfl (WO.no rfl rfl (WO.no rfl rfl (WO.p rfl rfl ?_))))))))))
                                                refine WO.nil ?_
                                                refine W.cond_t rfl ?_
                                                refine W.exit (blk_same ?_)
                                                refine W.region ?_
                                                refine WO.p rfl rfl (WO.ar rfl rfl rfl (by (first | (unfold in64; omega) | (unfold in64; omega))) rfl (WO.p rfl rfl ?_))
                                                refine WO.nil ?_
                                                refine' ⟨j + 1, ?hp, ?hmu, ⟨rfl, rfl, rfl, rfl, rfl, rfl, rfl, rfl, rfl, rfl, trivial⟩, ?hS⟩
                                                case hS => repeat (first | exact Sub.nil | refine Sub.cons (by repeat (first | exact Pick.head | apply Pick.tail)) ?_)
                                                case hp => exact ⟨by omega, jI_succ hjI (by first | exact jz1 hd hjl hjx hp (by omega) | exact jz2 hjl hjx hp (by assumption) | exact jz3 hd hjl hjx hp hpb.2 (by omega) (by assumption) (by omega) (by omega) (by omega))⟩
                                                case hmu => omega)
                                           first
                                           | (exfalso; omega)
                                           | (refine WO.pg rfl rfl rfl (WO.pg rfl rfl rfl (WO.go' rfl ?_))
                                              refine WO.callR rfl Try.call55 (fun L w hi => ref_in w s j (by omega)) rfl ?_
                                              refine WO.pg rfl rfl rfl (WO.p rfl rfl (WO.p rfl rfl ?_))
                                              refine WO.guard_nbl rfl rfl (fun c13 => ?_) (fun c13 => ?_)
                                              · first
                                                | (exfalso; omega)
                                                | (refine WO.no rfl rfl (WO.no rfl rfl (WO.no rfl rfl (WO.no rfl rfl (WO.no rfl rfl (WO.no rfl rfl (WO.no rfl rfl (WO.no rfl rfl (WO.no rfl rfl (WO.p rfl rfl (WO.p rfl rfl (WO.no rfl rfl ?_)))))))))))
                                                   refine WO.no rfl rfl (WO.no rfl rfl (WO.no rfl rfl (WO.no rfl rfl (WO.p rfl rfl ?_))))
                                                   refine WO.nil ?_
                                                   refine W.cond_t rfl ?_
                                                   refine W.exit (blk_same ?_)
                                                   refine W.region ?_
                                                   refine WO.p rfl rfl (WO.ar rfl rfl rfl (by (first | (unfold in64; omega) | (unfold in64; omega))) rfl (WO.p rfl rfl ?_))
                                                   refine WO.nil ?_
                                                   refine' ⟨j + 1, ?hp, ?hmu, ⟨rfl, rfl, rfl, rfl, rfl, rfl, rfl, rfl, rfl, rfl, trivial⟩, ?hS⟩
                                                   case hS => repeat (first | exact Sub.nil | refine Sub.cons (by repeat (first | exact Pick.head | apply Pick.tail)) ?_)
                                                   case hp => exact ⟨by omega, jI_succ hjI (by first | exact jz1 hd hjl hjx hp (by omega) | exact jz2 hjl hjx hp (by assumption) | exact jz3 hd hjl hjx hp hpb.2 (by omega) (by assumption) (by omega) (by omega) (by omega))⟩
                                                   case hmu => omega)
                                              first
                                              | (exfalso; omega)
                                              | (refine WO.pg rfl rfl rfl (WO.pg rfl rfl rfl (WO.pg rfl rfl rfl (WO.go' rfl ?_)))
                                                 refine WO.mul rfl rfl (by rw [← Int.natCast_mul]; unfold in64; omega) rfl ?_
                                                 rw [← Int.natCast_mul]
                                                 refine WO.pg rfl rfl rfl (WO.go' rfl ?_)
                                                 refine WO.add rfl rfl (by unfold in64; omega) rfl ?_
                                                 rw [← Int.natCast_add]
                                                 refine WO.go' rfl ?_
                                                 refine' WO.indexAddr (n := _) (i := _) rfl rfl rfl ?hs ?h1 rfl ?_
                                                 case hs => (first | exact hX.sl)
                                                 case h1 => (first | omega | (simp; omega))
                                                 refine WO.go' rfl ?_
                                                 refine' WO.load (v := _) rfl rfl ?hc rfl ?_
                                                 case hc => (first | (refine hX.cell0 (i := wo s i * l.length + j) hjx 0 ?_; rw [← hp]; rfl))
                                                 refine WO.pg rfl rfl rfl (WO.p rfl rfl (WO.p rfl rfl ?_))
                                                 refine WO.guard_bl rfl rfl (fun c14 => ?_) (fun c14 => ?_)
                                                 · first
                                                   | (exfalso; omega)
                                                   | (refine WO.no rfl rfl (WO.no rfl rfl (WO.no rfl rfl (WO.no rfl rfl (WO.no rfl rfl (WO.p rfl rfl ?_)))))
                                                      refine WO.nil ?_
                                                      refine W.cond_t rfl ?_
                                                      refine W.exit (blk_same ?_)
                                                      refine W.region ?_
                                                      refine WO.p rfl rfl (WO.ar rfl rfl rfl (by (first | (unfold in64; omega) | (unfold in64; omega))) rfl (WO.p rfl rfl ?_))
                                                      refine WO.nil ?_
                                                      refine' ⟨j + 1, ?hp, ?hmu, ⟨rfl, rfl, rfl, rfl, rfl, rfl, rfl, rfl, rfl, rfl, trivial⟩, ?hS⟩
                                                      case hS => repeat (first | exact Sub.nil | refine Sub.cons (by repeat (first | exact Pick.head | apply Pick.tail)) ?_)
                                                      case hp => exact ⟨by omega, jI_succ hjI (by first | exact jz1 hd hjl hjx hp (by omega) | exact jz2 hjl hjx hp (by assumption) | exact jz3 hd hjl hjx hp hpb.2 (by omega) (by assumption) (by omega) (by omega) (by omega))⟩
                                                      case hmu => omega)
                                                 first
                                                 | (exfalso; omega)
                                                 | (refine WO.go' rfl (WO.loadA rfl rfl (Cells.own Pick.head) rfl rfl (WO.pg rfl rfl rfl (WO.pg rfl rfl rfl (WO.go' rfl ?_))))
                                                    refine WO.callR rfl Try.call56 (fun L w hi => ref_Waits w v a b l j i (hR.later hi) hd hjl hil) rfl ?_
                                                    refine WO.pg rfl rfl rfl (WO.p rfl rfl ?_)
                                                    refine WO.nil ?_
                                                    refine W.cond_bl rfl (fun c15 => ?_) (fun c15 => ?_)
                                                    · first
                                                      | (exfalso; omega)
                                                      | (refine W.exit (blk_same ?_)
                                                         refine W.region ?_
                                                         refine WO.p rfl rfl (WO.ar rfl rfl rfl (by (first | (unfold in64; omega) | (unfold in64; omega))) rfl (WO.p rfl rfl ?_))
                                                         refine WO.nil ?_
                                                         refine' ⟨j + 1, ?hp, ?hmu, ⟨rfl, rfl, rfl, rfl, rfl, rfl, rfl, rfl, rfl, rfl, trivial⟩, ?hS⟩
                                                         case hS => repeat (first | exact Sub.nil | refine Sub.cons (by repeat (first | exact Pick.head | apply Pick.tail)) ?_)
                                                         case hp => exact ⟨by omega, jI_succ hjI (by first | exact jz1 hd hjl hjx hp (by omega) | exact jz2 hjl hjx hp (by assumption) | exact jz3 hd hjl hjx hp hpb.2 (by omega) (by assumption) (by omega) (by omega) (by omega))⟩
                                                         case hmu => omega)
                                                    first
                                                    | (exfalso; omega)
                                                    | (refine W.skip ?_
                                                       refine W.seq ?_
                                                       refine W.drawD 15 [.r 0 [], .b 1 [], .r 2 [], .r 3 [], .r 4 [], .r 5 [], .r 6 [], .r 7 [], .r 8 [], .b 9 [], .b 10 [], .r 11 [], .r 12 [], .b 13 [], .r 14 []] [] (A0 := []) (Sub.refl _) (by kernel_rfl) ?_ ?_
                                                       · exact (ALok.r (ALok.b (ALok.r (ALok.r (ALok.r (ALok.r (ALok.r (ALok.r (ALok.r (ALok.b (ALok.b (ALok.r (ALok.r (ALok.b (ALok.r ALok.nil)))))))))))))))
                                                       refine' DT.r rfl rfl rfl ?hq ?_
                                                       case hq =>
                                                         refine WO.fieldL rfl rfl rfl ?_
                                                         exact WO.nil ⟨rfl, rfl⟩
                                                       refine' DT.b rfl rfl rfl ?hq ?_
                                                       case hq =>
                                                         refine WO.load rfl rfl (Cell.own (Pick.tail (Pick.head)) rfl) rfl ?_
                                                         exact WO.nil ⟨rfl, rfl⟩
                                                       refine' DT.r rfl rfl rfl ?hq ?_
                                                       case hq =>
                                                         refine WO.p rfl rfl ?_
                                                         exact WO.nil ⟨rfl, rfl⟩
                                                       refine' DT.r rfl rfl rfl ?hq ?_
                                                       case hq =>
                                                         refine WO.p rfl rfl ?_
                                                         exact WO.nil ⟨rfl, rfl⟩
                                                       refine' DT.r rfl rfl rfl ?hq ?_
                                                       case hq =>
                                                         refine WO.p rfl rfl ?_
                                                         exact WO.nil ⟨rfl, rfl⟩
                                                       refine' DT.r rfl rfl rfl ?hq ?_
                                                       case hq =>
                                                         refine WO.mul rfl rfl (by rw [← Int.natCast_mul]; unfold in64; omega) rfl ?_
                                                         rw [← Int.natCast_mul]
                                                         exact WO.nil ⟨rfl, rfl⟩
                                                       refine' DT.r rfl rfl rfl ?hq ?_
                                                       case hq =>
                                                         refine WO.p rfl rfl ?_
                                                         exact WO.nil ⟨rfl, rfl⟩
                                                       refine' DT.r rfl rfl rfl ?hq ?_
                                                       case hq =>
                                                         refine WO.add rfl rfl (by unfold in64; omega) rfl ?_
                                                         rw [← Int.natCast_add]
                                                         exact WO.nil ⟨rfl, rfl⟩
                                                       refine' DT.r rfl rfl rfl ?hq ?_
                                                       case hq =>
                                                         refine' WO.indexAddr (n := _) (i := _) rfl rfl rfl ?hs ?h1 rfl ?_
                                                         case hs => (first | exact hX.sl)
                                                         case h1 => (first | omega | (simp; omega))
                                                         exact WO.nil ⟨rfl, rfl⟩
                                                       refine' DT.b rfl rfl rfl ?hq ?_
                                                       case hq =>
                                                         refine' WO.load (v := _) rfl rfl ?hc rfl ?_
                                                         case hc => (first | (refine hX.cell0 (i := wo s i * l.length + j) hjx 0 ?_; rw [← hp]; rfl))
                                                         exact WO.nil ⟨rfl, rfl⟩
                                                       refine' DT.b rfl rfl rfl ?hq ?_
                                                       case hq =>
                                                         refine WO.loadA rfl rfl (Cells.own Pick.head) rfl rfl ?_
                                                         exact WO.nil ⟨rfl, rfl⟩
                                                       refine' DT.r rfl rfl rfl ?hq ?_
                                                       case hq =>
                                                         refine WO.p rfl rfl ?_
                                                         exact WO.nil ⟨rfl, rfl⟩
                                                       refine' DT.r rfl rfl rfl ?hq ?_
                                                       case hq =>
                                                         refine WO.p rfl rfl ?_
                                                         exact WO.nil ⟨rfl, rfl⟩
                                                       refine' DT.b rfl rfl rfl ?hq ?_
                                                       case hq =>
                                                         refine WO.callR rfl Try.call56 (fun L w hi => ref_Waits w v a b l j i (hR.later hi) hd hjl hil) rfl ?_
                                                         exact WO.nil ⟨rfl, rfl⟩
                                                       refine' DT.r rfl rfl rfl ?hq ?_
                                                       case hq =>
                                                         refine WO.ar rfl rfl rfl (by (first | (unfold in64; omega) | (unfold in64; omega))) rfl ?_
                                                         exact WO.nil ⟨rfl, rfl⟩
                                                       refine DT.nil [_, _] rfl ?_
                                                       refine WO.max2 rfl rfl rfl ?_
                                                       refine WO.p rfl rfl ?_
                                                       refine WO.nil ?_
                                                       refine W.sreg ?_
                                                       refine WO.p rfl rfl (WO.fieldL rfl rfl rfl (WO.load rfl rfl (Cell.own (Pick.tail (Pick.head)) rfl) rfl (WO.p rfl rfl (WO.p rfl rfl ?_))))
                                                       refine WO.guard_bl rfl rfl (fun c16 => ?_) (fun c16 => ?_)
                                                       · first
                                                         | (exfalso; omega)
                                                         | (refine WO.pg rfl rfl rfl (WO.pg rfl rfl rfl (WO.go' rfl (WO.field0 rfl rfl rfl (WO.go' rfl (WO.load rfl rfl (Cell.own (Pick.tail (Pick.head)) rfl) rfl (WO.go' rfl (WO.ar rfl rfl rfl (by (first | (unfold in64; omega) | (unfold in64; omega))) rfl (WO.pg rfl rfl rfl (WO.p rfl rfl ?_)))))))))
                                                            refine WO.nil ?_
                                                            refine W.cond_bl rfl (fun c17 => ?_) (fun c17 => ?_)
                                                            · first
                                                              | (exfalso; omega)
                                                              | (refine W.sreg ?_
                                                                 refine WO.p rfl rfl (WO.p rfl rfl ?_)
                                                                 refine WO.nil ?_
                                                                 refine W.ret ?_
                                                                 first | (rw [ctV_bad (ctE_1 (by assumption)) (by assumption)]; exact fin.ret (Res.two rfl (RV.tmp rfl) (RV.tmp rfl)) rfl) | (rw [ctV_bad (ctE_15 (by omega) (by omega)) (by decide)]; exact fin.ret (Res.two rfl (RV.tmp rfl) (RV.tmp rfl)) rfl) | (rw [ctV_bad (ctE_3 (by omega) hxl (bad3_of (x := c) (by omega) (by omega))) (by decide)]; exact fin.ret (Res.two rfl (RV.tmp rfl) (RV.tmp rfl)) rfl) | (rw [ctV_bad (ctE_14 (by omega) hxl hn3 (wrX_14 hil hix (by rw [← ht]; exact .inl ⟨by assumption, by omega⟩))) (by decide)]; exact fin.ret (Res.two rfl (RV.tmp rfl) (RV.tmp rfl)) rfl) | (rw [ctV_bad (ctE_14 (by omega) hxl hn3 (jA_14 hd hs2 hil hb hix (by rw [← ht]; omega))) (by decide)]; exact fin.ret (Res.two rfl (RV.tmp rfl) (RV.tmp rfl)) rfl) | (rw [ctV_bad (ctE_14 (by omega) hxl hn3 (j14 hd hil hjl hb hjx hix hp ht hpb.2 (by omega) (by assumption) (by omega) (by omega) (by omega) (by omega))) (by decide)]; exact fin.ret (Res.two rfl (RV.tmp rfl) (RV.tmp rfl)) rfl) | (have e1 : xs.length = s * l.length := (by rw [show s = N by omega]; rw [hN]; exact hxl); have e0 : ctE b l xs a = 0 := ctE_0 (by omega) hxl hn3 (okC_14 (by rw [e1]; exact hok)); unfold ctV ctM; rw [e0, if_pos rfl, show mostF l xs = g by rw [hg, ← e1]; rfl]; exact fin.ret (Res.two rfl (RV.tmp rfl) (RV.tmp rfl)) rfl))
                                                            first
                                                            | (exfalso; omega)
                                                            | (refine W.skip ?_
                                                               refine W.region ?_
                                                               refine WO.p rfl rfl (WO.ar rfl rfl rfl (by (first | (unfold in64; omega) | (unfold in64; omega))) rfl (WO.p rfl rfl ?_))
                                                               refine WO.nil ?_
                                                               refine' ⟨j + 1, ?hp, ?hmu, ⟨rfl, rfl, rfl, rfl, rfl, rfl, rfl, rfl, rfl, rfl, trivial⟩, ?hS⟩
                                                               case hS => repeat (first | exact Sub.nil | refine Sub.cons (by repeat (first | exact Pick.head | apply Pick.tail)) ?_)
                                                               case hp => exact ⟨by omega, jI_succ hjI (by first | exact jz1 hd hjl hjx hp (by omega) | exact jz2 hjl hjx hp (by assumption) | exact jz3 hd hjl hjx hp hpb.2 (by omega) (by assumption) (by omega) (by omega) (by omega))⟩
                                                               case hmu => omega))
                                                       first
                                                       | (exfalso; omega)
                                                       | (refine WO.no rfl rfl (WO.no rfl rfl (WO.no rfl rfl (WO.no rfl rfl (WO.no rfl rfl (WO.no rfl rfl (WO.p rfl rfl ?_))))))
                                                          refine WO.nil ?_
                                                          refine W.cond_f rfl ?_
                                                          refine W.skip ?_
                                                          refine W.region ?_
                                                          refine WO.p rfl rfl (WO.ar rfl rfl rfl (by (first | (unfold in64; omega) | (unfold in64; omega))) rfl (WO.p rfl rfl ?_))
                                                          refine WO.nil ?_
                                                          refine' ⟨j + 1, ?hp, ?hmu, ⟨rfl, rfl, rfl, rfl, rfl, rfl, rfl, rfl, rfl, rfl, trivial⟩, ?hS⟩
                                                          case hS => repeat (first | exact Sub.nil | refine Sub.cons (by repeat (first | exact Pick.head | apply Pick.tail)) ?_)
                                                          case hp => exact ⟨by omega, jI_succ hjI (by first | exact jz1 hd hjl hjx hp (by omega) | exact jz2 hjl hjx hp (by assumption) | exact jz3 hd hjl hjx hp hpb.2 (by omega) (by assumption) (by omega) (by omega) (by omega))⟩
                                                          case hmu => omega))))))
                                      first
                                      | (exfalso; omega)
                                      | (refine W.exit (blk_same ?_)
                                         refine W.region ?_
                                         refine WO.p rfl rfl (WO.ar rfl rfl rfl (by (first | (unfold in64; omega) | (unfold in64; omega))) rfl (WO.p rfl rfl ?_))
                                         refine WO.nil ?_
                                         refine' ⟨i + 1, _, ?hp, ?hmu, ⟨rfl, rfl, rfl, rfl, rfl, rfl, rfl, trivial⟩, ?hS⟩
                                         case hS => repeat (first | exact Sub.nil | refine Sub.cons (by repeat (first | exact Pick.head | apply Pick.tail)) ?_)
                                         case hp => first | exact ⟨by omega, okC_succ hok2 (nw_out hil (by assumption) (by omega)), mo_out hil hg2 (by assumption)⟩ | exact ⟨by omega, okC_succ hok2 (jI_end hil hb (by rw [← ht, show l.length = j by omega]; exact hjI) (by omega)), mo_in hil hc8 hg2 hb (by rw [← ht]; exact hg3)⟩
                                         case hmu => omega)))
                              first
                              | (exfalso; omega)
                              | (refine WO.no rfl rfl (WO.no rfl rfl (WO.no rfl rfl (WO.no rfl rfl (WO.no rfl rfl (WO.no rfl rfl (WO.no rfl rfl (WO.p rfl rfl ?_)))))))
                                 refine WO.nil ?_
                                 refine W.cond_f rfl ?_
                                 refine W.skip ?_
                                 have hj0 := jI_0 (xs := xs) hd hs2 hil hb (v := t) (by omega)
                                 refine W.sreg ?_
                                 refine WO.p rfl rfl ?_
                                 refine WO.nil ?_
                                 refine W.block ?_
                                 refine W.loop (fun (j : Nat) => j ≤ l.length ∧ jI b l xs s i j t)
                                   (fun (j : Nat) => [(1, u), (2, .pointer (some ⟨b1, 0, none⟩)), (6, .int .i64 (l.length : Int)), (8, .int .i64 (g3 : Int)), (9, .int .i64 (s : Int)), (10, .int .i64 (cntN s l.length : Int)), (12, .int .i64 (i : Int)), (13, .int .i64 t), (14, .pointer (some ⟨b2, 0, none⟩)), (15, .int .i64 (j : Int))])
                                   (fun (j : Nat) => [pt b1 (.cells #[.int .i64 a, .int .i64 b, v] 26 (0, 0)), pt b2 (.cells #[.int .i64 (l.getD i rn0).mi, .int .i64 (l.getD i rn0).lo, .int .i64 (l.getD i rn0).hi, .int .i64 (l.getD i rn0).st, .int .i64 (l.getD i rn0).fr, .int .i64 (l.getD i rn0).un] 48 (0, 0))])
                                   (fun (j : Nat) => l.length - j) 0
                                   (by exact ⟨by omega, hj0⟩) ⟨rfl, rfl, rfl, rfl, rfl, rfl, rfl, rfl, rfl, rfl, trivial⟩ (by repeat (first | exact Sub.nil | refine Sub.cons (by repeat (first | exact Pick.head | apply Pick.tail)) ?_)) ?_
                                 rintro j ⟨hj, hjI⟩
                                 refine W.seq ?_
                                 refine W.sreg ?_
                                 refine WO.p rfl rfl (WO.p rfl rfl (WO.p rfl rfl ?_))
                                 refine WO.nil ?_
                                 refine W.cond_bl rfl (fun c10 => ?_) (fun c10 => ?_)
                                 · first
                                   | (exfalso; omega)
                                   | (refine W.skip ?_
                                      refine W.seq ?_
                                      refine W.block ?_
                                      have hjl : j < l.length := by omega
                                      have hwo : wo s i < s := wo_less hb
                                      have hw1 : (wo s i + 1) * l.length ≤ N * l.length := Nat.mul_le_mul_right _ (by omega)
                                      rw [Nat.add_mul] at hw1
                                      have hjx : wo s i * l.length + j < xs.length := by omega
                                      obtain ⟨p, hp⟩ : ∃ p, p = xs.getD (wo s i * l.length + j) 0 := ⟨_, rfl⟩
                                      have hpb := not3 hn3 hjx
                                      rw [← hp] at hpb
                                      have hwb := hd.w hjl i
                                      refine W.sreg ?_
                                      refine WO.p rfl rfl (WO.p rfl rfl ?_)
                                      refine WO.shlN (a := 1) (s := i) rfl rfl (by show i ≤ 64; omega) (fit (by have := shl1 (show i ≤ 8 by omega); omega)) rfl ?_
                                      refine WO.andNotN (a := s) (b := 1 <<< i) rfl rfl (fit (by omega)) (fit (by have := shl1 (show i ≤ 8 by omega); omega)) rfl ?_
                                      rw [show s ^^^ (s &&& (1 <<< i)) = wo s i from rfl]
                                      refine WO.p rfl rfl ?_
                                      refine WO.nil ?_
                                      refine W.seq ?_
                                      refine W.sreg ?_
                                      refine WO.p rfl rfl (WO.p rfl rfl (WO.p rfl rfl (WO.p rfl rfl ?_)))
                                      refine WO.guard_bl rfl rfl (fun c11 => ?_) (fun c11 => ?_)
                                      · first
                                        | (exfalso; omega)
                                        | (refine WO.no rfl rfl (WO.no rfl rfl (WO.no rfl rfl (WO.no rfl rfl (WO.p rfl rfl (WO.p rfl rfl (WO.no rfl rfl (WO.no rfl rfl (WO.no rfl rfl (WO.no rfl rfl (WO.no rfl rfl (WO.no rfl rfl ?_)))))))))))
                                           refine WO.no rfl rfl (WO.no rfl rfl (WO.no rfl rfl (WO.p rfl rfl (WO.p rfl rfl (WO.no rfl rfl (WO.no rfl rfl (WO.no rfl rfl (WO.no rfl rfl (WO.no rfl rfl (WO.p rfl rfl ?_))))))))))
                                           refine WO.nil ?_
                                           refine W.cond_t rfl ?_
                                           refine W.exit (blk_same ?_)
                                           refine W.region ?_
                                           refine WO.p rfl rfl (WO.ar rfl rfl rfl (by (first | (unfold in64; omega) | (unfold in64; omega))) rfl (WO.p rfl rfl ?_))
                                           refine WO.nil ?_
                                           refine' ⟨j + 1, ?hp, ?hmu, ⟨rfl, rfl, rfl, rfl, rfl, rfl, rfl, rfl, rfl, rfl, trivial⟩, ?hS⟩
                                           case hS => repeat (first | exact Sub.nil | refine Sub.cons (by repeat (first | exact Pick.head | apply Pick.tail)) ?_)
                                           case hp => exact ⟨by omega, jI_succ hjI (by first | exact jz1 hd hjl hjx hp (by omega) | exact jz2 hjl hjx hp (by assumption) | exact jz3 hd hjl hjx hp hpb.2 (by omega) (by assumption) (by omega) (by omega) (by omega))⟩
                                           case hmu => omega)
                                      first
                                      | (exfalso; omega)
                                      | (refine WO.pg rfl rfl rfl (WO.pg rfl rfl rfl (WO.go' rfl ?_))
                                         refine WO.callR rfl Try.call55 (fun L w hi => ref_in w s j (by omega)) rfl ?_
                                         refine WO.pg rfl rfl rfl (WO.p rfl rfl (WO.p rfl rfl ?_))
                                         refine WO.guard_nbl rfl rfl (fun c12 => ?_) (fun c12 => ?_)
                                         · first
                                           | (exfalso; omega)
                                           | (refine WO.no rfl rfl (WO.no rfl rfl (WO.no rfl rfl (WO.no rfl rfl (WO.no rfl rfl (WO.no rfl rfl (WO.no rfl rfl (WO.no rfl rfl (WO.no rfl rfl (WO.p rfl rfl (WO.p rfl rfl (WO.no rfl rfl ?_)))))))))))
                                              refine WO.no rfl rfl (WO.no rfl rfl (WO.no rfl rfl (WO.no rfl rfl (WO.p rfl rfl ?_))))
                                              refine WO.nil ?_
                                              refine W.cond_t rfl ?_
                                              refine W.exit (blk_same ?_)
                                              refine W.region ?_
                                              refine WO.p rfl rfl (WO.ar rfl rfl rfl (by (first | (unfold in64; omega) | (unfold in64; omega))) rfl (WO.p rfl rfl ?_))
                                              refine WO.nil ?_
                                              refine' ⟨j + 1, ?hp, ?hmu, ⟨rfl, rfl, rfl, rfl, rfl, rfl, rfl, rfl, rfl, rfl, trivial⟩, ?hS⟩
                                              case hS => repeat (first | exact Sub.nil | refine Sub.cons (by repeat (first | exact Pick.head | apply Pick.tail)) ?_)
                                              case hp => exact ⟨by omega, jI_succ hjI (by first | exact jz1 hd hjl hjx hp (by omega) | exact jz2 hjl hjx hp (by assumption) | exact jz3 hd hjl hjx hp hpb.2 (by omega) (by assumption) (by omega) (by omega) (by omega))⟩
                                              case hmu => omega)
                                         first
                                         | (exfalso; omega)
                                         | (refine WO.pg rfl rfl rfl (WO.pg rfl rfl rfl (WO.pg rfl rfl rfl (WO.go' rfl ?_)))
                                            refine WO.mul rfl rfl (by rw [← Int.natCast_mul]; unfold in64; omega) rfl ?_
                                            rw [← Int.natCast_mul]
                                            refine WO.pg rfl rfl rfl (WO.go' rfl ?_)
                                            refine WO.add rfl rfl (by unfold in64; omega) rfl ?_
                                            rw [← Int.natCast_add]
                                            refine WO.go' rfl ?_
                                            refine' WO.indexAddr (n := _) (i := _) rfl rfl rfl ?hs ?h1 rfl ?_
                                            case hs => (first | exact hX.sl)
                                            case h1 => (first | omega | (simp; omega))
                                            refine WO.go' rfl ?_
                                            refine' WO.load (v := _) rfl rfl ?hc rfl ?_
                                            case hc => (first | (refine hX.cell0 (i := wo s i * l.length + j) hjx 0 ?_; rw [← hp]; rfl))
                                            refine WO.pg rfl rfl rfl (WO.p rfl rfl (WO.p rfl rfl ?_))
                                            refine WO.guard_bl rfl rfl (fun c13 => ?_) (fun c13 => ?_)
                                            · first
                                              | (exfalso; omega)
                                              | (refine WO.no rfl rfl (WO.no rfl rfl (WO.no rfl rfl (WO.no rfl rfl (WO.no rfl rfl (WO.p rfl rfl ?_)))))
                                                 refine WO.nil ?_
                                                 refine W.cond_t rfl ?_
                                                 refine W.exit (blk_same ?_)
                                                 refine W.region ?_
                                                 refine WO.p rfl rfl (WO.ar rfl rfl rfl (by (first | (unfold in64; omega) | (unfold in64; omega))) rfl (WO.p rfl rfl ?_))
                                                 refine WO.nil ?_
                                                 refine' ⟨j + 1, ?hp, ?hmu, ⟨rfl, rfl, rfl, rfl, rfl, rfl, rfl, rfl, rfl, rfl, trivial⟩, ?hS⟩
                                                 case hS => repeat (first | exact Sub.nil | refine Sub.cons (by repeat (first | exact Pick.head | apply Pick.tail)) ?_)
                                                 case hp => exact ⟨by omega, jI_succ hjI (by first | exact jz1 hd hjl hjx hp (by omega) | exact jz2 hjl hjx hp (by assumption) | exact jz3 hd hjl hjx hp hpb.2 (by omega) (by assumption) (by omega) (by omega) (by omega))⟩
                                                 case hmu => omega)
                                            first
                                            | (exfalso; omega)
                                            | (refine WO.go' rfl (WO.loadA rfl rfl (Cells.own Pick.head) rfl rfl (WO.pg rfl rfl rfl (WO.pg rfl rfl rfl (WO.go' rfl ?_))))
                                               refine WO.callR rfl Try.call56 (fun L w hi => ref_Waits w v a b l j i (hR.later hi) hd hjl hil) rfl ?_
                                               refine WO.pg rfl rfl rfl (WO.p rfl rfl ?_)
                                               refine WO.nil ?_
                                               refine W.cond_bl rfl (fun c14 => ?_) (fun c14 => ?_)
                                               · first
                                                 | (exfalso; omega)
                                                 | (refine W.exit (blk_same ?_)
                                                    refine W.region ?_
                                                    refine WO.p rfl rfl (WO.ar rfl rfl rfl (by (first | (unfold in64; omega) | (unfold in64; omega))) rfl (WO.p rfl rfl ?_))
                                                    refine WO.nil ?_
                                                    refine' ⟨j + 1, ?hp, ?hmu, ⟨rfl, rfl, rfl, rfl, rfl, rfl, rfl, rfl, rfl, rfl, trivial⟩, ?hS⟩
                                                    case hS => repeat (first | exact Sub.nil | refine Sub.cons (by repeat (first | exact Pick.head | apply Pick.tail)) ?_)
                                                    case hp => exact ⟨by omega, jI_succ hjI (by first | exact jz1 hd hjl hjx hp (by omega) | exact jz2 hjl hjx hp (by assumption) | exact jz3 hd hjl hjx hp hpb.2 (by omega) (by assumption) (by omega) (by omega) (by omega))⟩
                                                    case hmu => omega)
                                               first
                                               | (exfalso; omega)
                                               | (refine W.skip ?_
                                                  refine W.seq ?_
                                                  refine W.drawD 15 [.r 0 [], .b 1 [], .r 2 [], .r 3 [], .r 4 [], .r 5 [], .r 6 [], .r 7 [], .r 8 [], .b 9 [], .b 10 [], .r 11 [], .r 12 [], .b 13 [], .r 14 []] [] (A0 := []) (Sub.refl _) (by kernel_rfl) ?_ ?_
                                                  · exact (ALok.r (ALok.b (ALok.r (ALok.r (ALok.r (ALok.r (ALok.r (ALok.r (ALok.r (ALok.b (ALok.b (ALok.r (ALok.r (ALok.b (ALok.r ALok.nil)))))))))))))))
                                                  refine' DT.r rfl rfl rfl ?hq ?_
                                                  case hq =>
                                                    refine WO.fieldL rfl rfl rfl ?_
                                                    exact WO.nil ⟨rfl, rfl⟩
                                                  refine' DT.b rfl rfl rfl ?hq ?_
                                                  case hq =>
                                                    refine WO.load rfl rfl (Cell.own (Pick.tail (Pick.head)) rfl) rfl ?_
                                                    exact WO.nil ⟨rfl, rfl⟩
                                                  refine' DT.r rfl rfl rfl ?hq ?_
                                                  case hq =>
                                                    refine WO.p rfl rfl ?_
                                                    exact WO.nil ⟨rfl, rfl⟩
                                                  refine' DT.r rfl rfl rfl ?hq ?_
                                                  case hq =>
                                                    refine WO.p rfl rfl ?_
                                                    exact WO.nil ⟨rfl, rfl⟩
                                                  refine' DT.r rfl rfl rfl ?hq ?_
                                                  case hq =>
                                                    refine WO.p rfl rfl ?_
                                                    exact WO.nil ⟨rfl, rfl⟩
                                                  refine' DT.r rfl rfl rfl ?hq ?_
                                                  case hq =>
                                                    refine WO.mul rfl rfl (by rw [← Int.natCast_mul]; unfold in64; omega) rfl ?_
                                                    rw [← Int.natCast_mul]
                                                    exact WO.nil ⟨rfl, rfl⟩
                                                  refine' DT.r rfl rfl rfl ?hq ?_
                                                  case hq =>
                                                    refine WO.p rfl rfl ?_
                                                    exact WO.nil ⟨rfl, rfl⟩
                                                  refine' DT.r rfl rfl rfl ?hq ?_
                                                  case hq =>
                                                    refine WO.add rfl rfl (by unfold in64; omega) rfl ?_
                                                    rw [← Int.natCast_add]
                                                    exact WO.nil ⟨rfl, rfl⟩
                                                  refine' DT.r rfl rfl rfl ?hq ?_
                                                  case hq =>
                                                    refine' WO.indexAddr (n := _) (i := _) rfl rfl rfl ?hs ?h1 rfl ?_
                                                    case hs => (first | exact hX.sl)
                                                    case h1 => (first | omega | (simp; omega))
                                                    exact WO.nil ⟨rfl, rfl⟩
                                                  refine' DT.b rfl rfl rfl ?hq ?_
                                                  case hq =>
                                                    refine' WO.load (v := _) rfl rfl ?hc rfl ?_
                                                    case hc => (first | (refine hX.cell0 (i := wo s i * l.length + j) hjx 0 ?_; rw [← hp]; rfl))
                                                    exact WO.nil ⟨rfl, rfl⟩
                                                  refine' DT.b rfl rfl rfl ?hq ?_
                                                  case hq =>
                                                    refine WO.loadA rfl rfl (Cells.own Pick.head) rfl rfl ?_
                                                    exact WO.nil ⟨rfl, rfl⟩
                                                  refine' DT.r rfl rfl rfl ?hq ?_
                                                  case hq =>
                                                    refine WO.p rfl rfl ?_
                                                    exact WO.nil ⟨rfl, rfl⟩
                                                  refine' DT.r rfl rfl rfl ?hq ?_
                                                  case hq =>
                                                    refine WO.p rfl rfl ?_
                                                    exact WO.nil ⟨rfl, rfl⟩
                                                  refine' DT.b rfl rfl rfl ?hq ?_
                                                  case hq =>
                                                    refine WO.callR rfl Try.call56 (fun L w hi => ref_Waits w v a b l j i (hR.later hi) hd hjl hil) rfl ?_
                                                    exact WO.nil ⟨rfl, rfl⟩
                                                  refine' DT.r rfl rfl rfl ?hq ?_
                                                  case hq =>
                                                    refine WO.ar rfl rfl rfl (by (first | (unfold in64; omega) | (unfold in64; omega))) rfl ?_
                                                    exact WO.nil ⟨rfl, rfl⟩
                                                  refine DT.nil [_, _] rfl ?_
                                                  refine WO.max2 rfl rfl rfl ?_
                                                  refine WO.p rfl rfl ?_
                                                  refine WO.nil ?_
                                                  refine W.sreg ?_
                                                  refine WO.p rfl rfl (WO.fieldL rfl rfl rfl (WO.load rfl rfl (Cell.own (Pick.tail (Pick.head)) rfl) rfl (WO.p rfl rfl (WO.p rfl rfl ?_))))
                                                  refine WO.guard_bl rfl rfl (fun c15 => ?_) (fun c15 => ?_)
                                                  · first
                                                    | (exfalso; omega)
                                                    | (refine WO.pg rfl rfl rfl (WO.pg rfl rfl rfl (WO.go' rfl (WO.field0 rfl rfl rfl (WO.go' rfl (WO.load rfl rfl (Cell.own (Pick.tail (Pick.head)) rfl) rfl (WO.go' rfl (WO.ar rfl rfl rfl (by (first | (unfold in64; omega) | (unfold in64; omega))) rfl (WO.pg rfl rfl rfl (WO.p rfl rfl ?_)))))))))
                                                       refine WO.nil ?_
                                                       refine W.cond_bl rfl (fun c16 => ?_) (fun c16 => ?_)
                                                       · first
                                                         | (exfalso; omega)
                                                         | (refine W.sreg ?_
                                                            refine WO.p rfl rfl (WO.p rfl rfl ?_)
                                                            refine WO.nil ?_
                                                            refine W.ret ?_
                                                            first | (rw [ctV_bad (ctE_1 (by assumption)) (by assumption)]; exact fin.ret (Res.two rfl (RV.tmp rfl) (RV.tmp rfl)) rfl) | (rw [ctV_bad (ctE_15 (by omega) (by omega)) (by decide)]; exact fin.ret (Res.two rfl (RV.tmp rfl) (RV.tmp rfl)) rfl) | (rw [ctV_bad (ctE_3 (by omega) hxl (bad3_of (x := c) (by omega) (by omega))) (by decide)]; exact fin.ret (Res.two rfl (RV.tmp rfl) (RV.tmp rfl)) rfl) | (rw [ctV_bad (ctE_14 (by omega) hxl hn3 (wrX_14 hil hix (by rw [← ht]; exact .inl ⟨by assumption, by omega⟩))) (by decide)]; exact fin.ret (Res.two rfl (RV.tmp rfl) (RV.tmp rfl)) rfl) | (rw [ctV_bad (ctE_14 (by omega) hxl hn3 (jA_14 hd hs2 hil hb hix (by rw [← ht]; omega))) (by decide)]; exact fin.ret (Res.two rfl (RV.tmp rfl) (RV.tmp rfl)) rfl) | (rw [ctV_bad (ctE_14 (by omega) hxl hn3 (j14 hd hil hjl hb hjx hix hp ht hpb.2 (by omega) (by assumption) (by omega) (by omega) (by omega) (by omega))) (by decide)]; exact fin.ret (Res.two rfl (RV.tmp rfl) (RV.tmp rfl)) rfl) | (have e1 : xs.length = s * l.length := (by rw [show s = N by omega]; rw [hN]; exact hxl); have e0 : ctE b l xs a = 0 := ctE_0 (by omega) hxl hn3 (okC_14 (by rw [e1]; exact hok)); unfold ctV ctM; rw [e0, if_pos rfl, show mostF l xs = g by rw [hg, ← e1]; rfl]; exact fin.ret (Res.two rfl (RV.tmp rfl) (RV.tmp rfl)) rfl))
                                                       first
                                                       | (exfalso; omega)
                                                       | (refine W.skip ?_
                                                          refine W.region ?_
                                                          refine WO.p rfl rfl (WO.ar rfl rfl rfl (by (first | (unfold in64; omega) | (unfold in64; omega))) rfl (WO.p rfl rfl ?_))
                                                          refine WO.nil ?_
                                                          refine' ⟨j + 1, ?hp, ?hmu, ⟨rfl, rfl, rfl, rfl, rfl, rfl, rfl, rfl, rfl, rfl, trivial⟩, ?hS⟩
                                                          case hS => repeat (first | exact Sub.nil | refine Sub.cons (by repeat (first | exact Pick.head | apply Pick.tail)) ?_)
                                                          case hp => exact ⟨by omega, jI_succ hjI (by first | exact jz1 hd hjl hjx hp (by omega) | exact jz2 hjl hjx hp (by assumption) | exact jz3 hd hjl hjx hp hpb.2 (by omega) (by assumption) (by omega) (by omega) (by omega))⟩
                                                          case hmu => omega))
                                                  first
                                                  | (exfalso; omega)
                                                  | (refine WO.no rfl rfl (WO.no rfl rfl (WO.no rfl rfl (WO.no rfl rfl (WO.no rfl rfl (WO.no rfl rfl (WO.p rfl rfl ?_))))))
                                                     refine WO.nil ?_
                                                     refine W.cond_f rfl ?_
                                                     refine W.skip ?_
                                                     refine W.region ?_
                                                     refine WO.p rfl rfl (WO.ar rfl rfl rfl (by (first | (unfold in64; omega) | (unfold in64; omega))) rfl (WO.p rfl rfl ?_))
                                                     refine WO.nil ?_
                                                     refine' ⟨j + 1, ?hp, ?hmu, ⟨rfl, rfl, rfl, rfl, rfl, rfl, rfl, rfl, rfl, rfl, trivial⟩, ?hS⟩
                                                     case hS => repeat (first | exact Sub.nil | refine Sub.cons (by repeat (first | exact Pick.head | apply Pick.tail)) ?_)
                                                     case hp => exact ⟨by omega, jI_succ hjI (by first | exact jz1 hd hjl hjx hp (by omega) | exact jz2 hjl hjx hp (by assumption) | exact jz3 hd hjl hjx hp hpb.2 (by omega) (by assumption) (by omega) (by omega) (by omega))⟩
                                                     case hmu => omega))))))
                                 first
                                 | (exfalso; omega)
                                 | (refine W.exit (blk_same ?_)
                                    refine W.region ?_
                                    refine WO.p rfl rfl (WO.ar rfl rfl rfl (by (first | (unfold in64; omega) | (unfold in64; omega))) rfl (WO.p rfl rfl ?_))
                                    refine WO.nil ?_
                                    refine' ⟨i + 1, _, ?hp, ?hmu, ⟨rfl, rfl, rfl, rfl, rfl, rfl, rfl, trivial⟩, ?hS⟩
                                    case hS => repeat (first | exact Sub.nil | refine Sub.cons (by repeat (first | exact Pick.head | apply Pick.tail)) ?_)
                                    case hp => first | exact ⟨by omega, okC_succ hok2 (nw_out hil (by assumption) (by omega)), mo_out hil hg2 (by assumption)⟩ | exact ⟨by omega, okC_succ hok2 (jI_end hil hb (by rw [← ht, show l.length = j by omega]; exact hjI) (by omega)), mo_in hil hc8 hg2 hb (by rw [← ht]; exact hg3)⟩
                                    case hmu => omega)))))
                   first
                   | (exfalso; omega)
                   | (refine W.exit (blk_same ?_)
                      refine W.region ?_
                      refine WO.p rfl rfl (WO.ar rfl rfl rfl (by (first | (unfold in64; omega) | (unfold in64; omega))) rfl (WO.p rfl rfl ?_))
                      refine WO.nil ?_
                      refine' ⟨s + 1, _, ?hp, ?hmu, ⟨rfl, rfl, rfl, rfl, rfl, trivial⟩, ?hS⟩
                      case hS => repeat (first | exact Sub.nil | refine Sub.cons (by repeat (first | exact Pick.head | apply Pick.tail)) ?_)
                      case hp => exact ⟨by omega, by rw [show (s + 1) * l.length = s * l.length + i by rw [Nat.add_mul]; omega]; exact hok2, by rw [show (s + 1) * l.length = s * l.length + i by rw [Nat.add_mul]; omega]; exact hg2⟩
                      case hmu => omega)))
           first
           | (exfalso; omega)
           | (refine W.exit (blk_same ?_)
              refine W.sreg ?_
              refine WO.p rfl rfl (WO.p rfl rfl (WO.p rfl rfl ?_))
              refine WO.nil ?_
              refine W.ret ?_
              first | (rw [ctV_bad (ctE_1 (by assumption)) (by assumption)]; exact fin.ret (Res.two rfl (RV.tmp rfl) (RV.tmp rfl)) rfl) | (rw [ctV_bad (ctE_15 (by omega) (by omega)) (by decide)]; exact fin.ret (Res.two rfl (RV.tmp rfl) (RV.tmp rfl)) rfl) | (rw [ctV_bad (ctE_3 (by omega) hxl (bad3_of (x := c) (by omega) (by omega))) (by decide)]; exact fin.ret (Res.two rfl (RV.tmp rfl) (RV.tmp rfl)) rfl) | (rw [ctV_bad (ctE_14 (by omega) hxl hn3 (wrX_14 hil hix (by rw [← ht]; exact .inl ⟨by assumption, by omega⟩))) (by decide)]; exact fin.ret (Res.two rfl (RV.tmp rfl) (RV.tmp rfl)) rfl) | (rw [ctV_bad (ctE_14 (by omega) hxl hn3 (jA_14 hd hs2 hil hb hix (by rw [← ht]; omega))) (by decide)]; exact fin.ret (Res.two rfl (RV.tmp rfl) (RV.tmp rfl)) rfl) | (rw [ctV_bad (ctE_14 (by omega) hxl hn3 (j14 hd hil hjl hb hjx hix hp ht hpb.2 (by omega) (by assumption) (by omega) (by omega) (by omega) (by omega))) (by decide)]; exact fin.ret (Res.two rfl (RV.tmp rfl) (RV.tmp rfl)) rfl) | (have e1 : xs.length = s * l.length := (by rw [show s = N by omega]; rw [hN]; exact hxl); have e0 : ctE b l xs a = 0 := ctE_0 (by omega) hxl hn3 (okC_14 (by rw [e1]; exact hok)); unfold ctV ctM; rw [e0, if_pos rfl, show mostF l xs = g by rw [hg, ← e1]; rfl]; exact fin.ret (Res.two rfl (RV.tmp rfl) (RV.tmp rfl)) rfl)))))
end Go.Proofs.Ytkonhpcldomidaa
