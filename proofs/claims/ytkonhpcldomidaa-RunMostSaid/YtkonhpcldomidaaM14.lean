/-
  What is proved here: plain: how many runs a table knows. Conditions: none; each theorem states its own.
  What is proved here: the law of most runs. Conditions: none; each contract states its own.
-/
import Derived.Test.YtkonhpcldomidaaM12
import Derived.Test.YtkonhpcldomidaaM10
set_option linter.unusedVariables false
set_option linter.unusedSimpArgs false
namespace Go.Proofs.Ytkonhpcldomidaa
open Go Go.TH
set_option maxRecDepth 10000
set_option maxHeartbeats 1000000
theorem flatMap_eq {α β : Type} {f g : α → List β} : ∀ {xs : List α}, (∀ x ∈ xs, f x = g x) → xs.flatMap f = xs.flatMap g
  | [], _ => rfl
  | x :: xs, h => by
    rw [List.flatMap_cons, List.flatMap_cons, h x (by simp), flatMap_eq (fun y hy => h y (by simp [hy]))]
theorem cnt_same {s s' : Nat} : ∀ k, (∀ j, j < k → (hasB s j ↔ hasB s' j)) → cntN s k = cntN s' k
  | 0, _ => by simp [cntN]
  | k + 1, h => by
    rw [cntN_succ, cntN_succ, cnt_same k (fun j hj => h j (by omega))]
    by_cases e : hasB s k
    · rw [if_pos e, if_pos ((h k (by omega)).1 e)]
    rw [if_neg e, if_neg (fun q => e ((h k (by omega)).2 q))]
theorem has_or {s i j : Nat} : hasB (s ||| 1 <<< i) j ↔ hasB s j ∨ i = j := by
  rw [hasB_tb, hasB_tb, Nat.testBit_or, one_tb]
  simp
theorem cnt_or {s i : Nat} (h : ¬ hasB s i) : ∀ k, i < k → cntN (s ||| 1 <<< i) k = cntN s k + 1
  | 0, hk => by omega
  | k + 1, hk => by
    rw [cntN_succ, cntN_succ]
    rcases Nat.lt_or_ge i k with g | g
    · rw [cnt_or h k g]
      by_cases e : hasB s k
      · rw [if_pos e, if_pos (has_or.2 (.inl e))]
      rw [if_neg e, if_neg (fun q => (has_or.1 q).elim e (fun q => by omega))]
    obtain rfl : i = k := by omega
    rw [if_neg h, if_pos (has_or.2 (.inr rfl)), cnt_same i (fun j hj => ⟨fun q => (has_or.1 q).elim id (fun q => by omega), fun q => has_or.2 (.inl q)⟩)]
section
variable {a b : Int} {l : List Rn}
/-- an order's set has as many runs as the order -/
theorem cnt_bsO (h8 : l.length ≤ 8) : ∀ (n : Nat) (o : List Int), o.length = n → VO b l o → cntN (bsO o) 8 = n
  | 0, o, hl, _ => by
    rw [List.length_eq_zero_iff.1 hl]
    decide +kernel
  | n + 1, o, hl, h => by
    obtain ⟨o', i, rfl⟩ := h.snoc' (fun e => by rw [e] at hl; simp at hl)
    obtain ⟨h1, hi, hx⟩ := h.front
    rw [bsO_snoc, Int.toNat_natCast, cnt_or (fun q => hx.1 ((bsO_tb h1.1 i).1 q)) 8 (by omega), cnt_bsO h8 n o' (by simpa using hl) h1]
theorem updL_len (b : Int) (l : List Rn) (bs o : List Int) : bs.length ≤ (updL b l bs o).length ∧ o.length ≤ (updL b l bs o).length ∧ (updL b l bs o = bs ∨ updL b l bs o = o) := by
  unfold updL
  split
  · exact ⟨by omega, by omega, .inr rfl⟩
  exact ⟨by omega, by omega, .inl rfl⟩
theorem fold_updL (b : Int) (l : List Rn) : ∀ (xs : List (List Int)) (g : List Int), let r := xs.foldl (updL b l) g; g.length ≤ r.length ∧ (∀ x ∈ xs, x.length ≤ r.length) ∧ (r = g ∨ r ∈ xs)
  | [], g => ⟨Nat.le_refl _, fun x h => by simp at h, .inl rfl⟩
  | x :: xs, g => by
    intro r
    have hr : r = xs.foldl (updL b l) (updL b l g x) := rfl
    obtain ⟨h1, h2, h3⟩ := fold_updL b l xs (updL b l g x)
    rw [← hr] at h1 h2 h3
    obtain ⟨q1, q2, q3⟩ := updL_len b l g x
    refine ⟨by omega, fun y hy => ?_, ?_⟩
    · rcases List.mem_cons.1 hy with rfl | hy
      · omega
      exact h2 y hy
    rcases h3 with h | h
    · rcases q3 with e | e
      · exact .inl (h.trans e)
      exact .inr (by rw [h, e]; simp)
    exact .inr (List.mem_cons_of_mem _ h)
/-- the best order -/
theorem bsL_ok (hc : chkD a b l = 0) : VO b l (bsL a b l) ∧ (∀ o, VO b l o → o.length ≤ (bsL a b l).length) ∧ 1 ≤ (bsL a b l).length := by
  have e : bsL a b l = (ords b l l.length []).foldl (updL b l) [] := by unfold bsL; rw [if_neg (by omega), bsS_L]
  obtain ⟨h1, h2, h3⟩ := fold_updL b l (ords b l l.length []) []
  rw [← e] at h1 h2 h3
  have hall : ∀ o, VO b l o → o.length ≤ (bsL a b l).length := fun o h => by
    have hm := ords_all (b := b) (l := l) (f := l.length) (o := []) o (by simpa using h) (by simpa using h.len)
    rw [List.nil_append] at hm
    exact h2 o hm
  obtain ⟨hln, hd⟩ := chkD0.1 hc
  refine ⟨?_, hall, ?_⟩
  · rcases h3 with h | h
    · rw [h]; exact VO.nil
    exact (ords_mem VO.nil h).1
  have hr := hd.at_ (i := 0) (by omega)
  unfold OkR at hr
  have hv : VO b l [(0 : Int)] := VO.nil.snoc (i := 0) (by omega) ⟨by simp, by
    show bgE b l (-1) 0 0 = 0
    unfold bgE
    rw [if_neg (by omega), bgA_n (by omega), if_neg (by omega)]⟩
  exact hall _ hv
theorem fow_foT {f : Sk → Option Int} {s i : Nat} {z : Int} (h : z ∈ foT b l f s i l.length) : fow b l f s i ≤ z := (foldmin_mem (foT b l f s i l.length) nev).2.1 z h
/-- a table that keeps the law knows no order later than it is -/
theorem ct_le {xs : List Int} (hd : OkD a b l) (hl : xs.length = 2 ^ l.length * l.length) (h14 : ¬ bad14 b l xs) : ∀ (n : Nat) (o : List Int) (i : Nat), o.length = n → VO b l (o ++ [(i : Int)]) → xs.getD (bsO (o ++ [(i : Int)]) * l.length + i) 0 ≤ ovF b l (o ++ [(i : Int)]) := by
  have hwr : ∀ s i, hasB s i → i < l.length → s * l.length + i < xs.length → xs.getD (s * l.length + i) 0 ≤ fow b l (fT l xs xs.length) s i := fun s i hb hi hx => by
    rcases Int.lt_or_le (fow b l (fT l xs xs.length) s i) (xs.getD (s * l.length + i) 0) with g | g
    · exact absurd (wrX_14 hi hx (.inr ⟨hb, g⟩)) h14
    exact g
  intro n
  induction n with
  | zero =>
    intro o i ho hv
    obtain ⟨rfl⟩ : o = [] := List.length_eq_zero_iff.1 ho
    obtain ⟨h1, hi, hx⟩ := hv.front
    have hb : hasB (bsO ([] ++ [(i : Int)])) i := (bsO_tb hv.1 i).2 (by simp)
    have hk := kyO_lt hv (by simp)
    rw [kyO_of, ← hl] at hk
    have hw : wo (bsO ([] ++ [(i : Int)])) i = 0 := by
      rw [bsO_snoc, Int.toNat_natCast]
      exact or_wo (fun h => by have := (bsO_tb (l := l) (o := []) (fun x hx => by simp at hx) i).1 h; simp at this)
    refine Int.le_trans (hwr _ _ hb hi hk) (fow_foT ?_)
    unfold foT foA
    rw [if_pos hw]
    refine List.mem_append.2 (.inl ?_)
    unfold putL
    have h2 : bgE b l (-1) 0 i = 0 := hx.2
    rw [if_pos h2, ovF_snoc]
    exact List.mem_singleton.2 rfl
  | succ n ih =>
    intro o i ho hv
    obtain ⟨h1, hi, hx⟩ := hv.front
    obtain ⟨o', j, rfl⟩ := h1.snoc' (fun e => by rw [e] at ho; simp at ho)
    have ih1 := ih o' j (by simpa using ho) h1
    obtain ⟨_, hj, _⟩ := h1.front
    have hb : hasB (bsO (o' ++ [(j : Int)] ++ [(i : Int)])) i := (bsO_tb hv.1 i).2 (by simp)
    have hk := kyO_lt hv (by simp)
    rw [kyO_of, ← hl] at hk
    have hkj := kyO_lt h1 (by simp)
    rw [kyO_of, ← hl] at hkj
    have hw : wo (bsO (o' ++ [(j : Int)] ++ [(i : Int)])) i = bsO (o' ++ [(j : Int)]) := by
      rw [bsO_snoc (o' ++ [(j : Int)]), Int.toNat_natCast]
      exact or_wo (fun h => hx.1 ((bsO_tb h1.1 i).1 h))
    have hbd := ovF_bd hd h1
    have hnv : nev = 1048576 := rfl
    have he : bgE b l (j : Int) (ovF b l (o' ++ [(j : Int)])) i = 0 := by
      have := hx.2
      rw [stK_last] at this
      exact this
    obtain ⟨hm1, hm2⟩ := bgE_mono ih1 he
    have h3 := fow_foT (b := b) (l := l) (f := fT l xs xs.length) (s := bsO (o' ++ [(j : Int)] ++ [(i : Int)])) (i := i) (z := bgA b l (j : Int) (xs.getD (bsO (o' ++ [(j : Int)]) * l.length + j) 0) i + (l.getD i rn0).mi) (by
      unfold foT
      refine List.mem_append.2 (.inr (List.mem_flatMap.2 ⟨j, List.mem_range.2 hj, ?_⟩))
      unfold fo1
      rw [hw, fT_get hj hkj, if_pos ⟨(bsO_tb h1.1 j).2 (by simp), by omega⟩]
      unfold putL
      rw [if_pos hm1]
      exact List.mem_singleton.2 rfl)
    have h4 := hwr _ _ hb hi hk
    have h5 := ovF_snoc (b := b) (l := l) (o' ++ [(j : Int)]) i
    rw [stK_last] at h5
    omega
/-- it knows of as many runs as can be -/
theorem ct_most {xs : List Int} (hc : chkD a b l = 0) (hl : xs.length = 2 ^ l.length * l.length) (h14 : ¬ bad14 b l xs) : (bsL a b l).length ≤ mostF l xs := by
  obtain ⟨hln, hd⟩ := chkD0.1 hc
  obtain ⟨hv, _, h1⟩ := bsL_ok hc
  obtain ⟨o, i, he⟩ := hv.snoc' (fun e => by rw [e] at h1; simp at h1)
  have hc8 := cnt_bsO hln.2 _ _ rfl hv
  have hle := fun h => ct_le hd hl h14 o.length o i rfl (he ▸ h)
  have hle := hle hv
  have hi := (he ▸ hv : VO b l (o ++ [(i : Int)])).front.2.1
  have hbd := ovF_bd hd hv
  have hk := kyO_lt hv (fun e => by rw [e] at h1; simp at h1)
  rw [he, kyO_of, ← hl] at hk
  rw [he] at hbd hc8
  have hnv : nev = 1048576 := rfl
  obtain ⟨q1, q2, q3⟩ := foldmost (cnX l xs) (fun x => cntN (x / l.length) 8) (List.range xs.length) 0
  have h2 := q2 (bsO (o ++ [(i : Int)]) * l.length + i) (List.mem_range.2 hk) ((cnX_at hi).2 ⟨(bsO_tb (he ▸ hv : VO b l (o ++ [(i : Int)])).1 i).2 (by simp), by omega⟩)
  have e2 : cntN ((bsO (o ++ [(i : Int)]) * l.length + i) / l.length) 8 = (bsL a b l).length := by rw [(at_dm hi).1, hc8, he]
  have hm : mostF l xs = (List.range xs.length).foldl (fun g x => if cnX l xs x then max g ((fun x => cntN (x / l.length) 8) x) else g) 0 := rfl
  rw [← hm] at h2
  have h3 : cntN ((bsO (o ++ [(i : Int)]) * l.length + i) / l.length) 8 ≤ mostF l xs := h2
  omega
/-- the right table -/
theorem tb_good (hc : chkD a b l = 0) : ctE b l (TbL a b l) a = 0 ∧ mostF l (TbL a b l) = (bsL a b l).length := by
  obtain ⟨hln, hd⟩ := chkD0.1 hc
  have hl := TbL_len hc
  have hnv : nev = 1048576 := rfl
  have h0 : 0 < l.length := by omega
  have hT : TbL a b l = tbT l (tabM b l (2 ^ l.length)) (2 ^ l.length * l.length) := by unfold TbL; rw [if_neg (by omega)]
  have hget : ∀ s i, s < 2 ^ l.length → i < l.length → s * l.length + i < (TbL a b l).length → (TbL a b l).getD (s * l.length + i) 0 = atM (tabM b l (2 ^ l.length)) (s, i) := fun s i hs hi hx => by
    rw [hl] at hx
    rw [hT]
    unfold tbT
    rw [List.getD_eq_getElem?_getD, List.getElem?_map, List.getElem?_range hx]
    show atM (tabM b l (2 ^ l.length)) ((s * l.length + i) / l.length, (s * l.length + i) % l.length) = _
    rw [(at_dm hi).1, (at_dm hi).2]
  have hsi : ∀ x, x < (TbL a b l).length → ∃ s i, s < 2 ^ l.length ∧ i < l.length ∧ x = s * l.length + i := fun x hx => by
    rw [hl] at hx
    exact ⟨x / l.length, x % l.length, Nat.div_lt_of_lt_mul (by rw [Nat.mul_comm]; exact hx), Nat.mod_lt _ h0, by rw [Nat.mul_comm]; exact (Nat.div_add_mod x l.length).symm⟩
  have hfT : ∀ s i, s < 2 ^ l.length → i < l.length → atM (fT l (TbL a b l) (TbL a b l).length) (s, i) = atM (tabM b l (2 ^ l.length)) (s, i) := fun s i hs hi => by
    have hx : s * l.length + i < (TbL a b l).length := by
      have : (s + 1) * l.length ≤ 2 ^ l.length * l.length := Nat.mul_le_mul_right _ hs
      rw [Nat.add_mul] at this
      omega
    rw [fT_get hi hx, hget s i hs hi hx]
  have hfow : ∀ s i, s < 2 ^ l.length → hasB s i → fow b l (fT l (TbL a b l) (TbL a b l).length) s i = fow b l (tabM b l (2 ^ l.length)) s i := fun s i hs hb => by
    have hw := wo_less hb
    have h9 : (List.range l.length).flatMap (fo1 b l (fT l (TbL a b l) (TbL a b l).length) s i) = (List.range l.length).flatMap (fo1 b l (tabM b l (2 ^ l.length)) s i) := flatMap_eq fun j hj => by
      have hj := List.mem_range.1 hj
      unfold fo1
      rw [hfT (wo s i) j (by omega) hj]
    unfold fow foT
    rw [h9]
  have h3 : ¬ bad3 (TbL a b l) := by
    rintro ⟨z, hz, hw⟩
    obtain ⟨x, hx, rfl⟩ := List.getElem_of_mem hz
    have e : (TbL a b l)[x] = (TbL a b l).getD x 0 := by rw [List.getD_eq_getElem?_getD, List.getElem?_eq_getElem hx]; rfl
    rw [e] at hw
    obtain ⟨s, i, hs, hi, rfl⟩ := hsi x hx
    rw [hget s i hs hi hx] at hw
    have h4 := tabM_nn hd (2 ^ l.length) (s, i)
    have h5 : atM (tabM b l (2 ^ l.length)) (s, i) ≤ nev := by rw [atM_tab hs hi]; split <;> omega
    omega
  have h14 : ¬ bad14 b l (TbL a b l) := by
    rintro ⟨x, hx, hw⟩
    have hx := List.mem_range.1 hx
    obtain ⟨s, i, hs, hi, rfl⟩ := hsi x hx
    rw [wrX_at hi, hget s i hs hi hx, atM_tab hs hi] at hw
    rcases hw with ⟨h1, h2⟩ | ⟨h1, h2⟩
    · rw [if_neg h1] at h2; exact h2 rfl
    rw [if_pos h1, hfow s i hs h1] at h2; omega
  refine ⟨ctE_0 (by omega) hl h3 h14, ?_⟩
  refine Nat.le_antisymm ?_ (ct_most hc hl h14)
  obtain ⟨q1, q2, q3⟩ := foldmost (cnX l (TbL a b l)) (fun x => cntN (x / l.length) 8) (List.range (TbL a b l).length) 0
  have hm : mostF l (TbL a b l) = (List.range (TbL a b l).length).foldl (fun g x => if cnX l (TbL a b l) x then max g ((fun x => cntN (x / l.length) 8) x) else g) 0 := rfl
  rw [← hm] at q3
  rcases q3 with h | ⟨x, hx, hcn, h⟩
  · omega
  have hx := List.mem_range.1 hx
  obtain ⟨s, i, hs, hi, rfl⟩ := hsi x hx
  have hcn := (cnX_at hi).1 hcn
  rw [hget s i hs hi hx] at hcn
  obtain ⟨o, hv, hso, _⟩ := tab_ex rfl s hs i hi hcn.2
  have h5 : mostF l (TbL a b l) = cntN s 8 := by rw [h]; show cntN ((s * l.length + i) / l.length) 8 = _; rw [(at_dm hi).1]
  have h6 := cnt_bsO hln.2 _ _ rfl hv
  rw [hso] at h6
  have h7 := (bsL_ok hc).2.1 _ hv
  omega
end
end Go.Proofs.Ytkonhpcldomidaa
namespace Go.Proofs.Ytkonhpcldomidaa
open Go Go.TH
attribute [local irreducible] W WO pt
set_option maxRecDepth 10000
set_option maxHeartbeats 1000000
theorem encH_ok : EncOk encH 2 := ⟨fun _ => rfl, fun x u hu => by simp [encH] at hu; rcases hu with rfl | rfl <;> rfl, by omega⟩
theorem u16_of (z : Int) : ∃ q : Nat, IntKind.u16.wrap z = (q : Int) ∧ q < 65536 := by
  refine ⟨(z % 65536).toNat, ?_, by omega⟩
  simp [IntKind.wrap, IntKind.signed, IntKind.bits]
  omega
def Tb (xs : List Int) : Prop := ∀ x ∈ xs, 0 ≤ x ∧ x ≤ nev
theorem Tb.set {xs : List Int} (h : Tb xs) (k : Nat) {v : Int} (hv : 0 ≤ v ∧ v ≤ nev) : Tb (xs.set k v) := fun x hx => by
  rcases List.mem_or_eq_of_mem_set hx with q | q
  · exact h x q
  rw [q]; exact hv
theorem Tb.get {xs : List Int} (h : Tb xs) {k : Nat} (hk : k < xs.length) : 0 ≤ xs.getD k 0 ∧ xs.getD k 0 ≤ nev := h _ (getD_mem hk 0)
theorem Tb.no3 {xs : List Int} (h : Tb xs) : ¬ bad3 xs := by
  rintro ⟨x, hx, q⟩
  have := h x hx
  omega
theorem tb_of {a b : Int} {l : List Rn} (hc : chkD a b l = 0) : Tb (TbL a b l) := by
  have h := (tb_good (a := a) (b := b) (l := l) hc).1
  intro x hx
  have h3 : ¬ bad3 (TbL a b l) := fun q => by
    rw [ctE_3 (by omega) (TbL_len hc) q] at h
    omega
  rcases Int.lt_or_le x 0 with g | g
  · exact absurd ⟨x, hx, .inl g⟩ h3
  rcases Int.lt_or_le nev x with g2 | g2
  · exact absurd ⟨x, hx, .inr g2⟩ h3
  exact ⟨g, g2⟩
theorem ct_two {a b : Int} {l : List Rn} {xs : List Int} (hc : chkD a b l = 0) (hl : xs.length = 2 ^ l.length * l.length) (h : Tb xs) : ctE b l xs a = 14 ∨ (ctE b l xs a = 0 ∧ (((bsL a b l).length : Nat) : Int) ≤ ctM b l xs a) := by
  by_cases q : bad14 b l xs
  · exact .inl (ctE_14 (by omega) hl h.no3 q)
  have e := ctE_0 (a := a) (b := b) (l := l) (xs := xs) (by omega) hl h.no3 q
  refine .inr ⟨e, ?_⟩
  unfold ctM
  rw [if_pos e]
  have := ct_most hc hl q
  omega
theorem law_RunMost (w : World) (o u g : Value) (a b : Int) (l : List Rn) (bs : List Int) (ps : List (Int × Int)) (hR : RdF encR 6 w.heap.size w o l) (hX : RdF encU 1 w.heap.size w u bs) (hP : RdF encH 2 w.heap.size w g ps) (hb : ∀ x ∈ bs, 0 ≤ x ∧ x ≤ 255) (hp : ∀ p ∈ ps, (-32768 ≤ p.1 ∧ p.1 ≤ 32767) ∧ -32768 ≤ p.2 ∧ p.2 ≤ 32767) : Ret Try.prog 7 [dayV a b o, u, g].toArray w (.bool true) := by
  refine Ret.of mixed tyTab Try.func7 rfl rfl ?_
  replace hR : RdF encR 6 (fnCx mixed tyTab Try.f7.ntmps w).B (fnCx mixed tyTab Try.f7.ntmps w).w0 o l := hR
  replace hX : RdF encU 1 (fnCx mixed tyTab Try.f7.ntmps w).B (fnCx mixed tyTab Try.f7.ntmps w).w0 u bs := hX
  replace hP : RdF encH 2 (fnCx mixed tyTab Try.f7.ntmps w).B (fnCx mixed tyTab Try.f7.ntmps w).w0 g ps := hP
  have hoc := hR.sl.oc
  refine W.sreg ?_
  refine WO.boxA rfl rfl (fun b1 hb1 => ?_)
  refine WO.p rfl rfl ?_
  refine WO.nil ?_
  refine W.seq ?_
  refine W.sreg ?_
  refine WO.loadA rfl rfl (Cells.own Pick.head) rfl rfl ?_
  refine WO.callR rfl Try.call26 (fun L w hi => law_fine w o a b l (hR.later hi)) rfl ?_
  refine WO.p rfl rfl (WO.p rfl rfl ?_)
  refine WO.guard_nbl rfl rfl (fun c1 => ?_) (fun c1 => ?_)
  · first
    | (exfalso; omega)
    | (refine WO.no rfl rfl (WO.no rfl rfl (WO.no rfl rfl (WO.p rfl rfl (WO.p rfl rfl (WO.no rfl rfl (WO.no rfl rfl (WO.no rfl rfl (WO.p rfl rfl ?_))))))))
       refine WO.nil ?_
       refine W.cond_t rfl ?_
       refine W.sreg ?_
       refine WO.callR rfl Try.call12 (fun L w hi => l_Works w) rfl ?_
       refine WO.p rfl rfl ?_
       refine WO.nil ?_
       refine W.ret ?_
       first | exact fin.ret (Res.one rfl (RV.tmp rfl)) rfl | (exfalso; omega))
  first
  | (exfalso; omega)
  | (refine WO.pg rfl rfl rfl (WO.go' rfl ?_)
     refine' WO.len (n := _) rfl rfl ?hs rfl ?_
     case hs => (first | exact hX.sl)
     refine WO.pg rfl rfl rfl (WO.p rfl rfl (WO.p rfl rfl ?_))
     refine WO.guard_bl rfl rfl (fun c2 => ?_) (fun c2 => ?_)
     · first
       | (exfalso; omega)
       | (refine WO.no rfl rfl (WO.no rfl rfl (WO.no rfl rfl (WO.p rfl rfl ?_)))
          refine WO.nil ?_
          refine W.cond_t rfl ?_
          refine W.sreg ?_
          refine WO.callR rfl Try.call12 (fun L w hi => l_Works w) rfl ?_
          refine WO.p rfl rfl ?_
          refine WO.nil ?_
          refine W.ret ?_
          first | exact fin.ret (Res.one rfl (RV.tmp rfl)) rfl | (exfalso; omega))
     first
     | (exfalso; omega)
     | (refine WO.pg rfl rfl rfl (WO.go' rfl ?_)
        refine' WO.len (n := _) rfl rfl ?hs rfl ?_
        case hs => (first | exact hP.sl)
        refine WO.pg rfl rfl rfl (WO.p rfl rfl ?_)
        refine WO.nil ?_
        refine W.cond_bl rfl (fun c3 => ?_) (fun c3 => ?_)
        · first
          | (exfalso; omega)
          | (refine W.sreg ?_
             refine WO.callR rfl Try.call12 (fun L w hi => l_Works w) rfl ?_
             refine WO.p rfl rfl ?_
             refine WO.nil ?_
             refine W.ret ?_
             first | exact fin.ret (Res.one rfl (RV.tmp rfl)) rfl | (exfalso; omega))
        first
        | (exfalso; omega)
        | (refine W.skip ?_
           have hfp : fineP a b l := by assumption
           have hc : chkD a b l = 0 := hfp.2
           obtain ⟨hln, hd⟩ := chkD0.1 hc
           have hod := odL_ok (l := l) (bs := bs) hb
           obtain ⟨od, hodd⟩ : ∃ od, odL l.length bs = od := ⟨_, rfl⟩
           rw [hodd] at hod
           obtain ⟨hte, htl, hol⟩ := Tm_fine hc hod
           have hsh := shl8 hln.2
           have hcb : 2 ^ l.length * l.length ≤ 256 * 8 := Nat.mul_le_mul hsh.2 hln.2
           have hc0 : 0 < 2 ^ l.length * l.length := Nat.mul_pos (Nat.pow_pos (by omega)) (by omega)
           obtain ⟨hbv, hbm, hb1'⟩ := bsL_ok hc
           obtain ⟨hg1, hg2⟩ := tb_good (a := a) (b := b) (l := l) hc
           have hg3 : ctM b l (TbL a b l) a = ((bsL a b l).length : Int) := by unfold ctM; rw [if_pos hg1, hg2]
           have hbl := TbL_len hc
           have htbb := tb_of hc
           have hnv : nev = 1048576 := rfl
           obtain ⟨hbte, _, hbll⟩ := Tm_fine hc ⟨hbv.1, hbv.2.1⟩
           have hno : noE a b l (bsL a b l) = 0 := noE0.2 ⟨⟨hc, hln, hd⟩, hbll, hbv.1, hbv.2.1⟩
           refine W.sreg ?_
           refine WO.loadA rfl rfl (Cells.own Pick.head) rfl rfl ?_
           refine WO.call (Post := fun r Hq => ∃ x : Value, r = .tuple #[x, .int .i64 0] ∧ Hq = [OwE encI 3 1 x (bsL a b l)]) rfl Try.call19 (fun L w hi => by have h := c_Best w o a b l (hR.later hi); rw [hc] at h; exact h) rfl ?_
           rintro _ _ ⟨r1, rfl, rfl⟩
           refine WO.fact (OwE.sl (enc := encI) (e := 3) (sz := 1) (v := r1) (xs := bsL a b l) Pick.head) (fun hr1 => ?_)
           refine WO.p rfl rfl (WO.p rfl rfl (WO.p rfl rfl (WO.p rfl rfl (WO.p rfl rfl ?_))))
           refine WO.nil ?_
           refine W.sreg ?_
           refine WO.loadA rfl rfl (Cells.own (Pick.tail (Pick.head))) rfl rfl ?_
           refine WO.call (Post := fun r Hq => ∃ x : Value, r = .tuple #[x, .int .i64 0] ∧ Hq = [OwE encI 2 1 x (TbL a b l)]) rfl Try.call21 (fun L w hi => by have h := c_Table w o a b l (hR.later hi); rw [hc] at h; exact h) rfl ?_
           rintro _ _ ⟨bv, rfl, rfl⟩
           refine WO.fact (OwE.sl (enc := encI) (e := 2) (sz := 1) (v := bv) (xs := TbL a b l) Pick.head) (fun hbsl => ?_)
           refine WO.p rfl rfl (WO.p rfl rfl (WO.p rfl rfl (WO.p rfl rfl (WO.p rfl rfl ?_))))
           refine WO.nil ?_
           refine W.sreg ?_
           refine WO.fieldL rfl rfl rfl (WO.load rfl rfl (Cell.own (Pick.tail (Pick.tail (Pick.head))) rfl) rfl ?_)
           refine' WO.len (n := _) rfl rfl ?hs rfl ?_
           case hs => (first | exact hR.sl)
           refine WO.p rfl rfl ?_
           refine WO.nil ?_
           refine W.seq ?_
           refine W.sreg ?_
           refine WO.p rfl rfl ?_
           refine WO.neqF rfl rfl (by decide) rfl ?_
           refine WO.p rfl rfl (WO.pg rfl rfl rfl (WO.go' rfl ?_))
           refine WO.neqF rfl rfl (by decide) rfl ?_
           refine WO.p rfl rfl (WO.p rfl rfl (WO.pg rfl rfl rfl (WO.go' rfl ?_)))
           refine' WO.len (n := _) rfl rfl ?hs rfl ?_
           case hs => (first | exact hbsl)
           refine WO.pg rfl rfl rfl (WO.pg rfl rfl rfl (WO.go' rfl ?_))
           refine WO.shlN (a := l.length) (s := l.length) rfl rfl (by show l.length ≤ 64; omega) (fit (by rw [Nat.shiftLeft_eq, Nat.mul_comm]; omega)) rfl ?_
           rw [show l.length <<< l.length = 2 ^ l.length * l.length by rw [Nat.shiftLeft_eq, Nat.mul_comm]]
           refine WO.go' rfl ?_
           refine WO.neqF rfl rfl (by omega) rfl ?_
           refine WO.p rfl rfl (WO.p rfl rfl (WO.go' rfl (WO.loadA rfl rfl (Cells.own (Pick.tail (Pick.tail (Pick.head)))) rfl rfl (WO.pg rfl rfl rfl (WO.go' rfl ?_)))))
           refine WO.callR (r := .int .i64 0) rfl Try.call30 (fun L w hi => by have h := ref_Ordered w o r1 a b l (bsL a b l) (hR.later hi) (RdF.of_ow (e := 3) encI_ok (by repeat (first | exact Pick.head | apply Pick.tail)) hi); rw [hno] at h; exact h) rfl ?_
           refine WO.go' rfl ?_
           refine WO.neqF rfl rfl (by decide) rfl ?_
           refine WO.p rfl rfl ?_
           refine WO.nil ?_
           refine W.cond_f rfl ?_
           refine W.skip ?_
           refine W.sreg ?_
           refine WO.loadA rfl rfl (Cells.own (Pick.tail (Pick.tail (Pick.head)))) rfl rfl (WO.p rfl rfl ?_)
           refine WO.call (Post := fun r Hq => ∃ x : Value, r = .tuple #[x, .int .i64 0] ∧ Hq = [OwE encI 2 1 x (TmL a b l (bsL a b l))]) rfl Try.call14 (fun L w hi => by have h := ref_Times w o r1 a b l (bsL a b l) (hR.later hi) (RdF.of_ow (e := 3) encI_ok (by repeat (first | exact Pick.head | apply Pick.tail)) hi); rw [hbte, hbv.2.2] at h; exact h) rfl ?_
           rintro _ _ ⟨r3, rfl, rfl⟩
           refine WO.p rfl rfl (WO.p rfl rfl (WO.p rfl rfl (WO.p rfl rfl (WO.p rfl rfl ?_))))
           refine WO.nil ?_
           refine W.sreg ?_
           refine WO.loadA rfl rfl (Cells.own (Pick.tail (Pick.tail (Pick.tail (Pick.head))))) rfl rfl (WO.p rfl rfl ?_)
           refine WO.callR (r := .tuple #[.int .i64 ((bsL a b l).length : Int), .int .i64 0]) rfl Try.call24 (fun L w hi => by have h := c_CheckTable w o bv a b l (TbL a b l) (hR.later hi) (RdF.of_ow (e := 2) encI_ok (by repeat (first | exact Pick.head | apply Pick.tail)) hi); unfold ctV at h; rw [hg1, hg3] at h; exact h) rfl ?_
           refine WO.p rfl rfl (WO.p rfl rfl (WO.p rfl rfl (WO.p rfl rfl (WO.p rfl rfl ?_))))
           refine WO.nil ?_
           refine W.sreg ?_
           refine WO.loadA rfl rfl (Cells.own (Pick.tail (Pick.tail (Pick.tail (Pick.head))))) rfl rfl (WO.p rfl rfl ?_)
           refine WO.callR (r := .tuple #[.int .i64 ((bsL a b l).length : Int), .int .i64 0]) rfl Try.call25 (fun L w hi => by have h := ref_CheckTable w o bv a b l (TbL a b l) (hR.later hi) (RdF.of_ow (e := 2) encI_ok (by repeat (first | exact Pick.head | apply Pick.tail)) hi); unfold ctV at h; rw [hg1, hg3] at h; exact h) rfl ?_
           refine WO.p rfl rfl (WO.p rfl rfl (WO.p rfl rfl (WO.p rfl rfl (WO.p rfl rfl ?_))))
           refine WO.nil ?_
           refine W.seq ?_
           refine W.sreg ?_
           refine WO.p rfl rfl ?_
           refine WO.neqF rfl rfl (by decide) rfl ?_
           refine WO.p rfl rfl (WO.pg rfl rfl rfl (WO.go' rfl ?_))
           refine WO.neqF rfl rfl (by decide) rfl ?_
           refine WO.p rfl rfl (WO.p rfl rfl (WO.pg rfl rfl rfl (WO.go' rfl ?_)))
           refine WO.neqF rfl rfl (by decide) rfl ?_
           refine WO.p rfl rfl (WO.p rfl rfl (WO.pg rfl rfl rfl (WO.pg rfl rfl rfl (WO.go' rfl ?_))))
           refine' WO.len (n := _) rfl rfl ?hs rfl ?_
           case hs => (first | exact hr1)
           refine WO.go' rfl ?_
           refine WO.neqF rfl rfl (by omega) rfl ?_
           refine WO.p rfl rfl (WO.p rfl rfl (WO.pg rfl rfl rfl (WO.pg rfl rfl rfl (WO.go' rfl ?_))))
           refine WO.neqF rfl rfl (by omega) rfl ?_
           refine WO.p rfl rfl (WO.p rfl rfl (WO.pg rfl rfl rfl (WO.go' rfl ?_)))
           refine WO.lssF rfl rfl (by omega) rfl ?_
           refine WO.p rfl rfl ?_
           refine WO.nil ?_
           refine W.cond_f rfl ?_
           refine W.skip ?_
           refine W.sreg ?_
           refine WO.loadA rfl rfl (Cells.own (Pick.tail (Pick.tail (Pick.tail (Pick.head))))) rfl rfl (WO.p rfl rfl ?_)
           refine WO.call (Post := fun r Hq => ∃ x : Value, r = x ∧ Hq = [OwE encI 3 1 x od]) rfl Try.call27 (fun L w hi => by have h := law_Order w o u a b l bs (hR.later hi) (hX.later hi) hb (by omega); rw [hodd] at h; exact h) rfl ?_
           rintro xv _ ⟨_, rfl, rfl⟩
           refine WO.fact (OwE.sl (enc := encI) (e := 3) (sz := 1) (v := xv) (xs := od) Pick.head) (fun hxv => ?_)
           refine WO.p rfl rfl ?_
           refine WO.nil ?_
           refine W.sreg ?_
           refine WO.loadA rfl rfl (Cells.own (Pick.tail (Pick.tail (Pick.tail (Pick.tail (Pick.head)))))) rfl rfl (WO.p rfl rfl ?_)
           refine WO.call (Post := fun r Hq => ∃ x : Value, r = .tuple #[x, .int .i64 (tmE b l od)] ∧ Hq = [OwE encI 2 1 x (tmL b l od)]) rfl Try.call13 (fun L w hi => by have h := c_Times w o xv a b l od (hR.later hi) (RdF.of_ow (e := 3) encI_ok (by repeat (first | exact Pick.head | apply Pick.tail)) hi); rw [hte, htl] at h; exact h) rfl ?_
           rintro _ _ ⟨r4, rfl, rfl⟩
           refine WO.p rfl rfl (WO.p rfl rfl (WO.p rfl rfl (WO.p rfl rfl ?_)))
           refine WO.nil ?_
           refine W.seq ?_
           have hnl : tmE b l od = 0 → od.length ≤ (bsL a b l).length := fun h => hbm od ⟨hod.1, hod.2, h⟩
           refine W.sreg ?_
           refine WO.p rfl rfl (WO.p rfl rfl (WO.p rfl rfl ?_))
           refine WO.guard_bl rfl rfl (fun c4 => ?_) (fun c4 => ?_)
           · first
             | (exfalso; omega)
             | (refine WO.pg rfl rfl rfl (WO.go' rfl ?_)
                refine' WO.len (n := _) rfl rfl ?hs rfl ?_
                case hs => (first | exact hxv)
                refine WO.pg rfl rfl rfl (WO.go' rfl ?_)
                refine WO.gtrF rfl rfl (by have := hnl (by omega); omega) rfl ?_
                refine WO.p rfl rfl ?_
                refine WO.nil ?_
                refine W.cond_f rfl ?_
                refine W.skip ?_
                refine W.sreg ?_
                refine WO.buildSl0 rfl rfl (fun b0 => ?_)
                refine WO.p rfl rfl ?_
                refine WO.appendEZ (enc := encI) (m := (TbL a b l).length) (xs := []) (ys := TbL a b l) encI_ok rfl rfl rfl rfl rfl (by repeat (first | exact Pick.head | apply Pick.tail)) hbsl rfl (OwC.cells (by repeat (first | exact Pick.head | apply Pick.tail))) (by simp only [List.length_nil]; omega) (by simp only [List.length_nil]; omega) rfl (fun cv => ?_)
                rw [List.nil_append]
                refine WO.p rfl rfl ?_
                refine WO.nil ?_
                refine W.seq ?_
                refine W.sreg ?_
                refine WO.p rfl rfl ?_
                refine WO.nil ?_
                refine W.block ?_
                refine W.loop2 (fun (i : Nat) (ys : List Int) => i ≤ ps.length ∧ ys.length = 2 ^ l.length * l.length ∧ Tb ys)
                  (fun (i : Nat) (ys : List Int) => [(2, g), (3, .pointer (some ⟨b1, 0, none⟩)), (14, .int .i64 ((bsL a b l).length : Int)), (19, cv), (20, .int .i64 (i : Int))])
                  (fun (i : Nat) (ys : List Int) => [pt b1 (.cells #[.int .i64 a, .int .i64 b, o] 26 (0, 0)), OwE encI 2 1 cv ys])
                  (fun (i : Nat) (ys : List Int) => ps.length - i) 0 (TbL a b l)
                  (by exact ⟨by omega, hbl, htbb⟩) ⟨rfl, rfl, rfl, rfl, rfl, trivial⟩ (by repeat (first | exact Sub.nil | refine Sub.cons (by repeat (first | exact Pick.head | apply Pick.tail)) ?_)) ?_
                rintro i ys ⟨hi, hyl, hyt⟩
                refine W.seq ?_
                refine W.sreg ?_
                refine WO.p rfl rfl (WO.p rfl rfl ?_)
                refine' WO.len (n := _) rfl rfl ?hs rfl ?_
                case hs => (first | exact hP.sl)
                refine WO.p rfl rfl ?_
                refine WO.nil ?_
                refine W.cond_bl rfl (fun c5 => ?_) (fun c5 => ?_)
                · first
                  | (exfalso; omega)
                  | (refine W.skip ?_
                     refine W.seq ?_
                     refine W.block ?_
                     refine W.fact (OwE.sl (enc := encI) (e := 2) (sz := 1) (v := cv) (xs := ys) (by repeat (first | exact Pick.head | apply Pick.tail))) (fun hcs => ?_)
                     obtain ⟨q, hq1, hq2⟩ := u16_of (ps.getD i (0, 0)).1
                     have hpi := hp _ (getD_mem (show i < ps.length by omega) (0, 0))
                     have hk := tmod_at (n := ys.length) (x := (q : Int)) (by omega) (by omega)
                     obtain ⟨j, hj1, hj2⟩ : ∃ j : Nat, (q : Int).tmod (ys.length : Int) = (j : Int) ∧ j < ys.length := ⟨_, hk.1, hk.2⟩
                     have hyj := hyt.get hj2
                     refine W.sreg ?_
                     refine WO.p rfl rfl (WO.p rfl rfl ?_)
                     refine' WO.indexAddr (n := _) (i := _) rfl rfl rfl ?hs ?h1 rfl ?_
                     case hs => (first | exact hP.sl)
                     case h1 => (first | omega | (simp; omega))
                     refine WO.indexArr0 (i := 0) rfl rfl rfl rfl (by omega) rfl ?_
                     refine' WO.load (v := _) rfl rfl ?hc rfl ?_
                     case hc => (first | (refine hP.cellAt (i := i) (j := 0) (by omega) (0, 0) ?_; rfl))
                     refine WO.convI (b := (q : Int)) rfl rfl rfl hq1 rfl ?_
                     refine WO.convI (b := (q : Int)) rfl rfl rfl (wrap_nat (fit (by omega))) rfl ?_
                     refine WO.p rfl rfl ?_
                     refine' WO.len (n := _) rfl rfl ?hs rfl ?_
                     case hs => (first | exact hcs)
                     refine WO.rem (b := (ys.length : Int)) rfl rfl (by omega) rfl ?_
                     rw [hj1]
                     refine WO.p rfl rfl ?_
                     refine WO.nil ?_
                     refine W.drawD 15 [.r 0 [], .r 1 [], .r 2 [], .r 3 [], .r 4 [], .b 5 [], .r 6 [], .r 7 [], .r 8 [], .r 9 [], .b 10 [], .r 11 [], .r 12 [], .r 13 [], .r 14 []] [] (A0 := []) (Sub.refl _) (by kernel_rfl) ?_ ?_
                     · exact (ALok.r (ALok.r (ALok.r (ALok.r (ALok.r (ALok.b (ALok.r (ALok.r (ALok.r (ALok.r (ALok.b (ALok.r (ALok.r (ALok.r (ALok.r ALok.nil)))))))))))))))
                     refine' DT.r rfl rfl rfl ?hq ?_
                     case hq =>
                       refine WO.p rfl rfl ?_
                       exact WO.nil ⟨rfl, rfl⟩
                     refine' DT.r rfl rfl rfl ?hq ?_
                     case hq =>
                       refine WO.p rfl rfl ?_
                       exact WO.nil ⟨rfl, rfl⟩
                     refine' DT.r rfl rfl rfl ?hq ?_
                     case hq =>
                       refine WO.p rfl rfl ?_
                       exact WO.nil ⟨rfl, rfl⟩
                     refine' DT.r rfl rfl rfl ?hq ?_
                     case hq =>
                       refine WO.p rfl rfl ?_
                       exact WO.nil ⟨rfl, rfl⟩
                     refine' DT.r rfl rfl rfl ?hq ?_
                     case hq =>
                       refine' WO.indexAddr (n := _) (i := _) rfl rfl rfl ?hs ?h1 rfl ?_
                       case hs => (first | exact hcs)
                       case h1 => (first | omega | (simp; omega))
                       exact WO.nil ⟨rfl, rfl⟩
                     refine' DT.b rfl rfl rfl ?hq ?_
                     case hq =>
                       refine' WO.load (v := _) rfl rfl ?hc rfl ?_
                       case hc => (first | (refine owE_cellS (e := 2) (xs := ys) (x := ys.getD j 0) (i := j) ?_ (by omega) rfl rfl; exact (by repeat (first | exact Sub.nil | refine Sub.cons (by repeat (first | exact Pick.head | apply Pick.tail)) ?_))))
                       exact WO.nil ⟨rfl, rfl⟩
                     refine' DT.r rfl rfl rfl ?hq ?_
                     case hq =>
                       refine WO.p rfl rfl ?_
                       exact WO.nil ⟨rfl, rfl⟩
                     refine' DT.r rfl rfl rfl ?hq ?_
                     case hq =>
                       refine WO.p rfl rfl ?_
                       exact WO.nil ⟨rfl, rfl⟩
                     refine' DT.r rfl rfl rfl ?hq ?_
                     case hq =>
                       refine' WO.indexAddr (n := _) (i := _) rfl rfl rfl ?hs ?h1 rfl ?_
                       case hs => (first | exact hP.sl)
                       case h1 => (first | omega | (simp; omega))
                       exact WO.nil ⟨rfl, rfl⟩
                     refine' DT.r rfl rfl rfl ?hq ?_
                     case hq =>
                       refine WO.indexArr0 (i := 1) rfl rfl rfl rfl (by omega) rfl ?_
                       exact WO.nil ⟨rfl, rfl⟩
                     refine' DT.b rfl rfl rfl ?hq ?_
                     case hq =>
                       refine' WO.load (v := _) rfl rfl ?hc rfl ?_
                       case hc => (first | (refine hP.cellAt (i := i) (j := 1) (by omega) (0, 0) ?_; rfl))
                       exact WO.nil ⟨rfl, rfl⟩
                     refine' DT.r rfl rfl rfl ?hq ?_
                     case hq =>
                       refine WO.conv64 rfl rfl rfl (by unfold in64; omega) rfl ?_
                       exact WO.nil ⟨rfl, rfl⟩
                     refine' DT.r rfl rfl rfl ?hq ?_
                     case hq =>
                       refine WO.ar rfl rfl rfl (by (first | (unfold in64; omega) | (unfold in64; omega))) rfl ?_
                       exact WO.nil ⟨rfl, rfl⟩
                     refine' DT.r rfl rfl rfl ?hq ?_
                     case hq =>
                       refine WO.min2 rfl rfl rfl ?_
                       exact WO.nil ⟨rfl, rfl⟩
                     refine' DT.r rfl rfl rfl ?hq ?_
                     case hq =>
                       refine WO.max2 rfl rfl rfl ?_
                       exact WO.nil ⟨rfl, rfl⟩
                     refine DT.nil [_, _] rfl ?_
                     refine' WO.indexAddr (n := _) (i := _) rfl rfl rfl ?hs ?h1 rfl ?_
                     case hs => (first | exact hcs)
                     case h1 => (first | omega | (simp; omega))
                     refine WO.storeE (i := j) (xs := ys) encI_ok rfl rfl rfl rfl (by repeat (first | exact Pick.head | apply Pick.tail)) (by omega) ?_
                     refine WO.nil ?_
                     refine W.region ?_
                     refine WO.p rfl rfl (WO.ar rfl rfl rfl (by (first | (unfold in64; omega) | (unfold in64; omega))) rfl (WO.p rfl rfl ?_))
                     refine WO.nil ?_
                     refine' ⟨i + 1, _, ?hp, ?hmu, ⟨rfl, rfl, rfl, rfl, rfl, trivial⟩, ?hS⟩
                     case hS => repeat (first | exact Sub.nil | refine Sub.cons (by repeat (first | exact Pick.head | apply Pick.tail)) ?_)
                     case hp => exact ⟨by omega, by rw [List.length_set]; exact hyl, hyt.set _ (by omega)⟩
                     case hmu => omega)
                first
                | (exfalso; omega)
                | (refine W.exit (blk_same ?_)
                   have hct := ct_two (a := a) (b := b) (l := l) hc hyl hyt
                   refine W.sreg ?_
                   refine WO.loadA rfl rfl (Cells.own Pick.head) rfl rfl (WO.p rfl rfl ?_)
                   refine WO.callR (r := .tuple #[.int .i64 (ctM b l ys a), .int .i64 (ctE b l ys a)]) rfl Try.call24 (fun L w hi => c_CheckTable w o cv a b l ys (hR.later hi) (RdF.of_ow (e := 2) encI_ok (by repeat (first | exact Pick.head | apply Pick.tail)) hi)) rfl ?_
                   refine WO.p rfl rfl (WO.p rfl rfl (WO.p rfl rfl (WO.p rfl rfl (WO.p rfl rfl ?_))))
                   refine WO.nil ?_
                   refine W.sreg ?_
                   refine WO.p rfl rfl (WO.p rfl rfl (WO.p rfl rfl ?_))
                   refine WO.guard_bl rfl rfl (fun c6 => ?_) (fun c6 => ?_)
                   · first
                     | (exfalso; omega)
                     | (refine WO.no rfl rfl (WO.no rfl rfl (WO.no rfl rfl (WO.no rfl rfl (WO.no rfl rfl (WO.no rfl rfl (WO.no rfl rfl (WO.p rfl rfl (WO.p rfl rfl (WO.go' rfl ?_)))))))))
                        refine WO.callR rfl Try.call12 (fun L w hi => l_Works w) rfl ?_
                        refine WO.p rfl rfl (WO.p rfl rfl ?_)
                        refine WO.nil ?_
                        refine W.ret ?_
                        first | exact fin.ret (Res.one rfl (RV.tmp rfl)) rfl | (exfalso; omega))
                   first
                   | (exfalso; omega)
                   | (refine WO.pg rfl rfl rfl (WO.pg rfl rfl rfl (WO.pg rfl rfl rfl ?_))
                      refine WO.guard_bl rfl rfl (fun c7 => ?_) (fun c7 => ?_)
                      · first
                        | (exfalso; omega)
                        | (refine WO.pg rfl rfl rfl (WO.pg rfl rfl rfl (WO.pg rfl rfl rfl (WO.pg rfl rfl rfl (WO.p rfl rfl (WO.p rfl rfl ?_)))))
                           refine WO.guard_bl rfl rfl (fun c8 => ?_) (fun c8 => ?_)
                           · first
                             | (exfalso; omega)
                             | (refine WO.go' rfl ?_
                                refine WO.callR rfl Try.call12 (fun L w hi => l_Works w) rfl ?_
                                refine WO.p rfl rfl (WO.p rfl rfl ?_)
                                refine WO.nil ?_
                                refine W.ret ?_
                                first | exact fin.ret (Res.one rfl (RV.tmp rfl)) rfl | (exfalso; omega))
                           first
                           | (exfalso; omega)
                           | (refine WO.no rfl rfl (WO.p rfl rfl (WO.p rfl rfl ?_))
                              refine WO.nil ?_
                              refine W.ret ?_
                              first | exact fin.ret (Res.one rfl (RV.tmp rfl)) rfl | (exfalso; omega)))
                      first
                      | (exfalso; omega)
                      | (refine WO.no rfl rfl (WO.no rfl rfl (WO.no rfl rfl (WO.pg rfl rfl rfl (WO.p rfl rfl (WO.p rfl rfl (WO.no rfl rfl (WO.p rfl rfl (WO.p rfl rfl ?_))))))))
                         refine WO.nil ?_
                         refine W.ret ?_
                         first | exact fin.ret (Res.one rfl (RV.tmp rfl)) rfl | (exfalso; omega)))))
           first
           | (exfalso; omega)
           | (refine WO.no rfl rfl (WO.no rfl rfl (WO.no rfl rfl (WO.no rfl rfl (WO.p rfl rfl ?_))))
              refine WO.nil ?_
              refine W.cond_f rfl ?_
              refine W.skip ?_
              refine W.sreg ?_
              refine WO.buildSl0 rfl rfl (fun b0 => ?_)
              refine WO.p rfl rfl ?_
              refine WO.appendEZ (enc := encI) (m := (TbL a b l).length) (xs := []) (ys := TbL a b l) encI_ok rfl rfl rfl rfl rfl (by repeat (first | exact Pick.head | apply Pick.tail)) hbsl rfl (OwC.cells (by repeat (first | exact Pick.head | apply Pick.tail))) (by simp only [List.length_nil]; omega) (by simp only [List.length_nil]; omega) rfl (fun cv => ?_)
              rw [List.nil_append]
              refine WO.p rfl rfl ?_
              refine WO.nil ?_
              refine W.seq ?_
              refine W.sreg ?_
              refine WO.p rfl rfl ?_
              refine WO.nil ?_
              refine W.block ?_
              refine W.loop2 (fun (i : Nat) (ys : List Int) => i ≤ ps.length ∧ ys.length = 2 ^ l.length * l.length ∧ Tb ys)
                (fun (i : Nat) (ys : List Int) => [(2, g), (3, .pointer (some ⟨b1, 0, none⟩)), (14, .int .i64 ((bsL a b l).length : Int)), (19, cv), (20, .int .i64 (i : Int))])
                (fun (i : Nat) (ys : List Int) => [pt b1 (.cells #[.int .i64 a, .int .i64 b, o] 26 (0, 0)), OwE encI 2 1 cv ys])
                (fun (i : Nat) (ys : List Int) => ps.length - i) 0 (TbL a b l)
                (by exact ⟨by omega, hbl, htbb⟩) ⟨rfl, rfl, rfl, rfl, rfl, trivial⟩ (by repeat (first | exact Sub.nil | refine Sub.cons (by repeat (first | exact Pick.head | apply Pick.tail)) ?_)) ?_
              rintro i ys ⟨hi, hyl, hyt⟩
              refine W.seq ?_
              refine W.sreg ?_
              refine WO.p rfl rfl (WO.p rfl rfl ?_)
              refine' WO.len (n := _) rfl rfl ?hs rfl ?_
              case hs => (first | exact hP.sl)
              refine WO.p rfl rfl ?_
              refine WO.nil ?_
              refine W.cond_bl rfl (fun c5 => ?_) (fun c5 => ?_)
              · first
                | (exfalso; omega)
                | (refine W.skip ?_
                   refine W.seq ?_
                   refine W.block ?_
                   refine W.fact (OwE.sl (enc := encI) (e := 2) (sz := 1) (v := cv) (xs := ys) (by repeat (first | exact Pick.head | apply Pick.tail))) (fun hcs => ?_)
                   obtain ⟨q, hq1, hq2⟩ := u16_of (ps.getD i (0, 0)).1
                   have hpi := hp _ (getD_mem (show i < ps.length by omega) (0, 0))
                   have hk := tmod_at (n := ys.length) (x := (q : Int)) (by omega) (by omega)
                   obtain ⟨j, hj1, hj2⟩ : ∃ j : Nat, (q : Int).tmod (ys.length : Int) = (j : Int) ∧ j < ys.length := ⟨_, hk.1, hk.2⟩
                   have hyj := hyt.get hj2
                   refine W.sreg ?_
                   refine WO.p rfl rfl (WO.p rfl rfl ?_)
                   refine' WO.indexAddr (n := _) (i := _) rfl rfl rfl ?hs ?h1 rfl ?_
                   case hs => (first | exact hP.sl)
                   case h1 => (first | omega | (simp; omega))
                   refine WO.indexArr0 (i := 0) rfl rfl rfl rfl (by omega) rfl ?_
                   refine' WO.load (v := _) rfl rfl ?hc rfl ?_
                   case hc => (first | (refine hP.cellAt (i := i) (j := 0) (by omega) (0, 0) ?_; rfl))
                   refine WO.convI (b := (q : Int)) rfl rfl rfl hq1 rfl ?_
                   refine WO.convI (b := (q : Int)) rfl rfl rfl (wrap_nat (fit (by omega))) rfl ?_
                   refine WO.p rfl rfl ?_
                   refine' WO.len (n := _) rfl rfl ?hs rfl ?_
                   case hs => (first | exact hcs)
                   refine WO.rem (b := (ys.length : Int)) rfl rfl (by omega) rfl ?_
                   rw [hj1]
                   refine WO.p rfl rfl ?_
                   refine WO.nil ?_
                   refine W.drawD 15 [.r 0 [], .r 1 [], .r 2 [], .r 3 [], .r 4 [], .b 5 [], .r 6 [], .r 7 [], .r 8 [], .r 9 [], .b 10 [], .r 11 [], .r 12 [], .r 13 [], .r 14 []] [] (A0 := []) (Sub.refl _) (by kernel_rfl) ?_ ?_
                   · exact (ALok.r (ALok.r (ALok.r (ALok.r (ALok.r (ALok.b (ALok.r (ALok.r (ALok.r (ALok.r (ALok.b (ALok.r (ALok.r (ALok.r (ALok.r ALok.nil)))))))))))))))
                   refine' DT.r rfl rfl rfl ?hq ?_
                   case hq =>
                     refine WO.p rfl rfl ?_
                     exact WO.nil ⟨rfl, rfl⟩
                   refine' DT.r rfl rfl rfl ?hq ?_
                   case hq =>
                     refine WO.p rfl rfl ?_
                     exact WO.nil ⟨rfl, rfl⟩
                   refine' DT.r rfl rfl rfl ?hq ?_
                   case hq =>
                     refine WO.p rfl rfl ?_
                     exact WO.nil ⟨rfl, rfl⟩
                   refine' DT.r rfl rfl rfl ?hq ?_
                   case hq =>
                     refine WO.p rfl rfl ?_
                     exact WO.nil ⟨rfl, rfl⟩
                   refine' DT.r rfl rfl rfl ?hq ?_
                   case hq =>
                     refine' WO.indexAddr (n := _) (i := _) rfl rfl rfl ?hs ?h1 rfl ?_
                     case hs => (first | exact hcs)
                     case h1 => (first | omega | (simp; omega))
                     exact WO.nil ⟨rfl, rfl⟩
                   refine' DT.b rfl rfl rfl ?hq ?_
                   case hq =>
                     refine' WO.load (v := _) rfl rfl ?hc rfl ?_
                     case hc => (first | (refine owE_cellS (e := 2) (xs := ys) (x := ys.getD j 0) (i := j) ?_ (by omega) rfl rfl; exact (by repeat (first | exact Sub.nil | refine Sub.cons (by repeat (first | exact Pick.head | apply Pick.tail)) ?_))))
                     exact WO.nil ⟨rfl, rfl⟩
                   refine' DT.r rfl rfl rfl ?hq ?_
                   case hq =>
                     refine WO.p rfl rfl ?_
                     exact WO.nil ⟨rfl, rfl⟩
                   refine' DT.r rfl rfl rfl ?hq ?_
                   case hq =>
                     refine WO.p rfl rfl ?_
                     exact WO.nil ⟨rfl, rfl⟩
                   refine' DT.r rfl rfl rfl ?hq ?_
                   case hq =>
                     refine' WO.indexAddr (n := _) (i := _) rfl rfl rfl ?hs ?h1 rfl ?_
                     case hs => (first | exact hP.sl)
                     case h1 => (first | omega | (simp; omega))
                     exact WO.nil ⟨rfl, rfl⟩
                   refine' DT.r rfl rfl rfl ?hq ?_
                   case hq =>
                     refine WO.indexArr0 (i := 1) rfl rfl rfl rfl (by omega) rfl ?_
                     exact WO.nil ⟨rfl, rfl⟩
                   refine' DT.b rfl rfl rfl ?hq ?_
                   case hq =>
                     refine' WO.load (v := _) rfl rfl ?hc rfl ?_
                     case hc => (first | (refine hP.cellAt (i := i) (j := 1) (by omega) (0, 0) ?_; rfl))
                     exact WO.nil ⟨rfl, rfl⟩
                   refine' DT.r rfl rfl rfl ?hq ?_
                   case hq =>
                     refine WO.conv64 rfl rfl rfl (by unfold in64; omega) rfl ?_
                     exact WO.nil ⟨rfl, rfl⟩
                   refine' DT.r rfl rfl rfl ?hq ?_
                   case hq =>
                     refine WO.ar rfl rfl rfl (by (first | (unfold in64; omega) | (unfold in64; omega))) rfl ?_
                     exact WO.nil ⟨rfl, rfl⟩
                   refine' DT.r rfl rfl rfl ?hq ?_
                   case hq =>
                     refine WO.min2 rfl rfl rfl ?_
                     exact WO.nil ⟨rfl, rfl⟩
                   refine' DT.r rfl rfl rfl ?hq ?_
                   case hq =>
                     refine WO.max2 rfl rfl rfl ?_
                     exact WO.nil ⟨rfl, rfl⟩
                   refine DT.nil [_, _] rfl ?_
                   refine' WO.indexAddr (n := _) (i := _) rfl rfl rfl ?hs ?h1 rfl ?_
                   case hs => (first | exact hcs)
                   case h1 => (first | omega | (simp; omega))
                   refine WO.storeE (i := j) (xs := ys) encI_ok rfl rfl rfl rfl (by repeat (first | exact Pick.head | apply Pick.tail)) (by omega) ?_
                   refine WO.nil ?_
                   refine W.region ?_
                   refine WO.p rfl rfl (WO.ar rfl rfl rfl (by (first | (unfold in64; omega) | (unfold in64; omega))) rfl (WO.p rfl rfl ?_))
                   refine WO.nil ?_
                   refine' ⟨i + 1, _, ?hp, ?hmu, ⟨rfl, rfl, rfl, rfl, rfl, trivial⟩, ?hS⟩
                   case hS => repeat (first | exact Sub.nil | refine Sub.cons (by repeat (first | exact Pick.head | apply Pick.tail)) ?_)
                   case hp => exact ⟨by omega, by rw [List.length_set]; exact hyl, hyt.set _ (by omega)⟩
                   case hmu => omega)
              first
              | (exfalso; omega)
              | (refine W.exit (blk_same ?_)
                 have hct := ct_two (a := a) (b := b) (l := l) hc hyl hyt
                 refine W.sreg ?_
                 refine WO.loadA rfl rfl (Cells.own Pick.head) rfl rfl (WO.p rfl rfl ?_)
                 refine WO.callR (r := .tuple #[.int .i64 (ctM b l ys a), .int .i64 (ctE b l ys a)]) rfl Try.call24 (fun L w hi => c_CheckTable w o cv a b l ys (hR.later hi) (RdF.of_ow (e := 2) encI_ok (by repeat (first | exact Pick.head | apply Pick.tail)) hi)) rfl ?_
                 refine WO.p rfl rfl (WO.p rfl rfl (WO.p rfl rfl (WO.p rfl rfl (WO.p rfl rfl ?_))))
                 refine WO.nil ?_
                 refine W.sreg ?_
                 refine WO.p rfl rfl (WO.p rfl rfl (WO.p rfl rfl ?_))
                 refine WO.guard_bl rfl rfl (fun c6 => ?_) (fun c6 => ?_)
                 · first
                   | (exfalso; omega)
                   | (refine WO.no rfl rfl (WO.no rfl rfl (WO.no rfl rfl (WO.no rfl rfl (WO.no rfl rfl (WO.no rfl rfl (WO.no rfl rfl (WO.p rfl rfl (WO.p rfl rfl (WO.go' rfl ?_)))))))))
                      refine WO.callR rfl Try.call12 (fun L w hi => l_Works w) rfl ?_
                      refine WO.p rfl rfl (WO.p rfl rfl ?_)
                      refine WO.nil ?_
                      refine W.ret ?_
                      first | exact fin.ret (Res.one rfl (RV.tmp rfl)) rfl | (exfalso; omega))
                 first
                 | (exfalso; omega)
                 | (refine WO.pg rfl rfl rfl (WO.pg rfl rfl rfl (WO.pg rfl rfl rfl ?_))
                    refine WO.guard_bl rfl rfl (fun c7 => ?_) (fun c7 => ?_)
                    · first
                      | (exfalso; omega)
                      | (refine WO.pg rfl rfl rfl (WO.pg rfl rfl rfl (WO.pg rfl rfl rfl (WO.pg rfl rfl rfl (WO.p rfl rfl (WO.p rfl rfl ?_)))))
                         refine WO.guard_bl rfl rfl (fun c8 => ?_) (fun c8 => ?_)
                         · first
                           | (exfalso; omega)
                           | (refine WO.go' rfl ?_
                              refine WO.callR rfl Try.call12 (fun L w hi => l_Works w) rfl ?_
                              refine WO.p rfl rfl (WO.p rfl rfl ?_)
                              refine WO.nil ?_
                              refine W.ret ?_
                              first | exact fin.ret (Res.one rfl (RV.tmp rfl)) rfl | (exfalso; omega))
                         first
                         | (exfalso; omega)
                         | (refine WO.no rfl rfl (WO.p rfl rfl (WO.p rfl rfl ?_))
                            refine WO.nil ?_
                            refine W.ret ?_
                            first | exact fin.ret (Res.one rfl (RV.tmp rfl)) rfl | (exfalso; omega)))
                    first
                    | (exfalso; omega)
                    | (refine WO.no rfl rfl (WO.no rfl rfl (WO.no rfl rfl (WO.pg rfl rfl rfl (WO.p rfl rfl (WO.p rfl rfl (WO.no rfl rfl (WO.p rfl rfl (WO.p rfl rfl ?_))))))))
                       refine WO.nil ?_
                       refine W.ret ?_
                       first | exact fin.ret (Res.one rfl (RV.tmp rfl)) rfl | (exfalso; omega))))))))
end Go.Proofs.Ytkonhpcldomidaa
