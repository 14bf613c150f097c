/-
  What is proved here: the n-th true hull, and that each true hull is one of them (no program in sight). Conditions: none; each theorem states its own.
  What is proved here: the reference's n-th true hull. Conditions: none; the contract states its own.
  What is proved here: the least and the greatest number of the first true hulls, and that those of all are the ends (no program in sight). Conditions: none; each theorem states its own.
  What is proved here: the reference's span. Conditions: none; the contract states its own.
  What is proved here: the law BoxSpans, as a contract. Conditions: none.
-/
import Derived.Test.YtgihklgpehfbpaaM10
namespace Go.Proofs.Ytgihklgpehfbpaa
open Go Go.TH
set_option maxRecDepth 10000
section
variable {w d : Nat × Nat → Int}
def encL (w d : Nat × Nat → Int) (e : Int) (l : List (Nat × Nat)) : Int := l.foldl (fun e q => d q + w q * e) e
def decL (w : Nat × Nat → Int) (l : List (Nat × Nat)) (n : Int) : Int := l.foldr (fun q r => r.tdiv (w q)) n
def prL (w : Nat × Nat → Int) (p : Int) (l : List (Nat × Nat)) : Int := l.foldl (fun p q => p * w q) p
theorem encL_in : ∀ {l : List (Nat × Nat)} {e p : Int}, (∀ q ∈ l, 0 ≤ d q ∧ d q < w q) → 0 ≤ e → e < p → 0 ≤ encL w d e l ∧ encL w d e l < prL w p l
  | [], e, p, _, h1, h2 => ⟨h1, h2⟩
  | q :: l, e, p, h, h1, h2 => by
    have hq := h q (by simp)
    have m1 : 0 ≤ w q * e := Int.mul_nonneg (by omega) h1
    have m2 : w q * (e + 1) ≤ w q * p := Int.mul_le_mul_of_nonneg_left (by omega) (by omega)
    rw [Int.mul_add, Int.mul_one] at m2
    have m3 : p * w q = w q * p := Int.mul_comm _ _
    exact encL_in (l := l) (e := d q + w q * e) (p := p * w q) (fun x hx => h x (by simp [hx])) (by omega) (by omega)
theorem dec_enc : ∀ {l : List (Nat × Nat)} {e : Int}, (∀ q ∈ l, 0 ≤ d q ∧ d q < w q) → 0 ≤ e → decL w l (encL w d e l) = e
  | [], e, _, _ => rfl
  | q :: l, e, h, h1 => by
    have hq := h q (by simp)
    have m1 : 0 ≤ w q * e := Int.mul_nonneg (by omega) h1
    have ih := dec_enc (l := l) (e := d q + w q * e) (fun x hx => h x (by simp [hx])) (by omega)
    show (decL w l (encL w d (d q + w q * e) l)).tdiv (w q) = e
    rw [ih, Int.tdiv_eq_ediv_of_nonneg (by omega), Int.add_mul_ediv_left _ _ (by omega), Int.ediv_eq_zero_of_lt hq.1 hq.2, Int.zero_add]
theorem dig_enc {q : Nat × Nat} {e : Int} (hq : 0 ≤ d q ∧ d q < w q) (he : 0 ≤ e) : (d q + w q * e).tmod (w q) = d q := by
  have m1 : 0 ≤ w q * e := Int.mul_nonneg (by omega) he
  rw [Int.tmod_eq_emod_of_nonneg (by omega), Int.add_mul_emod_self_left, Int.emod_eq_of_lt hq.1 hq.2]
end
section
variable {rows : List (List (Int × Int))} {ys : List (List Int)} {sp st : Int}
def wd (rows : List (List (Int × Int))) (q : Nat × Nat) : Int := hi0 rows q.1 q.2 - lo0 rows q.1 q.2 + 1
/-- where a place stands -/
def ix (rows : List (List (Int × Int))) (i k : Nat) : Nat := (plcTo rows i).length + k
def Rf (rows : List (List (Int × Int))) (n : Int) (j : Nat) : Int := decL (wd rows) ((plc rows).drop j) n
def dgt (rows : List (List (Int × Int))) (n : Int) (i k : Nat) : Int := (Rf rows n (ix rows i k + 1)).tmod (wd rows (i, k))
/-- the n-th true hull -/
def nthT (rows : List (List (Int × Int))) (n : Int) : List (List Int) := mk rows fun i k => lo0 rows i k + dgt rows n i k
theorem HV.wd (hv : HV sp st rows) {i k : Nat} (hi : i < rows.length) (hk : k < (rows.getD i []).length) : 1 ≤ Ytgihklgpehfbpaa.wd rows (i, k) ∧ Ytgihklgpehfbpaa.wd rows (i, k) ≤ 21 := by
  have := hv.ok i k hi hk
  unfold Ytgihklgpehfbpaa.wd lo0 hi0
  dsimp only
  omega
theorem Rf_end (n : Int) : Rf rows n (plc rows).length = n := by unfold Rf; rw [List.drop_length]; rfl
theorem Rf_step (n : Int) {j : Nat} {q : Nat × Nat} (h : (plc rows)[j]? = some q) : Rf rows n j = (Rf rows n (j + 1)).tdiv (wd rows q) := by
  unfold Rf
  obtain ⟨hj, he⟩ := List.getElem?_eq_some_iff.1 h
  rw [List.drop_eq_getElem_cons hj, he]; rfl
theorem plc_get {i k : Nat} (hi : i < rows.length) (hk : k < (rows.getD i []).length) : (plc rows)[ix rows i k]? = some (i, k) := plcTo_get rows hi hk
theorem decL_nn {w : Nat × Nat → Int} : ∀ {l : List (Nat × Nat)} {n : Int}, (∀ q ∈ l, 1 ≤ w q) → 0 ≤ n → 0 ≤ decL w l n
  | [], n, _, h => h
  | q :: l, n, h, hn => Int.tdiv_nonneg (decL_nn (l := l) (fun x hx => h x (by simp [hx])) hn) (by have := h q (by simp); omega)
theorem Rf_nn (hv : HV sp st rows) {n : Int} (hn : 0 ≤ n) (j : Nat) : 0 ≤ Rf rows n j := by
  refine decL_nn (fun q hq => ?_) hn
  have hm := plc_mem (List.mem_of_mem_drop hq)
  exact (hv.wd hm.1 hm.2).1
theorem dgt_in (hv : HV sp st rows) {n : Int} (hn : 0 ≤ n) {i k : Nat} (hi : i < rows.length) (hk : k < (rows.getD i []).length) : 0 ≤ dgt rows n i k ∧ dgt rows n i k ≤ wd rows (i, k) - 1 :=
  tmod_in (Rf_nn hv hn _) (by have := hv.wd hi hk; omega)
theorem nthT_tv (hv : HV sp st rows) {n : Int} (hn : 0 ≤ n) : TV rows (nthT rows n) := by
  refine ⟨mk_len, fun i hi => mk_rowLen (by rw [nthT, mk_len] at hi; exact hi), fun i k hi hk => ?_⟩
  rw [nthT, mk_len] at hi
  rw [nthT, mk_rowLen hi] at hk
  rw [nthT, mk_y hi hk]
  have h1 := dgt_in hv hn hi hk
  have h2 : wd rows (i, k) = ((rows.getD i []).getD k (0, 0)).2 - ((rows.getD i []).getD k (0, 0)).1 + 1 := rfl
  have h3 : lo0 rows i k = ((rows.getD i []).getD k (0, 0)).1 := rfl
  omega
theorem ext_getD {α : Type} {l r : List α} (z : α) (hl : l.length = r.length) (h : ∀ i, i < l.length → l.getD i z = r.getD i z) : l = r := by
  refine List.ext_getElem hl fun i h1 h2 => ?_
  have := h i h1
  rwa [List.getD_eq_getElem?_getD, List.getD_eq_getElem?_getD, List.getElem?_eq_getElem h1, List.getElem?_eq_getElem h2] at this
theorem mk_yy (tv : TV rows ys) : mk rows (yy ys) = ys := by
  have hl := tv.len
  refine ext_getD [] (by rw [mk_len, hl]) fun i hi => ?_
  rw [mk_len] at hi
  refine ext_getD 0 (by rw [mk_rowLen hi, tv.row i (by omega)]) fun k hk => ?_
  rw [mk_rowLen hi] at hk
  exact mk_y hi hk
/-- each true hull is one of them -/
theorem nth_all (hv : HV sp st rows) (tv : TV rows ys) : ∃ n, 0 ≤ n ∧ n < prL (wd rows) 1 (plc rows) ∧ nthT rows n = ys := by
  have hd : ∀ q ∈ plc rows, 0 ≤ (fun q : Nat × Nat => yy ys q.1 q.2 - lo0 rows q.1 q.2) q ∧ (fun q : Nat × Nat => yy ys q.1 q.2 - lo0 rows q.1 q.2) q < wd rows q := fun q hq => by
    have hm := plc_mem hq
    have hl := tv.len
    have h1 := tv.within q.1 q.2 (by omega) (by rw [tv.row q.1 (by omega)]; exact hm.2)
    have h2 : wd rows q = ((rows.getD q.1 []).getD q.2 (0, 0)).2 - ((rows.getD q.1 []).getD q.2 (0, 0)).1 + 1 := rfl
    have h3 : lo0 rows q.1 q.2 = ((rows.getD q.1 []).getD q.2 (0, 0)).1 := rfl
    dsimp only
    omega
  generalize hdf : (fun q : Nat × Nat => yy ys q.1 q.2 - lo0 rows q.1 q.2) = d at hd
  have hb := encL_in (w := wd rows) (d := d) (e := 0) (p := 1) hd (by omega) (by omega)
  refine ⟨_, hb.1, hb.2, ?_⟩
  refine Eq.trans (mk_congr fun i k hi hk => ?_) (mk_yy tv)
  have hg := plc_get hi hk
  obtain ⟨hj, he⟩ := List.getElem?_eq_some_iff.1 hg
  have hq : (i, k) ∈ plc rows := he ▸ List.getElem_mem hj
  unfold dgt Rf
  have hsplit : encL (wd rows) d 0 (plc rows) = encL (wd rows) d (encL (wd rows) d 0 ((plc rows).take (ix rows i k + 1))) ((plc rows).drop (ix rows i k + 1)) := by
    unfold encL; rw [← List.foldl_append, List.take_append_drop]
  have hin := fun j => (encL_in (w := wd rows) (d := d) (e := 0) (p := 1) (l := (plc rows).take j) (fun q hq => hd q (List.mem_of_mem_take hq)) (by omega) (by omega)).1
  rw [hsplit, dec_enc (fun q hq => hd q (List.mem_of_mem_drop hq)) (hin _)]
  have htk : encL (wd rows) d 0 ((plc rows).take (ix rows i k + 1)) = d (i, k) + wd rows (i, k) * encL (wd rows) d 0 ((plc rows).take (ix rows i k)) := by
    unfold encL; rw [List.take_add_one, hg, List.foldl_append]; rfl
  rw [htk, dig_enc (hd _ hq) (hin _), ← hdf]
  dsimp only
  omega
theorem cnt_ge : ∀ {l : List (Nat × Nat)} {n : Int}, (∀ q ∈ l, 1 ≤ wd rows q) → 1 ≤ n → n ≤ 1000000 → n ≤ l.foldl (fun n q => min 1000000 (n * wd rows q)) n
  | [], n, _, _, _ => Int.le_refl _
  | q :: l, n, h, h1, h2 => by
    have hq := h q (by simp)
    have m : n * 1 ≤ n * wd rows q := Int.mul_le_mul_of_nonneg_left hq (by omega)
    have ih := cnt_ge (l := l) (n := min 1000000 (n * wd rows q)) (fun x hx => h x (by simp [hx])) (by omega) (by omega)
    show n ≤ l.foldl _ (min 1000000 (n * wd rows q))
    omega
theorem cnt_pr : ∀ {l : List (Nat × Nat)} {n : Int}, (∀ q ∈ l, 1 ≤ wd rows q) → 1 ≤ n → n ≤ 1000000 → l.foldl (fun n q => min 1000000 (n * wd rows q)) n ≤ 400 → l.foldl (fun n q => min 1000000 (n * wd rows q)) n = prL (wd rows) n l
  | [], n, _, _, _, _ => rfl
  | q :: l, n, h, h1, h2, h3 => by
    have hq := h q (by simp)
    have m : n * 1 ≤ n * wd rows q := Int.mul_le_mul_of_nonneg_left hq (by omega)
    have h3' : l.foldl (fun n q => min 1000000 (n * wd rows q)) (min 1000000 (n * wd rows q)) ≤ 400 := h3
    have hg := cnt_ge (rows := rows) (l := l) (n := min 1000000 (n * wd rows q)) (fun x hx => h x (by simp [hx])) (by omega) (by omega)
    have ih := cnt_pr (l := l) (n := min 1000000 (n * wd rows q)) (fun x hx => h x (by simp [hx])) (by omega) (by omega) h3'
    show l.foldl (fun n q => min 1000000 (n * wd rows q)) (min 1000000 (n * wd rows q)) = prL (wd rows) (n * wd rows q) l
    rw [ih, show min 1000000 (n * wd rows q) = n * wd rows q by omega]
theorem many_row (r : List (Int × Int)) (n : Int) : r.foldl cnt n = (List.range r.length).foldl (fun n k => cnt n (r.getD k (0, 0))) n := by
  have e : (List.range r.length).map (fun k => r.getD k (0, 0)) = r := by
    refine ext_getD (0, 0) (by simp) fun i hi => ?_
    simp at hi
    rw [List.getD_eq_getElem?_getD, List.getElem?_map, List.getElem?_range hi]; rfl
  conv => lhs; rw [← e]
  rw [List.foldl_map]
theorem many_to : ∀ i, i ≤ rows.length → (rows.take i).foldl manyF 1 = (plcTo rows i).foldl (fun n q => min 1000000 (n * wd rows q)) 1
  | 0, _ => rfl
  | i + 1, h => by
    rw [foldl_take manyF (by omega) [], many_to i (by omega), plcTo_succ, List.foldl_append, List.foldl_map]
    unfold manyF
    rw [many_row]; rfl
theorem many_pr (hv : HV sp st rows) (h : manyR 1 rows ≤ 400) : manyR 1 rows = prL (wd rows) 1 (plc rows) := by
  have e := many_to (rows := rows) rows.length (Nat.le_refl _)
  rw [List.take_length] at e
  have e' : manyR 1 rows = (plc rows).foldl (fun n q => min 1000000 (n * wd rows q)) 1 := e
  rw [e'] at h ⊢
  exact cnt_pr (fun q hq => by have hm := plc_mem hq; exact (hv.wd hm.1 hm.2).1) (by omega) (by omega) h
end
end Go.Proofs.Ytgihklgpehfbpaa
namespace Go.Proofs.Ytgihklgpehfbpaa
open Go Go.TH
attribute [local irreducible] W WO pt
set_option maxRecDepth 10000
set_option maxHeartbeats 4000000
section
variable {rows : List (List (Int × Int))} {n : Int} {i k J : Nat} {sp st : Int}
/-- the places from J on are done -/
def gN (rows : List (List (Int × Int))) (n : Int) (J : Nat) (i k : Nat) : Int := if J ≤ ix rows i k then lo0 rows i k + dgt rows n i k else lo0 rows i k
theorem ix_inj {i' k' : Nat} (hi : i < rows.length) (hk : k < (rows.getD i []).length) (hi' : i' < rows.length) (hk' : k' < (rows.getD i' []).length) (h : ix rows i' k' = ix rows i k) : i' = i ∧ k' = k := by
  have h1 := plc_get hi hk
  have h2 := plc_get hi' hk'
  rw [h, h1] at h2
  simpa [eq_comm] using h2
theorem ix_lt (hi : i < rows.length) (hk : k < (rows.getD i []).length) : ix rows i k < (plc rows).length := (List.getElem?_eq_some_iff.1 (plc_get hi hk)).1
theorem gN_end : mk rows (gN rows n (plc rows).length) = endsOf false rows := by
  rw [mk_ends]
  refine mk_congr fun i k hi hk => ?_
  unfold gN
  rw [if_neg (by have := ix_lt hi hk; omega)]; rfl
theorem gN_0 : mk rows (gN rows n 0) = nthT rows n := mk_congr fun i k hi hk => by unfold gN; rw [if_pos (by omega)]
theorem gN_at (hi : i < rows.length) (hk : k < (rows.getD i []).length) : ((mk rows (gN rows n (ix rows i k + 1))).getD i []).getD k 0 = lo0 rows i k := by
  have := mk_y (g := gN rows n (ix rows i k + 1)) hi hk
  unfold yy at this
  rw [this]; unfold gN; rw [if_neg (by omega)]
theorem gN_step (hi : i < rows.length) (hk : k < (rows.getD i []).length) : (mk rows (gN rows n (ix rows i k + 1))).set i (((mk rows (gN rows n (ix rows i k + 1))).getD i []).set k (lo0 rows i k + dgt rows n i k)) = mk rows (gN rows n (ix rows i k)) := by
  rw [mk_set _ hi]
  refine mk_congr fun i' k' hi' hk' => ?_
  by_cases h : i' = i ∧ k' = k
  · rw [if_pos h, h.1, h.2]; unfold gN; rw [if_pos (by omega)]
  · rw [if_neg h]
    have hne : ix rows i' k' ≠ ix rows i k := fun e => h (ix_inj hi hk hi' hk' e)
    unfold gN
    by_cases h2 : ix rows i k + 1 ≤ ix rows i' k'
    · rw [if_pos h2, if_pos (by omega)]
    · rw [if_neg h2, if_neg (by omega)]
theorem gN_cell {P : Program} {C : Cx P} {rv1 : List Value} {H : List HP} (p : ∃ H', Pick (RowsE encI 2 1 rv1 (mk rows (gN rows n (ix rows i k + 1)))) H H') (hi : i < rows.length) (hk : k < (rows.getD i []).length) : Cell C H (elt (rv1.getD i undef) k 1) (.int .i64 (lo0 rows i k)) :=
  let ⟨_, p⟩ := p
  RowsE.cell0 encI_ok p (by rw [mk_len]; exact hi) (by rw [mk_rowLen hi]; exact hk) 0 (by rw [gN_at hi hk]; rfl)
theorem ix_row (i : Nat) : ix rows (i + 1) 0 = ix rows i (rows.getD i []).length := by unfold ix; rw [plcTo_len]; omega
theorem ix_all : ix rows rows.length 0 = (plc rows).length := rfl
theorem ix_00 : ix rows 0 0 = 0 := rfl
theorem Rf_le (hv : HV sp st rows) (hn : 0 ≤ n) (hi : i < rows.length) (hk : k < (rows.getD i []).length) : 0 ≤ Rf rows n (ix rows i k) ∧ Rf rows n (ix rows i k) ≤ Rf rows n (ix rows i k + 1) ∧ Rf rows n (ix rows i k) = (Rf rows n (ix rows i k + 1)).tdiv (wd rows (i, k)) := by
  have h1 := Rf_step n (plc_get hi hk)
  refine ⟨Rf_nn hv hn _, ?_, h1⟩
  rw [h1]
  exact Int.tdiv_le_self _ (Rf_nn hv hn _)
end
theorem ref_nth (w : World) (sp st n : Int) (o : Value) (rv : List Value) (rows : List (List (Int × Int))) (hR : RdR encP 2 w.heap.size w o rv rows) (hv : HV sp st rows) (hn : 0 ≤ n ∧ n ≤ 1000000) :
    Ct Try.prog 55 [.agg #[.int .i64 sp, .int .i64 st, o], .int .i64 n].toArray w fun v w' => ∃ Hq, (∃ rv', Hq = [OwC 53 1 v rows.length rv', RowsE encI 2 1 rv' (nthT rows n)]) ∧ Inv w [] Hq w' := by
  refine Ct.of mixed tyTab Try.func55 rfl rfl ?_
  replace hR : RdR encP 2 (fnCx mixed tyTab Try.f55.ntmps w).B (fnCx mixed tyTab Try.f55.ntmps w).w0 o rv rows := hR
  have hvn := hv.n
  have hvm := hv.m
  have hs := hv.small
  refine W.sreg ?_
  refine WO.boxA rfl rfl (fun b1 hb1 => ?_)
  refine WO.p rfl rfl ?_
  refine WO.nil ?_
  refine W.sreg ?_
  refine WO.loadA rfl rfl (Cells.own Pick.head) rfl rfl ?_
  refine WO.call (Post := fun v Hq => ∃ rv', Hq = [OwC 53 1 v rows.length rv', RowsE encI 2 1 rv' (endsOf false rows)]) rfl Try.call54 (fun L w hi => ref_End w sp st o rv rows false (hR.later hi) hs.1 hs.2) rfl ?_
  rintro v1 _ ⟨rv1, rfl⟩
  refine WO.fact (OwC.form (by repeat (first | exact Pick.head | apply Pick.tail))) (fun hf => ?_)
  obtain ⟨a0, c0, rfl⟩ := hf
  rw [← gN_end (n := n)]
  refine WO.p rfl rfl ?_
  refine WO.nil ?_
  refine W.seq ?_
  refine W.fact (OwC.sl (by repeat (first | exact Pick.head | apply Pick.tail))) (fun hos => ?_)
  refine W.fact (RowsE.rowsLen (by repeat (first | exact Pick.head | apply Pick.tail))) (fun hrl => ?_)
  rw [mk_len] at hrl
  refine W.sreg ?_
  refine WO.p rfl rfl ?_
  refine' WO.len (n := _) rfl rfl ?hs rfl ?_
  case hs => (first | exact hR.sl | exact hos | exact hrs | (refine (hR.row _ ?_).sl; omega))
  refine WO.ar rfl rfl rfl (by (first | (unfold in64; omega) | (unfold in64; omega))) rfl (WO.p rfl rfl ?_)
  refine WO.nil ?_
  refine W.block ?_
  refine W.loop3 (fun (i1 : Nat) (z : Int) (t : Int) => i1 ≤ rows.length ∧ z = (i1 : Int) - 1 ∧ t = Rf rows n (ix rows i1 0) ∧ 0 ≤ t ∧ t ≤ n)
    (fun (i1 : Nat) (z : Int) (t : Int) => [(6, .int .i64 z), (5, .slice a0 rows.length c0), (1, .int .i64 t), (2, .pointer (some ⟨b1, 0, none⟩))])
    (fun (i1 : Nat) (z : Int) (t : Int) => [pt b1 (.cells #[.int .i64 sp, .int .i64 st, o] 24 (0, 0)), OwC 53 1 (.slice a0 rows.length c0) rows.length rv1, RowsE encI 2 1 rv1 (mk rows (gN rows n (ix rows i1 0)))])
    (fun (i1 : Nat) (z : Int) (t : Int) => i1) rows.length ((rows.length : Int) - 1) n
    (by exact ⟨by omega, rfl, (Rf_end n).symm, hn.1, by omega⟩) ⟨rfl, rfl, rfl, rfl, trivial⟩ (by repeat (first | exact Sub.nil | refine Sub.cons (by repeat (first | exact Pick.head | apply Pick.tail)) ?_)) ?_
  rintro i1 z t ⟨hi1, hz, ht, ht0, htn⟩
  refine W.seq ?_
  refine W.sreg ?_
  refine WO.p rfl rfl (WO.p rfl rfl ?_)
  refine WO.nil ?_
  refine W.cond_bl rfl (fun c1 => ?_) (fun c1 => ?_)
  · first
    | (exfalso; omega)
    | (refine W.skip ?_
       refine W.seq ?_
       refine W.block ?_
       refine W.fact (RowsE.rowSl (by repeat (first | exact Pick.head | apply Pick.tail)) (i := z.toNat) (by rw [mk_len]; omega)) (fun hrs => ?_)
       rw [mk_rowLen (by omega)] at hrs
       have heq := hv.eq z.toNat (by omega)
       refine W.sreg ?_
       refine WO.p rfl rfl (WO.p rfl rfl ?_)
       refine' WO.indexAddrZ (n := _) rfl rfl rfl ?hs ?h00 ?h1 rfl ?_
       case hs => (first | exact hR.sl | exact hos | exact hrs | (refine (hR.row _ ?_).sl; omega))
       case h00 => omega
       case h1 => (first | omega | (simp; omega))
       refine' WO.load (v := _) rfl rfl ?hc rfl ?_
       case hc => (first | (refine hR.cellV ?_; omega) | (refine (hR.row _ ?_).cell0 ?_ (0, 0) ?_ <;> first | rfl | omega) | (refine (hR.row _ ?_).cellAt ?_ (0, 0) ?_ <;> first | rfl | omega) | (refine OwC.cell1s (e := 53) (n := rows.length) (cs := rv1) ?_ ?_; (repeat (first | exact Sub.nil | refine Sub.cons (by repeat (first | exact Pick.head | apply Pick.tail)) ?_)); omega) | (refine gN_cell (rows := rows) (n := n) (i := z.toNat) (k := z2.toNat) (rv1 := rv1) ?_ ?_ ?_; (exact ⟨_, by repeat (first | exact Pick.head | apply Pick.tail)⟩); omega; omega))
       refine' WO.len (n := _) rfl rfl ?hs rfl ?_
       case hs => (first | exact hR.sl | exact hos | exact hrs | (refine (hR.row _ ?_).sl; omega))
       refine WO.ar rfl rfl rfl (by (first | (unfold in64; omega) | (unfold in64; omega))) rfl (WO.p rfl rfl ?_)
       refine WO.nil ?_
       refine W.block ?_
       rw [show ix rows i1 0 = ix rows z.toNat (rows.getD z.toNat []).length by rw [← ix_row]; congr 1; omega] at ht
       rw [show ix rows i1 0 = ix rows z.toNat (rows.getD z.toNat []).length by rw [← ix_row]; congr 1; omega]
       refine W.loop3 (fun (k1 : Nat) (z2 : Int) (t2 : Int) => k1 ≤ (rows.getD z.toNat []).length ∧ z2 = (k1 : Int) - 1 ∧ t2 = Rf rows n (ix rows z.toNat k1) ∧ 0 ≤ t2 ∧ t2 ≤ n)
         (fun (k1 : Nat) (z2 : Int) (t2 : Int) => [(7, .int .i64 z2), (6, .int .i64 z), (5, .slice a0 rows.length c0), (1, .int .i64 t2), (2, .pointer (some ⟨b1, 0, none⟩))])
         (fun (k1 : Nat) (z2 : Int) (t2 : Int) => [pt b1 (.cells #[.int .i64 sp, .int .i64 st, o] 24 (0, 0)), OwC 53 1 (.slice a0 rows.length c0) rows.length rv1, RowsE encI 2 1 rv1 (mk rows (gN rows n (ix rows z.toNat k1)))])
         (fun (k1 : Nat) (z2 : Int) (t2 : Int) => k1) (rows.getD z.toNat []).length (((rows.getD z.toNat []).length : Int) - 1) t
         (by exact ⟨by omega, rfl, ht, by omega, by omega⟩) ⟨rfl, rfl, rfl, rfl, rfl, trivial⟩ (by repeat (first | exact Sub.nil | refine Sub.cons (by repeat (first | exact Pick.head | apply Pick.tail)) ?_)) ?_
       rintro k1 z2 t2 ⟨hk1, hz2, ht2, ht20, ht2n⟩
       refine W.seq ?_
       refine W.sreg ?_
       refine WO.p rfl rfl (WO.p rfl rfl ?_)
       refine WO.nil ?_
       refine W.cond_bl rfl (fun c2 => ?_) (fun c2 => ?_)
       · first
         | (exfalso; omega)
         | (refine W.skip ?_
            refine W.seq ?_
            refine W.block ?_
            refine W.seq ?_
            have ek : ix rows z.toNat k1 = ix rows z.toNat z2.toNat + 1 := by unfold ix; omega
            rw [ek] at ht2
            rw [ek]
            have hok := hv.ok z.toNat z2.toNat (by omega) (by omega)
            have hlR := Rf_le hv hn.1 (i := z.toNat) (k := z2.toNat) (by omega) (by omega)
            have hdg := dgt_in hv hn.1 (i := z.toNat) (k := z2.toNat) (by omega) (by omega)
            have e1 : t2.tmod (((rows.getD z.toNat []).getD z2.toNat (0, 0)).2 - ((rows.getD z.toNat []).getD z2.toNat (0, 0)).1 + 1) = dgt rows n z.toNat z2.toNat := by rw [ht2]; rfl
            have e2 : t2.tdiv (((rows.getD z.toNat []).getD z2.toNat (0, 0)).2 - ((rows.getD z.toNat []).getD z2.toNat (0, 0)).1 + 1) = Rf rows n (ix rows z.toNat z2.toNat) := by rw [ht2]; exact hlR.2.2.symm
            have e3 : lo0 rows z.toNat z2.toNat = ((rows.getD z.toNat []).getD z2.toNat (0, 0)).1 := rfl
            have e4 : wd rows (z.toNat, z2.toNat) = ((rows.getD z.toNat []).getD z2.toNat (0, 0)).2 - ((rows.getD z.toNat []).getD z2.toNat (0, 0)).1 + 1 := rfl
            refine W.drawD 18 [.r 0 [], .b 1 [], .r 2 [], .r 3 [], .b 4 [], .r 5 [], .r 6 [], .r 7 [], .b 8 [], .r 9 [], .b 10 [], .r 11 [], .r 12 [], .b 13 [], .r 14 [], .r 15 [], .r 16 [], .b 17 []] [] (A0 := []) (Sub.refl _) (by kernel_rfl) ?_ ?_
            · exact (ALok.r (ALok.b (ALok.r (ALok.r (ALok.b (ALok.r (ALok.r (ALok.r (ALok.b (ALok.r (ALok.b (ALok.r (ALok.r (ALok.b (ALok.r (ALok.r (ALok.r (ALok.b ALok.nil))))))))))))))))))
            refine' DT.r rfl rfl rfl ?hq ?_
            case hq =>
              refine WO.fieldL rfl rfl rfl ?_
              exact WO.nil ⟨rfl, rfl⟩
            refine' DT.b rfl rfl rfl ?hq ?_
            case hq =>
              refine WO.load rfl rfl (Cell.own Pick.head rfl) rfl ?_
              exact WO.nil ⟨rfl, rfl⟩
            refine' DT.r rfl rfl rfl ?hq ?_
            case hq =>
              refine WO.p rfl rfl ?_
              exact WO.nil ⟨rfl, rfl⟩
            refine' DT.r rfl rfl rfl ?hq ?_
            case hq =>
              refine' WO.indexAddrZ (n := _) rfl rfl rfl ?hs ?h00 ?h1 rfl ?_
              case hs => (first | exact hR.sl | exact hos | exact hrs | (refine (hR.row _ ?_).sl; omega))
              case h00 => omega
              case h1 => (first | omega | (simp; omega))
              exact WO.nil ⟨rfl, rfl⟩
            refine' DT.b rfl rfl rfl ?hq ?_
            case hq =>
              refine' WO.load (v := _) rfl rfl ?hc rfl ?_
              case hc => (first | (refine hR.cellV ?_; omega) | (refine (hR.row _ ?_).cell0 ?_ (0, 0) ?_ <;> first | rfl | omega) | (refine (hR.row _ ?_).cellAt ?_ (0, 0) ?_ <;> first | rfl | omega) | (refine OwC.cell1s (e := 53) (n := rows.length) (cs := rv1) ?_ ?_; (repeat (first | exact Sub.nil | refine Sub.cons (by repeat (first | exact Pick.head | apply Pick.tail)) ?_)); omega) | (refine gN_cell (rows := rows) (n := n) (i := z.toNat) (k := z2.toNat) (rv1 := rv1) ?_ ?_ ?_; (exact ⟨_, by repeat (first | exact Pick.head | apply Pick.tail)⟩); omega; omega))
              exact WO.nil ⟨rfl, rfl⟩
            refine' DT.r rfl rfl rfl ?hq ?_
            case hq =>
              refine WO.p rfl rfl ?_
              exact WO.nil ⟨rfl, rfl⟩
            refine' DT.r rfl rfl rfl ?hq ?_
            case hq =>
              refine' WO.indexAddrZ (n := _) rfl rfl rfl ?hs ?h00 ?h1 rfl ?_
              case hs => (first | exact hR.sl | exact hos | exact hrs | (refine (hR.row _ ?_).sl; omega))
              case h00 => omega
              case h1 => (first | omega | (simp; omega))
              exact WO.nil ⟨rfl, rfl⟩
            refine' DT.r rfl rfl rfl ?hq ?_
            case hq =>
              refine WO.field rfl rfl rfl ?_
              exact WO.nil ⟨rfl, rfl⟩
            refine' DT.b rfl rfl rfl ?hq ?_
            case hq =>
              refine' WO.load (v := _) rfl rfl ?hc rfl ?_
              case hc => (first | (refine hR.cellV ?_; omega) | (refine (hR.row _ ?_).cell0 ?_ (0, 0) ?_ <;> first | rfl | omega) | (refine (hR.row _ ?_).cellAt ?_ (0, 0) ?_ <;> first | rfl | omega) | (refine OwC.cell1s (e := 53) (n := rows.length) (cs := rv1) ?_ ?_; (repeat (first | exact Sub.nil | refine Sub.cons (by repeat (first | exact Pick.head | apply Pick.tail)) ?_)); omega) | (refine gN_cell (rows := rows) (n := n) (i := z.toNat) (k := z2.toNat) (rv1 := rv1) ?_ ?_ ?_; (exact ⟨_, by repeat (first | exact Pick.head | apply Pick.tail)⟩); omega; omega))
              exact WO.nil ⟨rfl, rfl⟩
            refine' DT.r rfl rfl rfl ?hq ?_
            case hq =>
              refine WO.fieldL rfl rfl rfl ?_
              exact WO.nil ⟨rfl, rfl⟩
            refine' DT.b rfl rfl rfl ?hq ?_
            case hq =>
              refine WO.load rfl rfl (Cell.own Pick.head rfl) rfl ?_
              exact WO.nil ⟨rfl, rfl⟩
            refine' DT.r rfl rfl rfl ?hq ?_
            case hq =>
              refine WO.p rfl rfl ?_
              exact WO.nil ⟨rfl, rfl⟩
            refine' DT.r rfl rfl rfl ?hq ?_
            case hq =>
              refine' WO.indexAddrZ (n := _) rfl rfl rfl ?hs ?h00 ?h1 rfl ?_
              case hs => (first | exact hR.sl | exact hos | exact hrs | (refine (hR.row _ ?_).sl; omega))
              case h00 => omega
              case h1 => (first | omega | (simp; omega))
              exact WO.nil ⟨rfl, rfl⟩
            refine' DT.b rfl rfl rfl ?hq ?_
            case hq =>
              refine' WO.load (v := _) rfl rfl ?hc rfl ?_
              case hc => (first | (refine hR.cellV ?_; omega) | (refine (hR.row _ ?_).cell0 ?_ (0, 0) ?_ <;> first | rfl | omega) | (refine (hR.row _ ?_).cellAt ?_ (0, 0) ?_ <;> first | rfl | omega) | (refine OwC.cell1s (e := 53) (n := rows.length) (cs := rv1) ?_ ?_; (repeat (first | exact Sub.nil | refine Sub.cons (by repeat (first | exact Pick.head | apply Pick.tail)) ?_)); omega) | (refine gN_cell (rows := rows) (n := n) (i := z.toNat) (k := z2.toNat) (rv1 := rv1) ?_ ?_ ?_; (exact ⟨_, by repeat (first | exact Pick.head | apply Pick.tail)⟩); omega; omega))
              exact WO.nil ⟨rfl, rfl⟩
            refine' DT.r rfl rfl rfl ?hq ?_
            case hq =>
              refine WO.p rfl rfl ?_
              exact WO.nil ⟨rfl, rfl⟩
            refine' DT.r rfl rfl rfl ?hq ?_
            case hq =>
              refine' WO.indexAddrZ (n := _) rfl rfl rfl ?hs ?h00 ?h1 rfl ?_
              case hs => (first | exact hR.sl | exact hos | exact hrs | (refine (hR.row _ ?_).sl; omega))
              case h00 => omega
              case h1 => (first | omega | (simp; omega))
              exact WO.nil ⟨rfl, rfl⟩
            refine' DT.r rfl rfl rfl ?hq ?_
            case hq =>
              refine WO.field0 rfl rfl rfl ?_
              exact WO.nil ⟨rfl, rfl⟩
            refine' DT.b rfl rfl rfl ?hq ?_
            case hq =>
              refine' WO.load (v := _) rfl rfl ?hc rfl ?_
              case hc => (first | (refine hR.cellV ?_; omega) | (refine (hR.row _ ?_).cell0 ?_ (0, 0) ?_ <;> first | rfl | omega) | (refine (hR.row _ ?_).cellAt ?_ (0, 0) ?_ <;> first | rfl | omega) | (refine OwC.cell1s (e := 53) (n := rows.length) (cs := rv1) ?_ ?_; (repeat (first | exact Sub.nil | refine Sub.cons (by repeat (first | exact Pick.head | apply Pick.tail)) ?_)); omega) | (refine gN_cell (rows := rows) (n := n) (i := z.toNat) (k := z2.toNat) (rv1 := rv1) ?_ ?_ ?_; (exact ⟨_, by repeat (first | exact Pick.head | apply Pick.tail)⟩); omega; omega))
              exact WO.nil ⟨rfl, rfl⟩
            refine DT.nil [_, _, _] rfl ?_
            refine WO.ar rfl rfl rfl (by (first | (unfold in64; omega) | (unfold in64; omega))) rfl (WO.ar rfl rfl rfl (by (first | (unfold in64; omega) | (unfold in64; omega))) rfl (WO.p rfl rfl ?_))
            refine WO.nil ?_
            refine W.seq ?_
            refine W.drawD 10 [.r 0 [], .r 1 [], .r 2 [], .b 3 [], .r 4 [], .r 5 [], .b 6 [], .r 7 [], .r 8 [], .r 9 []] [] (A0 := []) (Sub.refl _) (by kernel_rfl) ?_ ?_
            · exact (ALok.r (ALok.r (ALok.r (ALok.b (ALok.r (ALok.r (ALok.b (ALok.r (ALok.r (ALok.r ALok.nil))))))))))
            refine' DT.r rfl rfl rfl ?hq ?_
            case hq =>
              refine WO.p rfl rfl ?_
              exact WO.nil ⟨rfl, rfl⟩
            refine' DT.r rfl rfl rfl ?hq ?_
            case hq =>
              refine WO.p rfl rfl ?_
              exact WO.nil ⟨rfl, rfl⟩
            refine' DT.r rfl rfl rfl ?hq ?_
            case hq =>
              refine' WO.indexAddrZ (n := _) rfl rfl rfl ?hs ?h00 ?h1 rfl ?_
              case hs => (first | exact hR.sl | exact hos | exact hrs | (refine (hR.row _ ?_).sl; omega))
              case h00 => omega
              case h1 => (first | omega | (simp; omega))
              exact WO.nil ⟨rfl, rfl⟩
            refine' DT.b rfl rfl rfl ?hq ?_
            case hq =>
              refine' WO.load (v := _) rfl rfl ?hc rfl ?_
              case hc => (first | (refine hR.cellV ?_; omega) | (refine (hR.row _ ?_).cell0 ?_ (0, 0) ?_ <;> first | rfl | omega) | (refine (hR.row _ ?_).cellAt ?_ (0, 0) ?_ <;> first | rfl | omega) | (refine OwC.cell1s (e := 53) (n := rows.length) (cs := rv1) ?_ ?_; (repeat (first | exact Sub.nil | refine Sub.cons (by repeat (first | exact Pick.head | apply Pick.tail)) ?_)); omega) | (refine gN_cell (rows := rows) (n := n) (i := z.toNat) (k := z2.toNat) (rv1 := rv1) ?_ ?_ ?_; (exact ⟨_, by repeat (first | exact Pick.head | apply Pick.tail)⟩); omega; omega))
              exact WO.nil ⟨rfl, rfl⟩
            refine' DT.r rfl rfl rfl ?hq ?_
            case hq =>
              refine WO.p rfl rfl ?_
              exact WO.nil ⟨rfl, rfl⟩
            refine' DT.r rfl rfl rfl ?hq ?_
            case hq =>
              refine' WO.indexAddrZ (n := _) rfl rfl rfl ?hs ?h00 ?h1 rfl ?_
              case hs => (first | exact hR.sl | exact hos | exact hrs | (refine (hR.row _ ?_).sl; omega))
              case h00 => omega
              case h1 => (first | omega | (simp; omega))
              exact WO.nil ⟨rfl, rfl⟩
            refine' DT.b rfl rfl rfl ?hq ?_
            case hq =>
              refine' WO.load (v := _) rfl rfl ?hc rfl ?_
              case hc => (first | (refine hR.cellV ?_; omega) | (refine (hR.row _ ?_).cell0 ?_ (0, 0) ?_ <;> first | rfl | omega) | (refine (hR.row _ ?_).cellAt ?_ (0, 0) ?_ <;> first | rfl | omega) | (refine OwC.cell1s (e := 53) (n := rows.length) (cs := rv1) ?_ ?_; (repeat (first | exact Sub.nil | refine Sub.cons (by repeat (first | exact Pick.head | apply Pick.tail)) ?_)); omega) | (refine gN_cell (rows := rows) (n := n) (i := z.toNat) (k := z2.toNat) (rv1 := rv1) ?_ ?_ ?_; (exact ⟨_, by repeat (first | exact Pick.head | apply Pick.tail)⟩); omega; omega))
              exact WO.nil ⟨rfl, rfl⟩
            refine' DT.r rfl rfl rfl ?hq ?_
            case hq =>
              refine WO.p rfl rfl ?_
              exact WO.nil ⟨rfl, rfl⟩
            refine' DT.r rfl rfl rfl ?hq ?_
            case hq =>
              refine WO.p rfl rfl ?_
              exact WO.nil ⟨rfl, rfl⟩
            refine' DT.r rfl rfl rfl ?hq ?_
            case hq =>
              refine WO.rem rfl rfl (by first | omega | assumption) rfl ?_
              exact WO.nil ⟨rfl, rfl⟩
            refine DT.nil [_, _, _] rfl ?_
            refine WO.ar rfl rfl rfl (by (first | (unfold in64; omega) | (unfold in64; omega))) rfl ?_
            refine' WO.indexAddrZ (n := _) rfl rfl rfl ?hs ?h00 ?h1 rfl ?_
            case hs => (first | exact hR.sl | exact hos | exact hrs | (refine (hR.row _ ?_).sl; omega))
            case h00 => omega
            case h1 => (first | omega | (simp; omega))
            refine WO.storeRow encI_ok rfl rfl rfl rfl (by repeat (first | exact Pick.head | apply Pick.tail)) (by rw [mk_len]; omega) (by rw [mk_rowLen (by omega)]; omega) ?_
            rw [e1, gN_step (by omega) (by omega)]
            refine WO.nil ?_
            refine W.region ?_
            refine WO.p rfl rfl (WO.p rfl rfl (WO.quo rfl rfl (by first | omega | assumption) (by (first | (unfold in64; omega) | (unfold in64; omega))) rfl (WO.p rfl rfl ?_)))
            refine WO.nil ?_
            refine W.region ?_
            refine WO.p rfl rfl (WO.ar rfl rfl rfl (by (first | (unfold in64; omega) | (unfold in64; omega))) rfl (WO.p rfl rfl ?_))
            refine WO.nil ?_
            refine' ⟨z2.toNat, z2 - 1, _, ?hp, ?hmu, ⟨rfl, rfl, rfl, rfl, rfl, trivial⟩, ?hS⟩
            case hS => repeat (first | exact Sub.nil | refine Sub.cons (by repeat (first | exact Pick.head | apply Pick.tail)) ?_)
            case hp => exact ⟨by omega, by omega, e2, by omega, by omega⟩
            case hmu => omega)
       · first
         | (exfalso; omega)
         | (refine W.exit (blk_same ?_)
            obtain rfl : k1 = 0 := by omega
            refine W.region ?_
            refine WO.p rfl rfl (WO.ar rfl rfl rfl (by (first | (unfold in64; omega) | (unfold in64; omega))) rfl (WO.p rfl rfl ?_))
            refine WO.nil ?_
            refine' ⟨z.toNat, z - 1, _, ?hp, ?hmu, ⟨rfl, rfl, rfl, rfl, trivial⟩, ?hS⟩
            case hS => repeat (first | exact Sub.nil | refine Sub.cons (by repeat (first | exact Pick.head | apply Pick.tail)) ?_)
            case hp => exact ⟨by omega, by omega, ht2, by omega, by omega⟩
            case hmu => omega))
  · first
    | (exfalso; omega)
    | (refine W.exit (blk_same ?_)
       obtain rfl : i1 = 0 := by omega
       rw [ix_00, gN_0]
       refine W.keep (H' := [OwC 53 1 (.slice a0 rows.length c0) rows.length rv1, RowsE encI 2 1 rv1 (nthT rows n)]) (.cons (by repeat (first | exact Pick.head | apply Pick.tail)) (.cons (by repeat (first | exact Pick.head | apply Pick.tail)) .nil)) ?_
       refine W.sreg ?_
       refine WO.p rfl rfl (WO.p rfl rfl ?_)
       refine WO.nil ?_
       refine W.ret ?_
       exact fin.ret (Res.one rfl (RV.tmp rfl)) ⟨rv1, rfl⟩)
end Go.Proofs.Ytgihklgpehfbpaa
namespace Go.Proofs.Ytgihklgpehfbpaa
open Go Go.TH
set_option maxRecDepth 10000
theorem frac_trans {a b c d e f : Int} (hb : 0 < b) (hd : 0 < d) (hf : 0 < f) (h1 : a * d < c * b) (h2 : c * f < e * d) : a * f < e * b := by
  have m1 := Int.mul_lt_mul_of_pos_right h1 hf
  have m2 := Int.mul_lt_mul_of_pos_right h2 hb
  rw [Int.mul_right_comm] at m1
  have e1 : c * b * f = c * f * b := Int.mul_right_comm _ _ _
  have e2 : e * d * b = e * b * d := Int.mul_right_comm _ _ _
  exact Int.lt_of_mul_lt_mul_right (show a * f * d < e * b * d by omega) (by omega)
section
variable {rows : List (List (Int × Int))} {xs ys zs : List (List Int)} {sp st what : Int} {high : Bool}
/-- one fraction is beyond another one -/
def bynd (high : Bool) (u v : Int × Int) : Bool := if high then lessQ v u else lessQ u v
theorem bynd_val (hv : HV sp st rows) (tx : TV rows xs) (ty : TV rows ys) : bynd high (valQ sp st xs what) (valQ sp st ys what) = true ↔ 0 < sgn high * (tN sp st xs what * tD st ys what - tN sp st ys what * tD st xs what) := by
  have l1 := less_val (what := what) hv tx ty
  have l2 := less_val (what := what) hv ty tx
  unfold bynd sgn
  cases high
  · simp only [Bool.false_eq_true, if_false]; rw [l1]; omega
  · simp only [if_true]; rw [l2]; omega
theorem bynd_trans (hv : HV sp st rows) (tx : TV rows xs) (ty : TV rows ys) (tz : TV rows zs) (h1 : bynd high (valQ sp st xs what) (valQ sp st ys what) = true) (h2 : bynd high (valQ sp st ys what) (valQ sp st zs what) = true) : bynd high (valQ sp st xs what) (valQ sp st zs what) = true := by
  obtain ⟨_, ax, _⟩ := tN_bound hv tx what
  obtain ⟨_, ay, _⟩ := tN_bound hv ty what
  obtain ⟨_, az, _⟩ := tN_bound hv tz what
  have l1 := less_val (what := what) hv tx ty
  have l1' := less_val (what := what) hv ty tx
  have l2 := less_val (what := what) hv ty tz
  have l2' := less_val (what := what) hv tz ty
  have l3 := less_val (what := what) hv tx tz
  have l3' := less_val (what := what) hv tz tx
  unfold bynd at *
  cases high
  · simp only [Bool.false_eq_true, if_false] at *
    rw [l3]; rw [l1] at h1; rw [l2] at h2
    exact frac_trans ax ay az h1 h2
  · simp only [if_true] at *
    rw [l3']; rw [l1'] at h1; rw [l2'] at h2
    exact frac_trans az ay ax h2 h1
/-- q is the number of one of the first n true hulls, and none of these is beyond it -/
structure Ext (sp st what : Int) (high : Bool) (rows : List (List (Int × Int))) (n : Nat) (q : Int × Int) : Prop where
  one : ∃ a : Nat, a < n ∧ valQ sp st (nthT rows (a : Int)) what = q
  all : ∀ m : Nat, m < n → bynd high (valQ sp st (nthT rows (m : Int)) what) q = false
theorem bynd_self (hv : HV sp st rows) (tx : TV rows xs) : bynd high (valQ sp st xs what) (valQ sp st xs what) = false := by
  cases h : bynd high (valQ sp st xs what) (valQ sp st xs what)
  · rfl
  · have := (bynd_val hv tx tx).1 h
    rw [Int.sub_self, Int.mul_zero] at this
    omega
theorem Ext.init (hv : HV sp st rows) : Ext sp st what high rows 1 (valQ sp st (nthT rows 0) what) := by
  refine ⟨⟨0, by omega, rfl⟩, fun m hm => ?_⟩
  obtain rfl : m = 0 := by omega
  exact bynd_self hv (nthT_tv hv (by omega))
theorem Ext.step (hv : HV sp st rows) {n : Nat} {q : Int × Int} (h : Ext sp st what high rows n q) : Ext sp st what high rows (n + 1) (if bynd high (valQ sp st (nthT rows (n : Int)) what) q = true then valQ sp st (nthT rows (n : Int)) what else q) := by
  obtain ⟨⟨a, ha, hq⟩, hal⟩ := h
  have tn := nthT_tv hv (n := (n : Int)) (by omega)
  by_cases hb : bynd high (valQ sp st (nthT rows (n : Int)) what) q = true
  · rw [if_pos hb]
    refine ⟨⟨n, by omega, rfl⟩, fun m hm => ?_⟩
    by_cases hmn : m = n
    · subst hmn; exact bynd_self hv tn
    · cases hx : bynd high (valQ sp st (nthT rows (m : Int)) what) (valQ sp st (nthT rows (n : Int)) what)
      · rfl
      · have := hal m (by omega)
        subst hq
        rw [bynd_trans hv (nthT_tv hv (by omega)) tn (nthT_tv hv (by omega)) hx hb] at this
        cases this
  · rw [if_neg hb]
    refine ⟨⟨a, by omega, hq⟩, fun m hm => ?_⟩
    by_cases hmn : m = n
    · subst hmn; simpa using hb
    · exact hal m (by omega)
theorem Ext.end_ (hv : HV sp st rows) {n : Nat} {q : Int × Int} (h : Ext sp st what high rows n q) (hn : prL (wd rows) 1 (plc rows) ≤ n) : q = endV sp st what high rows := by
  obtain ⟨⟨a, _, rfl⟩, hal⟩ := h
  have ta := nthT_tv hv (n := (a : Int)) (by omega)
  refine endV_eq hv ⟨ta, fun zs tz => ?_⟩
  obtain ⟨m, hm0, hm1, rfl⟩ := nth_all hv tz
  have h1 := hal m.toNat (by omega)
  rw [Int.toNat_of_nonneg hm0] at h1
  have h2 := (bynd_val (high := high) (what := what) hv tz ta)
  rw [h1] at h2
  have h3 : ¬ (0 < sgn high * (tN sp st (nthT rows m) what * tD st (nthT rows ↑a) what - tN sp st (nthT rows ↑a) what * tD st (nthT rows m) what)) := fun h => by cases h2.2 h
  omega
end
end Go.Proofs.Ytgihklgpehfbpaa
namespace Go.Proofs.Ytgihklgpehfbpaa
open Go Go.TH
attribute [local irreducible] W WO pt
set_option maxRecDepth 10000
set_option maxHeartbeats 4000000
section
variable {rows : List (List (Int × Int))} {sp st what : Int}
theorem many_pos (hv : HV sp st rows) (h : manyR 1 rows ≤ 400) : 1 ≤ manyR 1 rows ∧ manyR 1 rows = prL (wd rows) 1 (plc rows) := by
  have e := many_pr hv h
  refine ⟨?_, e⟩
  rw [e]
  have := encL_in (w := wd rows) (d := fun _ => 0) (e := 0) (p := 1) (l := plc rows) (fun q hq => by have hm := plc_mem hq; have h1 : 1 ≤ wd rows q := (hv.wd hm.1 hm.2).1; exact ⟨Int.le_refl _, by omega⟩) (by omega) (by omega)
  omega
theorem nth_at0 (hv : HV sp st rows) : Ext sp st what false rows 1 (valQ sp st (nthT rows 0) what) ∧ Ext sp st what true rows 1 (valQ sp st (nthT rows 0) what) := ⟨Ext.init hv, Ext.init hv⟩
theorem span_err0 (h : chkHull sp st rows ≠ 0) : .tuple #[.agg (encP (0, 0) ++ encP (0, 0)).toArray, .int .i64 (chkHull sp st rows)] = spanR sp st what rows := by
  have e : planE sp st rows what = chkHull sp st rows := by unfold planE; rw [if_pos h]
  rw [← spanR_1 (by rw [e]; exact h), e]
theorem span_err3 (h : chkHull sp st rows = 0) (hw : what < 0 ∨ 2 < what) : .tuple #[.agg (encP (0, 0) ++ encP (0, 0)).toArray, .int .i64 3] = spanR sp st what rows := by
  have e : planE sp st rows what = 3 := by unfold planE; rw [if_neg (by omega), if_pos hw]
  rw [← spanR_1 (by rw [e]; omega), e]
theorem span_all (hv : HV sp st rows) (hw : 0 ≤ what ∧ what ≤ 2) (hm : manyR 1 rows ≤ 400) {n : Nat} {a b c d : Int} (hn : manyR 1 rows ≤ n) (h1 : Ext sp st what false rows n (a, b)) (h2 : Ext sp st what true rows n (c, d)) :
    .tuple #[.agg #[.int .i64 a, .int .i64 b, .int .i64 c, .int .i64 d], .int .i64 0] = spanR sp st what rows := by
  have e := (many_pos hv hm).2
  have e0 : planE sp st rows what = 0 := plan_0 hv hw
  rw [← spanR_0 (by rw [e0]; simp), ← h1.end_ hv (by omega), ← h2.end_ hv (by omega)]; rfl
theorem Ext.isB {high : Bool} (hv : HV sp st rows) {n : Nat} {a b : Int} (h : Ext sp st what high rows n (a, b)) : isB (a, b) = true := by
  obtain ⟨⟨m, _, e⟩, _⟩ := h
  rw [← e]
  exact val_isB hv (nthT_tv hv (by omega))
theorem Ext.go {high : Bool} (hv : HV sp st rows) {n : Nat} {a b c d : Int} (h : Ext sp st what high rows n (a, b)) (e : valQ sp st (nthT rows (n : Int)) what = (c, d)) (hb : bynd high (c, d) (a, b) = true) : Ext sp st what high rows (n + 1) (c, d) := by
  have := h.step hv
  rw [e, if_pos hb] at this
  exact this
theorem Ext.no {high : Bool} (hv : HV sp st rows) {n : Nat} {a b c d : Int} (h : Ext sp st what high rows n (a, b)) (e : valQ sp st (nthT rows (n : Int)) what = (c, d)) (hb : bynd high (c, d) (a, b) = false) : Ext sp st what high rows (n + 1) (a, b) := by
  have := h.step hv
  rw [e, if_neg (by rw [hb]; simp)] at this
  exact this
end
theorem less_callS (w : World) {a b c d : Int} (h : isB (a, b) = true) (h' : isB (c, d) = true) : Ret Try.prog 27 [.agg #[.int .i64 a, .int .i64 b], .agg #[.int .i64 c, .int .i64 d]].toArray w (.bool (lessQ (a, b) (c, d))) :=
  ref_Less w a b c d (isB_p h).1 (isB_p h).2.1 (isB_p h').1 (isB_p h').2.1 (isB_p h).2.2.2.1 (isB_p h').2.2.2.1 (isB_p h).2.2.1 (isB_p h').2.2.1
theorem ref_Span (w : World) (sp st what : Int) (o : Value) (rv : List Value) (rows : List (List (Int × Int))) (hR : RdR encP 2 w.heap.size w o rv rows) (hmany : chkHull sp st rows = 0 → manyR 1 rows ≤ 400) :
    Ret Try.prog 36 [.agg #[.int .i64 sp, .int .i64 st, o], .int .i64 what].toArray w (spanR sp st what rows) := by
  refine Ret.of mixed tyTab Try.func36 rfl rfl ?_
  replace hR : RdR encP 2 (fnCx mixed tyTab Try.f36.ntmps w).B (fnCx mixed tyTab Try.f36.ntmps w).w0 o rv rows := hR
  refine W.sreg ?_
  refine WO.boxA rfl rfl (fun b1 hb1 => ?_)
  refine WO.alloc rfl rfl rfl (fun b2 hb2 => ?_)
  refine WO.p rfl rfl ?_
  refine WO.nil ?_
  refine W.seq ?_
  refine W.sreg ?_
  refine WO.loadA rfl rfl (Cells.own (Pick.tail (Pick.head))) rfl rfl ?_
  refine WO.callR (r := .int .i64 (chkHull sp st rows)) rfl Try.call19 (fun L w hi => ref_checkHull w sp st o rv rows (hR.later hi)) rfl ?_
  refine WO.p rfl rfl ?_
  refine WO.nil ?_
  refine W.cond_bl rfl (fun c1 => ?_) (fun c1 => ?_)
  · first
    | (exfalso; omega)
    | (refine W.sreg ?_
       refine' WO.build (cs := _) rfl rfl rfl ?hf rfl ?_
       case hf => (conv => lhs; simp [-List.getD_eq_getElem?_getD, fillL, vcl, wrl, TTab.pl?.lget']) <;> rfl
       refine WO.loadA rfl rfl (Cells.own (Pick.tail (Pick.head))) rfl rfl ?_
       refine WO.callR (r := .int .i64 (chkHull sp st rows)) rfl Try.call19 (fun L w hi => ref_checkHull w sp st o rv rows (hR.later hi)) rfl ?_
       refine WO.storeA rfl rfl rfl rfl Pick.head rfl rfl (WO.p rfl rfl ?_)
       refine WO.nil ?_
       refine W.ret ?_
       refine fin.ret (Res.two rfl (RV.cell rfl rfl rfl (Cells.own Pick.head)) (RV.tmp rfl)) ?_
       first | exact span_err0 (by assumption) | exact span_err3 (by omega) (by omega) | exact span_all hv (by omega) hm4 (by omega) hx1 hx2)
  · first
    | (exfalso; omega)
    | (refine W.skip ?_
       refine W.seq ?_
       refine W.sreg ?_
       refine WO.p rfl rfl (WO.p rfl rfl (WO.p rfl rfl ?_))
       refine WO.guard_bl rfl rfl (fun c2 => ?_) (fun c2 => ?_)
       · first
         | (exfalso; omega)
         | (refine WO.no rfl rfl (WO.no rfl rfl (WO.p rfl rfl ?_))
            refine WO.nil ?_
            refine W.cond_t rfl ?_
            refine W.sreg ?_
            refine' WO.build (cs := _) rfl rfl rfl ?hf rfl ?_
            case hf => (conv => lhs; simp [-List.getD_eq_getElem?_getD, fillL, vcl, wrl, TTab.pl?.lget']) <;> rfl
            refine WO.storeA rfl rfl rfl rfl Pick.head rfl rfl (WO.p rfl rfl ?_)
            refine WO.nil ?_
            refine W.ret ?_
            refine fin.ret (Res.two rfl (RV.cell rfl rfl rfl (Cells.own Pick.head)) (RV.tmp rfl)) ?_
            first | exact span_err0 (by assumption) | exact span_err3 (by omega) (by omega) | exact span_all hv (by omega) hm4 (by omega) hx1 hx2)
       · first
         | (exfalso; omega)
         | (refine WO.pg rfl rfl rfl (WO.pg rfl rfl rfl (WO.p rfl rfl ?_))
            refine WO.nil ?_
            refine W.cond_bl rfl (fun c3 => ?_) (fun c3 => ?_)
            · first
              | (exfalso; omega)
              | (refine W.sreg ?_
                 refine' WO.build (cs := _) rfl rfl rfl ?hf rfl ?_
                 case hf => (conv => lhs; simp [-List.getD_eq_getElem?_getD, fillL, vcl, wrl, TTab.pl?.lget']) <;> rfl
                 refine WO.storeA rfl rfl rfl rfl Pick.head rfl rfl (WO.p rfl rfl ?_)
                 refine WO.nil ?_
                 refine W.ret ?_
                 refine fin.ret (Res.two rfl (RV.cell rfl rfl rfl (Cells.own Pick.head)) (RV.tmp rfl)) ?_
                 first | exact span_err0 (by assumption) | exact span_err3 (by omega) (by omega) | exact span_all hv (by omega) hm4 (by omega) hx1 hx2)
            · first
              | (exfalso; omega)
              | (refine W.skip ?_
                 refine W.seq ?_
                 have hv : HV sp st rows := HV.of (by omega)
                 have hm4 := hmany (by omega)
                 have hmp := many_pos hv hm4
                 have t0 := nthT_tv hv (n := 0) (by omega)
                 obtain ⟨vn, vd, hvq⟩ : ∃ a b, valQ sp st (nthT rows 0) what = (a, b) := ⟨_, _, rfl⟩
                 have hx0 := nth_at0 (what := what) hv
                 rw [hvq] at hx0
                 refine W.drawD 12 [.b 0 [], .b 1 [], .r 3 [], .b 5 [], .b 6 [], .r 8 [], .c 2 [], .f 4 [], .c 7 [], .f 9 [], .r 10 [], .a 11 6 (.cells #[.int .i64 0, .int .i64 0, .int .i64 0, .int .i64 0] 41 (0, 0))] [] (A0 := []) (Sub.refl _) (by kernel_rfl) ?_ ?_
                 · exact (ALok.b (ALok.b (ALok.r (ALok.b (ALok.b (ALok.r (ALok.c (ALok.f (ALok.c (ALok.f (ALok.r (ALok.cons rfl rfl rfl rfl rfl ALok.nil))))))))))))
                 refine' DT.b rfl rfl rfl ?hq ?_
                 case hq =>
                   refine WO.loadA rfl rfl (Cells.own (Pick.tail (Pick.head))) rfl rfl ?_
                   exact WO.nil ⟨rfl, rfl⟩
                 refine' DT.b rfl rfl rfl ?hq ?_
                 case hq =>
                   refine WO.loadA rfl rfl (Cells.own (Pick.tail (Pick.head))) rfl rfl ?_
                   exact WO.nil ⟨rfl, rfl⟩
                 refine' DT.r rfl rfl rfl ?hq ?_
                 case hq =>
                   refine WO.p rfl rfl ?_
                   exact WO.nil ⟨rfl, rfl⟩
                 refine' DT.b rfl rfl rfl ?hq ?_
                 case hq =>
                   refine WO.loadA rfl rfl (Cells.own (Pick.tail (Pick.head))) rfl rfl ?_
                   exact WO.nil ⟨rfl, rfl⟩
                 refine' DT.b rfl rfl rfl ?hq ?_
                 case hq =>
                   refine WO.loadA rfl rfl (Cells.own (Pick.tail (Pick.head))) rfl rfl ?_
                   exact WO.nil ⟨rfl, rfl⟩
                 refine' DT.r rfl rfl rfl ?hq ?_
                 case hq =>
                   refine WO.p rfl rfl ?_
                   exact WO.nil ⟨rfl, rfl⟩
                 refine DT.c [_, _] rfl rfl rfl rfl ?_
                 refine WO.call (Post := fun v Hq => ∃ rv', Hq = [OwC 53 1 v rows.length rv', RowsE encI 2 1 rv' (nthT rows 0)]) rfl Try.call55 (fun L w hi => ref_nth w sp st 0 o rv rows (hR.later hi) hv (by omega)) rfl ?_
                 rintro v1 _ ⟨rv1, rfl⟩
                 refine WO.nil ⟨_, [_, _], rfl, rfl, (Keep.r (Keep.b (Keep.b (Keep.r (Keep.b (Keep.b Keep.nil)))))), ?_⟩
                 refine' DT.f [_, _, _, _] rfl rfl rfl rfl ?hq ?_
                 case hq =>
                   refine WO.callR (r := .agg #[.int .i64 vn, .int .i64 vd]) rfl Try.call43 (fun L w hi => by have h := ref_value w sp st o v1 rv1 (nthT rows 0) what (RdR.of_ow encI_ok (by repeat (first | exact Pick.head | apply Pick.tail)) (by repeat (first | exact Pick.head | apply Pick.tail)) hi) (t0.small hv) (t0.pos hv) hv.sp hv.st; rw [hvq] at h; exact h) rfl ?_
                   exact WO.nil ⟨rfl, rfl⟩
                 refine DT.c [_, _, _, _] rfl rfl rfl rfl ?_
                 refine WO.call (Post := fun v Hq => ∃ rv', Hq = [OwC 53 1 v rows.length rv', RowsE encI 2 1 rv' (nthT rows 0)]) rfl Try.call55 (fun L w hi => ref_nth w sp st 0 o rv rows (hR.later hi) hv (by omega)) rfl ?_
                 rintro v2 _ ⟨rv2, rfl⟩
                 refine WO.nil ⟨_, [_, _, _, _], rfl, rfl, (Keep.f (Keep.c (Keep.r (Keep.b (Keep.b (Keep.r (Keep.b (Keep.b Keep.nil)))))))), ?_⟩
                 refine' DT.f [_, _, _, _, _, _] rfl rfl rfl rfl ?hq ?_
                 case hq =>
                   refine WO.callR (r := .agg #[.int .i64 vn, .int .i64 vd]) rfl Try.call43 (fun L w hi => by have h := ref_value w sp st o v2 rv2 (nthT rows 0) what (RdR.of_ow encI_ok (by repeat (first | exact Pick.head | apply Pick.tail)) (by repeat (first | exact Pick.head | apply Pick.tail)) hi) (t0.small hv) (t0.pos hv) hv.sp hv.st; rw [hvq] at h; exact h) rfl ?_
                   exact WO.nil ⟨rfl, rfl⟩
                 refine' DT.r rfl rfl rfl ?hq ?_
                 case hq =>
                   refine' WO.build (cs := _) rfl rfl rfl ?hf rfl ?_
                   case hf => (conv => lhs; simp [-List.getD_eq_getElem?_getD, fillL, vcl, wrl, TTab.pl?.lget']) <;> rfl
                   exact WO.nil ⟨rfl, rfl⟩
                 refine DT.a (fun b3 => ?_)
                 refine DT.nil [_, _, _, _, _, _, _] rfl ?_
                 refine WO.storeA rfl rfl rfl rfl Pick.head rfl rfl ?_
                 refine WO.nil ?_
                 refine W.seq ?_
                 refine W.sreg ?_
                 refine WO.p rfl rfl ?_
                 refine WO.nil ?_
                 refine W.block ?_
                 refine W.loop5 (fun (n : Nat) (a : Int) (b : Int) (c : Int) (d : Int) => 1 ≤ n ∧ n ≤ manyR 1 rows ∧ Ext sp st what false rows n (a, b) ∧ Ext sp st what true rows n (c, d))
                   (fun (n : Nat) (a : Int) (b : Int) (c : Int) (d : Int) => [(7, .int .i64 (n : Int)), (6, .pointer (some ⟨b3, 0, none⟩)), (4, .pointer (some ⟨b2, 0, none⟩)), (2, .pointer (some ⟨b1, 0, none⟩)), (1, .int .i64 what)])
                   (fun (n : Nat) (a : Int) (b : Int) (c : Int) (d : Int) => [pt b1 (.cells #[.int .i64 sp, .int .i64 st, o] 24 (0, 0)), pt b2 (.cells #[.int .i64 0, .int .i64 0, .int .i64 0, .int .i64 0] 41 (0, 0)), pt b3 (.cells #[.int .i64 a, .int .i64 b, .int .i64 c, .int .i64 d] 41 (0, 0))])
                   (fun (n : Nat) (a : Int) (b : Int) (c : Int) (d : Int) => (manyR 1 rows).toNat - n) 1 vn vd vn vd
                   (by exact ⟨by omega, by omega, hx0.1, hx0.2⟩) ⟨rfl, rfl, rfl, rfl, rfl, trivial⟩ (by repeat (first | exact Sub.nil | refine Sub.cons (by repeat (first | exact Pick.head | apply Pick.tail)) ?_)) ?_
                 rintro n a b c d ⟨hn1, hn2, hx1, hx2⟩
                 refine W.seq ?_
                 refine W.sreg ?_
                 refine WO.p rfl rfl (WO.loadA rfl rfl (Cells.own Pick.head) rfl rfl ?_)
                 refine WO.callR (r := .int .i64 (manyR 1 rows)) rfl Try.call33 (fun L w hi => ref_Many w sp st o rv rows (hR.later hi) hv) rfl ?_
                 refine WO.p rfl rfl ?_
                 refine WO.nil ?_
                 refine W.cond_bl rfl (fun c4 => ?_) (fun c4 => ?_)
                 · first
                   | (exfalso; omega)
                   | (refine W.skip ?_
                      refine W.seq ?_
                      refine W.block ?_
                      refine W.seq ?_
                      have tn := nthT_tv hv (n := (n : Int)) (by omega)
                      obtain ⟨wn, wdn, hwq⟩ : ∃ a b, valQ sp st (nthT rows (n : Int)) what = (a, b) := ⟨_, _, rfl⟩
                      have bw : isB (wn, wdn) = true := hwq ▸ val_isB hv tn
                      refine W.drawD 7 [.b 0 [], .b 1 [], .r 2 [], .r 4 [], .c 3 [], .f 5 [], .a 6 8 (.cells #[.int .i64 0, .int .i64 0] 29 (0, 0))] [] (A0 := []) (Sub.refl _) (by kernel_rfl) ?_ ?_
                      · exact (ALok.b (ALok.b (ALok.r (ALok.r (ALok.c (ALok.f (ALok.cons rfl rfl rfl rfl rfl ALok.nil)))))))
                      refine' DT.b rfl rfl rfl ?hq ?_
                      case hq =>
                        refine WO.loadA rfl rfl (Cells.own Pick.head) rfl rfl ?_
                        exact WO.nil ⟨rfl, rfl⟩
                      refine' DT.b rfl rfl rfl ?hq ?_
                      case hq =>
                        refine WO.loadA rfl rfl (Cells.own Pick.head) rfl rfl ?_
                        exact WO.nil ⟨rfl, rfl⟩
                      refine' DT.r rfl rfl rfl ?hq ?_
                      case hq =>
                        refine WO.p rfl rfl ?_
                        exact WO.nil ⟨rfl, rfl⟩
                      refine' DT.r rfl rfl rfl ?hq ?_
                      case hq =>
                        refine WO.p rfl rfl ?_
                        exact WO.nil ⟨rfl, rfl⟩
                      refine DT.c [_, _, _] rfl rfl rfl rfl ?_
                      refine WO.call (Post := fun v Hq => ∃ rv', Hq = [OwC 53 1 v rows.length rv', RowsE encI 2 1 rv' (nthT rows (n : Int))]) rfl Try.call55 (fun L w hi => ref_nth w sp st n o rv rows (hR.later hi) hv (by omega)) rfl ?_
                      rintro v3 _ ⟨rv3, rfl⟩
                      refine WO.nil ⟨_, [_, _], rfl, rfl, (Keep.r (Keep.r (Keep.b (Keep.b Keep.nil)))), ?_⟩
                      refine' DT.f [_, _, _, _, _] rfl rfl rfl rfl ?hq ?_
                      case hq =>
                        refine WO.callR (r := .agg #[.int .i64 wn, .int .i64 wdn]) rfl Try.call43 (fun L w hi => by have h := ref_value w sp st o v3 rv3 (nthT rows (n : Int)) what (RdR.of_ow encI_ok (by repeat (first | exact Pick.head | apply Pick.tail)) (by repeat (first | exact Pick.head | apply Pick.tail)) hi) (tn.small hv) (tn.pos hv) hv.sp hv.st; rw [hwq] at h; exact h) rfl ?_
                        exact WO.nil ⟨rfl, rfl⟩
                      refine DT.a (fun b4 => ?_)
                      refine DT.nil [_, _, _, _, _, _] rfl ?_
                      refine WO.storeA rfl rfl rfl rfl Pick.head rfl rfl ?_
                      refine WO.nil ?_
                      refine W.seq ?_
                      refine W.sreg ?_
                      refine WO.loadA rfl rfl (Cells.own Pick.head) rfl rfl (WO.field0 rfl rfl rfl (WO.loadA rfl rfl (Cells.ownAt (n := 2) (Pick.tail (Pick.tail (Pick.tail (Pick.tail (Pick.tail (Pick.head)))))) rfl) rfl rfl ?_))
                      refine WO.callR (r := .bool (lessQ (wn, wdn) (a, b))) rfl Try.call27 (fun L w hi => less_callS w bw (hx1.isB hv)) rfl ?_
                      refine WO.nil ?_
                      refine W.cond rfl (fun c5 => ?_) (fun c5 => ?_)
                      · first
                        | (exfalso; omega)
                        | (refine W.region ?_
                           refine WO.loadA rfl rfl (Cells.own Pick.head) rfl rfl (WO.field0 rfl rfl rfl (WO.storeP rfl rfl rfl rfl (Pick.tail (Pick.tail (Pick.tail (Pick.tail (Pick.tail (Pick.head)))))) (Nat.le_of_ble_eq_true rfl) rfl ?_))
                           refine WO.nil ?_
                           refine W.sreg ?_
                           refine WO.fieldL rfl rfl rfl (WO.loadA rfl rfl (Cells.ownAt (n := 2) Pick.head rfl) rfl rfl (WO.loadA rfl rfl (Cells.own (Pick.tail (Pick.head))) rfl rfl ?_))
                           refine WO.callR (r := .bool (lessQ (c, d) (wn, wdn))) rfl Try.call27 (fun L w hi => less_callS w (hx2.isB hv) bw) rfl ?_
                           refine WO.nil ?_
                           refine W.cond rfl (fun c6 => ?_) (fun c6 => ?_)
                           · first
                             | (exfalso; omega)
                             | (refine W.region ?_
                                refine WO.loadA rfl rfl (Cells.own (Pick.tail (Pick.head))) rfl rfl (WO.fieldL rfl rfl rfl (WO.storeP rfl rfl rfl rfl Pick.head (Nat.le_of_ble_eq_true rfl) rfl ?_))
                                refine WO.nil ?_
                                refine W.region ?_
                                refine WO.p rfl rfl (WO.ar rfl rfl rfl (by (first | (unfold in64; omega) | (unfold in64; omega))) rfl (WO.p rfl rfl ?_))
                                refine WO.nil ?_
                                refine' ⟨n + 1, _, _, _, _, ?hp, ?hmu, ⟨rfl, rfl, rfl, rfl, rfl, trivial⟩, ?hS⟩
                                case hS => repeat (first | exact Sub.nil | refine Sub.cons (by repeat (first | exact Pick.head | apply Pick.tail)) ?_)
                                case hp => refine ⟨by omega, by omega, ?_, ?_⟩ <;> first | exact Ext.go hv (by assumption) hwq (by unfold bynd; simpa using ‹_›) | exact Ext.no hv (by assumption) hwq (by unfold bynd; simpa using ‹_›)
                                case hmu => omega)
                           · first
                             | (exfalso; omega)
                             | (refine W.skip ?_
                                refine W.region ?_
                                refine WO.p rfl rfl (WO.ar rfl rfl rfl (by (first | (unfold in64; omega) | (unfold in64; omega))) rfl (WO.p rfl rfl ?_))
                                refine WO.nil ?_
                                refine' ⟨n + 1, _, _, _, _, ?hp, ?hmu, ⟨rfl, rfl, rfl, rfl, rfl, trivial⟩, ?hS⟩
                                case hS => repeat (first | exact Sub.nil | refine Sub.cons (by repeat (first | exact Pick.head | apply Pick.tail)) ?_)
                                case hp => refine ⟨by omega, by omega, ?_, ?_⟩ <;> first | exact Ext.go hv (by assumption) hwq (by unfold bynd; simpa using ‹_›) | exact Ext.no hv (by assumption) hwq (by unfold bynd; simpa using ‹_›)
                                case hmu => omega))
                      · first
                        | (exfalso; omega)
                        | (refine W.skip ?_
                           refine W.sreg ?_
                           refine WO.fieldL rfl rfl rfl (WO.loadA rfl rfl (Cells.ownAt (n := 2) (Pick.tail (Pick.tail (Pick.tail (Pick.tail (Pick.tail (Pick.head)))))) rfl) rfl rfl (WO.loadA rfl rfl (Cells.own Pick.head) rfl rfl ?_))
                           refine WO.callR (r := .bool (lessQ (c, d) (wn, wdn))) rfl Try.call27 (fun L w hi => less_callS w (hx2.isB hv) bw) rfl ?_
                           refine WO.nil ?_
                           refine W.cond rfl (fun c7 => ?_) (fun c7 => ?_)
                           · first
                             | (exfalso; omega)
                             | (refine W.region ?_
                                refine WO.loadA rfl rfl (Cells.own Pick.head) rfl rfl (WO.fieldL rfl rfl rfl (WO.storeP rfl rfl rfl rfl (Pick.tail (Pick.tail (Pick.tail (Pick.tail (Pick.tail (Pick.head)))))) (Nat.le_of_ble_eq_true rfl) rfl ?_))
                                refine WO.nil ?_
                                refine W.region ?_
                                refine WO.p rfl rfl (WO.ar rfl rfl rfl (by (first | (unfold in64; omega) | (unfold in64; omega))) rfl (WO.p rfl rfl ?_))
                                refine WO.nil ?_
                                refine' ⟨n + 1, _, _, _, _, ?hp, ?hmu, ⟨rfl, rfl, rfl, rfl, rfl, trivial⟩, ?hS⟩
                                case hS => repeat (first | exact Sub.nil | refine Sub.cons (by repeat (first | exact Pick.head | apply Pick.tail)) ?_)
                                case hp => refine ⟨by omega, by omega, ?_, ?_⟩ <;> first | exact Ext.go hv (by assumption) hwq (by unfold bynd; simpa using ‹_›) | exact Ext.no hv (by assumption) hwq (by unfold bynd; simpa using ‹_›)
                                case hmu => omega)
                           · first
                             | (exfalso; omega)
                             | (refine W.skip ?_
                                refine W.region ?_
                                refine WO.p rfl rfl (WO.ar rfl rfl rfl (by (first | (unfold in64; omega) | (unfold in64; omega))) rfl (WO.p rfl rfl ?_))
                                refine WO.nil ?_
                                refine' ⟨n + 1, _, _, _, _, ?hp, ?hmu, ⟨rfl, rfl, rfl, rfl, rfl, trivial⟩, ?hS⟩
                                case hS => repeat (first | exact Sub.nil | refine Sub.cons (by repeat (first | exact Pick.head | apply Pick.tail)) ?_)
                                case hp => refine ⟨by omega, by omega, ?_, ?_⟩ <;> first | exact Ext.go hv (by assumption) hwq (by unfold bynd; simpa using ‹_›) | exact Ext.no hv (by assumption) hwq (by unfold bynd; simpa using ‹_›)
                                case hmu => omega)))
                 · first
                   | (exfalso; omega)
                   | (refine W.exit (blk_same ?_)
                      refine W.sreg ?_
                      refine WO.loadA rfl rfl (Cells.own (Pick.tail (Pick.tail (Pick.head)))) rfl rfl (WO.storeA rfl rfl rfl rfl (Pick.tail (Pick.head)) rfl rfl (WO.p rfl rfl ?_))
                      refine WO.nil ?_
                      refine W.ret ?_
                      refine fin.ret (Res.two rfl (RV.cell rfl rfl rfl (Cells.own Pick.head)) (RV.tmp rfl)) ?_
                      first | exact span_err0 (by assumption) | exact span_err3 (by omega) (by omega) | exact span_all hv (by omega) hm4 (by omega) hx1 hx2))))
end Go.Proofs.Ytgihklgpehfbpaa
namespace Go.Proofs.Ytgihklgpehfbpaa
open Go Go.TH
attribute [local irreducible] W WO pt
set_option maxRecDepth 10000
set_option maxHeartbeats 4000000
theorem span_at {sp st what a b c d : Int} {high g : Bool} {rows : List (List (Int × Int))} (hpl : planE sp st rows what = 0) (hq : endV sp st what high rows = (a, b)) (hh : high = g) (h : spanV sp st what g rows = (c, d)) : a = c ∧ b = d := by
  subst hh
  unfold spanV at h
  rw [if_pos hpl, hq] at h
  exact ⟨congrArg Prod.fst h, congrArg Prod.snd h⟩
theorem law_BoxSpans (w : World) (sp st what : Int) (high : Bool) (o : Value) (rv : List Value) (rows : List (List (Int × Int))) (hR : RdR encP 2 w.heap.size w o rv rows) :
    Ret Try.prog 9 [.agg #[.int .i64 sp, .int .i64 st, o], .int .i64 what, .bool high].toArray w (.bool true) := by
  refine Ret.of mixed tyTab Try.func9 rfl rfl ?_
  replace hR : RdR encP 2 (fnCx mixed tyTab Try.f9.ntmps w).B (fnCx mixed tyTab Try.f9.ntmps w).w0 o rv rows := hR
  obtain ⟨a1, a2, h1⟩ : ∃ a b, volLo sp st rows false = (a, b) := ⟨_, _, rfl⟩
  obtain ⟨a3, a4, h2⟩ : ∃ a b, volLo sp st rows true = (a, b) := ⟨_, _, rfl⟩
  obtain ⟨b1', b2', h3⟩ : ∃ a b, spanV sp st what false rows = (a, b) := ⟨_, _, rfl⟩
  obtain ⟨b3', b4', h4⟩ : ∃ a b, spanV sp st what true rows = (a, b) := ⟨_, _, rfl⟩
  have hvol : volsR sp st rows = .tuple #[.agg #[.int .i64 a1, .int .i64 a2, .int .i64 a3, .int .i64 a4], .int .i64 (chkHull sp st rows)] := by unfold volsR; rw [h1, h2]; rfl
  have hspan : spanR sp st what rows = .tuple #[.agg #[.int .i64 b1', .int .i64 b2', .int .i64 b3', .int .i64 b4'], .int .i64 (planE sp st rows what)] := by unfold spanR; rw [h3, h4]; rfl
  refine W.sreg ?_
  refine WO.boxA rfl rfl (fun b1 hb1 => ?_)
  refine WO.p rfl rfl ?_
  refine WO.nil ?_
  refine W.seq ?_
  refine W.sreg ?_
  refine WO.loadA rfl rfl (Cells.own Pick.head) rfl rfl ?_
  refine WO.callR (r := .bool (grt rows [])) rfl Try.call12 (fun L w hi => law_great w sp st o (.slice none 0 0) rv [] rows [] (hR.later hi) (RdR.nilI _ _)) rfl ?_
  refine WO.p rfl rfl ?_
  refine WO.guard_b rfl rfl (fun c1 => ?_) (fun c1 => ?_)
  · first
    | (exfalso; omega)
    | (refine WO.no rfl rfl (WO.no rfl rfl (WO.no rfl rfl (WO.no rfl rfl (WO.no rfl rfl (WO.no rfl rfl (WO.no rfl rfl (WO.no rfl rfl (WO.p rfl rfl ?_))))))))
       refine WO.nil ?_
       refine W.cond_t rfl ?_
       refine W.sreg ?_
       refine WO.callR rfl Try.call13 (fun L w hi => law_Works w) rfl ?_
       refine WO.p rfl rfl ?_
       refine WO.nil ?_
       refine W.ret ?_
       first | exact fin.ret (Res.one rfl (RV.tmp rfl)) rfl | (exfalso; omega) | (exfalso; simp_all; done))
  · first
    | (exfalso; omega)
    | (refine WO.go' rfl (WO.loadA rfl rfl (Cells.own Pick.head) rfl rfl (WO.go' rfl ?_))
       refine WO.callR (r := .int .i64 (chkHull sp st rows)) rfl Try.call19 (fun L w hi => ref_checkHull w sp st o rv rows (hR.later hi)) rfl ?_
       refine WO.pg rfl rfl rfl (WO.pg rfl rfl rfl ?_)
       refine WO.guard_bl rfl rfl (fun c2 => ?_) (fun c2 => ?_)
       · first
         | (exfalso; omega)
         | (refine WO.go' rfl (WO.loadA rfl rfl (Cells.own Pick.head) rfl rfl (WO.go' rfl ?_))
            refine WO.callR (r := .int .i64 (manyR 1 rows)) rfl Try.call33 (fun L w hi => ref_Many w sp st o rv rows (hR.later hi) (HV.of (by assumption))) rfl ?_
            refine WO.pg rfl rfl rfl (WO.pg rfl rfl rfl (WO.p rfl rfl ?_))
            refine WO.nil ?_
            refine W.cond_bl rfl (fun c3 => ?_) (fun c3 => ?_)
            · first
              | (exfalso; omega)
              | (refine W.sreg ?_
                 refine WO.callR rfl Try.call13 (fun L w hi => law_Works w) rfl ?_
                 refine WO.p rfl rfl ?_
                 refine WO.nil ?_
                 refine W.ret ?_
                 first | exact fin.ret (Res.one rfl (RV.tmp rfl)) rfl | (exfalso; omega) | (exfalso; simp_all; done))
            · first
              | (exfalso; omega)
              | (refine W.skip ?_
                 refine W.sreg ?_
                 refine WO.loadA rfl rfl (Cells.own Pick.head) rfl rfl ?_
                 refine WO.callR rfl Try.call34 (fun L w hi => by have h := c_Volumes w sp st o rv rows (hR.later hi); rw [hvol] at h; exact h) rfl ?_
                 refine WO.p rfl rfl (WO.p rfl rfl (WO.p rfl rfl ?_))
                 refine WO.alloc rfl rfl rfl (fun b2 hb2 => ?_)
                 refine WO.storeA rfl rfl rfl rfl Pick.head rfl rfl (WO.p rfl rfl ?_)
                 refine WO.nil ?_
                 refine W.sreg ?_
                 refine WO.loadA rfl rfl (Cells.own (Pick.tail (Pick.head))) rfl rfl ?_
                 refine WO.callR rfl Try.call35 (fun L w hi => by have h := ref_Volumes w sp st o rv rows (hR.later hi); rw [hvol] at h; exact h) rfl ?_
                 refine WO.p rfl rfl (WO.p rfl rfl (WO.p rfl rfl ?_))
                 refine WO.alloc rfl rfl rfl (fun b3 hb3 => ?_)
                 refine WO.storeA rfl rfl rfl rfl Pick.head rfl rfl (WO.p rfl rfl ?_)
                 refine WO.nil ?_
                 refine W.sreg ?_
                 refine WO.loadA rfl rfl (Cells.own (Pick.tail (Pick.tail (Pick.head)))) rfl rfl (WO.p rfl rfl ?_)
                 refine WO.callR rfl Try.call25 (fun L w hi => by have h := c_Span w sp st what o rv rows (hR.later hi); rw [hspan] at h; exact h) rfl ?_
                 refine WO.p rfl rfl (WO.p rfl rfl (WO.p rfl rfl ?_))
                 refine WO.alloc rfl rfl rfl (fun b4 hb4 => ?_)
                 refine WO.storeA rfl rfl rfl rfl Pick.head rfl rfl (WO.p rfl rfl ?_)
                 refine WO.nil ?_
                 refine W.sreg ?_
                 refine WO.loadA rfl rfl (Cells.own (Pick.tail (Pick.tail (Pick.tail (Pick.head))))) rfl rfl (WO.p rfl rfl ?_)
                 refine WO.callR rfl Try.call36 (fun L w hi => by have h := ref_Span w sp st what o rv rows (hR.later hi) (fun e => by omega); rw [hspan] at h; exact h) rfl ?_
                 refine WO.p rfl rfl (WO.p rfl rfl (WO.p rfl rfl ?_))
                 refine WO.alloc rfl rfl rfl (fun b5 hb5 => ?_)
                 refine WO.storeA rfl rfl rfl rfl Pick.head rfl rfl (WO.p rfl rfl ?_)
                 refine WO.nil ?_
                 refine W.sreg ?_
                 refine WO.loadA rfl rfl (Cells.own (Pick.tail (Pick.tail (Pick.tail (Pick.tail (Pick.head)))))) rfl rfl (WO.p rfl rfl (WO.p rfl rfl ?_))
                 refine WO.call (Post := fun v Hq => ∃ x : Value × List Value × List (List Int), (v = .tuple #[x.1, .int .i64 (planE sp st rows what)] ∧ (planE sp st rows what = 0 → IsEnd sp st what high rows x.2.2) ∧ (planE sp st rows what ≠ 0 → x.2.2 = [])) ∧ Hq = [OwC 53 1 x.1 x.2.2.length x.2.1, RowsE encI 2 1 x.2.1 x.2.2]) rfl Try.call28 (fun L w hi => c_End w sp st what high o rv rows (hR.later hi)) rfl ?_
                 rintro _ _ ⟨⟨v1, rv1, ys1⟩, ⟨rfl, he1, he2⟩, rfl⟩
                 dsimp only at he1 he2
                 refine WO.p rfl rfl (WO.p rfl rfl (WO.p rfl rfl (WO.p rfl rfl (WO.p rfl rfl ?_))))
                 refine WO.nil ?_
                 refine W.seq ?_
                 refine W.fact (OwC.sl (by repeat (first | exact Pick.head | apply Pick.tail))) (fun hys => ?_)
                 refine W.sreg ?_
                 refine WO.loadA rfl rfl (Cells.own (Pick.tail (Pick.tail (Pick.tail (Pick.tail (Pick.tail (Pick.head))))))) rfl rfl (WO.loadA rfl rfl (Cells.own (Pick.tail (Pick.tail (Pick.tail (Pick.tail (Pick.head)))))) rfl rfl ?_)
                 refine WO.eqT rfl rfl (ne41f _ _ _ _) rfl ?_
                 refine WO.p rfl rfl (WO.pg rfl rfl rfl (WO.pg rfl rfl rfl (WO.pg rfl rfl rfl (WO.p rfl rfl (WO.p rfl rfl ?_)))))
                 refine WO.guard_bl rfl rfl (fun c4 => ?_) (fun c4 => ?_)
                 · first
                   | (exfalso; omega)
                   | (refine WO.no rfl rfl (WO.no rfl rfl (WO.no rfl rfl (WO.p rfl rfl (WO.p rfl rfl (WO.no rfl rfl (WO.no rfl rfl (WO.no rfl rfl (WO.p rfl rfl (WO.p rfl rfl (WO.no rfl rfl (WO.no rfl rfl ?_)))))))))))
                      refine WO.no rfl rfl (WO.p rfl rfl ?_)
                      refine WO.nil ?_
                      refine W.cond_t rfl ?_
                      refine W.sreg ?_
                      refine WO.p rfl rfl ?_
                      refine WO.nil ?_
                      refine W.ret ?_
                      first | exact fin.ret (Res.one rfl (RV.tmp rfl)) rfl | (exfalso; omega) | (exfalso; simp_all; done))
                 · first
                   | (exfalso; omega)
                   | (refine WO.go' rfl (WO.loadA rfl rfl (Cells.own (Pick.tail (Pick.tail (Pick.tail (Pick.head))))) rfl rfl (WO.go' rfl (WO.loadA rfl rfl (Cells.own (Pick.tail (Pick.tail (Pick.head)))) rfl rfl (WO.go' rfl ?_))))
                      refine WO.eqT rfl rfl (ne41f _ _ _ _) rfl ?_
                      refine WO.p rfl rfl (WO.p rfl rfl (WO.pg rfl rfl rfl (WO.pg rfl rfl rfl (WO.pg rfl rfl rfl (WO.p rfl rfl (WO.p rfl rfl ?_))))))
                      refine WO.guard_bl rfl rfl (fun c5 => ?_) (fun c5 => ?_)
                      · first
                        | (exfalso; omega)
                        | (refine WO.no rfl rfl (WO.no rfl rfl (WO.no rfl rfl (WO.p rfl rfl ?_)))
                           refine WO.nil ?_
                           refine W.cond_t rfl ?_
                           refine W.sreg ?_
                           refine WO.p rfl rfl ?_
                           refine WO.nil ?_
                           refine W.ret ?_
                           first | exact fin.ret (Res.one rfl (RV.tmp rfl)) rfl | (exfalso; omega) | (exfalso; simp_all; done))
                      · first
                        | (exfalso; omega)
                        | (refine WO.pg rfl rfl rfl (WO.pg rfl rfl rfl (WO.pg rfl rfl rfl (WO.p rfl rfl ?_)))
                           refine WO.nil ?_
                           refine W.cond_bl rfl (fun c6 => ?_) (fun c6 => ?_)
                           · first
                             | (exfalso; omega)
                             | (refine W.sreg ?_
                                refine WO.p rfl rfl ?_
                                refine WO.nil ?_
                                refine W.ret ?_
                                first | exact fin.ret (Res.one rfl (RV.tmp rfl)) rfl | (exfalso; omega) | (exfalso; simp_all; done))
                           · first
                             | (exfalso; omega)
                             | (refine W.skip ?_
                                refine W.seq ?_
                                refine W.sreg ?_
                                refine WO.p rfl rfl (WO.p rfl rfl ?_)
                                refine WO.nil ?_
                                refine W.cond_bl rfl (fun c7 => ?_) (fun c7 => ?_)
                                · first
                                  | (exfalso; omega)
                                  | (have hy0 : ys1.length = 0 := by rw [he2 (by assumption)]; rfl
                                     refine W.sreg ?_
                                     refine WO.p rfl rfl ?_
                                     refine' WO.len (n := _) rfl rfl ?hs rfl ?_
                                     case hs => (first | exact hys)
                                     refine WO.p rfl rfl (WO.p rfl rfl ?_)
                                     refine WO.guard_bl rfl rfl (fun c8 => ?_) (fun c8 => ?_)
                                     · first
                                       | (exfalso; omega)
                                       | (refine WO.go' rfl ?_
                                          refine WO.callR rfl Try.call13 (fun L w hi => law_Works w) rfl ?_
                                          refine WO.p rfl rfl (WO.p rfl rfl ?_)
                                          refine WO.nil ?_
                                          refine W.ret ?_
                                          first | exact fin.ret (Res.one rfl (RV.tmp rfl)) rfl | (exfalso; omega) | (exfalso; simp_all; done))
                                     · first
                                       | (exfalso; omega)
                                       | (refine WO.no rfl rfl (WO.p rfl rfl (WO.p rfl rfl ?_))
                                          refine WO.nil ?_
                                          refine W.ret ?_
                                          first | exact fin.ret (Res.one rfl (RV.tmp rfl)) rfl | (exfalso; omega) | (exfalso; simp_all; done)))
                                · first
                                  | (exfalso; omega)
                                  | (refine W.skip ?_
                                     have hpl : planE sp st rows what = 0 := Decidable.not_not.1 (by assumption)
                                     obtain ⟨hv, hw⟩ := planE_ok hpl
                                     have hend := he1 hpl
                                     obtain ⟨qn, qd, hq⟩ : ∃ a b, endV sp st what high rows = (a, b) := ⟨_, _, rfl⟩
                                     refine W.sreg ?_
                                     refine WO.loadA rfl rfl (Cells.own (Pick.tail (Pick.tail (Pick.tail (Pick.tail (Pick.tail (Pick.tail (Pick.head)))))))) rfl rfl (WO.p rfl rfl (WO.p rfl rfl ?_))
                                     refine WO.callR (r := .tuple #[.agg #[.int .i64 qn, .int .i64 qd], .int .i64 0]) rfl Try.call17 (fun L w hi => by have h := ref_Value w sp st o v1 rv rv1 rows ys1 what (hR.later hi) (RdR.of_ow (e := 2) (e' := 53) (n := ys1.length) encI_ok (by repeat (first | exact Pick.head | apply Pick.tail)) (by repeat (first | exact Pick.head | apply Pick.tail)) hi); rw [val_end hv hw hend hq] at h; exact h) rfl ?_
                                     refine WO.p rfl rfl (WO.p rfl rfl (WO.p rfl rfl ?_))
                                     refine WO.alloc rfl rfl rfl (fun b6 hb6 => ?_)
                                     refine WO.storeA rfl rfl rfl rfl Pick.head rfl rfl (WO.p rfl rfl ?_)
                                     refine WO.nil ?_
                                     refine W.sreg ?_
                                     refine WO.p rfl rfl (WO.p rfl rfl (WO.p rfl rfl ?_))
                                     refine WO.guard_bl rfl rfl (fun c9 => ?_) (fun c9 => ?_)
                                     · first
                                       | (exfalso; omega)
                                       | (refine WO.pg rfl rfl rfl (WO.pg rfl rfl rfl ?_)
                                          refine WO.guard_b rfl rfl (fun c10 => ?_) (fun c10 => ?_)
                                          · first
                                            | (exfalso; omega)
                                            | (refine WO.go' rfl (WO.loadA rfl rfl (Cells.own Pick.head) rfl rfl (WO.go' rfl (WO.fieldL rfl rfl rfl (WO.go' rfl (WO.loadA rfl rfl (Cells.ownAt (n := 2) (Pick.tail (Pick.tail (Pick.tail (Pick.head)))) rfl) rfl rfl (WO.go' rfl ?_))))))
                                               obtain ⟨rfl, rfl⟩ := span_at hpl hq (show high = true by assumption) h4
                                               refine WO.eqT rfl rfl (eq29t _ _) rfl ?_
                                               refine WO.pg rfl rfl rfl (WO.pg rfl rfl rfl (WO.no rfl rfl (WO.no rfl rfl (WO.no rfl rfl (WO.no rfl rfl (WO.no rfl rfl (WO.no rfl rfl (WO.no rfl rfl (WO.no rfl rfl (WO.pg rfl rfl rfl (WO.p rfl rfl ?_)))))))))))
                                               refine WO.p rfl rfl (WO.go' rfl ?_)
                                               refine WO.callR rfl Try.call13 (fun L w hi => law_Works w) rfl ?_
                                               refine WO.p rfl rfl (WO.p rfl rfl ?_)
                                               refine WO.nil ?_
                                               refine W.ret ?_
                                               first | exact fin.ret (Res.one rfl (RV.tmp rfl)) rfl | (exfalso; omega) | (exfalso; simp_all; done))
                                          · first
                                            | (exfalso; omega)
                                            | (refine WO.no rfl rfl (WO.no rfl rfl (WO.no rfl rfl (WO.no rfl rfl (WO.pg rfl rfl rfl (WO.pg rfl rfl rfl (WO.pg rfl rfl rfl (WO.pg rfl rfl rfl (WO.pg rfl rfl rfl ?_))))))))
                                               refine WO.guard_b rfl rfl (fun c11 => ?_) (fun c11 => ?_)
                                               · first
                                                 | (exfalso; omega)
                                                 | (refine WO.go' rfl (WO.loadA rfl rfl (Cells.own Pick.head) rfl rfl (WO.go' rfl (WO.field0 rfl rfl rfl (WO.go' rfl (WO.loadA rfl rfl (Cells.ownAt (n := 2) (Pick.tail (Pick.tail (Pick.tail (Pick.head)))) rfl) rfl rfl (WO.go' rfl ?_))))))
                                                    obtain ⟨rfl, rfl⟩ := span_at hpl hq (show high = false by assumption) h3
                                                    refine WO.eqT rfl rfl (eq29t _ _) rfl ?_
                                                    refine WO.pg rfl rfl rfl (WO.pg rfl rfl rfl (WO.p rfl rfl (WO.p rfl rfl (WO.go' rfl ?_))))
                                                    refine WO.callR rfl Try.call13 (fun L w hi => law_Works w) rfl ?_
                                                    refine WO.p rfl rfl (WO.p rfl rfl ?_)
                                                    refine WO.nil ?_
                                                    refine W.ret ?_
                                                    first | exact fin.ret (Res.one rfl (RV.tmp rfl)) rfl | (exfalso; omega) | (exfalso; simp_all; done))
                                               · first
                                                 | (exfalso; omega)
                                                 | (refine WO.no rfl rfl (WO.no rfl rfl (WO.no rfl rfl (WO.no rfl rfl (WO.pg rfl rfl rfl (WO.pg rfl rfl rfl (WO.p rfl rfl (WO.p rfl rfl (WO.no rfl rfl (WO.p rfl rfl (WO.p rfl rfl ?_))))))))))
                                                    refine WO.nil ?_
                                                    refine W.ret ?_
                                                    first | exact fin.ret (Res.one rfl (RV.tmp rfl)) rfl | (exfalso; omega) | (exfalso; simp_all; done))))
                                     · first
                                       | (exfalso; omega)
                                       | (refine WO.no rfl rfl (WO.no rfl rfl (WO.no rfl rfl (WO.no rfl rfl (WO.no rfl rfl (WO.no rfl rfl (WO.no rfl rfl (WO.no rfl rfl (WO.no rfl rfl (WO.no rfl rfl (WO.no rfl rfl (WO.no rfl rfl ?_)))))))))))
                                          refine WO.no rfl rfl (WO.no rfl rfl (WO.no rfl rfl (WO.no rfl rfl (WO.no rfl rfl (WO.p rfl rfl (WO.p rfl rfl (WO.no rfl rfl (WO.p rfl rfl (WO.p rfl rfl ?_)))))))))
                                          refine WO.nil ?_
                                          refine W.ret ?_
                                          first | exact fin.ret (Res.one rfl (RV.tmp rfl)) rfl | (exfalso; omega) | (exfalso; simp_all; done))))))))
       · first
         | (exfalso; omega)
         | (refine WO.no rfl rfl (WO.no rfl rfl (WO.no rfl rfl (WO.pg rfl rfl rfl (WO.p rfl rfl ?_))))
            refine WO.nil ?_
            refine W.cond_f rfl ?_
            refine W.skip ?_
            refine W.sreg ?_
            refine WO.loadA rfl rfl (Cells.own Pick.head) rfl rfl ?_
            refine WO.callR rfl Try.call34 (fun L w hi => by have h := c_Volumes w sp st o rv rows (hR.later hi); rw [hvol] at h; exact h) rfl ?_
            refine WO.p rfl rfl (WO.p rfl rfl (WO.p rfl rfl ?_))
            refine WO.alloc rfl rfl rfl (fun b7 hb7 => ?_)
            refine WO.storeA rfl rfl rfl rfl Pick.head rfl rfl (WO.p rfl rfl ?_)
            refine WO.nil ?_
            refine W.sreg ?_
            refine WO.loadA rfl rfl (Cells.own (Pick.tail (Pick.head))) rfl rfl ?_
            refine WO.callR rfl Try.call35 (fun L w hi => by have h := ref_Volumes w sp st o rv rows (hR.later hi); rw [hvol] at h; exact h) rfl ?_
            refine WO.p rfl rfl (WO.p rfl rfl (WO.p rfl rfl ?_))
            refine WO.alloc rfl rfl rfl (fun b8 hb8 => ?_)
            refine WO.storeA rfl rfl rfl rfl Pick.head rfl rfl (WO.p rfl rfl ?_)
            refine WO.nil ?_
            refine W.sreg ?_
            refine WO.loadA rfl rfl (Cells.own (Pick.tail (Pick.tail (Pick.head)))) rfl rfl (WO.p rfl rfl ?_)
            refine WO.callR rfl Try.call25 (fun L w hi => by have h := c_Span w sp st what o rv rows (hR.later hi); rw [hspan] at h; exact h) rfl ?_
            refine WO.p rfl rfl (WO.p rfl rfl (WO.p rfl rfl ?_))
            refine WO.alloc rfl rfl rfl (fun b9 hb9 => ?_)
            refine WO.storeA rfl rfl rfl rfl Pick.head rfl rfl (WO.p rfl rfl ?_)
            refine WO.nil ?_
            refine W.sreg ?_
            refine WO.loadA rfl rfl (Cells.own (Pick.tail (Pick.tail (Pick.tail (Pick.head))))) rfl rfl (WO.p rfl rfl ?_)
            refine WO.callR rfl Try.call36 (fun L w hi => by have h := ref_Span w sp st what o rv rows (hR.later hi) (fun e => by omega); rw [hspan] at h; exact h) rfl ?_
            refine WO.p rfl rfl (WO.p rfl rfl (WO.p rfl rfl ?_))
            refine WO.alloc rfl rfl rfl (fun b10 hb10 => ?_)
            refine WO.storeA rfl rfl rfl rfl Pick.head rfl rfl (WO.p rfl rfl ?_)
            refine WO.nil ?_
            refine W.sreg ?_
            refine WO.loadA rfl rfl (Cells.own (Pick.tail (Pick.tail (Pick.tail (Pick.tail (Pick.head)))))) rfl rfl (WO.p rfl rfl (WO.p rfl rfl ?_))
            refine WO.call (Post := fun v Hq => ∃ x : Value × List Value × List (List Int), (v = .tuple #[x.1, .int .i64 (planE sp st rows what)] ∧ (planE sp st rows what = 0 → IsEnd sp st what high rows x.2.2) ∧ (planE sp st rows what ≠ 0 → x.2.2 = [])) ∧ Hq = [OwC 53 1 x.1 x.2.2.length x.2.1, RowsE encI 2 1 x.2.1 x.2.2]) rfl Try.call28 (fun L w hi => c_End w sp st what high o rv rows (hR.later hi)) rfl ?_
            rintro _ _ ⟨⟨v1, rv1, ys1⟩, ⟨rfl, he1, he2⟩, rfl⟩
            dsimp only at he1 he2
            refine WO.p rfl rfl (WO.p rfl rfl (WO.p rfl rfl (WO.p rfl rfl (WO.p rfl rfl ?_))))
            refine WO.nil ?_
            refine W.seq ?_
            refine W.fact (OwC.sl (by repeat (first | exact Pick.head | apply Pick.tail))) (fun hys => ?_)
            refine W.sreg ?_
            refine WO.loadA rfl rfl (Cells.own (Pick.tail (Pick.tail (Pick.tail (Pick.tail (Pick.tail (Pick.head))))))) rfl rfl (WO.loadA rfl rfl (Cells.own (Pick.tail (Pick.tail (Pick.tail (Pick.tail (Pick.head)))))) rfl rfl ?_)
            refine WO.eqT rfl rfl (ne41f _ _ _ _) rfl ?_
            refine WO.p rfl rfl (WO.pg rfl rfl rfl (WO.pg rfl rfl rfl (WO.pg rfl rfl rfl (WO.p rfl rfl (WO.p rfl rfl ?_)))))
            refine WO.guard_bl rfl rfl (fun c12 => ?_) (fun c12 => ?_)
            · first
              | (exfalso; omega)
              | (refine WO.no rfl rfl (WO.no rfl rfl (WO.no rfl rfl (WO.p rfl rfl (WO.p rfl rfl (WO.no rfl rfl (WO.no rfl rfl (WO.no rfl rfl (WO.p rfl rfl (WO.p rfl rfl (WO.no rfl rfl (WO.no rfl rfl ?_)))))))))))
                 refine WO.no rfl rfl (WO.p rfl rfl ?_)
                 refine WO.nil ?_
                 refine W.cond_t rfl ?_
                 refine W.sreg ?_
                 refine WO.p rfl rfl ?_
                 refine WO.nil ?_
                 refine W.ret ?_
                 first | exact fin.ret (Res.one rfl (RV.tmp rfl)) rfl | (exfalso; omega) | (exfalso; simp_all; done))
            · first
              | (exfalso; omega)
              | (refine WO.go' rfl (WO.loadA rfl rfl (Cells.own (Pick.tail (Pick.tail (Pick.tail (Pick.head))))) rfl rfl (WO.go' rfl (WO.loadA rfl rfl (Cells.own (Pick.tail (Pick.tail (Pick.head)))) rfl rfl (WO.go' rfl ?_))))
                 refine WO.eqT rfl rfl (ne41f _ _ _ _) rfl ?_
                 refine WO.p rfl rfl (WO.p rfl rfl (WO.pg rfl rfl rfl (WO.pg rfl rfl rfl (WO.pg rfl rfl rfl (WO.p rfl rfl (WO.p rfl rfl ?_))))))
                 refine WO.guard_bl rfl rfl (fun c13 => ?_) (fun c13 => ?_)
                 · first
                   | (exfalso; omega)
                   | (refine WO.no rfl rfl (WO.no rfl rfl (WO.no rfl rfl (WO.p rfl rfl ?_)))
                      refine WO.nil ?_
                      refine W.cond_t rfl ?_
                      refine W.sreg ?_
                      refine WO.p rfl rfl ?_
                      refine WO.nil ?_
                      refine W.ret ?_
                      first | exact fin.ret (Res.one rfl (RV.tmp rfl)) rfl | (exfalso; omega) | (exfalso; simp_all; done))
                 · first
                   | (exfalso; omega)
                   | (refine WO.pg rfl rfl rfl (WO.pg rfl rfl rfl (WO.pg rfl rfl rfl (WO.p rfl rfl ?_)))
                      refine WO.nil ?_
                      refine W.cond_bl rfl (fun c14 => ?_) (fun c14 => ?_)
                      · first
                        | (exfalso; omega)
                        | (refine W.sreg ?_
                           refine WO.p rfl rfl ?_
                           refine WO.nil ?_
                           refine W.ret ?_
                           first | exact fin.ret (Res.one rfl (RV.tmp rfl)) rfl | (exfalso; omega) | (exfalso; simp_all; done))
                      · first
                        | (exfalso; omega)
                        | (refine W.skip ?_
                           refine W.seq ?_
                           refine W.sreg ?_
                           refine WO.p rfl rfl (WO.p rfl rfl ?_)
                           refine WO.nil ?_
                           refine W.cond_bl rfl (fun c15 => ?_) (fun c15 => ?_)
                           · first
                             | (exfalso; omega)
                             | (have hy0 : ys1.length = 0 := by rw [he2 (by assumption)]; rfl
                                refine W.sreg ?_
                                refine WO.p rfl rfl ?_
                                refine' WO.len (n := _) rfl rfl ?hs rfl ?_
                                case hs => (first | exact hys)
                                refine WO.p rfl rfl (WO.p rfl rfl ?_)
                                refine WO.guard_bl rfl rfl (fun c16 => ?_) (fun c16 => ?_)
                                · first
                                  | (exfalso; omega)
                                  | (refine WO.go' rfl ?_
                                     refine WO.callR rfl Try.call13 (fun L w hi => law_Works w) rfl ?_
                                     refine WO.p rfl rfl (WO.p rfl rfl ?_)
                                     refine WO.nil ?_
                                     refine W.ret ?_
                                     first | exact fin.ret (Res.one rfl (RV.tmp rfl)) rfl | (exfalso; omega) | (exfalso; simp_all; done))
                                · first
                                  | (exfalso; omega)
                                  | (refine WO.no rfl rfl (WO.p rfl rfl (WO.p rfl rfl ?_))
                                     refine WO.nil ?_
                                     refine W.ret ?_
                                     first | exact fin.ret (Res.one rfl (RV.tmp rfl)) rfl | (exfalso; omega) | (exfalso; simp_all; done)))
                           · first
                             | (exfalso; omega)
                             | (refine W.skip ?_
                                have hpl : planE sp st rows what = 0 := Decidable.not_not.1 (by assumption)
                                obtain ⟨hv, hw⟩ := planE_ok hpl
                                have hend := he1 hpl
                                obtain ⟨qn, qd, hq⟩ : ∃ a b, endV sp st what high rows = (a, b) := ⟨_, _, rfl⟩
                                refine W.sreg ?_
                                refine WO.loadA rfl rfl (Cells.own (Pick.tail (Pick.tail (Pick.tail (Pick.tail (Pick.tail (Pick.tail (Pick.head)))))))) rfl rfl (WO.p rfl rfl (WO.p rfl rfl ?_))
                                refine WO.callR (r := .tuple #[.agg #[.int .i64 qn, .int .i64 qd], .int .i64 0]) rfl Try.call17 (fun L w hi => by have h := ref_Value w sp st o v1 rv rv1 rows ys1 what (hR.later hi) (RdR.of_ow (e := 2) (e' := 53) (n := ys1.length) encI_ok (by repeat (first | exact Pick.head | apply Pick.tail)) (by repeat (first | exact Pick.head | apply Pick.tail)) hi); rw [val_end hv hw hend hq] at h; exact h) rfl ?_
                                refine WO.p rfl rfl (WO.p rfl rfl (WO.p rfl rfl ?_))
                                refine WO.alloc rfl rfl rfl (fun b11 hb11 => ?_)
                                refine WO.storeA rfl rfl rfl rfl Pick.head rfl rfl (WO.p rfl rfl ?_)
                                refine WO.nil ?_
                                refine W.sreg ?_
                                refine WO.p rfl rfl (WO.p rfl rfl (WO.p rfl rfl ?_))
                                refine WO.guard_bl rfl rfl (fun c17 => ?_) (fun c17 => ?_)
                                · first
                                  | (exfalso; omega)
                                  | (refine WO.pg rfl rfl rfl (WO.pg rfl rfl rfl ?_)
                                     refine WO.guard_b rfl rfl (fun c18 => ?_) (fun c18 => ?_)
                                     · first
                                       | (exfalso; omega)
                                       | (refine WO.go' rfl (WO.loadA rfl rfl (Cells.own Pick.head) rfl rfl (WO.go' rfl (WO.fieldL rfl rfl rfl (WO.go' rfl (WO.loadA rfl rfl (Cells.ownAt (n := 2) (Pick.tail (Pick.tail (Pick.tail (Pick.head)))) rfl) rfl rfl (WO.go' rfl ?_))))))
                                          obtain ⟨rfl, rfl⟩ := span_at hpl hq (show high = true by assumption) h4
                                          refine WO.eqT rfl rfl (eq29t _ _) rfl ?_
                                          refine WO.pg rfl rfl rfl (WO.pg rfl rfl rfl (WO.no rfl rfl (WO.no rfl rfl (WO.no rfl rfl (WO.no rfl rfl (WO.no rfl rfl (WO.no rfl rfl (WO.no rfl rfl (WO.no rfl rfl (WO.pg rfl rfl rfl (WO.p rfl rfl ?_)))))))))))
                                          refine WO.p rfl rfl (WO.go' rfl ?_)
                                          refine WO.callR rfl Try.call13 (fun L w hi => law_Works w) rfl ?_
                                          refine WO.p rfl rfl (WO.p rfl rfl ?_)
                                          refine WO.nil ?_
                                          refine W.ret ?_
                                          first | exact fin.ret (Res.one rfl (RV.tmp rfl)) rfl | (exfalso; omega) | (exfalso; simp_all; done))
                                     · first
                                       | (exfalso; omega)
                                       | (refine WO.no rfl rfl (WO.no rfl rfl (WO.no rfl rfl (WO.no rfl rfl (WO.pg rfl rfl rfl (WO.pg rfl rfl rfl (WO.pg rfl rfl rfl (WO.pg rfl rfl rfl (WO.pg rfl rfl rfl ?_))))))))
                                          refine WO.guard_b rfl rfl (fun c19 => ?_) (fun c19 => ?_)
                                          · first
                                            | (exfalso; omega)
                                            | (refine WO.go' rfl (WO.loadA rfl rfl (Cells.own Pick.head) rfl rfl (WO.go' rfl (WO.field0 rfl rfl rfl (WO.go' rfl (WO.loadA rfl rfl (Cells.ownAt (n := 2) (Pick.tail (Pick.tail (Pick.tail (Pick.head)))) rfl) rfl rfl (WO.go' rfl ?_))))))
                                               obtain ⟨rfl, rfl⟩ := span_at hpl hq (show high = false by assumption) h3
                                               refine WO.eqT rfl rfl (eq29t _ _) rfl ?_
                                               refine WO.pg rfl rfl rfl (WO.pg rfl rfl rfl (WO.p rfl rfl (WO.p rfl rfl (WO.go' rfl ?_))))
                                               refine WO.callR rfl Try.call13 (fun L w hi => law_Works w) rfl ?_
                                               refine WO.p rfl rfl (WO.p rfl rfl ?_)
                                               refine WO.nil ?_
                                               refine W.ret ?_
                                               first | exact fin.ret (Res.one rfl (RV.tmp rfl)) rfl | (exfalso; omega) | (exfalso; simp_all; done))
                                          · first
                                            | (exfalso; omega)
                                            | (refine WO.no rfl rfl (WO.no rfl rfl (WO.no rfl rfl (WO.no rfl rfl (WO.pg rfl rfl rfl (WO.pg rfl rfl rfl (WO.p rfl rfl (WO.p rfl rfl (WO.no rfl rfl (WO.p rfl rfl (WO.p rfl rfl ?_))))))))))
                                               refine WO.nil ?_
                                               refine W.ret ?_
                                               first | exact fin.ret (Res.one rfl (RV.tmp rfl)) rfl | (exfalso; omega) | (exfalso; simp_all; done))))
                                · first
                                  | (exfalso; omega)
                                  | (refine WO.no rfl rfl (WO.no rfl rfl (WO.no rfl rfl (WO.no rfl rfl (WO.no rfl rfl (WO.no rfl rfl (WO.no rfl rfl (WO.no rfl rfl (WO.no rfl rfl (WO.no rfl rfl (WO.no rfl rfl (WO.no rfl rfl ?_)))))))))))
                                     refine WO.no rfl rfl (WO.no rfl rfl (WO.no rfl rfl (WO.no rfl rfl (WO.no rfl rfl (WO.p rfl rfl (WO.p rfl rfl (WO.no rfl rfl (WO.p rfl rfl (WO.p rfl rfl ?_)))))))))
                                     refine WO.nil ?_
                                     refine W.ret ?_
                                     first | exact fin.ret (Res.one rfl (RV.tmp rfl)) rfl | (exfalso; omega) | (exfalso; simp_all; done))))))))
end Go.Proofs.Ytgihklgpehfbpaa
