/-
  What is proved here: the program's excess. Conditions: none; each contract states its own.
-/
import Derived.Test.YtgihklgpehfbpaaB22
namespace Go.Proofs.Ytgihklgpehfbpaa
open Go Go.TH
attribute [local irreducible] W WO pt
set_option maxRecDepth 10000
set_option maxHeartbeats 2000000
theorem c_part (w : World) (p a1 a2 a3 : Addr) (sp st what num den : Int) (o : Value) (n m i k : Nat) (y : Int) (hP : RdC w.heap.size w p (planCs sp st o what)) (h1 : RdC w.heap.size w a1 [.pointer (some p)])
    (h2 : RdC w.heap.size w a2 [.int .i64 (i : Int), .int .i64 (k : Int), .int .i64 (wgt i n * wgt k m), .int .i64 (wgt i n), .bool (bl ((k : Int) = (m : Int) - 1))]) (h3 : RdC w.heap.size w a3 [.int .i64 num, .int .i64 den])
    (hw : 0 ≤ what ∧ what ≤ 2) (hst : 1 ≤ st ∧ st ≤ 100) (tf : TF sp st 0 0 n m i k y) (hb : Bd num den) :
    Ret Try.prog 64 [.int .i64 y, .pointer (some a1), .pointer (some a2), .pointer (some a3)].toArray w (.int .i64 (exT what sp st num den n m i k y)) := by
  refine Ret.of mixed tyTab Try.func64 rfl rfl ?_
  replace hP : RdC (fnCx mixed tyTab Try.f64.ntmps w).B (fnCx mixed tyTab Try.f64.ntmps w).w0 p (planCs sp st o what) := hP
  replace h1 : RdC (fnCx mixed tyTab Try.f64.ntmps w).B (fnCx mixed tyTab Try.f64.ntmps w).w0 a1 [.pointer (some p)] := h1
  replace h2 : RdC (fnCx mixed tyTab Try.f64.ntmps w).B (fnCx mixed tyTab Try.f64.ntmps w).w0 a2 [.int .i64 (i : Int), .int .i64 (k : Int), .int .i64 (wgt i n * wgt k m), .int .i64 (wgt i n), .bool (bl ((k : Int) = (m : Int) - 1))] := h2
  replace h3 : RdC (fnCx mixed tyTab Try.f64.ntmps w).B (fnCx mixed tyTab Try.f64.ntmps w).w0 a3 [.int .i64 num, .int .i64 den] := h3
  have tx : TF sp st num den n m i k y := ⟨tf.a1, tf.w, tf.a2, tf.a3, tf.b1, tf.c1, tf.c2, tf.c3, tf.d1, tf.d2, tf.d3, tf.d4, tf.e1, tf.e2, tf.w2, tf.g1, tf.g2, tf.g3⟩
  have hx := tx.ex hb what
  refine W.sreg ?_
  refine WO.p rfl rfl ?_
  refine WO.nil ?_
  refine W.sreg ?_
  refine' WO.load (v := _) rfl rfl ?hc rfl ?_
  case hc => (first | (refine h1.cell0 ?_; rfl) | (refine h3.cell0 ?_; rfl) | (refine h3.cellAt ?_; rfl))
  refine' WO.loadA (vs := _) rfl rfl ?hc ?hl rfl ?_
  case hc => (first | exact h2.cells)
  case hl => rfl
  refine WO.p rfl rfl ?_
  refine WO.callR rfl Try.call58 (fun L w hi => c_terms w p sp st what o n m i k y (hP.later hi) hw tf (by omega) hst.2) rfl ?_
  refine WO.p rfl rfl (WO.p rfl rfl (WO.p rfl rfl (WO.p rfl rfl (WO.p rfl rfl ?_))))
  refine WO.nil ?_
  refine W.sreg ?_
  refine WO.field rfl rfl rfl ?_
  refine' WO.load (v := _) rfl rfl ?hc rfl ?_
  case hc => (first | (refine h1.cell0 ?_; rfl) | (refine h3.cell0 ?_; rfl) | (refine h3.cellAt ?_; rfl))
  refine WO.p rfl rfl (WO.ar rfl rfl rfl (by (first | (unfold in64; omega) | (unfold in64; omega))) rfl (WO.field0 rfl rfl rfl ?_))
  refine' WO.load (v := _) rfl rfl ?hc rfl ?_
  case hc => (first | (refine h1.cell0 ?_; rfl) | (refine h3.cell0 ?_; rfl) | (refine h3.cellAt ?_; rfl))
  refine WO.p rfl rfl (WO.ar rfl rfl rfl (by (first | (unfold in64; omega) | (unfold in64; omega))) rfl (WO.ar rfl rfl rfl (by (first | (unfold in64; unfold exT at hx; omega))) rfl (WO.p rfl rfl ?_)))
  refine WO.nil ?_
  refine W.ret ?_
  exact fin.ret (Res.one rfl (RV.tmp rfl)) rfl
def sgn (high : Bool) : Int := if high then 1 else -1
/-- where the greatest (or least) is met first -/
def bestY (f : Int → Int) (lo : Int) : Nat → Int
  | 0 => lo
  | j + 1 => if f (bestY f lo j) < f (lo + (j + 1 : Nat)) then lo + (j + 1 : Nat) else bestY f lo j
theorem bestY_in {f : Int → Int} {lo : Int} : ∀ {j : Nat}, lo ≤ bestY f lo j ∧ bestY f lo j ≤ lo + j
  | 0 => by simp [bestY]
  | j + 1 => by have := bestY_in (f := f) (lo := lo) (j := j); simp only [bestY]; split <;> omega
theorem pickStep {f : Int → Int} {high : Bool} {b y : Int} : f (if sgn high * f b < sgn high * f y then y else b) = if (high = true ∧ f b < f y) ∨ (high = false ∧ f y < f b) then f y else f b := by
  cases high
  · simp only [sgn, if_false, Bool.false_eq_true, false_and, false_or, true_and]
    by_cases h : f y < f b
    · rw [if_pos (by omega), if_pos h]
    · rw [if_neg (by omega), if_neg h]
  · simp only [sgn, if_true, true_and, Bool.true_eq_false, false_and, or_false, Int.one_mul]
    by_cases h : f b < f y
    · rw [if_pos h, if_pos h]
    · rw [if_neg h, if_neg h]
theorem bestY_V {f : Int → Int} {high : Bool} {lo : Int} : ∀ {j : Nat}, f (bestY (fun y => sgn high * f y) lo j) = bestV f high lo j
  | 0 => rfl
  | j + 1 => by
    simp only [bestV, ← bestY_V (f := f) (high := high) (lo := lo) (j := j)]
    exact pickStep
def exY (what sp st num den : Int) (high : Bool) (rows : List (List (Int × Int))) (i k : Nat) : Int :=
  bestY (fun y => sgn high * exT what sp st num den rows.length (rows.getD i []).length i k y) (lo0 rows i k) (hi0 rows i k - lo0 rows i k).toNat
/-- a table of the hull's shape -/
def mk (rows : List (List (Int × Int))) (g : Nat → Nat → Int) : List (List Int) := (List.range rows.length).map fun i => (List.range (rows.getD i []).length).map fun k => g i k
section
variable {rows : List (List (Int × Int))} {g g' : Nat → Nat → Int} {i k : Nat}
theorem mk_len : (mk rows g).length = rows.length := by simp [mk]
theorem mk_row (hi : i < rows.length) : (mk rows g).getD i [] = (List.range (rows.getD i []).length).map fun k => g i k := by
  unfold mk; rw [List.getD_eq_getElem?_getD, List.getElem?_map, List.getElem?_range hi]; rfl
theorem mk_rowLen (hi : i < rows.length) : ((mk rows g).getD i []).length = (rows.getD i []).length := by rw [mk_row hi]; simp
theorem mk_y (hi : i < rows.length) (hk : k < (rows.getD i []).length) : yy (mk rows g) i k = g i k := by
  unfold yy; rw [mk_row hi, List.getD_eq_getElem?_getD, List.getElem?_map, List.getElem?_range hk]; rfl
theorem mk_congr (h : ∀ i k, i < rows.length → k < (rows.getD i []).length → g i k = g' i k) : mk rows g = mk rows g' := by
  unfold mk
  refine List.map_congr_left fun i hi => List.map_congr_left fun k hk => h i k (by simpa using hi) (by simpa using hk)
theorem mk_set (v : Int) (hi : i < rows.length) : (mk rows g).set i (((mk rows g).getD i []).set k v) = mk rows (fun i' k' => if i' = i ∧ k' = k then v else g i' k') := by
  apply List.ext_getElem?
  intro j
  rw [mk_row hi]
  unfold mk
  rw [List.getElem?_set]
  by_cases hj : i = j
  · subst hj
    rw [if_pos rfl, if_pos (by simpa using hi), List.getElem?_map, List.getElem?_range hi]
    simp only [Option.map_some]
    congr 1
    apply List.ext_getElem?
    intro q
    rw [List.getElem?_set, List.getElem?_map, List.getElem?_map]
    by_cases hq : k = q
    · subst hq
      rw [if_pos rfl]
      by_cases hl : k < (rows.getD i []).length
      · rw [if_pos (by simpa using hl), List.getElem?_range hl]; simp
      · rw [if_neg (by simpa using hl), List.getElem?_eq_none (by simpa using hl)]; rfl
    · rw [if_neg hq]
      cases h : (List.range (rows.getD i []).length)[q]? with
      | none => rfl
      | some x =>
        have : x = q := by have := List.getElem?_eq_some_iff.1 h; obtain ⟨h1, h2⟩ := this; simpa using h2.symm
        subst this
        simp [Ne.symm hq]
  · rw [if_neg hj, List.getElem?_map, List.getElem?_map]
    cases h : (List.range rows.length)[j]? with
    | none => rfl
    | some x =>
      have : x = j := by have := List.getElem?_eq_some_iff.1 h; obtain ⟨h1, h2⟩ := this; simpa using h2.symm
      subst this
      simp [Ne.symm hj]
theorem mk_ends (high : Bool) : endsOf high rows = mk rows (fun i k => pickE high ((rows.getD i []).getD k (0, 0))) := by
  apply List.ext_getElem?
  intro i
  unfold mk endsOf
  rw [List.getElem?_map, List.getElem?_map]
  by_cases hi : i < rows.length
  · rw [List.getElem?_range hi, getD_some hi []]
    simp only [Option.map_some]
    congr 1
    apply List.ext_getElem?
    intro k
    rw [List.getElem?_map, List.getElem?_map]
    by_cases hk : k < (rows.getD i []).length
    · rw [List.getElem?_range hk, getD_some hk (0, 0)]; rfl
    · rw [List.getElem?_eq_none (by omega), List.getElem?_eq_none (by simpa using hk)]; rfl
  · rw [List.getElem?_eq_none (by omega), List.getElem?_eq_none (by simpa using hi)]; rfl
end
/-- the table after q places -/
def exG (what sp st num den : Int) (high : Bool) (rows : List (List (Int × Int))) (q i k : Nat) : Int := if (i, k) ∈ (plc rows).take q then exY what sp st num den high rows i k else lo0 rows i k
def exH (what sp st num den : Int) (high : Bool) (rows : List (List (Int × Int))) : List (List Int) := mk rows (exY what sp st num den high rows)
theorem satNil {H : List HP} : ∀ h, sat H h → sat (sat [] :: H) h := fun h hs => ⟨fun _ => none, h, split_none h, trivial, hs⟩
section
variable {what sp st num den : Int} {high : Bool} {rows : List (List (Int × Int))} {i k q : Nat}
theorem exG_0 : mk rows (exG what sp st num den high rows 0) = endsOf false rows := by
  rw [mk_ends]; rfl
theorem exG_succ (hq : (plc rows)[q]? = some (i, k)) (hi : i < rows.length) : (mk rows (exG what sp st num den high rows q)).set i (((mk rows (exG what sp st num den high rows q)).getD i []).set k (exY what sp st num den high rows i k)) = mk rows (exG what sp st num den high rows (q + 1)) := by
  rw [mk_set _ hi]
  refine mk_congr fun i' k' _ _ => ?_
  unfold exG
  have hl := List.getElem?_eq_some_iff.1 hq
  rw [List.take_succ_eq_append_getElem hl.1, hl.2]
  by_cases h : i' = i ∧ k' = k
  · rw [if_pos h, if_pos (by simp [h.1, h.2]), h.1, h.2]
  · rw [if_neg h]
    have : ((i', k') ∈ (plc rows).take q ++ [(i, k)]) ↔ (i', k') ∈ (plc rows).take q := by
      rw [List.mem_append, List.mem_singleton]
      exact ⟨fun x => x.elim id (fun e => absurd (by simpa using e) h), .inl⟩
    by_cases hm : (i', k') ∈ (plc rows).take q
    · rw [if_pos hm, if_pos (this.2 hm)]
    · rw [if_neg hm, if_neg (fun x => hm (this.1 x))]
theorem plc_all (hi : i < rows.length) (hk : k < (rows.getD i []).length) : (i, k) ∈ plc rows := List.mem_of_getElem? (plcTo_get rows hi hk)
theorem exG_all : mk rows (exG what sp st num den high rows (plc rows).length) = exH what sp st num den high rows := by
  refine mk_congr fun i k hi hk => ?_
  unfold exG; rw [List.take_length, if_pos (plc_all hi hk)]
theorem exH_tv (hv : HV sp st rows) : TV rows (exH what sp st num den high rows) := by
  refine ⟨mk_len, fun i hi => mk_rowLen (by rw [exH, mk_len] at hi; exact hi), fun i k hi hk => ?_⟩
  rw [exH, mk_len] at hi
  rw [exH, mk_rowLen hi] at hk
  rw [exH, mk_y hi hk]
  have h1 := bestY_in (f := fun y => sgn high * exT what sp st num den rows.length (rows.getD i []).length i k y) (lo := lo0 rows i k) (j := (hi0 rows i k - lo0 rows i k).toNat)
  have h2 := hv.ok i k hi hk
  have e1 : lo0 rows i k = ((rows.getD i []).getD k (0, 0)).1 := rfl
  have e2 : hi0 rows i k = ((rows.getD i []).getD k (0, 0)).2 := rfl
  unfold exY
  omega
theorem sum_best : pSum (fun q => best1 what sp st num den high rows q.1 q.2) (plc rows) = partS what sp st num den high rows rows.length := by
  unfold plc partS; rw [pSum_plc]
theorem sum_bound (hv : HV sp st rows) (hb : Bd num den) (q : Nat) : -3600000000000000000 ≤ pSum (fun q => best1 what sp st num den high rows q.1 q.2) ((plc rows).take q) ∧ pSum (fun q => best1 what sp st num den high rows q.1 q.2) ((plc rows).take q) ≤ 4800000000000000000 := by
  have h1 := pSum_bound (f := fun q => best1 what sp st num den high rows q.1 q.2) (l := (plc rows).take q) (A := 60000000000000000) (B := 80000000000000000) fun x hx => by
    have hm := plc_mem (List.mem_of_mem_take hx)
    exact hv.best1 hb what high hm.1 hm.2
  have h2 := plc_len hv
  have h3 : ((plc rows).take q).length ≤ 60 := by rw [List.length_take]; omega
  omega
theorem exY_best : exT what sp st num den rows.length (rows.getD i []).length i k (exY what sp st num den high rows i k) = best1 what sp st num den high rows i k := bestY_V
end
theorem sgn_in {high : Bool} {x : Int} (h : -1000000000000000000 ≤ x ∧ x ≤ 1000000000000000000) : in64 (sgn high * x) := by
  unfold sgn in64
  split <;> omega
end Go.Proofs.Ytgihklgpehfbpaa

