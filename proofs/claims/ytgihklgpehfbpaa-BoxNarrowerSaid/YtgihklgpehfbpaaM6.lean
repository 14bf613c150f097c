/-
  What is proved here: the program's excess. Conditions: none; each contract states its own.
  What is proved here: the program's excess. Conditions: none; each contract states its own.
  What is proved here: fractions, and the ends of what a hull can have (no program in sight). Conditions: none; each theorem states its own.
  What is proved here: the program's end, span and bound. Conditions: none; each contract states its own.
  What is proved here: the program's span, its hulls at an end, and its test of a bound. Conditions: none; each contract states its own.
  What is proved here: the program's hull at an end. Conditions: none; each contract states its own.
  What is proved here: the examples that every law asks for. Conditions: none; each contract states its own.
  What is proved here: the examples hold. Conditions: none.
  What is proved here: the law of the chapter's examples holds. Conditions: none.
  What is proved here: the laws BoxTrues and BoxBounds, as contracts. Conditions: none.
  What is proved here: fractions that are compared, bounds and ends (no program in sight). Conditions: none; each theorem states its own.
  What is proved here: how the arguments of the laws read. Conditions: none.
-/
import Derived.Test.YtgihklgpehfbpaaM5
import Derived.Test.YtgihklgpehfbpaaM2
import Derived.Test.YtgihklgpehfbpaaM3
import Derived.Deep.Strs
namespace Go.Proofs.Ytgihklgpehfbpaa
open Go Go.TH
attribute [local irreducible] W WO pt
set_option maxRecDepth 10000
set_option maxHeartbeats 2000000
theorem c_part (w : World) (p a1 a2 a3 : Addr) (sp st what num den : Int) (o : Value) (n m i k : Nat) (y : Int) (hP : RdC w.heap.size w p (planCs sp st o what)) (h1 : RdC w.heap.size w a1 [.pointer (some p)])
    (h2 : RdC w.heap.size w a2 [.int .i64 (i : Int), .int .i64 (k : Int), .int .i64 (wgt i n * wgt k m), .int .i64 (wgt i n), .bool (bl ((k : Int) = (m : Int) - 1))]) (h3 : RdC w.heap.size w a3 [.int .i64 num, .int .i64 den])
    (hw : 0 ≤ what ∧ what ≤ 2) (hst : 1 ≤ st ∧ st ≤ 100) (tf : TF sp st 0 0 n m i k y) (hb : Bd num den) :
    Ret Try.prog 64 [.int .i64 y, .pointer (some a1), .pointer (some a2), .pointer (some a3)].toArray w (.int .i64 (exT what sp st num den n m i k y)) := by
  refine Ret.of mixed tyTab Try.func64 rfl rfl ?_
  replace hP : RdC (fnCx mixed tyTab Try.f64.ntmps w).B (fnCx mixed tyTab Try.f64.ntmps w).w0 p (planCs sp st o what) := hP
  replace h1 : RdC (fnCx mixed tyTab Try.f64.ntmps w).B (fnCx mixed tyTab Try.f64.ntmps w).w0 a1 [.pointer (some p)] := h1
  replace h2 : RdC (fnCx mixed tyTab Try.f64.ntmps w).B (fnCx mixed tyTab Try.f64.ntmps w).w0 a2 [.int .i64 (i : Int), .int .i64 (k : Int), .int .i64 (wgt i n * wgt k m), .int .i64 (wgt i n), .bool (bl ((k : Int) = (m : Int) - 1))] := h2
  replace h3 : RdC (fnCx mixed tyTab Try.f64.ntmps w).B (fnCx mixed tyTab Try.f64.ntmps w).w0 a3 [.int .i64 num, .int .i64 den] := h3
  have tx : TF sp st num den n m i k y := ⟨tf.a1, tf.w, tf.a2, tf.a3, tf.b1, tf.c1, tf.c2, tf.c3, tf.d1, tf.d2, tf.d3, tf.d4, tf.e1, tf.e2, tf.w2, tf.g1, tf.g2, tf.g3⟩
  have hx := tx.ex hb what
  refine W.sreg ?_
  refine WO.p rfl rfl ?_
  refine WO.nil ?_
  refine W.sreg ?_
  refine' WO.load (v := _) rfl rfl ?hc rfl ?_
  case hc => (first | (refine h1.cell0 ?_; rfl) | (refine h3.cell0 ?_; rfl) | (refine h3.cellAt ?_; rfl))
  refine' WO.loadA (vs := _) rfl rfl ?hc ?hl rfl ?_
  case hc => (first | exact h2.cells)
  case hl => rfl
  refine WO.p rfl rfl ?_
  refine WO.callR rfl Try.call58 (fun L w hi => c_terms w p sp st what o n m i k y (hP.later hi) hw tf (by omega) hst.2) rfl ?_
  refine WO.p rfl rfl (WO.p rfl rfl (WO.p rfl rfl (WO.p rfl rfl (WO.p rfl rfl ?_))))
  refine WO.nil ?_
  refine W.sreg ?_
  refine WO.field rfl rfl rfl ?_
  refine' WO.load (v := _) rfl rfl ?hc rfl ?_
  case hc => (first | (refine h1.cell0 ?_; rfl) | (refine h3.cell0 ?_; rfl) | (refine h3.cellAt ?_; rfl))
  refine WO.p rfl rfl (WO.ar rfl rfl rfl (by (first | (unfold in64; omega) | (unfold in64; omega))) rfl (WO.field0 rfl rfl rfl ?_))
  refine' WO.load (v := _) rfl rfl ?hc rfl ?_
  case hc => (first | (refine h1.cell0 ?_; rfl) | (refine h3.cell0 ?_; rfl) | (refine h3.cellAt ?_; rfl))
  refine WO.p rfl rfl (WO.ar rfl rfl rfl (by (first | (unfold in64; omega) | (unfold in64; omega))) rfl (WO.ar rfl rfl rfl (by (first | (unfold in64; unfold exT at hx; omega))) rfl (WO.p rfl rfl ?_)))
  refine WO.nil ?_
  refine W.ret ?_
  exact fin.ret (Res.one rfl (RV.tmp rfl)) rfl
def sgn (high : Bool) : Int := if high then 1 else -1
/-- where the greatest (or least) is met first -/
def bestY (f : Int → Int) (lo : Int) : Nat → Int
  | 0 => lo
  | j + 1 => if f (bestY f lo j) < f (lo + (j + 1 : Nat)) then lo + (j + 1 : Nat) else bestY f lo j
theorem bestY_in {f : Int → Int} {lo : Int} : ∀ {j : Nat}, lo ≤ bestY f lo j ∧ bestY f lo j ≤ lo + j
  | 0 => by simp [bestY]
  | j + 1 => by have := bestY_in (f := f) (lo := lo) (j := j); simp only [bestY]; split <;> omega
theorem pickStep {f : Int → Int} {high : Bool} {b y : Int} : f (if sgn high * f b < sgn high * f y then y else b) = if (high = true ∧ f b < f y) ∨ (high = false ∧ f y < f b) then f y else f b := by
  cases high
  · simp only [sgn, if_false, Bool.false_eq_true, false_and, false_or, true_and]
    by_cases h : f y < f b
    · rw [if_pos (by omega), if_pos h]
    · rw [if_neg (by omega), if_neg h]
  · simp only [sgn, if_true, true_and, Bool.true_eq_false, false_and, or_false, Int.one_mul]
    by_cases h : f b < f y
    · rw [if_pos h, if_pos h]
    · rw [if_neg h, if_neg h]
theorem bestY_V {f : Int → Int} {high : Bool} {lo : Int} : ∀ {j : Nat}, f (bestY (fun y => sgn high * f y) lo j) = bestV f high lo j
  | 0 => rfl
  | j + 1 => by
    simp only [bestV, ← bestY_V (f := f) (high := high) (lo := lo) (j := j)]
    exact pickStep
def exY (what sp st num den : Int) (high : Bool) (rows : List (List (Int × Int))) (i k : Nat) : Int :=
  bestY (fun y => sgn high * exT what sp st num den rows.length (rows.getD i []).length i k y) (lo0 rows i k) (hi0 rows i k - lo0 rows i k).toNat
/-- a table of the hull's shape -/
def mk (rows : List (List (Int × Int))) (g : Nat → Nat → Int) : List (List Int) := (List.range rows.length).map fun i => (List.range (rows.getD i []).length).map fun k => g i k
section
variable {rows : List (List (Int × Int))} {g g' : Nat → Nat → Int} {i k : Nat}
theorem mk_len : (mk rows g).length = rows.length := by simp [mk]
theorem mk_row (hi : i < rows.length) : (mk rows g).getD i [] = (List.range (rows.getD i []).length).map fun k => g i k := by
  unfold mk; rw [List.getD_eq_getElem?_getD, List.getElem?_map, List.getElem?_range hi]; rfl
theorem mk_rowLen (hi : i < rows.length) : ((mk rows g).getD i []).length = (rows.getD i []).length := by rw [mk_row hi]; simp
theorem mk_y (hi : i < rows.length) (hk : k < (rows.getD i []).length) : yy (mk rows g) i k = g i k := by
  unfold yy; rw [mk_row hi, List.getD_eq_getElem?_getD, List.getElem?_map, List.getElem?_range hk]; rfl
theorem mk_congr (h : ∀ i k, i < rows.length → k < (rows.getD i []).length → g i k = g' i k) : mk rows g = mk rows g' := by
  unfold mk
  refine List.map_congr_left fun i hi => List.map_congr_left fun k hk => h i k (by simpa using hi) (by simpa using hk)
theorem mk_set (v : Int) (hi : i < rows.length) : (mk rows g).set i (((mk rows g).getD i []).set k v) = mk rows (fun i' k' => if i' = i ∧ k' = k then v else g i' k') := by
  apply List.ext_getElem?
  intro j
  rw [mk_row hi]
  unfold mk
  rw [List.getElem?_set]
  by_cases hj : i = j
  · subst hj
    rw [if_pos rfl, if_pos (by simpa using hi), List.getElem?_map, List.getElem?_range hi]
    simp only [Option.map_some]
    congr 1
    apply List.ext_getElem?
    intro q
    rw [List.getElem?_set, List.getElem?_map, List.getElem?_map]
    by_cases hq : k = q
    · subst hq
      rw [if_pos rfl]
      by_cases hl : k < (rows.getD i []).length
      · rw [if_pos (by simpa using hl), List.getElem?_range hl]; simp
      · rw [if_neg (by simpa using hl), List.getElem?_eq_none (by simpa using hl)]; rfl
    · rw [if_neg hq]
      cases h : (List.range (rows.getD i []).length)[q]? with
      | none => rfl
      | some x =>
        have : x = q := by have := List.getElem?_eq_some_iff.1 h; obtain ⟨h1, h2⟩ := this; simpa using h2.symm
        subst this
        simp [Ne.symm hq]
  · rw [if_neg hj, List.getElem?_map, List.getElem?_map]
    cases h : (List.range rows.length)[j]? with
    | none => rfl
    | some x =>
      have : x = j := by have := List.getElem?_eq_some_iff.1 h; obtain ⟨h1, h2⟩ := this; simpa using h2.symm
      subst this
      simp [Ne.symm hj]
theorem mk_ends (high : Bool) : endsOf high rows = mk rows (fun i k => pickE high ((rows.getD i []).getD k (0, 0))) := by
  apply List.ext_getElem?
  intro i
  unfold mk endsOf
  rw [List.getElem?_map, List.getElem?_map]
  by_cases hi : i < rows.length
  · rw [List.getElem?_range hi, getD_some hi []]
    simp only [Option.map_some]
    congr 1
    apply List.ext_getElem?
    intro k
    rw [List.getElem?_map, List.getElem?_map]
    by_cases hk : k < (rows.getD i []).length
    · rw [List.getElem?_range hk, getD_some hk (0, 0)]; rfl
    · rw [List.getElem?_eq_none (by omega), List.getElem?_eq_none (by simpa using hk)]; rfl
  · rw [List.getElem?_eq_none (by omega), List.getElem?_eq_none (by simpa using hi)]; rfl
end
/-- the table after q places -/
def exG (what sp st num den : Int) (high : Bool) (rows : List (List (Int × Int))) (q i k : Nat) : Int := if (i, k) ∈ (plc rows).take q then exY what sp st num den high rows i k else lo0 rows i k
def exH (what sp st num den : Int) (high : Bool) (rows : List (List (Int × Int))) : List (List Int) := mk rows (exY what sp st num den high rows)
theorem satNil {H : List HP} : ∀ h, sat H h → sat (sat [] :: H) h := fun h hs => ⟨fun _ => none, h, split_none h, trivial, hs⟩
section
variable {what sp st num den : Int} {high : Bool} {rows : List (List (Int × Int))} {i k q : Nat}
theorem exG_0 : mk rows (exG what sp st num den high rows 0) = endsOf false rows := by
  rw [mk_ends]; rfl
theorem exG_succ (hq : (plc rows)[q]? = some (i, k)) (hi : i < rows.length) : (mk rows (exG what sp st num den high rows q)).set i (((mk rows (exG what sp st num den high rows q)).getD i []).set k (exY what sp st num den high rows i k)) = mk rows (exG what sp st num den high rows (q + 1)) := by
  rw [mk_set _ hi]
  refine mk_congr fun i' k' _ _ => ?_
  unfold exG
  have hl := List.getElem?_eq_some_iff.1 hq
  rw [List.take_succ_eq_append_getElem hl.1, hl.2]
  by_cases h : i' = i ∧ k' = k
  · rw [if_pos h, if_pos (by simp [h.1, h.2]), h.1, h.2]
  · rw [if_neg h]
    have : ((i', k') ∈ (plc rows).take q ++ [(i, k)]) ↔ (i', k') ∈ (plc rows).take q := by
      rw [List.mem_append, List.mem_singleton]
      exact ⟨fun x => x.elim id (fun e => absurd (by simpa using e) h), .inl⟩
    by_cases hm : (i', k') ∈ (plc rows).take q
    · rw [if_pos hm, if_pos (this.2 hm)]
    · rw [if_neg hm, if_neg (fun x => hm (this.1 x))]
theorem plc_all (hi : i < rows.length) (hk : k < (rows.getD i []).length) : (i, k) ∈ plc rows := List.mem_of_getElem? (plcTo_get rows hi hk)
theorem exG_all : mk rows (exG what sp st num den high rows (plc rows).length) = exH what sp st num den high rows := by
  refine mk_congr fun i k hi hk => ?_
  unfold exG; rw [List.take_length, if_pos (plc_all hi hk)]
theorem exH_tv (hv : HV sp st rows) : TV rows (exH what sp st num den high rows) := by
  refine ⟨mk_len, fun i hi => mk_rowLen (by rw [exH, mk_len] at hi; exact hi), fun i k hi hk => ?_⟩
  rw [exH, mk_len] at hi
  rw [exH, mk_rowLen hi] at hk
  rw [exH, mk_y hi hk]
  have h1 := bestY_in (f := fun y => sgn high * exT what sp st num den rows.length (rows.getD i []).length i k y) (lo := lo0 rows i k) (j := (hi0 rows i k - lo0 rows i k).toNat)
  have h2 := hv.ok i k hi hk
  have e1 : lo0 rows i k = ((rows.getD i []).getD k (0, 0)).1 := rfl
  have e2 : hi0 rows i k = ((rows.getD i []).getD k (0, 0)).2 := rfl
  unfold exY
  omega
theorem sum_best : pSum (fun q => best1 what sp st num den high rows q.1 q.2) (plc rows) = partS what sp st num den high rows rows.length := by
  unfold plc partS; rw [pSum_plc]
theorem sum_bound (hv : HV sp st rows) (hb : Bd num den) (q : Nat) : -3600000000000000000 ≤ pSum (fun q => best1 what sp st num den high rows q.1 q.2) ((plc rows).take q) ∧ pSum (fun q => best1 what sp st num den high rows q.1 q.2) ((plc rows).take q) ≤ 4800000000000000000 := by
  have h1 := pSum_bound (f := fun q => best1 what sp st num den high rows q.1 q.2) (l := (plc rows).take q) (A := 60000000000000000) (B := 80000000000000000) fun x hx => by
    have hm := plc_mem (List.mem_of_mem_take hx)
    exact hv.best1 hb what high hm.1 hm.2
  have h2 := plc_len hv
  have h3 : ((plc rows).take q).length ≤ 60 := by rw [List.length_take]; omega
  omega
theorem exY_best : exT what sp st num den rows.length (rows.getD i []).length i k (exY what sp st num den high rows i k) = best1 what sp st num den high rows i k := bestY_V
end
theorem sgn_in {high : Bool} {x : Int} (h : -1000000000000000000 ≤ x ∧ x ≤ 1000000000000000000) : in64 (sgn high * x) := by
  unfold sgn in64
  split <;> omega
end Go.Proofs.Ytgihklgpehfbpaa
namespace Go.Proofs.Ytgihklgpehfbpaa
open Go Go.TH
attribute [local irreducible] W WO pt
set_option maxRecDepth 10000
set_option maxHeartbeats 2000000
theorem bestY_succ_t {f : Int → Int} {lo y b : Int} (hy : lo < y) (eb : b = bestY f lo (y - 1 - lo).toNat) (h : f b < f y) : y = bestY f lo (y + 1 - 1 - lo).toNat := by
  obtain ⟨j, hj⟩ : ∃ j : Nat, y = lo + (j + 1 : Nat) := ⟨(y - lo - 1).toNat, by omega⟩
  rw [show (y - 1 - lo).toNat = j by omega] at eb
  rw [show (y + 1 - 1 - lo).toNat = j + 1 by omega]
  simp only [bestY, ← eb, ← hj]
  rw [if_pos h]
theorem bestY_succ_f {f : Int → Int} {lo y b : Int} (hy : lo < y) (eb : b = bestY f lo (y - 1 - lo).toNat) (h : ¬ f b < f y) : b = bestY f lo (y + 1 - 1 - lo).toNat := by
  obtain ⟨j, hj⟩ : ∃ j : Nat, y = lo + (j + 1 : Nat) := ⟨(y - lo - 1).toNat, by omega⟩
  rw [show (y - 1 - lo).toNat = j by omega] at eb
  rw [show (y + 1 - 1 - lo).toNat = j + 1 by omega]
  simp only [bestY, ← eb, ← hj]
  rw [if_neg h]
theorem part3 {a b c d : Value} {j : Nat} {v : Value} (h : [a, b, c][j]? = some v) : [a, b, c, d][j]? = some v := by
  have hl := (List.getElem?_eq_some_iff.1 h).1
  rw [show [a, b, c, d] = [a, b, c] ++ [d] from rfl, List.getElem?_append_left hl]; exact h
theorem exY_of {what sp st num den : Int} {high : Bool} {rows : List (List (Int × Int))} {i k : Nat} {y b : Int} (h1 : ¬ y ≤ hi0 rows i k) (h2 : y ≤ hi0 rows i k + 1)
    (eb : b = bestY (fun y => sgn high * exT what sp st num den rows.length (rows.getD i []).length i k y) (lo0 rows i k) (y - 1 - lo0 rows i k).toNat) : b = exY what sp st num den high rows i k := by
  obtain rfl : y = hi0 rows i k + 1 := by omega
  rw [eb, exY, show hi0 rows i k + 1 - 1 - lo0 rows i k = hi0 rows i k - lo0 rows i k by omega]
theorem c_excess (w : World) (p : Addr) (sp st what num den : Int) (high : Bool) (o : Value) (rv : List Value) (rows : List (List (Int × Int))) (hP : RdC w.heap.size w p (planCs sp st o what)) (hR : RdR encP 2 w.heap.size w o rv rows) (hv : HV sp st rows) (hw : 0 ≤ what ∧ what ≤ 2) (hb : Bd num den) :
    Ct Try.prog 48 [.pointer (some p), .agg #[.int .i64 num, .int .i64 den], .int .i64 (sgn high)].toArray w fun v w' => ∃ Hq, (∃ x : Value × List Value, v = .tuple #[x.1, .int .i64 (partS what sp st num den high rows rows.length)] ∧ Hq = [OwC 53 1 x.1 rows.length x.2, RowsE encI 2 1 x.2 (exH what sp st num den high rows)]) ∧ Inv w [] Hq w' := by
  refine Ct.ofI mixed tyTab Try.func48 rfl rfl ?_
  replace hR : RdR encP 2 (fnCx mixed tyTab Try.f48.ntmps w).B (fnCx mixed tyTab Try.f48.ntmps w).w0 o rv rows := hR
  replace hP : RdC (fnCx mixed tyTab Try.f48.ntmps w).B (fnCx mixed tyTab Try.f48.ntmps w).w0 p (planCs sp st o what) := hP
  have hPp := hP.part (us := [.int .i64 sp, .int .i64 st, o]) (fun j v h => by simp only [planCs]; exact part3 h)
  have hn := hv.n
  have hm := hv.m
  have hs := hv.small
  refine W.sreg ?_
  refine WO.box1 rfl (by first | rfl | assumption) rfl (fun b1 hb1 => ?_)
  refine WO.boxA rfl rfl (fun b2 hb2 => ?_)
  refine WO.box1 rfl (by first | rfl | assumption) rfl (fun b3 hb3 => ?_)
  refine WO.p rfl rfl (WO.p rfl rfl ?_)
  refine WO.nil ?_
  refine W.sreg ?_
  refine WO.load rfl rfl (Cell.own (Pick.tail (Pick.tail (Pick.head))) rfl) rfl (WO.p rfl rfl (WO.field0 rfl rfl rfl ?_))
  refine' WO.loadA (vs := _) rfl rfl ?hc ?hl rfl ?_
  case hc => (first | exact hPp.cells | (refine (hR2.row _ ?_).cells ?_ (0, 0) <;> omega))
  case hl => rfl
  refine WO.call (Post := fun v Hq => ∃ rv', Hq = [OwC 53 1 v rows.length rv', RowsE encI 2 1 rv' (endsOf false rows)]) rfl Try.call51 (fun L w hi => c_pick w sp st o rv rows _ false ch_63 (hR.later hi) hs.1 hs.2) rfl ?_
  rintro v1 _ ⟨rv1, rfl⟩
  refine WO.fact (OwC.form (by repeat (first | exact Pick.head | apply Pick.tail))) (fun hf => ?_)
  obtain ⟨a0, c0, rfl⟩ := hf
  refine WO.alloc rfl rfl rfl (fun b4 hb4 => ?_)
  refine WO.store1 rfl rfl rfl (by first | rfl | assumption) Pick.head rfl ?_
  refine WO.nil ?_
  refine W.sreg ?_
  refine WO.alloc rfl rfl rfl (fun b5 hb5 => ?_)
  refine WO.store1 rfl rfl rfl (by first | rfl | assumption) Pick.head rfl ?_
  refine WO.nil ?_
  refine W.seq ?_
  refine W.sreg ?_
  refine WO.load rfl rfl (Cell.own (Pick.tail (Pick.tail (Pick.tail (Pick.tail (Pick.tail (Pick.tail (Pick.head))))))) rfl) rfl ?_
  refine WO.call (Post := fun v Hq => ∃ b1 b2, v = .func (.func 67) #[] #[.pointer (some ⟨b1, 0, none⟩), .pointer (some ⟨b2, 0, none⟩)] ∧ Hq = [pt b2 (.cells #[.func (.func 66) #[.agg #[.int .i64 1, .int .i64 2]] #[]] 95 (0, 0)), pt b1 (.cells #[.pointer (some p)] 71 (0, 0))]) rfl Try.call56 (fun L w hi => c_places w _) rfl ?_
  rintro _ _ ⟨e1, e2, rfl, rfl⟩
  refine WO.nil ?_
  refine W.block ?_
  refine W.chg satNil ?_
  rw [← exG_0 (what := what) (sp := sp) (st := st) (num := num) (den := den) (high := high)]
  refine W.rangeFunc [pt e2 (.cells #[.func (.func 66) #[.agg #[.int .i64 1, .int .i64 2]] #[]] 95 (0, 0)), pt e1 (.cells #[.pointer (some p)] 71 (0, 0)), sat []] (fun q => [pt b5 (.cells #[.int .i64 (pSum (fun q => best1 what sp st num den high rows q.1 q.2) ((plc rows).take q))] 2 (0, 0)), pt b4 (.cells #[.slice a0 rows.length c0] 25 (0, 0)), OwC 53 1 (.slice a0 rows.length c0) rows.length rv1, RowsE encI 2 1 rv1 (mk rows (exG what sp st num den high rows q)), pt b1 (.cells #[.pointer (some p)] 71 (0, 0)), pt b2 (.cells #[.int .i64 num, .int .i64 den] 29 (0, 0)), pt b3 (.cells #[.int .i64 (sgn high)] 2 (0, 0))]) (plcV rows) rfl rfl rfl Try.call67 (by repeat (first | exact Sub.nil | refine Sub.cons (by repeat (first | exact Pick.head | apply Pick.tail)) ?_)) ?_ ?_ ?_
  · intro l Hc hy w1 M' hB hk hM hi
    exact c_places1 _ _ p sp st o rv rows _ hR hv l Hc hy e1 e2 w1 M' hB hk hM (fun _ _ => (show RdC (itCx mixed tyTab Try.f67.ntmps w1 M' _ hB hM).B (itCx mixed tyTab Try.f67.ntmps w1 M' _ hB hM).w0 p (planCs sp st o what) from hP.agree hk).cellAt rfl) hi
  · intro l w1 M hB hM hk q x hx
    obtain ⟨i, k, hq, hi, hk', rfl⟩ := plcV_some hx
    have hR2 : RdR encP 2 (rdCx (fnCx mixed tyTab Try.f48.ntmps w) l w1 M hB hM).B (rdCx (fnCx mixed tyTab Try.f48.ntmps w) l w1 M hB hM).w0 o rv rows := hR.agree hk
    have hP2 : RdC (rdCx (fnCx mixed tyTab Try.f48.ntmps w) l w1 M hB hM).B (rdCx (fnCx mixed tyTab Try.f48.ntmps w) l w1 M hB hM).w0 p (planCs sp st o what) := hP.agree hk
    have hok := hv.ok i k hi hk'
    have hsB := sum_bound (what := what) (high := high) hv hb q
    rw [pSum_take hq]
    refine W.region ?_
    refine WO.alloc rfl rfl rfl (fun b6 hb6 => ?_)
    refine WO.storeA rfl rfl rfl rfl Pick.head rfl rfl ?_
    refine WO.nil ?_
    refine W.block ?_
    refine W.sreg ?_
    refine WO.p rfl rfl (WO.p rfl rfl ?_)
    refine WO.nil ?_
    refine W.seq ?_
    refine W.drawD 14 [.b 0 [], .r 1 [], .r 2 [], .r 3 [], .b 4 [], .r 5 [], .b 6 [], .r 7 [], .b 8 [], .r 9 [], .b 10 [], .r 11 [], .b 12 [], .a 13 12 (.cells #[.int .i64 0, .int .i64 0] 55 (0, 0))] [] (A0 := []) (Sub.refl _) (by kernel_rfl) ?_ ?_
    · exact (ALok.b (ALok.r (ALok.r (ALok.r (ALok.b (ALok.r (ALok.b (ALok.r (ALok.b (ALok.r (ALok.b (ALok.r (ALok.b (ALok.cons rfl rfl rfl rfl rfl ALok.nil))))))))))))))
    refine' DT.b rfl rfl rfl ?hq ?_
    case hq =>
      refine WO.load rfl rfl (Cell.own (Pick.tail (Pick.tail (Pick.tail (Pick.tail (Pick.tail (Pick.head)))))) rfl) rfl ?_
      exact WO.nil ⟨rfl, rfl⟩
    refine' DT.r rfl rfl rfl ?hq ?_
    case hq =>
      refine WO.p rfl rfl ?_
      exact WO.nil ⟨rfl, rfl⟩
    refine' DT.r rfl rfl rfl ?hq ?_
    case hq =>
      refine WO.field0 rfl rfl rfl ?_
      exact WO.nil ⟨rfl, rfl⟩
    refine' DT.r rfl rfl rfl ?hq ?_
    case hq =>
      refine WO.field rfl rfl rfl ?_
      exact WO.nil ⟨rfl, rfl⟩
    refine' DT.b rfl rfl rfl ?hq ?_
    case hq =>
      refine' WO.load (v := _) rfl rfl ?hc rfl ?_
      case hc => (first | (refine hP2.cellAt ?_; rfl) | (refine hR2.cellV ?_; omega) | (refine (hR2.row _ ?_).cell0 ?_ (0, 0) ?_ <;> first | rfl | omega) | (refine OwC.cell1s (e := 53) (n := rows.length) (cs := rv1) ?_ ?_; (repeat (first | exact Sub.nil | refine Sub.cons (by repeat (first | exact Pick.head | apply Pick.tail)) ?_)); omega))
      exact WO.nil ⟨rfl, rfl⟩
    refine' DT.r rfl rfl rfl ?hq ?_
    case hq =>
      refine WO.field0 rfl rfl rfl ?_
      exact WO.nil ⟨rfl, rfl⟩
    refine' DT.b rfl rfl rfl ?hq ?_
    case hq =>
      refine WO.load rfl rfl (Cell.own Pick.head rfl) rfl ?_
      exact WO.nil ⟨rfl, rfl⟩
    refine' DT.r rfl rfl rfl ?hq ?_
    case hq =>
      refine' WO.indexAddr (n := _) (i := _) rfl rfl rfl ?hs ?h1 rfl ?_
      case hs => (first | exact hR2.sl | exact hrs | exact hos | (refine (hR2.row _ ?_).sl; omega))
      case h1 => (first | omega | (simp; omega))
      exact WO.nil ⟨rfl, rfl⟩
    refine' DT.b rfl rfl rfl ?hq ?_
    case hq =>
      refine' WO.load (v := _) rfl rfl ?hc rfl ?_
      case hc => (first | (refine hP2.cellAt ?_; rfl) | (refine hR2.cellV ?_; omega) | (refine (hR2.row _ ?_).cell0 ?_ (0, 0) ?_ <;> first | rfl | omega) | (refine OwC.cell1s (e := 53) (n := rows.length) (cs := rv1) ?_ ?_; (repeat (first | exact Sub.nil | refine Sub.cons (by repeat (first | exact Pick.head | apply Pick.tail)) ?_)); omega))
      exact WO.nil ⟨rfl, rfl⟩
    refine' DT.r rfl rfl rfl ?hq ?_
    case hq =>
      refine WO.fieldL rfl rfl rfl ?_
      exact WO.nil ⟨rfl, rfl⟩
    refine' DT.b rfl rfl rfl ?hq ?_
    case hq =>
      refine WO.load rfl rfl (Cell.own Pick.head rfl) rfl ?_
      exact WO.nil ⟨rfl, rfl⟩
    refine' DT.r rfl rfl rfl ?hq ?_
    case hq =>
      refine' WO.indexAddr (n := _) (i := _) rfl rfl rfl ?hs ?h1 rfl ?_
      case hs => (first | exact hR2.sl | exact hrs | exact hos | (refine (hR2.row _ ?_).sl; omega))
      case h1 => (first | omega | (simp; omega))
      exact WO.nil ⟨rfl, rfl⟩
    refine' DT.b rfl rfl rfl ?hq ?_
    case hq =>
      refine' WO.loadA (vs := _) rfl rfl ?hc ?hl rfl ?_
      case hc => (first | exact hPp.cells | (refine (hR2.row _ ?_).cells ?_ (0, 0) <;> omega))
      case hl => rfl
      exact WO.nil ⟨rfl, rfl⟩
    refine DT.a (fun b7 => ?_)
    refine DT.nil [_, _, _, _, _, _, _, _, _] rfl ?_
    refine WO.storeA rfl rfl rfl rfl Pick.head rfl rfl ?_
    refine WO.nil ?_
    refine W.sreg ?_
    refine WO.field0 rfl rfl rfl (WO.load rfl rfl (Cell.own Pick.head rfl) rfl (WO.p rfl rfl ?_))
    refine WO.nil ?_
    refine W.seq ?_
    refine W.sreg ?_
    refine WO.field0 rfl rfl rfl (WO.load rfl rfl (Cell.own Pick.head rfl) rfl (WO.ar rfl rfl rfl (by (first | (unfold in64; omega))) rfl (WO.p rfl rfl ?_)))
    refine WO.nil ?_
    refine W.block ?_
    refine W.loop2 (fun (y : Int) (b : Int) => lo0 rows i k < y ∧ y ≤ hi0 rows i k + 1 ∧ b = bestY (fun y => sgn high * exT what sp st num den rows.length (rows.getD i []).length i k y) (lo0 rows i k) (y - 1 - lo0 rows i k).toNat)
      (fun (y : Int) (b : Int) => [(14, .int .i64 y), (13, .int .i64 b), (12, .pointer (some ⟨b7, 0, none⟩)), (11, .func (.func 64) #[] #[.pointer (some ⟨b1, 0, none⟩), .pointer (some ⟨b6, 0, none⟩), .pointer (some ⟨b2, 0, none⟩)]), (10, .pointer (some ⟨b6, 0, none⟩)), (9, .pointer (some ⟨b5, 0, none⟩)), (8, .pointer (some ⟨b4, 0, none⟩)), (5, .pointer (some ⟨b3, 0, none⟩))])
      (fun (y : Int) (b : Int) => [pt b7 (.cells #[.int .i64 (lo0 rows i k), .int .i64 (hi0 rows i k)] 55 (0, 0)), pt b6 (.cells #[.int .i64 (i : Int), .int .i64 (k : Int), .int .i64 (wgt i rows.length * wgt k (rows.getD i []).length), .int .i64 (wgt i rows.length), .bool (bl ((k : Int) = ((rows.getD i []).length : Int) - 1))] 94 (0, 0)), pt b5 (.cells #[.int .i64 (pSum (fun q => best1 what sp st num den high rows q.1 q.2) ((plc rows).take q))] 2 (0, 0)), pt b4 (.cells #[.slice a0 rows.length c0] 25 (0, 0)), OwC 53 1 (.slice a0 rows.length c0) rows.length rv1, RowsE encI 2 1 rv1 (mk rows (exG what sp st num den high rows q)), pt b1 (.cells #[.pointer (some p)] 71 (0, 0)), pt b2 (.cells #[.int .i64 num, .int .i64 den] 29 (0, 0)), pt b3 (.cells #[.int .i64 (sgn high)] 2 (0, 0))])
      (fun (y : Int) (b : Int) => (hi0 rows i k + 1 - y).toNat) (lo0 rows i k + 1) (lo0 rows i k)
      (by (have e1' : lo0 rows i k = ((rows.getD i []).getD k (0, 0)).1 := rfl; have e2' : hi0 rows i k = ((rows.getD i []).getD k (0, 0)).2 := rfl; exact ⟨by omega, by omega, by rw [show lo0 rows i k + 1 - 1 - lo0 rows i k = 0 by omega]; rfl⟩)) ⟨rfl, rfl, rfl, rfl, rfl, rfl, rfl, rfl, trivial⟩ (by repeat (first | exact Sub.nil | refine Sub.cons (by repeat (first | exact Pick.head | apply Pick.tail)) ?_)) ?_
    rintro y b ⟨hy1, hy2, eb⟩
    have hbI := bestY_in (f := fun y => sgn high * exT what sp st num den rows.length (rows.getD i []).length i k y) (lo := lo0 rows i k) (j := (y - 1 - lo0 rows i k).toNat)
    rw [← eb] at hbI
    refine W.seq ?_
    have e1' : lo0 rows i k = ((rows.getD i []).getD k (0, 0)).1 := rfl
    have e2' : hi0 rows i k = ((rows.getD i []).getD k (0, 0)).2 := rfl
    refine W.sreg ?_
    refine WO.p rfl rfl (WO.fieldL rfl rfl rfl (WO.load rfl rfl (Cell.own Pick.head rfl) rfl (WO.p rfl rfl ?_)))
    refine WO.nil ?_
    refine W.cond_bl rfl (fun c1 => ?_) (fun c1 => ?_)
    · first
      | (exfalso; omega)
      | (refine W.skip ?_
         refine W.seq ?_
         refine W.block ?_
         refine W.seq ?_
         have tfy := hv.tf (num := 0) (den := 0) (y := y) hi hk' ⟨by omega, by omega⟩
         have tfb := hv.tf (num := 0) (den := 0) (y := b) hi hk' ⟨by omega, by omega⟩
         have ey := ((hv.tf (num := num) (den := den) (y := y) hi hk' ⟨by omega, by omega⟩).ex hb what).2.2
         have eb2 := ((hv.tf (num := num) (den := den) (y := b) hi hk' ⟨by omega, by omega⟩).ex hb what).2.2
         refine W.drawD 10 [.b 0 [], .r 1 [], .r 2 [], .b 3 [], .r 4 [], .b 5 [], .r 6 [], .r 7 [], .b 8 [], .r 9 []] [] (A0 := []) (Sub.refl _) (by kernel_rfl) ?_ ?_
         · exact (ALok.b (ALok.r (ALok.r (ALok.b (ALok.r (ALok.b (ALok.r (ALok.r (ALok.b (ALok.r ALok.nil))))))))))
         refine' DT.b rfl rfl rfl ?hq ?_
         case hq =>
           refine WO.load rfl rfl (Cell.own (Pick.tail (Pick.tail (Pick.tail (Pick.tail (Pick.tail (Pick.tail (Pick.tail (Pick.tail (Pick.head))))))))) rfl) rfl ?_
           exact WO.nil ⟨rfl, rfl⟩
         refine' DT.r rfl rfl rfl ?hq ?_
         case hq =>
           refine WO.p rfl rfl ?_
           exact WO.nil ⟨rfl, rfl⟩
         refine' DT.r rfl rfl rfl ?hq ?_
         case hq =>
           refine WO.p rfl rfl ?_
           exact WO.nil ⟨rfl, rfl⟩
         refine' DT.b rfl rfl rfl ?hq ?_
         case hq =>
           refine WO.callCR (first := []) (captured := [.pointer (some ⟨b1, 0, none⟩), .pointer (some ⟨b6, 0, none⟩), .pointer (some ⟨b2, 0, none⟩)]) rfl rfl Try.call64 (fun L w hi2 => c_part w p _ _ _ sp st what num den o rows.length (rows.getD i []).length i k y (hP2.later hi2) (RdC.own (b := b1) (by repeat (first | exact Pick.head | apply Pick.tail)) hi2) (RdC.own (b := b6) (by repeat (first | exact Pick.head | apply Pick.tail)) hi2) (RdC.own (b := b2) (by repeat (first | exact Pick.head | apply Pick.tail)) hi2) hw hv.st tfy hb) rfl ?_
           exact WO.nil ⟨rfl, rfl⟩
         refine' DT.r rfl rfl rfl ?hq ?_
         case hq =>
           refine WO.ar rfl rfl rfl (by (first | exact sgn_in (by omega))) rfl ?_
           exact WO.nil ⟨rfl, rfl⟩
         refine' DT.b rfl rfl rfl ?hq ?_
         case hq =>
           refine WO.load rfl rfl (Cell.own (Pick.tail (Pick.tail (Pick.tail (Pick.tail (Pick.tail (Pick.tail (Pick.tail (Pick.tail (Pick.head))))))))) rfl) rfl ?_
           exact WO.nil ⟨rfl, rfl⟩
         refine' DT.r rfl rfl rfl ?hq ?_
         case hq =>
           refine WO.p rfl rfl ?_
           exact WO.nil ⟨rfl, rfl⟩
         refine' DT.r rfl rfl rfl ?hq ?_
         case hq =>
           refine WO.p rfl rfl ?_
           exact WO.nil ⟨rfl, rfl⟩
         refine' DT.b rfl rfl rfl ?hq ?_
         case hq =>
           refine WO.callCR (first := []) (captured := [.pointer (some ⟨b1, 0, none⟩), .pointer (some ⟨b6, 0, none⟩), .pointer (some ⟨b2, 0, none⟩)]) rfl rfl Try.call64 (fun L w hi2 => c_part w p _ _ _ sp st what num den o rows.length (rows.getD i []).length i k b (hP2.later hi2) (RdC.own (b := b1) (by repeat (first | exact Pick.head | apply Pick.tail)) hi2) (RdC.own (b := b6) (by repeat (first | exact Pick.head | apply Pick.tail)) hi2) (RdC.own (b := b2) (by repeat (first | exact Pick.head | apply Pick.tail)) hi2) hw hv.st tfb hb) rfl ?_
           exact WO.nil ⟨rfl, rfl⟩
         refine' DT.r rfl rfl rfl ?hq ?_
         case hq =>
           refine WO.ar rfl rfl rfl (by (first | exact sgn_in (by omega))) rfl ?_
           exact WO.nil ⟨rfl, rfl⟩
         refine DT.nil [_, _, _, _, _, _, _, _, _] rfl ?_
         refine WO.p rfl rfl ?_
         refine WO.nil ?_
         refine W.cond_bl rfl (fun c2 => ?_) (fun c2 => ?_)
         · first
           | (exfalso; omega)
           | (refine W.region ?_
              refine WO.p rfl rfl (WO.p rfl rfl ?_)
              refine WO.nil ?_
              refine W.region ?_
              refine WO.p rfl rfl (WO.ar rfl rfl rfl (by (first | (unfold in64; omega))) rfl (WO.p rfl rfl ?_))
              refine WO.nil ?_
              refine' ⟨y + 1, _, ?hp, ?hmu, ⟨rfl, rfl, rfl, rfl, rfl, rfl, rfl, rfl, trivial⟩, ?hS⟩
              case hS => repeat (first | exact Sub.nil | refine Sub.cons (by repeat (first | exact Pick.head | apply Pick.tail)) ?_)
              case hp => first | exact ⟨by omega, by omega, bestY_succ_t hy1 eb (by assumption)⟩ | exact ⟨by omega, by omega, bestY_succ_f hy1 eb (by assumption)⟩
              case hmu => omega)
         · first
           | (exfalso; omega)
           | (refine W.skip ?_
              refine W.region ?_
              refine WO.p rfl rfl (WO.ar rfl rfl rfl (by (first | (unfold in64; omega))) rfl (WO.p rfl rfl ?_))
              refine WO.nil ?_
              refine' ⟨y + 1, _, ?hp, ?hmu, ⟨rfl, rfl, rfl, rfl, rfl, rfl, rfl, rfl, trivial⟩, ?hS⟩
              case hS => repeat (first | exact Sub.nil | refine Sub.cons (by repeat (first | exact Pick.head | apply Pick.tail)) ?_)
              case hp => first | exact ⟨by omega, by omega, bestY_succ_t hy1 eb (by assumption)⟩ | exact ⟨by omega, by omega, bestY_succ_f hy1 eb (by assumption)⟩
              case hmu => omega))
    · first
      | (exfalso; omega)
      | (refine W.exit (blk_same ?_)
         refine W.seq ?_
         refine W.fact (RowsE.rowSl (by repeat (first | exact Pick.head | apply Pick.tail)) (i := i) (by rw [mk_len]; exact hi)) (fun hrs => ?_)
         rw [mk_rowLen hi] at hrs
         refine W.fact (RowsE.rowsLen (by repeat (first | exact Pick.head | apply Pick.tail))) (fun hrl => ?_)
         rw [mk_len] at hrl
         refine W.fact (OwC.sl (by repeat (first | exact Pick.head | apply Pick.tail))) (fun hos => ?_)
         obtain rfl := exY_of (what := what) (sp := sp) (st := st) (num := num) (den := den) (high := high) (by assumption) hy2 eb
         refine W.drawD 8 [.b 0 [], .r 1 [], .b 2 [], .r 3 [], .b 4 [], .r 5 [], .b 6 [], .r 7 []] [] (A0 := [_]) (H0 := [_, _, _, _, _, _, _, _]) (.cons (Pick.tail (Pick.tail (Pick.tail (Pick.tail (Pick.tail .head))))) (.cons .head (.cons .head (.cons .head (.cons .head (.cons .head (.cons .head (.cons .head (.cons .head .nil))))))))) (by kernel_rfl) ?_ ?_
         · exact (ALok.b (ALok.r (ALok.b (ALok.r (ALok.b (ALok.r (ALok.b (ALok.r ALok.nil))))))))
         refine' DT.b rfl rfl rfl ?hq ?_
         case hq =>
           refine WO.load rfl rfl (Cell.own (Pick.tail (Pick.tail (Pick.tail (Pick.head)))) rfl) rfl ?_
           exact WO.nil ⟨rfl, rfl⟩
         refine' DT.r rfl rfl rfl ?hq ?_
         case hq =>
           refine WO.field0 rfl rfl rfl ?_
           exact WO.nil ⟨rfl, rfl⟩
         refine' DT.b rfl rfl rfl ?hq ?_
         case hq =>
           refine WO.load rfl rfl (Cell.own (Pick.tail (Pick.head)) rfl) rfl ?_
           exact WO.nil ⟨rfl, rfl⟩
         refine' DT.r rfl rfl rfl ?hq ?_
         case hq =>
           refine' WO.indexAddr (n := _) (i := _) rfl rfl rfl ?hs ?h1 rfl ?_
           case hs => (first | exact hR2.sl | exact hrs | exact hos | (refine (hR2.row _ ?_).sl; omega))
           case h1 => (first | omega | (simp; omega))
           exact WO.nil ⟨rfl, rfl⟩
         refine' DT.b rfl rfl rfl ?hq ?_
         case hq =>
           refine' WO.load (v := _) rfl rfl ?hc rfl ?_
           case hc => (first | (refine hP2.cellAt ?_; rfl) | (refine hR2.cellV ?_; omega) | (refine (hR2.row _ ?_).cell0 ?_ (0, 0) ?_ <;> first | rfl | omega) | (refine OwC.cell1s (e := 53) (n := rows.length) (cs := rv1) ?_ ?_; (repeat (first | exact Sub.nil | refine Sub.cons (by repeat (first | exact Pick.head | apply Pick.tail)) ?_)); omega))
           exact WO.nil ⟨rfl, rfl⟩
         refine' DT.r rfl rfl rfl ?hq ?_
         case hq =>
           refine WO.fieldL rfl rfl rfl ?_
           exact WO.nil ⟨rfl, rfl⟩
         refine' DT.b rfl rfl rfl ?hq ?_
         case hq =>
           refine WO.load rfl rfl (Cell.own (Pick.tail (Pick.head)) rfl) rfl ?_
           exact WO.nil ⟨rfl, rfl⟩
         refine' DT.r rfl rfl rfl ?hq ?_
         case hq =>
           refine WO.p rfl rfl ?_
           exact WO.nil ⟨rfl, rfl⟩
         refine DT.nil [_, _, _, _, _, _, _, _, _] rfl ?_
         refine' WO.indexAddr (n := _) (i := _) rfl rfl rfl ?hs ?h1 rfl ?_
         case hs => (first | exact hR2.sl | exact hrs | exact hos | (refine (hR2.row _ ?_).sl; omega))
         case h1 => (first | omega | (simp; omega))
         refine WO.storeRow encI_ok rfl rfl rfl rfl (by repeat (first | exact Pick.head | apply Pick.tail)) (by rw [mk_len]; exact hi) (by rw [mk_rowLen hi]; exact hk') ?_
         rw [exG_succ hq hi]
         refine WO.nil ?_
         have be := hv.best1 hb what high hi hk'
         have tfx := hv.tf (num := 0) (den := 0) (y := exY what sp st num den high rows i k) hi hk' ⟨by omega, by omega⟩
         refine W.drawD 4 [.f 0 [], .r 1 [], .r 2 [], .b 3 []] [] (A0 := [_]) (H0 := [_, _, _, _, _, _, _, _]) (.cons (Pick.tail (Pick.tail (Pick.tail .head))) (.cons .head (.cons .head (.cons .head (.cons .head (.cons .head (.cons .head (.cons .head (.cons .head .nil))))))))) (by kernel_rfl) ?_ ?_
         · exact (ALok.f (ALok.r (ALok.r (ALok.b ALok.nil))))
         refine' DT.f [_, _, _, _, _, _, _, _, _] rfl rfl rfl rfl ?hq ?_
         case hq =>
           refine WO.load rfl rfl (Cell.own Pick.head rfl) rfl ?_
           exact WO.nil ⟨rfl, rfl⟩
         refine' DT.r rfl rfl rfl ?hq ?_
         case hq =>
           refine WO.p rfl rfl ?_
           exact WO.nil ⟨rfl, rfl⟩
         refine' DT.r rfl rfl rfl ?hq ?_
         case hq =>
           refine WO.p rfl rfl ?_
           exact WO.nil ⟨rfl, rfl⟩
         refine' DT.b rfl rfl rfl ?hq ?_
         case hq =>
           refine WO.callCR (first := []) (captured := [.pointer (some ⟨b1, 0, none⟩), .pointer (some ⟨b6, 0, none⟩), .pointer (some ⟨b2, 0, none⟩)]) (r := .int .i64 (best1 what sp st num den high rows i k)) rfl rfl Try.call64 (fun L w hi2 => by rw [← exY_best]; exact c_part w p _ _ _ sp st what num den o rows.length (rows.getD i []).length i k (exY what sp st num den high rows i k) (hP2.later hi2) (RdC.own (b := b1) (by repeat (first | exact Pick.head | apply Pick.tail)) hi2) (RdC.own (b := b6) (by repeat (first | exact Pick.head | apply Pick.tail)) hi2) (RdC.own (b := b2) (by repeat (first | exact Pick.head | apply Pick.tail)) hi2) hw hv.st tfx hb) rfl ?_
           exact WO.nil ⟨rfl, rfl⟩
         refine DT.nil [_, _, _, _, _, _, _, _, _] rfl ?_
         refine WO.ar rfl rfl rfl (by (first | (unfold in64; omega))) rfl (WO.store1 rfl rfl rfl (by first | rfl | assumption) Pick.head rfl ?_)
         refine WO.nil ?_
         (repeat (first | exact Sub.nil | refine Sub.cons (by repeat (first | exact Pick.head | apply Pick.tail)) ?_)))
  refine W.seq ?_
  rw [plcV_len, List.take_length, sum_best, exG_all]
  refine W.drawD 3 [.b 0 [], .b 1 [6], .r 2 [6]] [6] (A0 := []) (Sub.refl _) (by kernel_rfl) ?_ ?_
  · exact (ALok.b (ALok.b (ALok.r ALok.nil)))
  refine' DT.b rfl rfl rfl ?hq ?_
  case hq =>
    refine WO.load rfl rfl (Cell.own (Pick.tail (Pick.tail (Pick.tail (Pick.tail (Pick.head))))) rfl) rfl ?_
    exact WO.nil ⟨rfl, rfl⟩
  refine' DT.b rfl rfl rfl ?hq ?_
  case hq =>
    refine WO.load rfl rfl (Cell.own (Pick.tail (Pick.tail (Pick.tail (Pick.head)))) rfl) rfl ?_
    exact WO.nil ⟨rfl, rfl⟩
  refine' DT.r rfl rfl rfl ?hq ?_
  case hq =>
    refine WO.p rfl rfl ?_
    exact WO.nil ⟨rfl, rfl⟩
  refine DT.nil [_, _, _, _, _, _, _, _, _, _] rfl ?_
  refine WO.p rfl rfl ?_
  refine WO.nil ?_
  refine W.ret ?_
  exact fin.ret (Res.two rfl (RV.tmp rfl) (RV.tmp rfl)) ⟨(_, rv1), rfl, fun h hs => Sub.sat (.cons (by repeat (first | exact Pick.head | apply Pick.tail)) (.cons (by repeat (first | exact Pick.head | apply Pick.tail)) .nil)) hs⟩
end Go.Proofs.Ytgihklgpehfbpaa
namespace Go.Proofs.Ytgihklgpehfbpaa
open Go Go.TH
set_option maxRecDepth 10000
theorem red_nat (a b : Nat) : red (a : Int) (b : Int) = (((a / Nat.gcd a b : Nat) : Int), ((b / Nat.gcd a b : Nat) : Int)) := by
  unfold red gcd2
  simp only [Int.toNat_natCast]
  rw [← Int.ofNat_tdiv, ← Int.ofNat_tdiv]
theorem red_cross {n d : Int} (hn : 0 ≤ n) (hd : 0 < d) : (red n d).1 * d = n * (red n d).2 ∧ 0 < (red n d).2 ∧ 0 ≤ (red n d).1 ∧ (red n d).1 ≤ n ∧ (red n d).2 ≤ d := by
  obtain ⟨a, rfl⟩ := Int.eq_ofNat_of_zero_le hn
  obtain ⟨b, rfl⟩ := Int.eq_ofNat_of_zero_le (Int.le_of_lt hd)
  rw [red_nat]
  have hg : 0 < Nat.gcd a b := Nat.gcd_pos_of_pos_right _ (by omega)
  obtain ⟨p, hp⟩ := Nat.gcd_dvd_left a b
  obtain ⟨q, hq⟩ := Nat.gcd_dvd_right a b
  have e1 : a / Nat.gcd a b = p := Nat.div_eq_of_eq_mul_right hg hp
  have e2 : b / Nat.gcd a b = q := Nat.div_eq_of_eq_mul_right hg hq
  rw [e1, e2]
  have hq0 : 0 < q := by
    rcases Nat.eq_zero_or_pos q with h | h
    · rw [h] at hq; omega
    · exact h
  have hpa : p ≤ a := by rw [hp]; exact Nat.le_mul_of_pos_left _ hg
  have hqb : q ≤ b := by rw [hq]; exact Nat.le_mul_of_pos_left _ hg
  refine ⟨?_, by omega, by omega, by omega, by omega⟩
  have : p * b = a * q := by
    calc p * b = p * (Nat.gcd a b * q) := by rw [← hq]
      _ = Nat.gcd a b * p * q := by rw [← Nat.mul_assoc, Nat.mul_comm p]
      _ = a * q := by rw [← hp]
  show (p : Int) * (b : Int) = (a : Int) * (q : Int)
  exact_mod_cast this
theorem coprime_eq {p q r s : Nat} (h1 : Nat.Coprime p q) (h2 : Nat.Coprime r s) (hq : 0 < q) (hs : 0 < s) (h : p * s = r * q) : p = r ∧ q = s := by
  have a1 : q ∣ s := Nat.Coprime.dvd_of_dvd_mul_left h1.symm ⟨r, by rw [h, Nat.mul_comm]⟩
  have a2 : s ∣ q := Nat.Coprime.dvd_of_dvd_mul_left h2.symm ⟨p, by rw [← h, Nat.mul_comm]⟩
  have e : q = s := Nat.dvd_antisymm a1 a2
  subst e
  exact ⟨Nat.eq_of_mul_eq_mul_right hq h, rfl⟩
theorem red_eq {n1 d1 n2 d2 : Int} (a1 : 0 ≤ n1) (a2 : 0 < d1) (a3 : 0 ≤ n2) (a4 : 0 < d2) (h : n1 * d2 = n2 * d1) : red n1 d1 = red n2 d2 := by
  obtain ⟨a, rfl⟩ := Int.eq_ofNat_of_zero_le a1
  obtain ⟨b, rfl⟩ := Int.eq_ofNat_of_zero_le (Int.le_of_lt a2)
  obtain ⟨c, rfl⟩ := Int.eq_ofNat_of_zero_le a3
  obtain ⟨d, rfl⟩ := Int.eq_ofNat_of_zero_le (Int.le_of_lt a4)
  have h' : a * d = c * b := by exact_mod_cast h
  rw [red_nat, red_nat]
  have hg : 0 < Nat.gcd a b := Nat.gcd_pos_of_pos_right _ (by omega)
  have hg' : 0 < Nat.gcd c d := Nat.gcd_pos_of_pos_right _ (by omega)
  have c1 := Nat.coprime_div_gcd_div_gcd hg
  have c2 := Nat.coprime_div_gcd_div_gcd hg'
  obtain ⟨p, hp⟩ := Nat.gcd_dvd_left a b
  obtain ⟨q, hq⟩ := Nat.gcd_dvd_right a b
  obtain ⟨r, hr⟩ := Nat.gcd_dvd_left c d
  obtain ⟨s, hs⟩ := Nat.gcd_dvd_right c d
  have e1 : a / Nat.gcd a b = p := Nat.div_eq_of_eq_mul_right hg hp
  have e2 : b / Nat.gcd a b = q := Nat.div_eq_of_eq_mul_right hg hq
  have e3 : c / Nat.gcd c d = r := Nat.div_eq_of_eq_mul_right hg' hr
  have e4 : d / Nat.gcd c d = s := Nat.div_eq_of_eq_mul_right hg' hs
  rw [e1, e2] at c1
  rw [e3, e4] at c2
  rw [e1, e2, e3, e4]
  have hq0 : 0 < q := by
    rcases Nat.eq_zero_or_pos q with h | h
    · rw [h] at hq; omega
    · exact h
  have hs0 : 0 < s := by
    rcases Nat.eq_zero_or_pos s with h | h
    · rw [h] at hs; omega
    · exact h
  have key : p * s = r * q := by
    have h2 : (Nat.gcd a b * Nat.gcd c d) * (p * s) = (Nat.gcd a b * Nat.gcd c d) * (r * q) := by
      calc (Nat.gcd a b * Nat.gcd c d) * (p * s) = (Nat.gcd a b * p) * (Nat.gcd c d * s) := by simp only [Nat.mul_assoc, Nat.mul_left_comm, Nat.mul_comm]
        _ = a * d := by rw [← hp, ← hs]
        _ = c * b := h'
        _ = (Nat.gcd c d * r) * (Nat.gcd a b * q) := by rw [← hr, ← hq]
        _ = (Nat.gcd a b * Nat.gcd c d) * (r * q) := by simp only [Nat.mul_assoc, Nat.mul_left_comm, Nat.mul_comm]
    exact Nat.eq_of_mul_eq_mul_left (Nat.mul_pos hg hg') h2
  obtain ⟨x, y⟩ := coprime_eq c1 c2 hq0 hs0 key
  rw [x, y]
theorem red_cross_of {n1 d1 n2 d2 : Int} (a1 : 0 ≤ n1) (a2 : 0 < d1) (a3 : 0 ≤ n2) (a4 : 0 < d2) (h : red n1 d1 = red n2 d2) : n1 * d2 = n2 * d1 := by
  obtain ⟨x1, x2, _⟩ := red_cross a1 a2
  obtain ⟨y1, y2, _⟩ := red_cross a3 a4
  rw [h] at x1 x2
  -- r * d1 = n1 * s ; r * d2 = n2 * s
  have : (n1 * d2) * (red n2 d2).2 = (n2 * d1) * (red n2 d2).2 := by
    calc (n1 * d2) * (red n2 d2).2 = (n1 * (red n2 d2).2) * d2 := by rw [Int.mul_right_comm]
      _ = ((red n2 d2).1 * d1) * d2 := by rw [x1]
      _ = ((red n2 d2).1 * d2) * d1 := by rw [Int.mul_right_comm]
      _ = (n2 * (red n2 d2).2) * d1 := by rw [y1]
      _ = (n2 * d1) * (red n2 d2).2 := by rw [Int.mul_right_comm]
  exact Int.eq_of_mul_eq_mul_right (by omega) this
theorem pSum_lin (a b : Int) (f g : Nat × Nat → Int) : ∀ l : List (Nat × Nat), pSum (fun q => a * f q - b * g q) l = a * pSum f l - b * pSum g l
  | [] => by simp [pSum]
  | x :: l => by
    have e : ∀ h : Nat × Nat → Int, pSum h (x :: l) = h x + pSum h l := fun h => by rw [show x :: l = [x] ++ l from rfl, pSum_app]; simp [pSum]
    rw [e, e, e, pSum_lin a b f g l, Int.mul_add, Int.mul_add]; omega
theorem pSum_mul (a : Int) (f : Nat × Nat → Int) (l : List (Nat × Nat)) : pSum (fun q => a * f q) l = a * pSum f l := by
  have := pSum_lin a 0 f f l
  simpa using this
theorem pSum_mono {f g : Nat × Nat → Int} : ∀ {l : List (Nat × Nat)}, (∀ x ∈ l, f x ≤ g x) → pSum f l ≤ pSum g l
  | [], _ => by simp [pSum]
  | x :: l, h => by
    have e : ∀ h : Nat × Nat → Int, pSum h (x :: l) = h x + pSum h l := fun h => by rw [show x :: l = [x] ++ l from rfl, pSum_app]; simp [pSum]
    rw [e, e]
    have h1 := pSum_mono (l := l) (fun y hy => h y (by simp [hy]))
    have h2 := h x (by simp)
    omega
theorem pSum_congr {f g : Nat × Nat → Int} {l : List (Nat × Nat)} (h : ∀ x ∈ l, f x = g x) : pSum f l = pSum g l :=
  Int.le_antisymm (pSum_mono fun x hx => Int.le_of_eq (h x hx)) (pSum_mono fun x hx => Int.le_of_eq (h x hx).symm)
theorem bestV_max {f : Int → Int} {high : Bool} {lo : Int} : ∀ {j : Nat} {y : Int}, lo ≤ y → y ≤ lo + j → sgn high * f y ≤ sgn high * bestV f high lo j
  | 0, y, h1, h2 => by obtain rfl : y = lo := by omega
                       exact Int.le_refl _
  | j + 1, y, h1, h2 => by
    simp only [bestV]
    rcases Int.lt_or_le (lo + j) y with h | h
    · obtain rfl : y = lo + (j + 1 : Nat) := by omega
      cases high
      · simp only [sgn, if_false, Bool.false_eq_true, false_and, false_or, true_and]
        split <;> omega
      · simp only [sgn, if_true, true_and, Bool.true_eq_false, false_and, or_false, Int.one_mul]
        split <;> omega
    · have ih := bestV_max (f := f) (high := high) (lo := lo) (j := j) h1 h
      cases high
      · simp only [sgn, if_false, Bool.false_eq_true, false_and, false_or, true_and] at *
        split <;> omega
      · simp only [sgn, if_true, true_and, Bool.true_eq_false, false_and, or_false, Int.one_mul] at *
        split <;> omega
section
variable {what sp st num den : Int} {high : Bool} {rows : List (List (Int × Int))} {ys zs : List (List Int)}
theorem ex_sum (hv : HV sp st rows) (tv : TV rows ys) (hw : 0 ≤ what ∧ what ≤ 2) : den * tN sp st ys what - num * tD st ys what = pSum (fun q => exT what sp st num den rows.length (rows.getD q.1 []).length q.1 q.2 (yy ys q.1 q.2)) (plc rows) := by
  rw [← tAP_all hv tv hw, ← tBP_all tv hw, ← pSum_lin]; rfl
theorem ex_max (hv : HV sp st rows) (tv : TV rows ys) (hw : 0 ≤ what ∧ what ≤ 2) : sgn high * (den * tN sp st ys what - num * tD st ys what) ≤ sgn high * partS what sp st num den high rows rows.length := by
  rw [ex_sum hv tv hw, ← sum_best, ← pSum_mul, ← pSum_mul]
  refine pSum_mono fun x hx => ?_
  have hm := plc_mem hx
  have h1 := hv.ok x.1 x.2 hm.1 hm.2
  have hl := tv.len
  have h2 := tv.within x.1 x.2 (by omega) (by rw [tv.row x.1 (by omega)]; exact hm.2)
  have e1 : lo0 rows x.1 x.2 = ((rows.getD x.1 []).getD x.2 (0, 0)).1 := rfl
  have e2 : hi0 rows x.1 x.2 = ((rows.getD x.1 []).getD x.2 (0, 0)).2 := rfl
  exact bestV_max (by omega) (by omega)
theorem ex_exH (hv : HV sp st rows) (hw : 0 ≤ what ∧ what ≤ 2) : den * tN sp st (exH what sp st num den high rows) what - num * tD st (exH what sp st num den high rows) what = partS what sp st num den high rows rows.length := by
  rw [ex_sum hv (exH_tv hv) hw, ← sum_best]
  refine pSum_congr fun x hx => ?_
  have hm := plc_mem hx
  rw [exH, mk_y hm.1 hm.2, exY_best]
/-- an end: a true hull that none is beyond -/
structure IsEnd (sp st what : Int) (high : Bool) (rows : List (List (Int × Int))) (ys : List (List Int)) : Prop where
  tv : TV rows ys
  best : ∀ zs, TV rows zs → sgn high * (tN sp st zs what * tD st ys what - tN sp st ys what * tD st zs what) ≤ 0
theorem sgn_cases (high : Bool) : sgn high = 1 ∨ sgn high = -1 := by cases high <;> simp [sgn]
theorem IsEnd.uniq (hv : HV sp st rows) (h1 : IsEnd sp st what high rows ys) (h2 : IsEnd sp st what high rows zs) : valQ sp st ys what = valQ sp st zs what := by
  obtain ⟨⟨a1, _⟩, a2, _⟩ := tN_bound hv h1.tv what
  obtain ⟨⟨b1, _⟩, b2, _⟩ := tN_bound hv h2.tv what
  have x := h1.best zs h2.tv
  have y := h2.best ys h1.tv
  refine red_eq a1 a2 b1 b2 ?_
  rcases sgn_cases high with e | e <;> rw [e] at x y <;> omega
/-- how far it is from the end -/
def far (sp st what : Int) (high : Bool) (ys : List (List Int)) : Nat :=
  if high then (1000000000000000000000000000 - tN sp st ys what * 10000000000000000 / tD st ys what).toNat else (tN sp st ys what * 10000000000000000 / tD st ys what).toNat
theorem st_zero {r s n d n1 d1 : Int} (x1 : r * d = n * s) (hd : 0 < d) (hc : n1 * d = n * d1) : s * n1 - r * d1 = 0 := by
  have h : d * (s * n1 - r * d1) = d * 0 := by
    calc d * (s * n1 - r * d1) = s * (n1 * d) - (r * d) * d1 := by rw [Int.mul_sub]; congr 1 <;> simp only [Int.mul_comm, Int.mul_left_comm]
      _ = s * (n * d1) - (n * s) * d1 := by rw [hc, x1]
      _ = d * 0 := by rw [Int.mul_zero, show s * (n * d1) = n * s * d1 by simp only [Int.mul_comm, Int.mul_left_comm]]; omega
  exact Int.eq_of_mul_eq_mul_left (by omega) h
theorem st_cross {r s n d n1 d1 : Int} (x1 : r * d = n * s) : s * (n1 * d - n * d1) = d * (s * n1 - r * d1) := by
  have e1 : s * (n * d1) = d * (r * d1) := by
    calc s * (n * d1) = (n * s) * d1 := by simp only [Int.mul_comm, Int.mul_left_comm]
      _ = (r * d) * d1 := by rw [x1]
      _ = d * (r * d1) := by simp only [Int.mul_comm, Int.mul_left_comm]
  rw [Int.mul_sub, Int.mul_sub, e1]
  congr 1
  simp only [Int.mul_comm, Int.mul_left_comm]
theorem st_sgn {sg x y s d : Int} (hs : 0 < s) (hd : 0 < d) (e : s * x = d * y) : (sg * y ≤ 0 → sg * x ≤ 0) ∧ (0 < sg * y → 0 < sg * x) := by
  have e2 : s * (sg * x) = d * (sg * y) := by rw [Int.mul_left_comm, e, Int.mul_left_comm]
  constructor
  · intro h
    have h3 : s * (sg * x) ≤ s * 0 := by rw [e2, Int.mul_zero]; exact Int.mul_nonpos_of_nonneg_of_nonpos (by omega) h
    exact Int.le_of_mul_le_mul_left h3 hs
  · intro h
    have h3 : s * 0 < s * (sg * x) := by rw [e2, Int.mul_zero]; exact Int.mul_pos hd h
    exact Int.lt_of_mul_lt_mul_left h3 (by omega)
theorem floor_lt {n d n1 d1 M : Int} (hd : 0 < d) (hd1 : 0 < d1) (hM : d * d1 ≤ M) (h : n * d1 < n1 * d) : n * M / d + 1 ≤ n1 * M / d1 := by
  rw [Int.le_ediv_iff_mul_le hd1]
  have h1 : n * M / d * d ≤ n * M := Int.ediv_mul_le _ (by omega)
  have hM0 : 0 ≤ M := Int.le_trans (Int.le_of_lt (Int.mul_pos hd hd1)) hM
  generalize n * M / d = k at *
  have h2 : (n * d1 + 1) * M ≤ (n1 * d) * M := Int.mul_le_mul_of_nonneg_right (by omega) hM0
  have h3 : k * d * d1 ≤ n * M * d1 := Int.mul_le_mul_of_nonneg_right h1 (by omega)
  have h4 : (k + 1) * d1 * d ≤ n1 * M * d := by
    have e1 : (k + 1) * d1 * d = k * d * d1 + d * d1 := by
      rw [Int.add_mul, Int.add_mul, Int.one_mul, Int.mul_right_comm k d1 d, Int.mul_comm d1 d]
    have e2 : (n * d1 + 1) * M = n * M * d1 + M := by rw [Int.add_mul, Int.one_mul, Int.mul_right_comm]
    have e3 : (n1 * d) * M = n1 * M * d := Int.mul_right_comm _ _ _
    omega
  exact Int.le_of_mul_le_mul_right h4 hd
/-- a step: from a true hull to one that is beyond it, or there is none -/
theorem step_end (hv : HV sp st rows) (tv : TV rows ys) (hw : 0 ≤ what ∧ what ≤ 2) (he : valQ sp st (exH what sp st (valQ sp st ys what).1 (valQ sp st ys what).2 high rows) what = valQ sp st ys what) : IsEnd sp st what high rows ys := by
  obtain ⟨⟨a1, _⟩, a2, _⟩ := tN_bound hv tv what
  obtain ⟨x1, x2, x3, _⟩ := red_cross a1 a2
  have tv' := exH_tv (what := what) (num := (valQ sp st ys what).1) (den := (valQ sp st ys what).2) (high := high) hv
  obtain ⟨⟨b1, _⟩, b2, _⟩ := tN_bound hv tv' what
  have hc := red_cross_of b1 b2 a1 a2 he
  have h0 := st_zero x1 a2 hc
  have hz := ex_exH (what := what) (num := (valQ sp st ys what).1) (den := (valQ sp st ys what).2) (high := high) hv hw
  refine ⟨tv, fun zs hzs => ?_⟩
  have hm := ex_max (what := what) (num := (valQ sp st ys what).1) (den := (valQ sp st ys what).2) (high := high) hv hzs hw
  rw [← hz] at hm
  have h0' : (valQ sp st ys what).2 * tN sp st (exH what sp st (valQ sp st ys what).1 (valQ sp st ys what).2 high rows) what - (valQ sp st ys what).1 * tD st (exH what sp st (valQ sp st ys what).1 (valQ sp st ys what).2 high rows) what = 0 := h0
  rw [h0', Int.mul_zero] at hm
  exact (st_sgn x2 a2 (st_cross x1)).1 hm
theorem step_far (hv : HV sp st rows) (tv : TV rows ys) (hw : 0 ≤ what ∧ what ≤ 2) (he : valQ sp st (exH what sp st (valQ sp st ys what).1 (valQ sp st ys what).2 high rows) what ≠ valQ sp st ys what) :
    far sp st what high (exH what sp st (valQ sp st ys what).1 (valQ sp st ys what).2 high rows) < far sp st what high ys := by
  obtain ⟨⟨a1, a1'⟩, a2, a2'⟩ := tN_bound hv tv what
  obtain ⟨x1, x2, x3, _⟩ := red_cross a1 a2
  have tv' := exH_tv (what := what) (num := (valQ sp st ys what).1) (den := (valQ sp st ys what).2) (high := high) hv
  obtain ⟨⟨b1, b1'⟩, b2, b2'⟩ := tN_bound hv tv' what
  have hz := ex_exH (what := what) (num := (valQ sp st ys what).1) (den := (valQ sp st ys what).2) (high := high) hv hw
  have hm := ex_max (what := what) (num := (valQ sp st ys what).1) (den := (valQ sp st ys what).2) (high := high) hv tv hw
  rw [← hz] at hm
  have h0 : (valQ sp st ys what).2 * tN sp st ys what - (valQ sp st ys what).1 * tD st ys what = 0 := st_zero x1 a2 rfl
  rw [h0, Int.mul_zero] at hm
  have hc := st_cross (n1 := tN sp st (exH what sp st (valQ sp st ys what).1 (valQ sp st ys what).2 high rows) what) (d1 := tD st (exH what sp st (valQ sp st ys what).1 (valQ sp st ys what).2 high rows) what) x1
  have hs := st_sgn (sg := sgn high) x2 a2 hc
  have hne : ¬ tN sp st (exH what sp st (valQ sp st ys what).1 (valQ sp st ys what).2 high rows) what * tD st ys what = tN sp st ys what * tD st (exH what sp st (valQ sp st ys what).1 (valQ sp st ys what).2 high rows) what := fun e => he (red_eq b1 b2 a1 a2 e)
  have hne2 : ¬ (valQ sp st ys what).2 * tN sp st (exH what sp st (valQ sp st ys what).1 (valQ sp st ys what).2 high rows) what - (valQ sp st ys what).1 * tD st (exH what sp st (valQ sp st ys what).1 (valQ sp st ys what).2 high rows) what = 0 := fun e => by
    have e' : (red (tN sp st ys what) (tD st ys what)).2 * tN sp st (exH what sp st (valQ sp st ys what).1 (valQ sp st ys what).2 high rows) what - (red (tN sp st ys what) (tD st ys what)).1 * tD st (exH what sp st (valQ sp st ys what).1 (valQ sp st ys what).2 high rows) what = 0 := e
    rw [e', Int.mul_zero] at hc
    have := Int.eq_of_mul_eq_mul_left (show (red (tN sp st ys what) (tD st ys what)).2 ≠ 0 by omega) (hc.trans (Int.mul_zero _).symm)
    omega
  have hpos : 0 < sgn high * ((valQ sp st ys what).2 * tN sp st (exH what sp st (valQ sp st ys what).1 (valQ sp st ys what).2 high rows) what - (valQ sp st ys what).1 * tD st (exH what sp st (valQ sp st ys what).1 (valQ sp st ys what).2 high rows) what) := by
    rcases sgn_cases high with e | e <;> rw [e] at hm ⊢ <;> omega
  have hx := hs.2 hpos
  clear hs hpos hne2 hne hc hm h0 hz
  generalize exH what sp st (valQ sp st ys what).1 (valQ sp st ys what).2 high rows = zs at *
  have hdd : tD st ys what * tD st zs what ≤ 10000000000000000 := (mulB (A := 100000000) (B := 100000000) ⟨by omega, a2'⟩ ⟨by omega, b2'⟩).2
  have hU : ∀ n d : Int, 0 ≤ n → n ≤ 100000000000 → 0 < d → n * 10000000000000000 / d ≤ 1000000000000000000000000000 ∧ 0 ≤ n * 10000000000000000 / d := fun n d h1 h2 h3 =>
    ⟨Int.le_trans (Int.ediv_le_self _ (by omega)) (by omega), Int.ediv_nonneg (by omega) (by omega)⟩
  have u1 := hU _ _ a1 a1' a2
  have u2 := hU _ _ b1 b1' b2
  unfold far
  cases high
  · simp only [sgn, if_false, Bool.false_eq_true] at hx ⊢
    have := floor_lt (M := 10000000000000000) b2 a2 (by rw [Int.mul_comm]; exact hdd) (show tN sp st zs what * tD st ys what < tN sp st ys what * tD st zs what by omega)
    omega
  · simp only [sgn, if_true, Int.one_mul] at hx ⊢
    have := floor_lt (M := 10000000000000000) a2 b2 hdd (show tN sp st ys what * tD st zs what < tN sp st zs what * tD st ys what by omega)
    omega
theorem exists_end (hv : HV sp st rows) (hw : 0 ≤ what ∧ what ≤ 2) (high : Bool) : ∃ ys, IsEnd sp st what high rows ys := by
  have key : ∀ n ys, far sp st what high ys = n → TV rows ys → ∃ ys, IsEnd sp st what high rows ys := by
    intro n
    induction n using Nat.strongRecOn with
    | _ n ih =>
      intro ys hn tv
      by_cases he : valQ sp st (exH what sp st (valQ sp st ys what).1 (valQ sp st ys what).2 high rows) what = valQ sp st ys what
      · exact ⟨ys, step_end hv tv hw he⟩
      · exact ih _ (hn ▸ step_far hv tv hw he) _ rfl (exH_tv hv)
  exact key _ _ rfl (ends_tv hv true)
/-- the number at an end -/
noncomputable def endV (sp st what : Int) (high : Bool) (rows : List (List (Int × Int))) : Int × Int := open Classical in if h : ∃ ys, IsEnd sp st what high rows ys then valQ sp st (Classical.choose h) what else (0, 0)
theorem endV_eq (hv : HV sp st rows) (h : IsEnd sp st what high rows ys) : valQ sp st ys what = endV sp st what high rows := by
  have hx : ∃ ys, IsEnd sp st what high rows ys := ⟨ys, h⟩
  unfold endV
  rw [dif_pos hx]
  exact h.uniq hv (Classical.choose_spec hx)
end
end Go.Proofs.Ytgihklgpehfbpaa
namespace Go.Proofs.Ytgihklgpehfbpaa
open Go Go.TH
attribute [local irreducible] W WO pt
set_option maxRecDepth 10000
set_option maxHeartbeats 2000000
theorem val_bd {sp st what : Int} {rows : List (List (Int × Int))} {ys : List (List Int)} (hv : HV sp st rows) (tv : TV rows ys) : Bd (valQ sp st ys what).1 (valQ sp st ys what).2 := by
  obtain ⟨⟨a1, a1'⟩, a2, a2'⟩ := tN_bound hv tv what
  obtain ⟨x1, x2, x3, x4, x5⟩ := red_cross a1 a2
  unfold Bd valQ
  omega
theorem pair_eq {a b : Int × Int} (h : (a.1, a.2) = (b.1, b.2)) : a = b := by cases a; cases b; exact h
theorem pair_ne {a b : Int × Int} (h : ¬ (a.1, a.2) = (b.1, b.2)) : a ≠ b := fun e => h (by rw [e])
/-- what the pieces of a table say -/
def tbP (v : Value) (rv : List Value) (ys : List (List Int)) (n : Nat) : List HP := [OwC 53 1 v n rv, RowsE encI 2 1 rv ys]
theorem c_end (w : World) (p : Addr) (sp st what : Int) (high : Bool) (o : Value) (rv : List Value) (rows : List (List (Int × Int))) (hP : RdC w.heap.size w p (planCs sp st o what)) (hR : RdR encP 2 w.heap.size w o rv rows) (hv : HV sp st rows) (hw : 0 ≤ what ∧ what ≤ 2) :
    Ct Try.prog 50 [.pointer (some p), .int .i64 (sgn high)].toArray w fun v w' => ∃ Hq, (∃ x : Value × List Value × List (List Int), (v = .tuple #[x.1, .agg (encP (endV sp st what high rows)).toArray] ∧ IsEnd sp st what high rows x.2.2) ∧ Hq = [OwC 53 1 x.1 rows.length x.2.1, RowsE encI 2 1 x.2.1 x.2.2]) ∧ Inv w [] Hq w' := by
  refine Ct.ofI mixed tyTab Try.func50 rfl rfl ?_
  replace hR : RdR encP 2 (fnCx mixed tyTab Try.f50.ntmps w).B (fnCx mixed tyTab Try.f50.ntmps w).w0 o rv rows := hR
  replace hP : RdC (fnCx mixed tyTab Try.f50.ntmps w).B (fnCx mixed tyTab Try.f50.ntmps w).w0 p (planCs sp st o what) := hP
  have hPp := hP.part (us := [.int .i64 sp, .int .i64 st, o]) (fun j v h => by simp only [planCs]; exact part3 h)
  have hs := hv.small
  refine W.sreg ?_
  refine WO.p rfl rfl ?_
  refine WO.alloc rfl rfl rfl (fun b1 hb1 => ?_)
  refine WO.nil ?_
  refine W.scope ?_
  refine W.sreg ?_
  refine WO.p rfl rfl (WO.p rfl rfl (WO.field0 rfl rfl rfl ?_))
  refine' WO.loadA (vs := _) rfl rfl ?hc ?hl rfl ?_
  case hc => (first | exact hPp.cells)
  case hl => rfl
  refine WO.call (Post := fun v Hq => ∃ rv', Hq = [OwC 53 1 v rows.length rv', RowsE encI 2 1 rv' (endsOf true rows)]) rfl Try.call51 (fun L w hi => c_pick w sp st o rv rows _ true ch_65 (hR.later hi) hs.1 hs.2) rfl ?_
  rintro v1 _ ⟨rv1, rfl⟩
  refine WO.p rfl rfl ?_
  refine WO.nil ?_
  refine W.sreg ?_
  refine WO.p rfl rfl (WO.p rfl rfl ?_)
  refine WO.callR rfl Try.call42 (fun L w hi => c_value w p sp st what o v1 rv rv1 rows (endsOf true rows) (hP.later hi) (hR.later hi) (RdR.of_ow encI_ok (by repeat (first | exact Pick.head | apply Pick.tail)) (by repeat (first | exact Pick.head | apply Pick.tail)) hi) hv (ends_tv hv true) hw) rfl ?_
  refine WO.alloc rfl rfl rfl (fun b2 hb2 => ?_)
  refine WO.storeA rfl rfl rfl rfl Pick.head rfl rfl ?_
  refine WO.nil ?_
  refine W.seq ?_
  refine W.label ?_
  refine W.seq ?_
  refine W.block ?_
  refine W.loop3 (fun (ys : List (List Int)) (v : Value) (rv' : List Value) => TV rows ys)
    (fun (ys : List (List Int)) (v : Value) (rv' : List Value) => [(7, .pointer (some ⟨b2, 0, none⟩)), (6, v), (5, .pointer (some ⟨b1, 0, none⟩)), (1, .int .i64 (sgn high)), (0, .pointer (some p))])
    (fun (ys : List (List Int)) (v : Value) (rv' : List Value) => [pt b2 (.cells #[.int .i64 (valQ sp st ys what).1, .int .i64 (valQ sp st ys what).2] 29 (0, 0)), OwC 53 1 v rows.length rv', RowsE encI 2 1 rv' ys, pt b1 (.cells #[.int .i64 0, .int .i64 0] 29 (0, 0))])
    (fun (ys : List (List Int)) (v : Value) (rv' : List Value) => far sp st what high ys) (endsOf true rows) v1 rv1
    (by exact ends_tv hv true) ⟨rfl, rfl, rfl, rfl, rfl, trivial⟩ (by repeat (first | exact Sub.nil | refine Sub.cons (by repeat (first | exact Pick.head | apply Pick.tail)) ?_)) ?_
  rintro ys v rv' tv
  refine W.block ?_
  refine W.sreg ?_
  refine WO.p rfl rfl (WO.loadA rfl rfl (Cells.own Pick.head) rfl rfl (WO.p rfl rfl ?_))
  refine WO.call (Post := fun v Hq => ∃ x : Value × List Value, v = .tuple #[x.1, .int .i64 (partS what sp st (valQ sp st ys what).1 (valQ sp st ys what).2 high rows rows.length)] ∧ Hq = [OwC 53 1 x.1 rows.length x.2, RowsE encI 2 1 x.2 (exH what sp st (valQ sp st ys what).1 (valQ sp st ys what).2 high rows)]) rfl Try.call48 (fun L w hi => c_excess w p sp st what _ _ high o rv rows (hP.later hi) (hR.later hi) hv hw (val_bd hv tv)) rfl ?_
  rintro _ _ ⟨⟨v2, rv2⟩, rfl, rfl⟩
  refine WO.p rfl rfl (WO.p rfl rfl (WO.p rfl rfl (WO.p rfl rfl (WO.p rfl rfl ?_))))
  refine WO.nil ?_
  refine W.sreg ?_
  refine WO.p rfl rfl (WO.p rfl rfl ?_)
  refine WO.callR rfl Try.call42 (fun L w hi => c_value w p sp st what o v2 rv rv2 rows (exH what sp st (valQ sp st ys what).1 (valQ sp st ys what).2 high rows) (hP.later hi) (hR.later hi) (RdR.of_ow encI_ok (by repeat (first | exact Pick.head | apply Pick.tail)) (by repeat (first | exact Pick.head | apply Pick.tail)) hi) hv (exH_tv hv) hw) rfl ?_
  refine WO.alloc rfl rfl rfl (fun b3 hb3 => ?_)
  refine WO.storeA rfl rfl rfl rfl Pick.head rfl rfl ?_
  refine WO.nil ?_
  refine W.seq ?_
  refine W.sreg ?_
  refine WO.loadA rfl rfl (Cells.own Pick.head) rfl rfl (WO.loadA rfl rfl (Cells.own (Pick.tail (Pick.tail (Pick.tail (Pick.head))))) rfl rfl ?_)
  refine WO.eqT rfl rfl (eq29 _ _ _ _) rfl ?_
  refine WO.nil ?_
  refine W.cond_bl rfl (fun c1 => ?_) (fun c1 => ?_)
  · first
    | (exfalso; omega)
    | (refine W.exit (blk_other rfl (blk_same ?_))
       refine W.seq ?_
       have he := step_end hv tv hw (pair_eq c1)
       rw [endV_eq hv he]
       refine W.drawD 3 [.r 0 [], .b 1 [], .r 2 []] [] (A0 := [_]) (H0 := [_, _, _, _, _, _]) (.cons (Pick.tail (Pick.tail (Pick.tail (Pick.tail (Pick.tail (Pick.tail .head)))))) (.cons .head (.cons .head (.cons .head (.cons .head (.cons .head (.cons .head .nil))))))) (by kernel_rfl) ?_ ?_
       · exact (ALok.r (ALok.b (ALok.r ALok.nil)))
       refine' DT.r rfl rfl rfl ?hq ?_
       case hq =>
         refine WO.p rfl rfl ?_
         exact WO.nil ⟨rfl, rfl⟩
       refine' DT.b rfl rfl rfl ?hq ?_
       case hq =>
         refine WO.loadA rfl rfl (Cells.own (Pick.tail (Pick.tail (Pick.tail (Pick.head))))) rfl rfl ?_
         exact WO.nil ⟨rfl, rfl⟩
       refine' DT.r rfl rfl rfl ?hq ?_
       case hq =>
         refine WO.p rfl rfl ?_
         exact WO.nil ⟨rfl, rfl⟩
       refine DT.nil [_, _, _, _, _, _, _] rfl ?_
       refine WO.storeA rfl rfl rfl rfl Pick.head rfl rfl ?_
       refine WO.nil ?_
       refine W.ret ?_
       exact fin.ret (Res.two rfl (RV.tmp rfl) (RV.cell rfl rfl rfl (Cells.own Pick.head))) ⟨(_, _, ys), ⟨rfl, he⟩, fun h hs => Sub.sat (.cons (by repeat (first | exact Pick.head | apply Pick.tail)) (.cons (by repeat (first | exact Pick.head | apply Pick.tail)) .nil)) hs⟩)
  · first
    | (exfalso; omega)
    | (refine W.skip ?_
       refine W.drawD 3 [.r 0 [], .b 1 [6], .r 2 [6]] [6] (A0 := [_]) (H0 := [_, _, _, _, _, _]) (.cons (Pick.tail (Pick.tail (Pick.tail .head))) (.cons .head (.cons .head (.cons .head (.cons .head (.cons .head (.cons .head .nil))))))) (by kernel_rfl) ?_ ?_
       · exact (ALok.r (ALok.b (ALok.r ALok.nil)))
       refine' DT.r rfl rfl rfl ?hq ?_
       case hq =>
         refine WO.p rfl rfl ?_
         exact WO.nil ⟨rfl, rfl⟩
       refine' DT.b rfl rfl rfl ?hq ?_
       case hq =>
         refine WO.loadA rfl rfl (Cells.own Pick.head) rfl rfl ?_
         exact WO.nil ⟨rfl, rfl⟩
       refine' DT.r rfl rfl rfl ?hq ?_
       case hq =>
         refine WO.p rfl rfl ?_
         exact WO.nil ⟨rfl, rfl⟩
       refine DT.nil [_, _, _, _, _, _, _] rfl ?_
       refine WO.storeA rfl rfl rfl rfl Pick.head rfl rfl ?_
       refine WO.nil ?_
       refine' ⟨(exH what sp st (valQ sp st ys what).1 (valQ sp st ys what).2 high rows), v2, rv2, ?hp, ?hmu, ⟨rfl, rfl, rfl, rfl, rfl, trivial⟩, ?hS⟩
       case hS => repeat (first | exact Sub.nil | refine Sub.cons (by repeat (first | exact Pick.head | apply Pick.tail)) ?_)
       case hp => exact exH_tv hv
       case hmu => exact step_far hv tv hw (pair_ne c1))
end Go.Proofs.Ytgihklgpehfbpaa
namespace Go.Proofs.Ytgihklgpehfbpaa
open Go Go.TH
attribute [local irreducible] W WO pt
set_option maxRecDepth 10000
set_option maxHeartbeats 2000000
/-- what Span answers -/
noncomputable def spanV (sp st what : Int) (high : Bool) (rows : List (List (Int × Int))) : Int × Int := if planE sp st rows what = 0 then endV sp st what high rows else (0, 0)
noncomputable def spanR (sp st what : Int) (rows : List (List (Int × Int))) : Value := .tuple #[.agg (encP (spanV sp st what false rows) ++ encP (spanV sp st what true rows)).toArray, .int .i64 (planE sp st rows what)]
theorem spanR_0 {sp st what : Int} {rows : List (List (Int × Int))} (h : ¬ planE sp st rows what ≠ 0) : .tuple #[.agg (encP (endV sp st what false rows) ++ encP (endV sp st what true rows)).toArray, .int .i64 0] = spanR sp st what rows := by
  have h' := Decidable.not_not.1 h
  unfold spanR spanV; rw [if_pos h', if_pos h', h']
theorem spanR_1 {sp st what : Int} {rows : List (List (Int × Int))} (h : planE sp st rows what ≠ 0) : .tuple #[.agg (encP (0, 0) ++ encP (0, 0)).toArray, .int .i64 (planE sp st rows what)] = spanR sp st what rows := by
  unfold spanR spanV; rw [if_neg h, if_neg h]
theorem c_Span (w : World) (sp st what : Int) (o : Value) (rv : List Value) (rows : List (List (Int × Int))) (hR : RdR encP 2 w.heap.size w o rv rows) :
    Ret Try.prog 25 [.agg #[.int .i64 sp, .int .i64 st, o], .int .i64 what].toArray w (spanR sp st what rows) := by
  refine Ret.of mixed tyTab Try.func25 rfl rfl ?_
  replace hR : RdR encP 2 (fnCx mixed tyTab Try.f25.ntmps w).B (fnCx mixed tyTab Try.f25.ntmps w).w0 o rv rows := hR
  refine W.sreg ?_
  refine WO.boxA rfl rfl (fun b1 hb1 => ?_)
  refine WO.alloc rfl rfl rfl (fun b2 hb2 => ?_)
  refine WO.p rfl rfl ?_
  refine WO.nil ?_
  refine W.sreg ?_
  refine WO.loadA rfl rfl (Cells.own (Pick.tail (Pick.head))) rfl rfl (WO.p rfl rfl ?_)
  refine WO.call (Post := fun v Hq => ∃ pv, v = .tuple #[pv, .int .i64 (planE sp st rows what)] ∧ Hq = [PtrP pv (planE sp st rows what) (planCs sp st o what) 89]) rfl Try.call41 (fun L w hi => c_newPlan w sp st o rv rows what (hR.later hi)) rfl ?_
  rintro _ _ ⟨pv, rfl, rfl⟩
  refine WO.p rfl rfl (WO.p rfl rfl (WO.p rfl rfl (WO.p rfl rfl (WO.p rfl rfl ?_))))
  refine WO.nil ?_
  refine W.seq ?_
  refine W.sreg ?_
  refine WO.p rfl rfl (WO.p rfl rfl ?_)
  refine WO.nil ?_
  refine W.cond_bl rfl (fun c1 => ?_) (fun c1 => ?_)
  · first
    | (exfalso; omega)
    | (refine W.sreg ?_
       refine' WO.build (cs := _) rfl rfl rfl ?hf rfl ?_
       case hf => (conv => lhs; simp [-List.getD_eq_getElem?_getD, fillL, vcl, wrl, TTab.pl?.lget']) <;> rfl
       refine WO.p rfl rfl (WO.storeA rfl rfl rfl rfl (Pick.tail (Pick.head)) rfl rfl (WO.p rfl rfl ?_))
       refine WO.nil ?_
       refine W.ret ?_
       refine fin.ret (Res.two rfl (RV.cell rfl rfl rfl (Cells.own Pick.head)) (RV.tmp rfl)) ?_
       first | exact spanR_1 (by assumption) | exact spanR_0 (by assumption))
  · first
    | (exfalso; omega)
    | (refine W.skip ?_
       have hpo := planE_ok (sp := sp) (st := st) (rows := rows) (what := what) (by omega)
       refine W.chgE (PtrP.open (by repeat (first | exact Pick.head | apply Pick.tail)) (by omega)) ?_
       rintro pb rfl
       refine W.sreg ?_
       refine WO.p rfl rfl ?_
       refine WO.call (Post := fun v Hq => ∃ x : Value × List Value × List (List Int), (v = .tuple #[x.1, .agg (encP (endV sp st what false rows)).toArray] ∧ IsEnd sp st what false rows x.2.2) ∧ Hq = [OwC 53 1 x.1 rows.length x.2.1, RowsE encI 2 1 x.2.1 x.2.2]) rfl Try.call50 (fun L w hi => c_end w _ sp st what false o rv rows (RdC.own (b := pb) (by repeat (first | exact Pick.head | apply Pick.tail)) hi) (hR.later hi) hpo.1 hpo.2) rfl ?_
       rintro _ _ ⟨⟨v1, rv1, ys1⟩, ⟨rfl, h1⟩, rfl⟩
       refine WO.p rfl rfl (WO.p rfl rfl (WO.p rfl rfl ?_))
       refine WO.alloc rfl rfl rfl (fun b3 hb3 => ?_)
       refine WO.p rfl rfl (WO.storeA rfl rfl rfl rfl Pick.head rfl rfl ?_)
       refine WO.nil ?_
       refine W.sreg ?_
       refine WO.p rfl rfl ?_
       refine WO.call (Post := fun v Hq => ∃ x : Value × List Value × List (List Int), (v = .tuple #[x.1, .agg (encP (endV sp st what true rows)).toArray] ∧ IsEnd sp st what true rows x.2.2) ∧ Hq = [OwC 53 1 x.1 rows.length x.2.1, RowsE encI 2 1 x.2.1 x.2.2]) rfl Try.call50 (fun L w hi => c_end w _ sp st what true o rv rows (RdC.own (b := pb) (by repeat (first | exact Pick.head | apply Pick.tail)) hi) (hR.later hi) hpo.1 hpo.2) rfl ?_
       rintro _ _ ⟨⟨v2, rv2, ys2⟩, ⟨rfl, h2⟩, rfl⟩
       refine WO.p rfl rfl (WO.p rfl rfl (WO.p rfl rfl ?_))
       refine WO.alloc rfl rfl rfl (fun b4 hb4 => ?_)
       refine WO.p rfl rfl (WO.storeA rfl rfl rfl rfl Pick.head rfl rfl ?_)
       refine WO.nil ?_
       refine W.sreg ?_
       refine WO.loadA rfl rfl (Cells.own (Pick.tail (Pick.tail (Pick.tail (Pick.head))))) rfl rfl (WO.loadA rfl rfl (Cells.own Pick.head) rfl rfl ?_)
       refine' WO.build (cs := _) rfl rfl rfl ?hf rfl ?_
       case hf => (conv => lhs; simp [-List.getD_eq_getElem?_getD, fillL, vcl, wrl, TTab.pl?.lget']) <;> rfl
       refine WO.storeA rfl rfl rfl rfl (Pick.tail (Pick.tail (Pick.tail (Pick.tail (Pick.tail (Pick.tail (Pick.tail (Pick.head)))))))) rfl rfl (WO.p rfl rfl ?_)
       refine WO.nil ?_
       refine W.ret ?_
       refine fin.ret (Res.two rfl (RV.cell rfl rfl rfl (Cells.own Pick.head)) (RV.tmp rfl)) ?_
       first | exact spanR_1 (by assumption) | exact spanR_0 (by assumption))
theorem cbP {sp st what num den : Int} {high : Bool} {rows : List (List (Int × Int))} (h : planE sp st rows what ≠ 0) : planE sp st rows what = chkBound sp st what num den high rows := by
  unfold planE at *
  split at h
  · rename_i h1; rw [if_pos h1]; exact cb1 h1
  · rename_i h1
    split at h
    · rename_i h2; rw [if_neg h1, if_pos h2]; exact cb2 h1 h2
    · exact absurd rfl h
theorem plan_no {sp st what : Int} {rows : List (List (Int × Int))} (h : ¬ planE sp st rows what ≠ 0) : ¬ chkHull sp st rows ≠ 0 ∧ ¬ (what < 0 ∨ 2 < what) := by
  have := planE_ok (Decidable.not_not.1 h)
  exact ⟨by simpa using this.1.to, by omega⟩
theorem isB_no {num den : Int} (h : num < 0 ∨ 100000000000 < num ∨ den < 1 ∨ 100000000 < den) : isB (num, den) = false := by
  unfold isB; rw [decide_eq_false_iff_not]; intro h'; dsimp only at h'; omega
theorem isB_ne {num den : Int} (h : ((red num den).1, (red num den).2) ≠ (num, den)) : isB (num, den) = false := by
  unfold isB; rw [decide_eq_false_iff_not]; rintro ⟨_, _, _, _, h'⟩; exact h h'
theorem isB_yes {num den : Int} (h1 : ¬ num < 0) (h2 : ¬ 100000000000 < num) (h3 : ¬ den < 1) (h4 : ¬ 100000000 < den) (h : ¬ ((red num den).1, (red num den).2) ≠ (num, den)) : isB (num, den) = true := by
  unfold isB; rw [decide_eq_true_iff]; exact ⟨by dsimp only; omega, by dsimp only; omega, by dsimp only; omega, by dsimp only; omega, Decidable.not_not.1 h⟩
theorem sgn_t {high : Bool} (h : high = true) : sgn high = 1 := by rw [h]; rfl
theorem sgn_f {high : Bool} (h : high = false) : sgn high = -1 := by rw [h]; rfl
theorem c_CheckBound (w : World) (sp st what num den : Int) (high : Bool) (o : Value) (rv : List Value) (rows : List (List (Int × Int))) (hR : RdR encP 2 w.heap.size w o rv rows) :
    Ret Try.prog 22 [.agg #[.int .i64 sp, .int .i64 st, o], .int .i64 what, .agg #[.int .i64 num, .int .i64 den], .bool high].toArray w (.int .i64 (chkBound sp st what num den high rows)) := by
  refine Ret.of mixed tyTab Try.func22 rfl rfl ?_
  replace hR : RdR encP 2 (fnCx mixed tyTab Try.f22.ntmps w).B (fnCx mixed tyTab Try.f22.ntmps w).w0 o rv rows := hR
  refine W.sreg ?_
  refine WO.boxA rfl rfl (fun b1 hb1 => ?_)
  refine WO.boxA rfl rfl (fun b2 hb2 => ?_)
  refine WO.p rfl rfl ?_
  refine WO.nil ?_
  refine W.sreg ?_
  refine WO.loadA rfl rfl (Cells.own (Pick.tail (Pick.head))) rfl rfl (WO.p rfl rfl ?_)
  refine WO.call (Post := fun v Hq => ∃ pv, v = .tuple #[pv, .int .i64 (planE sp st rows what)] ∧ Hq = [PtrP pv (planE sp st rows what) (planCs sp st o what) 89]) rfl Try.call41 (fun L w hi => c_newPlan w sp st o rv rows what (hR.later hi)) rfl ?_
  rintro _ _ ⟨pv, rfl, rfl⟩
  refine WO.p rfl rfl (WO.p rfl rfl (WO.p rfl rfl (WO.p rfl rfl (WO.p rfl rfl ?_))))
  refine WO.nil ?_
  refine W.seq ?_
  refine W.block ?_
  refine W.sreg ?_
  refine WO.p rfl rfl (WO.p rfl rfl (WO.p rfl rfl ?_))
  refine WO.nil ?_
  refine W.cond_bl rfl (fun c1 => ?_) (fun c1 => ?_)
  · first
    | (exfalso; omega)
    | (refine W.sreg ?_
       refine WO.p rfl rfl (WO.p rfl rfl ?_)
       refine WO.nil ?_
       refine W.ret ?_
       refine fin.ret (Res.one rfl (RV.tmp rfl)) ?_
       refine congrArg (Value.int .i64) ?_
       first | exact cbP (by assumption) | exact cb3 (plan_no (by assumption)).1 (plan_no (by assumption)).2 (isB_no (by omega)) | exact cb3 (plan_no (by assumption)).1 (plan_no (by assumption)).2 (isB_ne (by assumption)) | exact cb4 (plan_no (by assumption)).1 (plan_no (by assumption)).2 (isB_yes (by assumption) (by assumption) (by assumption) (by assumption) (by assumption)) (by first | exact .inl ⟨by assumption, by omega⟩ | exact .inr ⟨by assumption, by omega⟩) | exact cb5 (plan_no (by assumption)).1 (plan_no (by assumption)).2 (isB_yes (by assumption) (by assumption) (by assumption) (by assumption) (by assumption)) (by rintro (h | h) <;> first | omega | (simp_all; done)))
  · first
    | (exfalso; omega)
    | (refine W.seq ?_
       refine W.drawD 25 [.r 0 [], .b 1 [], .r 2 [], .r 3 [], .r 4 [], .b 5 [], .r 6 [], .r 7 [], .r 8 [], .r 9 [], .b 10 [], .r 11 [], .r 12 [], .r 13 [], .r 14 [], .b 15 [], .r 16 [], .r 17 [], .r 18 [], .r 19 [], .b 20 [], .r 21 [], .b 22 [], .b 23 [], .b 24 []] [] (A0 := []) (Sub.refl _) (by kernel_rfl) ?_ ?_
       · exact (ALok.r (ALok.b (ALok.r (ALok.r (ALok.r (ALok.b (ALok.r (ALok.r (ALok.r (ALok.r (ALok.b (ALok.r (ALok.r (ALok.r (ALok.r (ALok.b (ALok.r (ALok.r (ALok.r (ALok.r (ALok.b (ALok.r (ALok.b (ALok.b (ALok.b ALok.nil)))))))))))))))))))))))))
       refine' DT.r rfl rfl rfl ?hq ?_
       case hq =>
         refine WO.field0 rfl rfl rfl ?_
         exact WO.nil ⟨rfl, rfl⟩
       refine' DT.b rfl rfl rfl ?hq ?_
       case hq =>
         refine WO.load rfl rfl (Cell.own (Pick.tail (Pick.head)) rfl) rfl ?_
         exact WO.nil ⟨rfl, rfl⟩
       refine' DT.r rfl rfl rfl ?hq ?_
       case hq =>
         refine WO.p rfl rfl ?_
         exact WO.nil ⟨rfl, rfl⟩
       refine' DT.rB rfl rfl rfl ?hq (fun c2 => ?_) (fun c2 => ?_)
       case hq =>
         refine WO.p rfl rfl ?_
         exact WO.nil ⟨rfl, rfl⟩
       · first
         | (exfalso; omega)
         | (refine' DT.r rfl rfl rfl ?hq ?_
            case hq =>
              refine WO.no rfl rfl ?_
              exact WO.nil ⟨rfl, rfl⟩
            refine' DT.b rfl rfl rfl ?hq ?_
            case hq =>
              refine WO.no rfl rfl ?_
              exact WO.nil ⟨rfl, rfl⟩
            refine' DT.r rfl rfl rfl ?hq ?_
            case hq =>
              refine WO.no rfl rfl ?_
              exact WO.nil ⟨rfl, rfl⟩
            refine' DT.r rfl rfl rfl ?hq ?_
            case hq =>
              refine WO.p rfl rfl ?_
              exact WO.nil ⟨rfl, rfl⟩
            refine' DT.r rfl rfl rfl ?hq ?_
            case hq =>
              refine WO.p rfl rfl ?_
              exact WO.nil ⟨rfl, rfl⟩
            refine' DT.r rfl rfl rfl ?hq ?_
            case hq =>
              refine WO.no rfl rfl ?_
              exact WO.nil ⟨rfl, rfl⟩
            refine' DT.b rfl rfl rfl ?hq ?_
            case hq =>
              refine WO.no rfl rfl ?_
              exact WO.nil ⟨rfl, rfl⟩
            refine' DT.r rfl rfl rfl ?hq ?_
            case hq =>
              refine WO.no rfl rfl ?_
              exact WO.nil ⟨rfl, rfl⟩
            refine' DT.r rfl rfl rfl ?hq ?_
            case hq =>
              refine WO.p rfl rfl ?_
              exact WO.nil ⟨rfl, rfl⟩
            refine' DT.r rfl rfl rfl ?hq ?_
            case hq =>
              refine WO.p rfl rfl ?_
              exact WO.nil ⟨rfl, rfl⟩
            refine' DT.r rfl rfl rfl ?hq ?_
            case hq =>
              refine WO.no rfl rfl ?_
              exact WO.nil ⟨rfl, rfl⟩
            refine' DT.b rfl rfl rfl ?hq ?_
            case hq =>
              refine WO.no rfl rfl ?_
              exact WO.nil ⟨rfl, rfl⟩
            refine' DT.r rfl rfl rfl ?hq ?_
            case hq =>
              refine WO.no rfl rfl ?_
              exact WO.nil ⟨rfl, rfl⟩
            refine' DT.r rfl rfl rfl ?hq ?_
            case hq =>
              refine WO.p rfl rfl ?_
              exact WO.nil ⟨rfl, rfl⟩
            refine' DT.r rfl rfl rfl ?hq ?_
            case hq =>
              refine WO.p rfl rfl ?_
              exact WO.nil ⟨rfl, rfl⟩
            refine' DT.r rfl rfl rfl ?hq ?_
            case hq =>
              refine WO.no rfl rfl ?_
              exact WO.nil ⟨rfl, rfl⟩
            refine' DT.b rfl rfl rfl ?hq ?_
            case hq =>
              refine WO.no rfl rfl ?_
              exact WO.nil ⟨rfl, rfl⟩
            refine' DT.r rfl rfl rfl ?hq ?_
            case hq =>
              refine WO.no rfl rfl ?_
              exact WO.nil ⟨rfl, rfl⟩
            refine' DT.b rfl rfl rfl ?hq ?_
            case hq =>
              refine WO.no rfl rfl ?_
              exact WO.nil ⟨rfl, rfl⟩
            refine' DT.b rfl rfl rfl ?hq ?_
            case hq =>
              refine WO.no rfl rfl ?_
              exact WO.nil ⟨rfl, rfl⟩
            refine' DT.b rfl rfl rfl ?hq ?_
            case hq =>
              refine WO.no rfl rfl ?_
              exact WO.nil ⟨rfl, rfl⟩
            refine DT.nil [_, _, _] rfl ?_
            refine WO.no rfl rfl (WO.p rfl rfl (WO.p rfl rfl ?_))
            refine WO.nil ?_
            refine W.cond_t rfl ?_
            refine W.sreg ?_
            refine WO.p rfl rfl ?_
            refine WO.nil ?_
            refine W.ret ?_
            refine fin.ret (Res.one rfl (RV.tmp rfl)) ?_
            refine congrArg (Value.int .i64) ?_
            first | exact cbP (by assumption) | exact cb3 (plan_no (by assumption)).1 (plan_no (by assumption)).2 (isB_no (by omega)) | exact cb3 (plan_no (by assumption)).1 (plan_no (by assumption)).2 (isB_ne (by assumption)) | exact cb4 (plan_no (by assumption)).1 (plan_no (by assumption)).2 (isB_yes (by assumption) (by assumption) (by assumption) (by assumption) (by assumption)) (by first | exact .inl ⟨by assumption, by omega⟩ | exact .inr ⟨by assumption, by omega⟩) | exact cb5 (plan_no (by assumption)).1 (plan_no (by assumption)).2 (isB_yes (by assumption) (by assumption) (by assumption) (by assumption) (by assumption)) (by rintro (h | h) <;> first | omega | (simp_all; done)))
       · first
         | (exfalso; omega)
         | (refine' DT.r rfl rfl rfl ?hq ?_
            case hq =>
              refine WO.go' rfl (WO.field0 rfl rfl rfl ?_)
              exact WO.nil ⟨rfl, rfl⟩
            refine' DT.b rfl rfl rfl ?hq ?_
            case hq =>
              refine WO.go' rfl (WO.load rfl rfl (Cell.own (Pick.tail (Pick.head)) rfl) rfl ?_)
              exact WO.nil ⟨rfl, rfl⟩
            refine' DT.r rfl rfl rfl ?hq ?_
            case hq =>
              refine WO.pg rfl rfl rfl ?_
              exact WO.nil ⟨rfl, rfl⟩
            refine' DT.r rfl rfl rfl ?hq ?_
            case hq =>
              refine WO.p rfl rfl ?_
              exact WO.nil ⟨rfl, rfl⟩
            refine' DT.rB rfl rfl rfl ?hq (fun c3 => ?_) (fun c3 => ?_)
            case hq =>
              refine WO.p rfl rfl ?_
              exact WO.nil ⟨rfl, rfl⟩
            · first
              | (exfalso; omega)
              | (refine' DT.r rfl rfl rfl ?hq ?_
                 case hq =>
                   refine WO.no rfl rfl ?_
                   exact WO.nil ⟨rfl, rfl⟩
                 refine' DT.b rfl rfl rfl ?hq ?_
                 case hq =>
                   refine WO.no rfl rfl ?_
                   exact WO.nil ⟨rfl, rfl⟩
                 refine' DT.r rfl rfl rfl ?hq ?_
                 case hq =>
                   refine WO.no rfl rfl ?_
                   exact WO.nil ⟨rfl, rfl⟩
                 refine' DT.r rfl rfl rfl ?hq ?_
                 case hq =>
                   refine WO.p rfl rfl ?_
                   exact WO.nil ⟨rfl, rfl⟩
                 refine' DT.r rfl rfl rfl ?hq ?_
                 case hq =>
                   refine WO.p rfl rfl ?_
                   exact WO.nil ⟨rfl, rfl⟩
                 refine' DT.r rfl rfl rfl ?hq ?_
                 case hq =>
                   refine WO.no rfl rfl ?_
                   exact WO.nil ⟨rfl, rfl⟩
                 refine' DT.b rfl rfl rfl ?hq ?_
                 case hq =>
                   refine WO.no rfl rfl ?_
                   exact WO.nil ⟨rfl, rfl⟩
                 refine' DT.r rfl rfl rfl ?hq ?_
                 case hq =>
                   refine WO.no rfl rfl ?_
                   exact WO.nil ⟨rfl, rfl⟩
                 refine' DT.r rfl rfl rfl ?hq ?_
                 case hq =>
                   refine WO.p rfl rfl ?_
                   exact WO.nil ⟨rfl, rfl⟩
                 refine' DT.r rfl rfl rfl ?hq ?_
                 case hq =>
                   refine WO.p rfl rfl ?_
                   exact WO.nil ⟨rfl, rfl⟩
                 refine' DT.r rfl rfl rfl ?hq ?_
                 case hq =>
                   refine WO.no rfl rfl ?_
                   exact WO.nil ⟨rfl, rfl⟩
                 refine' DT.b rfl rfl rfl ?hq ?_
                 case hq =>
                   refine WO.no rfl rfl ?_
                   exact WO.nil ⟨rfl, rfl⟩
                 refine' DT.r rfl rfl rfl ?hq ?_
                 case hq =>
                   refine WO.no rfl rfl ?_
                   exact WO.nil ⟨rfl, rfl⟩
                 refine' DT.b rfl rfl rfl ?hq ?_
                 case hq =>
                   refine WO.no rfl rfl ?_
                   exact WO.nil ⟨rfl, rfl⟩
                 refine' DT.b rfl rfl rfl ?hq ?_
                 case hq =>
                   refine WO.no rfl rfl ?_
                   exact WO.nil ⟨rfl, rfl⟩
                 refine' DT.b rfl rfl rfl ?hq ?_
                 case hq =>
                   refine WO.no rfl rfl ?_
                   exact WO.nil ⟨rfl, rfl⟩
                 refine DT.nil [_, _, _] rfl ?_
                 refine WO.no rfl rfl (WO.p rfl rfl (WO.p rfl rfl ?_))
                 refine WO.nil ?_
                 refine W.cond_t rfl ?_
                 refine W.sreg ?_
                 refine WO.p rfl rfl ?_
                 refine WO.nil ?_
                 refine W.ret ?_
                 refine fin.ret (Res.one rfl (RV.tmp rfl)) ?_
                 refine congrArg (Value.int .i64) ?_
                 first | exact cbP (by assumption) | exact cb3 (plan_no (by assumption)).1 (plan_no (by assumption)).2 (isB_no (by omega)) | exact cb3 (plan_no (by assumption)).1 (plan_no (by assumption)).2 (isB_ne (by assumption)) | exact cb4 (plan_no (by assumption)).1 (plan_no (by assumption)).2 (isB_yes (by assumption) (by assumption) (by assumption) (by assumption) (by assumption)) (by first | exact .inl ⟨by assumption, by omega⟩ | exact .inr ⟨by assumption, by omega⟩) | exact cb5 (plan_no (by assumption)).1 (plan_no (by assumption)).2 (isB_yes (by assumption) (by assumption) (by assumption) (by assumption) (by assumption)) (by rintro (h | h) <;> first | omega | (simp_all; done)))
            · first
              | (exfalso; omega)
              | (refine' DT.r rfl rfl rfl ?hq ?_
                 case hq =>
                   refine WO.go' rfl (WO.fieldL rfl rfl rfl ?_)
                   exact WO.nil ⟨rfl, rfl⟩
                 refine' DT.b rfl rfl rfl ?hq ?_
                 case hq =>
                   refine WO.go' rfl (WO.load rfl rfl (Cell.own (Pick.tail (Pick.head)) rfl) rfl ?_)
                   exact WO.nil ⟨rfl, rfl⟩
                 refine' DT.r rfl rfl rfl ?hq ?_
                 case hq =>
                   refine WO.pg rfl rfl rfl ?_
                   exact WO.nil ⟨rfl, rfl⟩
                 refine' DT.r rfl rfl rfl ?hq ?_
                 case hq =>
                   refine WO.p rfl rfl ?_
                   exact WO.nil ⟨rfl, rfl⟩
                 refine' DT.rB rfl rfl rfl ?hq (fun c4 => ?_) (fun c4 => ?_)
                 case hq =>
                   refine WO.p rfl rfl ?_
                   exact WO.nil ⟨rfl, rfl⟩
                 · first
                   | (exfalso; omega)
                   | (refine' DT.r rfl rfl rfl ?hq ?_
                      case hq =>
                        refine WO.no rfl rfl ?_
                        exact WO.nil ⟨rfl, rfl⟩
                      refine' DT.b rfl rfl rfl ?hq ?_
                      case hq =>
                        refine WO.no rfl rfl ?_
                        exact WO.nil ⟨rfl, rfl⟩
                      refine' DT.r rfl rfl rfl ?hq ?_
                      case hq =>
                        refine WO.no rfl rfl ?_
                        exact WO.nil ⟨rfl, rfl⟩
                      refine' DT.r rfl rfl rfl ?hq ?_
                      case hq =>
                        refine WO.p rfl rfl ?_
                        exact WO.nil ⟨rfl, rfl⟩
                      refine' DT.r rfl rfl rfl ?hq ?_
                      case hq =>
                        refine WO.p rfl rfl ?_
                        exact WO.nil ⟨rfl, rfl⟩
                      refine' DT.r rfl rfl rfl ?hq ?_
                      case hq =>
                        refine WO.no rfl rfl ?_
                        exact WO.nil ⟨rfl, rfl⟩
                      refine' DT.b rfl rfl rfl ?hq ?_
                      case hq =>
                        refine WO.no rfl rfl ?_
                        exact WO.nil ⟨rfl, rfl⟩
                      refine' DT.r rfl rfl rfl ?hq ?_
                      case hq =>
                        refine WO.no rfl rfl ?_
                        exact WO.nil ⟨rfl, rfl⟩
                      refine' DT.b rfl rfl rfl ?hq ?_
                      case hq =>
                        refine WO.no rfl rfl ?_
                        exact WO.nil ⟨rfl, rfl⟩
                      refine' DT.b rfl rfl rfl ?hq ?_
                      case hq =>
                        refine WO.no rfl rfl ?_
                        exact WO.nil ⟨rfl, rfl⟩
                      refine' DT.b rfl rfl rfl ?hq ?_
                      case hq =>
                        refine WO.no rfl rfl ?_
                        exact WO.nil ⟨rfl, rfl⟩
                      refine DT.nil [_, _, _] rfl ?_
                      refine WO.no rfl rfl (WO.p rfl rfl (WO.p rfl rfl ?_))
                      refine WO.nil ?_
                      refine W.cond_t rfl ?_
                      refine W.sreg ?_
                      refine WO.p rfl rfl ?_
                      refine WO.nil ?_
                      refine W.ret ?_
                      refine fin.ret (Res.one rfl (RV.tmp rfl)) ?_
                      refine congrArg (Value.int .i64) ?_
                      first | exact cbP (by assumption) | exact cb3 (plan_no (by assumption)).1 (plan_no (by assumption)).2 (isB_no (by omega)) | exact cb3 (plan_no (by assumption)).1 (plan_no (by assumption)).2 (isB_ne (by assumption)) | exact cb4 (plan_no (by assumption)).1 (plan_no (by assumption)).2 (isB_yes (by assumption) (by assumption) (by assumption) (by assumption) (by assumption)) (by first | exact .inl ⟨by assumption, by omega⟩ | exact .inr ⟨by assumption, by omega⟩) | exact cb5 (plan_no (by assumption)).1 (plan_no (by assumption)).2 (isB_yes (by assumption) (by assumption) (by assumption) (by assumption) (by assumption)) (by rintro (h | h) <;> first | omega | (simp_all; done)))
                 · first
                   | (exfalso; omega)
                   | (refine' DT.r rfl rfl rfl ?hq ?_
                      case hq =>
                        refine WO.go' rfl (WO.fieldL rfl rfl rfl ?_)
                        exact WO.nil ⟨rfl, rfl⟩
                      refine' DT.b rfl rfl rfl ?hq ?_
                      case hq =>
                        refine WO.go' rfl (WO.load rfl rfl (Cell.own (Pick.tail (Pick.head)) rfl) rfl ?_)
                        exact WO.nil ⟨rfl, rfl⟩
                      refine' DT.r rfl rfl rfl ?hq ?_
                      case hq =>
                        refine WO.pg rfl rfl rfl ?_
                        exact WO.nil ⟨rfl, rfl⟩
                      refine' DT.r rfl rfl rfl ?hq ?_
                      case hq =>
                        refine WO.p rfl rfl ?_
                        exact WO.nil ⟨rfl, rfl⟩
                      refine' DT.rB rfl rfl rfl ?hq (fun c5 => ?_) (fun c5 => ?_)
                      case hq =>
                        refine WO.p rfl rfl ?_
                        exact WO.nil ⟨rfl, rfl⟩
                      · first
                        | (exfalso; omega)
                        | (refine' DT.r rfl rfl rfl ?hq ?_
                           case hq =>
                             refine WO.no rfl rfl ?_
                             exact WO.nil ⟨rfl, rfl⟩
                           refine' DT.b rfl rfl rfl ?hq ?_
                           case hq =>
                             refine WO.no rfl rfl ?_
                             exact WO.nil ⟨rfl, rfl⟩
                           refine' DT.r rfl rfl rfl ?hq ?_
                           case hq =>
                             refine WO.no rfl rfl ?_
                             exact WO.nil ⟨rfl, rfl⟩
                           refine' DT.b rfl rfl rfl ?hq ?_
                           case hq =>
                             refine WO.no rfl rfl ?_
                             exact WO.nil ⟨rfl, rfl⟩
                           refine' DT.b rfl rfl rfl ?hq ?_
                           case hq =>
                             refine WO.no rfl rfl ?_
                             exact WO.nil ⟨rfl, rfl⟩
                           refine' DT.b rfl rfl rfl ?hq ?_
                           case hq =>
                             refine WO.no rfl rfl ?_
                             exact WO.nil ⟨rfl, rfl⟩
                           refine DT.nil [_, _, _] rfl ?_
                           refine WO.no rfl rfl (WO.p rfl rfl (WO.p rfl rfl ?_))
                           refine WO.nil ?_
                           refine W.cond_t rfl ?_
                           refine W.sreg ?_
                           refine WO.p rfl rfl ?_
                           refine WO.nil ?_
                           refine W.ret ?_
                           refine fin.ret (Res.one rfl (RV.tmp rfl)) ?_
                           refine congrArg (Value.int .i64) ?_
                           first | exact cbP (by assumption) | exact cb3 (plan_no (by assumption)).1 (plan_no (by assumption)).2 (isB_no (by omega)) | exact cb3 (plan_no (by assumption)).1 (plan_no (by assumption)).2 (isB_ne (by assumption)) | exact cb4 (plan_no (by assumption)).1 (plan_no (by assumption)).2 (isB_yes (by assumption) (by assumption) (by assumption) (by assumption) (by assumption)) (by first | exact .inl ⟨by assumption, by omega⟩ | exact .inr ⟨by assumption, by omega⟩) | exact cb5 (plan_no (by assumption)).1 (plan_no (by assumption)).2 (isB_yes (by assumption) (by assumption) (by assumption) (by assumption) (by assumption)) (by rintro (h | h) <;> first | omega | (simp_all; done)))
                      · first
                        | (exfalso; omega)
                        | (refine' DT.r rfl rfl rfl ?hq ?_
                           case hq =>
                             refine WO.go' rfl (WO.field0 rfl rfl rfl ?_)
                             exact WO.nil ⟨rfl, rfl⟩
                           refine' DT.b rfl rfl rfl ?hq ?_
                           case hq =>
                             refine WO.go' rfl (WO.load rfl rfl (Cell.own (Pick.tail (Pick.head)) rfl) rfl ?_)
                             exact WO.nil ⟨rfl, rfl⟩
                           refine' DT.r rfl rfl rfl ?hq ?_
                           case hq =>
                             refine WO.go' rfl (WO.fieldL rfl rfl rfl ?_)
                             exact WO.nil ⟨rfl, rfl⟩
                           refine' DT.b rfl rfl rfl ?hq ?_
                           case hq =>
                             refine WO.go' rfl (WO.load rfl rfl (Cell.own (Pick.tail (Pick.head)) rfl) rfl ?_)
                             exact WO.nil ⟨rfl, rfl⟩
                           refine' DT.b rfl rfl rfl ?hq ?_
                           case hq =>
                             refine WO.go' rfl ?_
                             refine WO.callR rfl Try.call47 (fun L w hi => c_fraction w num den (by omega) (by omega) (by unfold in64; omega) (by unfold in64; omega)) rfl ?_
                             exact WO.nil ⟨rfl, rfl⟩
                           refine' DT.b rfl rfl rfl ?hq ?_
                           case hq =>
                             refine WO.go' rfl (WO.loadA rfl rfl (Cells.own (Pick.tail (Pick.head))) rfl rfl ?_)
                             exact WO.nil ⟨rfl, rfl⟩
                           refine DT.nil [_, _, _] rfl ?_
                           refine WO.go' rfl ?_
                           refine WO.eqT rfl rfl (ne29 _ _ _ _) rfl ?_
                           refine WO.p rfl rfl (WO.p rfl rfl ?_)
                           refine WO.nil ?_
                           refine W.cond_bl rfl (fun c6 => ?_) (fun c6 => ?_)
                           · first
                             | (exfalso; omega)
                             | (refine W.sreg ?_
                                refine WO.p rfl rfl ?_
                                refine WO.nil ?_
                                refine W.ret ?_
                                refine fin.ret (Res.one rfl (RV.tmp rfl)) ?_
                                refine congrArg (Value.int .i64) ?_
                                first | exact cbP (by assumption) | exact cb3 (plan_no (by assumption)).1 (plan_no (by assumption)).2 (isB_no (by omega)) | exact cb3 (plan_no (by assumption)).1 (plan_no (by assumption)).2 (isB_ne (by assumption)) | exact cb4 (plan_no (by assumption)).1 (plan_no (by assumption)).2 (isB_yes (by assumption) (by assumption) (by assumption) (by assumption) (by assumption)) (by first | exact .inl ⟨by assumption, by omega⟩ | exact .inr ⟨by assumption, by omega⟩) | exact cb5 (plan_no (by assumption)).1 (plan_no (by assumption)).2 (isB_yes (by assumption) (by assumption) (by assumption) (by assumption) (by assumption)) (by rintro (h | h) <;> first | omega | (simp_all; done)))
                           · first
                             | (exfalso; omega)
                             | (refine W.skip ?_
                                refine W.sreg ?_
                                refine WO.p rfl rfl ?_
                                refine WO.nil ?_
                                refine W.seq ?_
                                refine W.sreg ?_
                                refine WO.p rfl rfl ?_
                                refine WO.nil ?_
                                refine W.cond rfl (fun c7 => ?_) (fun c7 => ?_)
                                · first
                                  | (exfalso; omega)
                                  | (refine W.region ?_
                                     refine WO.p rfl rfl ?_
                                     refine WO.nil ?_
                                     refine W.seq ?_
                                     have hpo := planE_ok (sp := sp) (st := st) (rows := rows) (what := what) (by omega)
                                     refine W.chgE (PtrP.open (by repeat (first | exact Pick.head | apply Pick.tail)) (by omega)) ?_
                                     rintro pb rfl
                                     refine W.sreg ?_
                                     refine WO.p rfl rfl (WO.loadA rfl rfl (Cells.own (Pick.tail (Pick.head))) rfl rfl (WO.p rfl rfl ?_))
                                     have hB : Bd num den := ⟨by omega, by omega, by omega, by omega⟩
                                     have hpB := hpo.1.partS hB what high (Nat.le_refl _)
                                     refine WO.call (Post := fun v Hq => ∃ x : Value × List Value, v = .tuple #[x.1, .int .i64 (partS what sp st num den high rows rows.length)] ∧ Hq = [OwC 53 1 x.1 rows.length x.2, RowsE encI 2 1 x.2 (exH what sp st num den high rows)]) rfl Try.call48 (fun L w hi => by have h := c_excess w ⟨pb, 0, none⟩ sp st what num den high o rv rows (RdC.own (b := pb) (by repeat (first | exact Pick.head | apply Pick.tail)) hi) (hR.later hi) hpo.1 hpo.2 hB; first | (rw [sgn_t (by assumption)] at h; exact h) | (rw [sgn_f (by assumption)] at h; exact h)) rfl ?_
                                     rintro _ _ ⟨⟨v2, rv2⟩, rfl, rfl⟩
                                     refine WO.p rfl rfl (WO.p rfl rfl (WO.p rfl rfl (WO.p rfl rfl (WO.p rfl rfl ?_))))
                                     refine WO.nil ?_
                                     refine W.sreg ?_
                                     refine WO.p rfl rfl (WO.p rfl rfl (WO.ar rfl rfl rfl (by (first | (unfold in64; omega))) rfl (WO.p rfl rfl ?_)))
                                     refine WO.nil ?_
                                     refine W.cond_bl rfl (fun c8 => ?_) (fun c8 => ?_)
                                     · first
                                       | (exfalso; omega)
                                       | (refine W.sreg ?_
                                          refine WO.p rfl rfl ?_
                                          refine WO.nil ?_
                                          refine W.ret ?_
                                          refine fin.ret (Res.one rfl (RV.tmp rfl)) ?_
                                          refine congrArg (Value.int .i64) ?_
                                          first | exact cbP (by assumption) | exact cb3 (plan_no (by assumption)).1 (plan_no (by assumption)).2 (isB_no (by omega)) | exact cb3 (plan_no (by assumption)).1 (plan_no (by assumption)).2 (isB_ne (by assumption)) | exact cb4 (plan_no (by assumption)).1 (plan_no (by assumption)).2 (isB_yes (by assumption) (by assumption) (by assumption) (by assumption) (by assumption)) (by first | exact .inl ⟨by assumption, by omega⟩ | exact .inr ⟨by assumption, by omega⟩) | exact cb5 (plan_no (by assumption)).1 (plan_no (by assumption)).2 (isB_yes (by assumption) (by assumption) (by assumption) (by assumption) (by assumption)) (by rintro (h | h) <;> first | omega | (simp_all; done)))
                                     · first
                                       | (exfalso; omega)
                                       | (refine W.skip ?_
                                          refine W.sreg ?_
                                          refine WO.p rfl rfl ?_
                                          refine WO.nil ?_
                                          refine W.ret ?_
                                          refine fin.ret (Res.one rfl (RV.tmp rfl)) ?_
                                          refine congrArg (Value.int .i64) ?_
                                          first | exact cbP (by assumption) | exact cb3 (plan_no (by assumption)).1 (plan_no (by assumption)).2 (isB_no (by omega)) | exact cb3 (plan_no (by assumption)).1 (plan_no (by assumption)).2 (isB_ne (by assumption)) | exact cb4 (plan_no (by assumption)).1 (plan_no (by assumption)).2 (isB_yes (by assumption) (by assumption) (by assumption) (by assumption) (by assumption)) (by first | exact .inl ⟨by assumption, by omega⟩ | exact .inr ⟨by assumption, by omega⟩) | exact cb5 (plan_no (by assumption)).1 (plan_no (by assumption)).2 (isB_yes (by assumption) (by assumption) (by assumption) (by assumption) (by assumption)) (by rintro (h | h) <;> first | omega | (simp_all; done))))
                                · first
                                  | (exfalso; omega)
                                  | (refine W.skip ?_
                                     refine W.seq ?_
                                     have hpo := planE_ok (sp := sp) (st := st) (rows := rows) (what := what) (by omega)
                                     refine W.chgE (PtrP.open (by repeat (first | exact Pick.head | apply Pick.tail)) (by omega)) ?_
                                     rintro pb rfl
                                     refine W.sreg ?_
                                     refine WO.p rfl rfl (WO.loadA rfl rfl (Cells.own (Pick.tail (Pick.head))) rfl rfl (WO.p rfl rfl ?_))
                                     have hB : Bd num den := ⟨by omega, by omega, by omega, by omega⟩
                                     have hpB := hpo.1.partS hB what high (Nat.le_refl _)
                                     refine WO.call (Post := fun v Hq => ∃ x : Value × List Value, v = .tuple #[x.1, .int .i64 (partS what sp st num den high rows rows.length)] ∧ Hq = [OwC 53 1 x.1 rows.length x.2, RowsE encI 2 1 x.2 (exH what sp st num den high rows)]) rfl Try.call48 (fun L w hi => by have h := c_excess w ⟨pb, 0, none⟩ sp st what num den high o rv rows (RdC.own (b := pb) (by repeat (first | exact Pick.head | apply Pick.tail)) hi) (hR.later hi) hpo.1 hpo.2 hB; first | (rw [sgn_t (by assumption)] at h; exact h) | (rw [sgn_f (by assumption)] at h; exact h)) rfl ?_
                                     rintro _ _ ⟨⟨v2, rv2⟩, rfl, rfl⟩
                                     refine WO.p rfl rfl (WO.p rfl rfl (WO.p rfl rfl (WO.p rfl rfl (WO.p rfl rfl ?_))))
                                     refine WO.nil ?_
                                     refine W.sreg ?_
                                     refine WO.p rfl rfl (WO.p rfl rfl (WO.ar rfl rfl rfl (by (first | (unfold in64; omega))) rfl (WO.p rfl rfl ?_)))
                                     refine WO.nil ?_
                                     refine W.cond_bl rfl (fun c9 => ?_) (fun c9 => ?_)
                                     · first
                                       | (exfalso; omega)
                                       | (refine W.sreg ?_
                                          refine WO.p rfl rfl ?_
                                          refine WO.nil ?_
                                          refine W.ret ?_
                                          refine fin.ret (Res.one rfl (RV.tmp rfl)) ?_
                                          refine congrArg (Value.int .i64) ?_
                                          first | exact cbP (by assumption) | exact cb3 (plan_no (by assumption)).1 (plan_no (by assumption)).2 (isB_no (by omega)) | exact cb3 (plan_no (by assumption)).1 (plan_no (by assumption)).2 (isB_ne (by assumption)) | exact cb4 (plan_no (by assumption)).1 (plan_no (by assumption)).2 (isB_yes (by assumption) (by assumption) (by assumption) (by assumption) (by assumption)) (by first | exact .inl ⟨by assumption, by omega⟩ | exact .inr ⟨by assumption, by omega⟩) | exact cb5 (plan_no (by assumption)).1 (plan_no (by assumption)).2 (isB_yes (by assumption) (by assumption) (by assumption) (by assumption) (by assumption)) (by rintro (h | h) <;> first | omega | (simp_all; done)))
                                     · first
                                       | (exfalso; omega)
                                       | (refine W.skip ?_
                                          refine W.sreg ?_
                                          refine WO.p rfl rfl ?_
                                          refine WO.nil ?_
                                          refine W.ret ?_
                                          refine fin.ret (Res.one rfl (RV.tmp rfl)) ?_
                                          refine congrArg (Value.int .i64) ?_
                                          first | exact cbP (by assumption) | exact cb3 (plan_no (by assumption)).1 (plan_no (by assumption)).2 (isB_no (by omega)) | exact cb3 (plan_no (by assumption)).1 (plan_no (by assumption)).2 (isB_ne (by assumption)) | exact cb4 (plan_no (by assumption)).1 (plan_no (by assumption)).2 (isB_yes (by assumption) (by assumption) (by assumption) (by assumption) (by assumption)) (by first | exact .inl ⟨by assumption, by omega⟩ | exact .inr ⟨by assumption, by omega⟩) | exact cb5 (plan_no (by assumption)).1 (plan_no (by assumption)).2 (isB_yes (by assumption) (by assumption) (by assumption) (by assumption) (by assumption)) (by rintro (h | h) <;> first | omega | (simp_all; done))))))))))
end Go.Proofs.Ytgihklgpehfbpaa
namespace Go.Proofs.Ytgihklgpehfbpaa
open Go Go.TH
attribute [local irreducible] W WO pt
set_option maxRecDepth 10000
set_option maxHeartbeats 2000000
theorem fill_set {rv : List Value} {n i : Nat} (z u : Value) (hl : rv.length = i) (hi : i < n) : (rv ++ List.replicate (n - i) z).set i u = (rv ++ [u]) ++ List.replicate (n - (i + 1)) z := by
  obtain ⟨m, hm⟩ : ∃ m, n - i = m + 1 := ⟨n - i - 1, by omega⟩
  rw [hm, show n - (i + 1) = m by omega, List.set_append_right _ _ (by omega), hl, Nat.sub_self, List.replicate_succ, List.set_cons_zero]; simp
theorem fill_get {rv : List Value} {i : Nat} (z u : Value) (m : Nat) (hl : rv.length = i) : ((rv ++ [u]) ++ List.replicate m z)[i]? = some u := by
  rw [List.append_assoc, List.getElem?_append_right (by omega), hl, Nat.sub_self]; rfl
theorem c_End (w : World) (sp st what : Int) (high : Bool) (o : Value) (rv : List Value) (rows : List (List (Int × Int))) (hR : RdR encP 2 w.heap.size w o rv rows) :
    Ct Try.prog 28 [.agg #[.int .i64 sp, .int .i64 st, o], .int .i64 what, .bool high].toArray w fun v w' => ∃ Hq, (∃ x : Value × List Value × List (List Int), (v = .tuple #[x.1, .int .i64 (planE sp st rows what)] ∧ (planE sp st rows what = 0 → IsEnd sp st what high rows x.2.2) ∧ (planE sp st rows what ≠ 0 → x.2.2 = [])) ∧ Hq = [OwC 53 1 x.1 x.2.2.length x.2.1, RowsE encI 2 1 x.2.1 x.2.2]) ∧ Inv w [] Hq w' := by
  refine Ct.ofI mixed tyTab Try.func28 rfl rfl ?_
  replace hR : RdR encP 2 (fnCx mixed tyTab Try.f28.ntmps w).B (fnCx mixed tyTab Try.f28.ntmps w).w0 o rv rows := hR
  refine W.sreg ?_
  refine WO.boxA rfl rfl (fun b1 hb1 => ?_)
  refine WO.p rfl rfl (WO.p rfl rfl ?_)
  refine WO.nil ?_
  refine W.sreg ?_
  refine WO.loadA rfl rfl (Cells.own Pick.head) rfl rfl (WO.p rfl rfl ?_)
  refine WO.call (Post := fun v Hq => ∃ pv, v = .tuple #[pv, .int .i64 (planE sp st rows what)] ∧ Hq = [PtrP pv (planE sp st rows what) (planCs sp st o what) 89]) rfl Try.call41 (fun L w hi => c_newPlan w sp st o rv rows what (hR.later hi)) rfl ?_
  rintro _ _ ⟨pv, rfl, rfl⟩
  refine WO.p rfl rfl (WO.p rfl rfl (WO.p rfl rfl (WO.p rfl rfl (WO.p rfl rfl ?_))))
  refine WO.nil ?_
  refine W.seq ?_
  refine W.sreg ?_
  refine WO.p rfl rfl (WO.p rfl rfl ?_)
  refine WO.nil ?_
  refine W.cond_bl rfl (fun c1 => ?_) (fun c1 => ?_)
  · first
    | (exfalso; omega)
    | (refine W.sreg ?_
       refine WO.p rfl rfl (WO.p rfl rfl (WO.p rfl rfl ?_))
       refine WO.nil ?_
       refine W.ret ?_
       first | exact fin.ret (Res.two rfl (RV.tmp rfl) (RV.tmp rfl)) ⟨(_, [], []), ⟨rfl, fun h => absurd h (by assumption), fun _ => rfl⟩, fun h hs => Sub.sat (.cons .head (.cons .head .nil)) (owcNil _ (rowsNil h hs))⟩ | exact fin.ret (Res.two rfl (RV.tmp rfl) (RV.tmp rfl)) ⟨(_, rv', ys), ⟨by rw [Decidable.not_not.1 (by assumption : ¬ planE sp st rows what ≠ 0)], fun _ => he, fun h => absurd h (by assumption)⟩, fun h hs => by dsimp only; rw [hyl]; exact Sub.sat (.cons (by repeat (first | exact Pick.head | apply Pick.tail)) (.cons (by repeat (first | exact Pick.head | apply Pick.tail)) .nil)) hs⟩)
  · first
    | (exfalso; omega)
    | (refine W.skip ?_
       refine W.sreg ?_
       refine WO.p rfl rfl ?_
       refine WO.nil ?_
       refine W.seq ?_
       refine W.sreg ?_
       refine WO.p rfl rfl ?_
       refine WO.nil ?_
       refine W.cond rfl (fun c2 => ?_) (fun c2 => ?_)
       · first
         | (exfalso; omega)
         | (refine W.region ?_
            refine WO.p rfl rfl ?_
            refine WO.nil ?_
            have hpo := planE_ok (sp := sp) (st := st) (rows := rows) (what := what) (by omega)
            have hn := hpo.1.n
            have hm := hpo.1.m
            refine W.chgE (PtrP.open (by repeat (first | exact Pick.head | apply Pick.tail)) (by omega)) ?_
            rintro pb rfl
            refine W.sreg ?_
            refine WO.p rfl rfl (WO.p rfl rfl ?_)
            refine WO.call (Post := fun v Hq => ∃ x : Value × List Value × List (List Int), (v = .tuple #[x.1, .agg (encP (endV sp st what high rows)).toArray] ∧ IsEnd sp st what high rows x.2.2) ∧ Hq = [OwC 53 1 x.1 rows.length x.2.1, RowsE encI 2 1 x.2.1 x.2.2]) rfl Try.call50 (fun L w hi => by have h := c_end w ⟨pb, 0, none⟩ sp st what high o rv rows (RdC.own (b := pb) (by repeat (first | exact Pick.head | apply Pick.tail)) hi) (hR.later hi) hpo.1 hpo.2; first | (rw [sgn_t (by assumption)] at h; exact h) | (rw [sgn_f (by assumption)] at h; exact h)) rfl ?_
            rintro _ _ ⟨⟨v1, rv1, ys⟩, ⟨rfl, he⟩, rfl⟩
            have hyl : ys.length = rows.length := he.tv.len
            have hyr : ∀ i, i < ys.length → (ys.getD i []).length = (rows.getD 0 []).length := fun i h => (he.tv.row i h).trans (hpo.1.eq i (by omega))
            refine WO.fact (RowsE.rowsLen (by repeat (first | exact Pick.head | apply Pick.tail))) (fun hrl => ?_)
            refine WO.fact (OwC.sl (by repeat (first | exact Pick.head | apply Pick.tail))) (fun hos => ?_)
            have hos' : IsSl v1 rows.length := hos
            have hrl' : rv1.length = ys.length := hrl
            clear hos hrl
            refine WO.p rfl rfl (WO.p rfl rfl (WO.p rfl rfl ?_))
            refine WO.alloc rfl rfl rfl (fun b2 hb2 => ?_)
            refine WO.p rfl rfl (WO.storeA rfl rfl rfl rfl Pick.head rfl rfl ?_)
            refine WO.nil ?_
            refine W.sreg ?_
            refine WO.p rfl rfl ?_
            refine' WO.len (n := _) rfl rfl ?hs rfl ?_
            case hs => (first | exact hos' | exact hrs | (refine isSl_lit ?_; omega))
            refine WO.makeOw rfl rfl rfl rfl rfl (by omega) (by omega) rfl (fun mb => ?_)
            refine WO.p rfl rfl ?_
            refine WO.nil ?_
            refine W.seq ?_
            refine W.sreg ?_
            refine WO.p rfl rfl ?_
            refine' WO.len (n := _) rfl rfl ?hs rfl ?_
            case hs => (first | exact hos' | exact hrs | (refine isSl_lit ?_; omega))
            refine WO.p rfl rfl ?_
            refine WO.nil ?_
            refine W.block ?_
            refine W.chg (rowsNil (enc := encI) (e := 2) (sz := 1)) ?_
            refine W.loop2 (fun (i : Nat) (rv' : List Value) => i ≤ rows.length ∧ rv'.length = i)
              (fun (i : Nat) (rv' : List Value) => [(37, .int .i64 (i : Int)), (36, .int .i64 (rows.length : Int)), (35, v1), (13, .slice (some ⟨mb, 0, none⟩) rows.length rows.length)])
              (fun (i : Nat) (rv' : List Value) => [OwC 53 1 (.slice (some ⟨mb, 0, none⟩) rows.length rows.length) rows.length (rv' ++ List.replicate (rows.length - i) (.slice none 0 0)), RowsE encI 2 1 rv' (ys.take i), OwC 53 1 v1 rows.length rv1, RowsE encI 2 1 rv1 ys])
              (fun (i : Nat) (rv' : List Value) => rows.length - i) 0 []
              (by exact ⟨by omega, rfl⟩) ⟨rfl, rfl, rfl, rfl, trivial⟩ (by repeat (first | exact Sub.nil | refine Sub.cons (by repeat (first | exact Pick.head | apply Pick.tail)) ?_)) ?_
            rintro i rv' ⟨hi, hl⟩
            refine W.sreg ?_
            refine WO.p rfl rfl ?_
            refine WO.nil ?_
            refine W.seq ?_
            refine W.cond_bl rfl (fun c3 => ?_) (fun c3 => ?_)
            · first
              | (exfalso; omega)
              | (refine W.skip ?_
                 refine W.seq ?_
                 refine W.block ?_
                 refine W.sreg ?_
                 refine WO.p rfl rfl ?_
                 refine' WO.indexAddr (n := _) (i := _) rfl rfl rfl ?hs ?h1 rfl ?_
                 case hs => (first | exact hos' | exact hrs | (refine isSl_lit ?_; omega))
                 case h1 => (first | omega | (simp; omega))
                 refine' WO.load (v := _) rfl rfl ?hc rfl ?_
                 case hc => (first | (refine OwC.cell1s (e := 53) (v := v1) (n := rows.length) (cs := rv1) ?_ ?_; (repeat (first | exact Sub.nil | refine Sub.cons (by repeat (first | exact Pick.head | apply Pick.tail)) ?_)); omega) | (refine OwC.cell1g (e := 53) (v := .slice (some ⟨mb, 0, none⟩) rows.length rows.length) (n := rows.length) (u := .slice (some ⟨lb, 0, none⟩) (ys.getD i []).length (ys.getD i []).length) (cs := (rv' ++ [.slice (some ⟨lb, 0, none⟩) (ys.getD i []).length (ys.getD i []).length]) ++ List.replicate (rows.length - (i + 1)) (.slice none 0 0)) ?_ (fill_get _ _ _ hl); (repeat (first | exact Sub.nil | refine Sub.cons (by repeat (first | exact Pick.head | apply Pick.tail)) ?_))))
                 refine WO.p rfl rfl (WO.p rfl rfl ?_)
                 refine WO.nil ?_
                 have hyi := hyr i (by omega)
                 refine W.fact (RowsE.rowSl (rv := rv1) (xss := ys) (enc := encI) (e := 2) (sz := 1) (by repeat (first | exact Pick.head | apply Pick.tail)) (i := i) (by omega)) (fun hrs => ?_)
                 refine W.sreg ?_
                 refine WO.p rfl rfl (WO.p rfl rfl (WO.p rfl rfl ?_))
                 refine' WO.len (n := _) rfl rfl ?hs rfl ?_
                 case hs => (first | exact hos' | exact hrs | (refine isSl_lit ?_; omega))
                 refine WO.makeI rfl rfl rfl rfl (by omega) (by omega) rfl (fun lb => ?_)
                 refine' WO.indexAddr (n := _) (i := _) rfl rfl rfl ?hs ?h1 rfl ?_
                 case hs => (first | exact hos' | exact hrs | (refine isSl_lit ?_; omega))
                 case h1 => (first | omega | (simp; omega))
                 refine WO.storeOw (e := 53) (n := rows.length) (cs := rv' ++ List.replicate (rows.length - i) (.slice none 0 0)) rfl rfl rfl rfl (by repeat (first | exact Pick.head | apply Pick.tail)) (by rw [List.length_append, List.length_replicate]; omega) ?_
                 rw [fill_set _ _ hl (by omega)]
                 refine WO.nil ?_
                 refine W.region ?_
                 refine WO.p rfl rfl (WO.p rfl rfl ?_)
                 refine' WO.indexAddr (n := _) (i := _) rfl rfl rfl ?hs ?h1 rfl ?_
                 case hs => (first | exact hos' | exact hrs | (refine isSl_lit ?_; omega))
                 case h1 => (first | omega | (simp; omega))
                 refine' WO.load (v := _) rfl rfl ?hc rfl ?_
                 case hc => (first | (refine OwC.cell1s (e := 53) (v := v1) (n := rows.length) (cs := rv1) ?_ ?_; (repeat (first | exact Sub.nil | refine Sub.cons (by repeat (first | exact Pick.head | apply Pick.tail)) ?_)); omega) | (refine OwC.cell1g (e := 53) (v := .slice (some ⟨mb, 0, none⟩) rows.length rows.length) (n := rows.length) (u := .slice (some ⟨lb, 0, none⟩) (ys.getD i []).length (ys.getD i []).length) (cs := (rv' ++ [.slice (some ⟨lb, 0, none⟩) (ys.getD i []).length (ys.getD i []).length]) ++ List.replicate (rows.length - (i + 1)) (.slice none 0 0)) ?_ (fill_get _ _ _ hl); (repeat (first | exact Sub.nil | refine Sub.cons (by repeat (first | exact Pick.head | apply Pick.tail)) ?_))))
                 refine WO.p rfl rfl ?_
                 refine WO.copyE (ys := ys.getD i []) encI_ok rfl rfl rfl (by repeat (first | exact Pick.head | apply Pick.tail)) (by rw [List.length_replicate]; exact hrs) (by rw [List.length_replicate]; omega) (by rw [List.length_replicate]) (RowsE.cellsRow (rv := rv1) (xss := ys) (e := 2) (sz := 1) (by repeat (first | exact Pick.head | apply Pick.tail)) (by omega)) rfl ?_
                 refine WO.nil ?_
                 refine W.chg (rowsSnoc (enc := encI) (e := 2) (sz := 1) (rv := rv') (xss := ys.take i) (xs := ys.getD i []) (r := .slice (some ⟨lb, 0, none⟩) (ys.getD i []).length (ys.getD i []).length) (by repeat (first | exact Pick.head | apply Pick.tail)) (by repeat (first | exact Pick.head | apply Pick.tail))) ?_
                 rw [← take_succ_getD (by omega) []]
                 refine W.region ?_
                 refine WO.ar rfl rfl rfl (by (first | (unfold in64; omega))) rfl (WO.p rfl rfl ?_)
                 refine WO.nil ?_
                 refine' ⟨i + 1, (rv' ++ [.slice (some ⟨lb, 0, none⟩) (ys.getD i []).length (ys.getD i []).length]), ?hp, ?hmu, ⟨rfl, rfl, rfl, rfl, trivial⟩, ?hS⟩
                 case hS => repeat (first | exact Sub.nil | refine Sub.cons (by repeat (first | exact Pick.head | apply Pick.tail)) ?_)
                 case hp => exact ⟨by omega, by rw [List.length_append, hl]; rfl⟩
                 case hmu => omega)
            · first
              | (exfalso; omega)
              | (refine W.exit (blk_same ?_)
                 have ei : i = rows.length := by omega
                 rw [ei, Nat.sub_self, List.replicate_zero, List.append_nil, List.take_of_length_le (by omega)]
                 refine W.sreg ?_
                 refine WO.p rfl rfl (WO.p rfl rfl (WO.p rfl rfl ?_))
                 refine WO.nil ?_
                 refine W.ret ?_
                 first | exact fin.ret (Res.two rfl (RV.tmp rfl) (RV.tmp rfl)) ⟨(_, [], []), ⟨rfl, fun h => absurd h (by assumption), fun _ => rfl⟩, fun h hs => Sub.sat (.cons .head (.cons .head .nil)) (owcNil _ (rowsNil h hs))⟩ | exact fin.ret (Res.two rfl (RV.tmp rfl) (RV.tmp rfl)) ⟨(_, rv', ys), ⟨by rw [Decidable.not_not.1 (by assumption : ¬ planE sp st rows what ≠ 0)], fun _ => he, fun h => absurd h (by assumption)⟩, fun h hs => by dsimp only; rw [hyl]; exact Sub.sat (.cons (by repeat (first | exact Pick.head | apply Pick.tail)) (.cons (by repeat (first | exact Pick.head | apply Pick.tail)) .nil)) hs⟩))
       · first
         | (exfalso; omega)
         | (refine W.skip ?_
            have hpo := planE_ok (sp := sp) (st := st) (rows := rows) (what := what) (by omega)
            have hn := hpo.1.n
            have hm := hpo.1.m
            refine W.chgE (PtrP.open (by repeat (first | exact Pick.head | apply Pick.tail)) (by omega)) ?_
            rintro pb rfl
            refine W.sreg ?_
            refine WO.p rfl rfl (WO.p rfl rfl ?_)
            refine WO.call (Post := fun v Hq => ∃ x : Value × List Value × List (List Int), (v = .tuple #[x.1, .agg (encP (endV sp st what high rows)).toArray] ∧ IsEnd sp st what high rows x.2.2) ∧ Hq = [OwC 53 1 x.1 rows.length x.2.1, RowsE encI 2 1 x.2.1 x.2.2]) rfl Try.call50 (fun L w hi => by have h := c_end w ⟨pb, 0, none⟩ sp st what high o rv rows (RdC.own (b := pb) (by repeat (first | exact Pick.head | apply Pick.tail)) hi) (hR.later hi) hpo.1 hpo.2; first | (rw [sgn_t (by assumption)] at h; exact h) | (rw [sgn_f (by assumption)] at h; exact h)) rfl ?_
            rintro _ _ ⟨⟨v1, rv1, ys⟩, ⟨rfl, he⟩, rfl⟩
            have hyl : ys.length = rows.length := he.tv.len
            have hyr : ∀ i, i < ys.length → (ys.getD i []).length = (rows.getD 0 []).length := fun i h => (he.tv.row i h).trans (hpo.1.eq i (by omega))
            refine WO.fact (RowsE.rowsLen (by repeat (first | exact Pick.head | apply Pick.tail))) (fun hrl => ?_)
            refine WO.fact (OwC.sl (by repeat (first | exact Pick.head | apply Pick.tail))) (fun hos => ?_)
            have hos' : IsSl v1 rows.length := hos
            have hrl' : rv1.length = ys.length := hrl
            clear hos hrl
            refine WO.p rfl rfl (WO.p rfl rfl (WO.p rfl rfl ?_))
            refine WO.alloc rfl rfl rfl (fun b3 hb3 => ?_)
            refine WO.p rfl rfl (WO.storeA rfl rfl rfl rfl Pick.head rfl rfl ?_)
            refine WO.nil ?_
            refine W.sreg ?_
            refine WO.p rfl rfl ?_
            refine' WO.len (n := _) rfl rfl ?hs rfl ?_
            case hs => (first | exact hos' | exact hrs | (refine isSl_lit ?_; omega))
            refine WO.makeOw rfl rfl rfl rfl rfl (by omega) (by omega) rfl (fun mb => ?_)
            refine WO.p rfl rfl ?_
            refine WO.nil ?_
            refine W.seq ?_
            refine W.sreg ?_
            refine WO.p rfl rfl ?_
            refine' WO.len (n := _) rfl rfl ?hs rfl ?_
            case hs => (first | exact hos' | exact hrs | (refine isSl_lit ?_; omega))
            refine WO.p rfl rfl ?_
            refine WO.nil ?_
            refine W.block ?_
            refine W.chg (rowsNil (enc := encI) (e := 2) (sz := 1)) ?_
            refine W.loop2 (fun (i : Nat) (rv' : List Value) => i ≤ rows.length ∧ rv'.length = i)
              (fun (i : Nat) (rv' : List Value) => [(37, .int .i64 (i : Int)), (36, .int .i64 (rows.length : Int)), (35, v1), (13, .slice (some ⟨mb, 0, none⟩) rows.length rows.length)])
              (fun (i : Nat) (rv' : List Value) => [OwC 53 1 (.slice (some ⟨mb, 0, none⟩) rows.length rows.length) rows.length (rv' ++ List.replicate (rows.length - i) (.slice none 0 0)), RowsE encI 2 1 rv' (ys.take i), OwC 53 1 v1 rows.length rv1, RowsE encI 2 1 rv1 ys])
              (fun (i : Nat) (rv' : List Value) => rows.length - i) 0 []
              (by exact ⟨by omega, rfl⟩) ⟨rfl, rfl, rfl, rfl, trivial⟩ (by repeat (first | exact Sub.nil | refine Sub.cons (by repeat (first | exact Pick.head | apply Pick.tail)) ?_)) ?_
            rintro i rv' ⟨hi, hl⟩
            refine W.sreg ?_
            refine WO.p rfl rfl ?_
            refine WO.nil ?_
            refine W.seq ?_
            refine W.cond_bl rfl (fun c4 => ?_) (fun c4 => ?_)
            · first
              | (exfalso; omega)
              | (refine W.skip ?_
                 refine W.seq ?_
                 refine W.block ?_
                 refine W.sreg ?_
                 refine WO.p rfl rfl ?_
                 refine' WO.indexAddr (n := _) (i := _) rfl rfl rfl ?hs ?h1 rfl ?_
                 case hs => (first | exact hos' | exact hrs | (refine isSl_lit ?_; omega))
                 case h1 => (first | omega | (simp; omega))
                 refine' WO.load (v := _) rfl rfl ?hc rfl ?_
                 case hc => (first | (refine OwC.cell1s (e := 53) (v := v1) (n := rows.length) (cs := rv1) ?_ ?_; (repeat (first | exact Sub.nil | refine Sub.cons (by repeat (first | exact Pick.head | apply Pick.tail)) ?_)); omega) | (refine OwC.cell1g (e := 53) (v := .slice (some ⟨mb, 0, none⟩) rows.length rows.length) (n := rows.length) (u := .slice (some ⟨lb, 0, none⟩) (ys.getD i []).length (ys.getD i []).length) (cs := (rv' ++ [.slice (some ⟨lb, 0, none⟩) (ys.getD i []).length (ys.getD i []).length]) ++ List.replicate (rows.length - (i + 1)) (.slice none 0 0)) ?_ (fill_get _ _ _ hl); (repeat (first | exact Sub.nil | refine Sub.cons (by repeat (first | exact Pick.head | apply Pick.tail)) ?_))))
                 refine WO.p rfl rfl (WO.p rfl rfl ?_)
                 refine WO.nil ?_
                 have hyi := hyr i (by omega)
                 refine W.fact (RowsE.rowSl (rv := rv1) (xss := ys) (enc := encI) (e := 2) (sz := 1) (by repeat (first | exact Pick.head | apply Pick.tail)) (i := i) (by omega)) (fun hrs => ?_)
                 refine W.sreg ?_
                 refine WO.p rfl rfl (WO.p rfl rfl (WO.p rfl rfl ?_))
                 refine' WO.len (n := _) rfl rfl ?hs rfl ?_
                 case hs => (first | exact hos' | exact hrs | (refine isSl_lit ?_; omega))
                 refine WO.makeI rfl rfl rfl rfl (by omega) (by omega) rfl (fun lb => ?_)
                 refine' WO.indexAddr (n := _) (i := _) rfl rfl rfl ?hs ?h1 rfl ?_
                 case hs => (first | exact hos' | exact hrs | (refine isSl_lit ?_; omega))
                 case h1 => (first | omega | (simp; omega))
                 refine WO.storeOw (e := 53) (n := rows.length) (cs := rv' ++ List.replicate (rows.length - i) (.slice none 0 0)) rfl rfl rfl rfl (by repeat (first | exact Pick.head | apply Pick.tail)) (by rw [List.length_append, List.length_replicate]; omega) ?_
                 rw [fill_set _ _ hl (by omega)]
                 refine WO.nil ?_
                 refine W.region ?_
                 refine WO.p rfl rfl (WO.p rfl rfl ?_)
                 refine' WO.indexAddr (n := _) (i := _) rfl rfl rfl ?hs ?h1 rfl ?_
                 case hs => (first | exact hos' | exact hrs | (refine isSl_lit ?_; omega))
                 case h1 => (first | omega | (simp; omega))
                 refine' WO.load (v := _) rfl rfl ?hc rfl ?_
                 case hc => (first | (refine OwC.cell1s (e := 53) (v := v1) (n := rows.length) (cs := rv1) ?_ ?_; (repeat (first | exact Sub.nil | refine Sub.cons (by repeat (first | exact Pick.head | apply Pick.tail)) ?_)); omega) | (refine OwC.cell1g (e := 53) (v := .slice (some ⟨mb, 0, none⟩) rows.length rows.length) (n := rows.length) (u := .slice (some ⟨lb, 0, none⟩) (ys.getD i []).length (ys.getD i []).length) (cs := (rv' ++ [.slice (some ⟨lb, 0, none⟩) (ys.getD i []).length (ys.getD i []).length]) ++ List.replicate (rows.length - (i + 1)) (.slice none 0 0)) ?_ (fill_get _ _ _ hl); (repeat (first | exact Sub.nil | refine Sub.cons (by repeat (first | exact Pick.head | apply Pick.tail)) ?_))))
                 refine WO.p rfl rfl ?_
                 refine WO.copyE (ys := ys.getD i []) encI_ok rfl rfl rfl (by repeat (first | exact Pick.head | apply Pick.tail)) (by rw [List.length_replicate]; exact hrs) (by rw [List.length_replicate]; omega) (by rw [List.length_replicate]) (RowsE.cellsRow (rv := rv1) (xss := ys) (e := 2) (sz := 1) (by repeat (first | exact Pick.head | apply Pick.tail)) (by omega)) rfl ?_
                 refine WO.nil ?_
                 refine W.chg (rowsSnoc (enc := encI) (e := 2) (sz := 1) (rv := rv') (xss := ys.take i) (xs := ys.getD i []) (r := .slice (some ⟨lb, 0, none⟩) (ys.getD i []).length (ys.getD i []).length) (by repeat (first | exact Pick.head | apply Pick.tail)) (by repeat (first | exact Pick.head | apply Pick.tail))) ?_
                 rw [← take_succ_getD (by omega) []]
                 refine W.region ?_
                 refine WO.ar rfl rfl rfl (by (first | (unfold in64; omega))) rfl (WO.p rfl rfl ?_)
                 refine WO.nil ?_
                 refine' ⟨i + 1, (rv' ++ [.slice (some ⟨lb, 0, none⟩) (ys.getD i []).length (ys.getD i []).length]), ?hp, ?hmu, ⟨rfl, rfl, rfl, rfl, trivial⟩, ?hS⟩
                 case hS => repeat (first | exact Sub.nil | refine Sub.cons (by repeat (first | exact Pick.head | apply Pick.tail)) ?_)
                 case hp => exact ⟨by omega, by rw [List.length_append, hl]; rfl⟩
                 case hmu => omega)
            · first
              | (exfalso; omega)
              | (refine W.exit (blk_same ?_)
                 have ei : i = rows.length := by omega
                 rw [ei, Nat.sub_self, List.replicate_zero, List.append_nil, List.take_of_length_le (by omega)]
                 refine W.sreg ?_
                 refine WO.p rfl rfl (WO.p rfl rfl (WO.p rfl rfl ?_))
                 refine WO.nil ?_
                 refine W.ret ?_
                 first | exact fin.ret (Res.two rfl (RV.tmp rfl) (RV.tmp rfl)) ⟨(_, [], []), ⟨rfl, fun h => absurd h (by assumption), fun _ => rfl⟩, fun h hs => Sub.sat (.cons .head (.cons .head .nil)) (owcNil _ (rowsNil h hs))⟩ | exact fin.ret (Res.two rfl (RV.tmp rfl) (RV.tmp rfl)) ⟨(_, rv', ys), ⟨by rw [Decidable.not_not.1 (by assumption : ¬ planE sp st rows what ≠ 0)], fun _ => he, fun h => absurd h (by assumption)⟩, fun h hs => by dsimp only; rw [hyl]; exact Sub.sat (.cons (by repeat (first | exact Pick.head | apply Pick.tail)) (.cons (by repeat (first | exact Pick.head | apply Pick.tail)) .nil)) hs⟩)))
end Go.Proofs.Ytgihklgpehfbpaa
namespace Go.Proofs.Ytgihklgpehfbpaa
open Go Go.TH
attribute [local irreducible] W WO pt
set_option maxRecDepth 10000
set_option maxHeartbeats 2000000
def exRows : List (List (Int × Int)) := [[(2, 4), (6, 6)], [(0, 1), (3, 3)]]
theorem ex_hv : HV 10 6 exRows := HV.of (by decide)
theorem ex_tv {ys : List (List Int)} (t : TV exRows ys) : ∃ a b, ys = [[a, 6], [b, 3]] ∧ 2 ≤ a ∧ a ≤ 4 ∧ 0 ≤ b ∧ b ≤ 1 := by
  have hl : ys.length = 2 := t.len
  match ys, hl with
  | [r, s], _ =>
    have h0 : r.length = 2 := t.row 0 (by simp)
    have h1 : s.length = 2 := t.row 1 (by simp)
    match r, h0, s, h1 with
    | [a, c], _, [b, d], _ =>
      have w1 := t.within 0 0 (by simp) (by simp)
      have w2 := t.within 0 1 (by simp) (by simp)
      have w3 := t.within 1 0 (by simp) (by simp)
      have w4 := t.within 1 1 (by simp) (by simp)
      simp [exRows, yy] at w1 w2 w3 w4
      obtain rfl : c = 6 := by omega
      obtain rfl : d = 3 := by omega
      exact ⟨a, b, rfl, by omega⟩
theorem ex_tv' (a b : Int) (h : 2 ≤ a ∧ a ≤ 4 ∧ 0 ≤ b ∧ b ≤ 1) : TV exRows [[a, 6], [b, 3]] := by
  refine ⟨rfl, fun i hi => ?_, fun i k hi hk => ?_⟩
  · match i, hi with
    | 0, _ => rfl
    | 1, _ => rfl
  · match i, hi with
    | 0, _ => match k, hk with
      | 0, _ => simp [exRows, yy]; omega
      | 1, _ => simp [exRows, yy]
    | 1, _ => match k, hk with
      | 0, _ => simp [exRows, yy]; omega
      | 1, _ => simp [exRows, yy]
theorem ex_end (what : Int) (high : Bool) (a b : Int) (hw : 0 ≤ what ∧ what ≤ 2) (h : 2 ≤ a ∧ a ≤ 4 ∧ 0 ≤ b ∧ b ≤ 1) (he : valQ 10 6 (exH what 10 6 (valQ 10 6 [[a, 6], [b, 3]] what).1 (valQ 10 6 [[a, 6], [b, 3]] what).2 high exRows) what = valQ 10 6 [[a, 6], [b, 3]] what) : endV 10 6 what high exRows = valQ 10 6 [[a, 6], [b, 3]] what :=
  (endV_eq ex_hv (step_end ex_hv (ex_tv' a b h) hw he)).symm
theorem ex_e00 : endV 10 6 0 false exRows = (30, 13) := (ex_end 0 false 4 0 (by omega) (by omega) (by decide +kernel)).trans (by decide +kernel)
theorem ex_e01 : endV 10 6 0 true exRows = (10, 3) := (ex_end 0 true 2 1 (by omega) (by omega) (by decide +kernel)).trans (by decide +kernel)
theorem ex_e10 : endV 10 6 1 false exRows = (27, 7) := (ex_end 1 false 4 1 (by omega) (by omega) (by decide +kernel)).trans (by decide +kernel)
theorem ex_e11 : endV 10 6 1 true exRows = (54, 11) := (ex_end 1 true 2 0 (by omega) (by omega) (by decide +kernel)).trans (by decide +kernel)
theorem ex_uniq {ys : List (List Int)} (h : IsEnd 10 6 0 true exRows ys) : ys = [[2, 6], [1, 3]] := by
  have hv := endV_eq ex_hv h
  rw [ex_e01] at hv
  obtain ⟨a, b, rfl, h1, h2, h3, h4⟩ := ex_tv h.tv
  have key : ∀ a : Fin 3, ∀ b : Fin 2, valQ 10 6 [[(a.1 : Int) + 2, 6], [(b.1 : Int), 3]] 0 = (10, 3) → a.1 = 0 ∧ b.1 = 1 := by decide +kernel
  have := key ⟨(a - 2).toNat, by omega⟩ ⟨b.toNat, by omega⟩ (by simp only; rw [show (((a - 2).toNat : Nat) : Int) + 2 = a by omega, show ((b.toNat : Nat) : Int) = b by omega]; exact hv)
  simp only at this
  rw [show a = 2 by omega, show b = 1 by omega]
theorem ex_vol : volR 10 6 exRows [[2, 6], [0, 3]] = .tuple #[.agg #[.int .i64 330, .int .i64 1], .int .i64 0] := by
  have h1 : chkTrue 10 6 exRows [[2, 6], [0, 3]] = 0 := TV.to ex_hv (ex_tv' 2 0 (by omega))
  have h2 : volQ 10 6 [[2, 6], [0, 3]] = (330, 1) := by decide +kernel
  rw [← volR_0 h1, h2]; rfl
theorem ex_val (what : Int) (hw : 0 ≤ what ∧ what ≤ 2) {q : Int × Int} (hq : valQ 10 6 [[2, 6], [0, 3]] what = q) : valR 10 6 exRows [[2, 6], [0, 3]] what = .tuple #[.agg #[.int .i64 q.1, .int .i64 q.2], .int .i64 0] := by
  have h1 : chkTrue 10 6 exRows [[2, 6], [0, 3]] = 0 := TV.to ex_hv (ex_tv' 2 0 (by omega))
  rw [← valR_0 h1 (by omega), hq]; rfl
theorem ex_plan {what : Int} (hw : 0 ≤ what ∧ what ≤ 2) : planE 10 6 exRows what = 0 := by
  unfold planE; rw [if_neg (by rw [ex_hv.to]; simp), if_neg (by omega)]
theorem ex_s0 : spanR 10 6 0 exRows = .tuple #[.agg #[.int .i64 30, .int .i64 13, .int .i64 10, .int .i64 3], .int .i64 0] := by
  rw [← spanR_0 (by rw [ex_plan (by omega)]; simp), ex_e00, ex_e01]; rfl
theorem ex_s1 : spanR 10 6 1 exRows = .tuple #[.agg #[.int .i64 27, .int .i64 7, .int .i64 54, .int .i64 11], .int .i64 0] := by
  rw [← spanR_0 (by rw [ex_plan (by omega)]; simp), ex_e10, ex_e11]; rfl
theorem ex_b1 : chkBound 10 6 0 10 3 true exRows = 0 := by decide +kernel
theorem ex_b2 : chkBound 10 6 0 3 1 true exRows = 14 := by decide +kernel
theorem ex_b3 : chkBound 10 6 0 30 13 false exRows = 0 := by decide +kernel
theorem eq29t (a b : Int) : EqT Try.prog .eql 29 (.agg #[.int .i64 a, .int .i64 b]) (.agg #[.int .i64 a, .int .i64 b]) (.bool true) := by
  have := eq29 a b a b
  rwa [show bl ((a, b) = (a, b)) = true from bl_t.2 rfl] at this
theorem eq41 (a b c d a' b' c' d' : Int) : EqT Try.prog .eql 41 (.agg #[.int .i64 a, .int .i64 b, .int .i64 c, .int .i64 d]) (.agg #[.int .i64 a', .int .i64 b', .int .i64 c', .int .i64 d']) (.bool (bl ((a, b, c, d) = (a', b', c', d')))) := by
  intro x y w
  simp [go_sem, Try.eqGuardType41, Try.underlying41, Try.underlying29, Try.eqGuardType29]
  by_cases h1 : a = a' <;> by_cases h2 : b = b' <;> by_cases h3 : c = c' <;> by_cases h4 : d = d' <;> simp [h1, h2, h3, h4, bl_eq]
theorem eq41t (a b c d : Int) : EqT Try.prog .eql 41 (.agg #[.int .i64 a, .int .i64 b, .int .i64 c, .int .i64 d]) (.agg #[.int .i64 a, .int .i64 b, .int .i64 c, .int .i64 d]) (.bool true) := by
  have := eq41 a b c d a b c d
  rwa [show bl ((a, b, c, d) = (a, b, c, d)) = true from bl_t.2 rfl] at this
end Go.Proofs.Ytgihklgpehfbpaa
namespace Go.Proofs.Ytgihklgpehfbpaa
open Go Go.TH
attribute [local irreducible] W WO pt
set_option maxRecDepth 10000
set_option maxHeartbeats 4000000
theorem snocE {α : Type} {enc : α → List Value} {e sz : Nat} {rv : List Value} {xss : List (List α)} {r : Value} {xs : List α} {H H1 H2 : List HP} (p : Pick (RowsE enc e sz rv xss) H H1) (q : Pick (OwE enc e sz r xs) H1 H2) {h : Hp} (hs : sat H h) : sat (RowsE enc e sz (rv ++ [r]) (xss ++ [xs]) :: H2) h := rowsSnoc p q h hs
theorem law_Hull (w : World) : Ct Try.prog 37 ([] : List Value).toArray w fun v w' => ∃ Hq, (∃ x : Value × List Value, v = .agg #[.int .i64 10, .int .i64 6, x.1] ∧ Hq = [OwC 52 1 x.1 2 x.2, RowsE encP 55 2 x.2 exRows]) ∧ Inv w [] Hq w' := by
  refine Ct.ofI mixed tyTab Try.func37 rfl rfl ?_
  refine W.sreg ?_
  refine WO.alloc rfl rfl rfl (fun b1 hb1 => ?_)
  refine WO.nil ?_
  refine W.sreg ?_
  refine' WO.build (cs := _) rfl rfl rfl ?hf rfl ?_
  case hf => (conv => lhs; simp [-List.getD_eq_getElem?_getD, fillL, vcl, wrl, TTab.pl?.lget']) <;> rfl
  refine' WO.build (cs := _) rfl rfl rfl ?hf rfl ?_
  case hf => (conv => lhs; simp [-List.getD_eq_getElem?_getD, fillL, vcl, wrl, TTab.pl?.lget']) <;> rfl
  refine' WO.buildSl (cs := _) rfl rfl rfl rfl ?hf rfl rfl ?hl rfl (fun v2 => ?_)
  case hf => (conv => lhs; simp [-List.getD_eq_getElem?_getD, fillL, vcl, wrl, TTab.pl?.lget']) <;> rfl
  case hl => rfl
  refine' WO.build (cs := _) rfl rfl rfl ?hf rfl ?_
  case hf => (conv => lhs; simp [-List.getD_eq_getElem?_getD, fillL, vcl, wrl, TTab.pl?.lget']) <;> rfl
  refine' WO.build (cs := _) rfl rfl rfl ?hf rfl ?_
  case hf => (conv => lhs; simp [-List.getD_eq_getElem?_getD, fillL, vcl, wrl, TTab.pl?.lget']) <;> rfl
  refine' WO.buildSl (cs := _) rfl rfl rfl rfl ?hf rfl rfl ?hl rfl (fun v3 => ?_)
  case hf => (conv => lhs; simp [-List.getD_eq_getElem?_getD, fillL, vcl, wrl, TTab.pl?.lget']) <;> rfl
  case hl => rfl
  refine' WO.buildSl (cs := _) rfl rfl rfl rfl ?hf rfl rfl ?hl rfl (fun v4 => ?_)
  case hf => (conv => lhs; simp [-List.getD_eq_getElem?_getD, fillL, vcl, wrl, TTab.pl?.lget']) <;> rfl
  case hl => rfl
  refine' WO.build (cs := _) rfl rfl rfl ?hf rfl ?_
  case hf => (conv => lhs; simp [-List.getD_eq_getElem?_getD, fillL, vcl, wrl, TTab.pl?.lget']) <;> rfl
  refine WO.storeA rfl rfl rfl rfl (Pick.tail (Pick.tail (Pick.tail (Pick.head)))) rfl rfl ?_
  refine WO.nil ?_
  refine W.ret ?_
  refine fin.ret (Res.one rfl (RV.cell rfl rfl rfl (Cells.own Pick.head))) ⟨(.slice (some ⟨v4, 0, none⟩) 2 2, [.slice (some ⟨v2, 0, none⟩) 2 2, .slice (some ⟨v3, 0, none⟩) 2 2]), rfl, fun h hs => ?_⟩
  have h1 := snocE (enc := encP) (e := 55) (sz := 2) (r := .slice (some ⟨v2, 0, none⟩) 2 2) (xs := [(2, 4), (6, 6)]) .head (.tail (.tail (.tail .head))) (rowsNil (enc := encP) (e := 55) (sz := 2) h hs)
  have h2 := snocE (enc := encP) (e := 55) (sz := 2) (r := .slice (some ⟨v3, 0, none⟩) 2 2) (xs := [(0, 1), (3, 3)]) .head (.tail (.tail .head)) h1
  exact Sub.sat (.cons (.tail (.tail .head)) (.cons .head .nil)) h2
theorem law_Works (w : World) : Ret Try.prog 13 ([] : List Value).toArray w (.bool true) := by
  refine Ret.of mixed tyTab Try.func13 rfl rfl ?_
  refine W.sreg ?_
  refine WO.p rfl rfl ?_
  refine WO.nil ?_
  refine W.sreg ?_
  refine WO.call (Post := fun v Hq => ∃ x : Value × List Value, v = .agg #[.int .i64 10, .int .i64 6, x.1] ∧ Hq = [OwC 52 1 x.1 2 x.2, RowsE encP 55 2 x.2 exRows]) rfl Try.call37 (fun L w hi => law_Hull w) rfl ?_
  rintro _ _ ⟨⟨o, rv⟩, rfl, rfl⟩
  refine WO.fact (OwC.form (by repeat (first | exact Pick.head | apply Pick.tail))) (fun hf => ?_)
  obtain ⟨a0, c0, rfl⟩ := hf
  refine WO.alloc rfl rfl rfl (fun b1 hb1 => ?_)
  refine WO.storeA rfl rfl rfl rfl Pick.head rfl rfl ?_
  refine WO.nil ?_
  refine W.sreg ?_
  refine' WO.buildSl (cs := _) rfl rfl rfl rfl ?hf rfl rfl ?hl rfl (fun v2 => ?_)
  case hf => (conv => lhs; simp [-List.getD_eq_getElem?_getD, fillL, vcl, wrl, TTab.pl?.lget']) <;> rfl
  case hl => rfl
  refine' WO.buildSl (cs := _) rfl rfl rfl rfl ?hf rfl rfl ?hl rfl (fun v3 => ?_)
  case hf => (conv => lhs; simp [-List.getD_eq_getElem?_getD, fillL, vcl, wrl, TTab.pl?.lget']) <;> rfl
  case hl => rfl
  refine' WO.buildSl (cs := _) rfl rfl rfl rfl ?hf rfl rfl ?hl rfl (fun v4 => ?_)
  case hf => (conv => lhs; simp [-List.getD_eq_getElem?_getD, fillL, vcl, wrl, TTab.pl?.lget']) <;> rfl
  case hl => rfl
  refine WO.p rfl rfl ?_
  refine WO.nil ?_
  refine W.chg (rowsNil (enc := encI) (e := 2) (sz := 1)) ?_
  refine W.chg (rowsSnoc (enc := encI) (e := 2) (sz := 1) (rv := []) (xss := []) (r := .slice (some ⟨v2, 0, none⟩) 2 2) (xs := [2, 6]) .head (.tail (.tail .head))) ?_
  refine W.chg (rowsSnoc (enc := encI) (e := 2) (sz := 1) (rv := [.slice (some ⟨v2, 0, none⟩) 2 2]) (xss := [[2, 6]]) (r := .slice (some ⟨v3, 0, none⟩) 2 2) (xs := [0, 3]) .head (.tail .head)) ?_
  refine W.sreg ?_
  refine WO.loadA rfl rfl (Cells.own (Pick.tail (Pick.tail (Pick.head)))) rfl rfl (WO.p rfl rfl ?_)
  refine WO.callR (r := .tuple #[.agg #[.int .i64 330, .int .i64 1], .int .i64 0]) rfl Try.call14 (fun L w hi => by rw [← ex_vol]; exact c_Volume w 10 6 _ _ _ _ exRows [[2, 6], [0, 3]] (RdR.of_ow (e := 55) (e' := 52) (n := 2) encP_ok (by repeat (first | exact Pick.head | apply Pick.tail)) (by repeat (first | exact Pick.head | apply Pick.tail)) hi) (RdR.of_ow (e := 2) (e' := 53) (n := 2) encI_ok (by repeat (first | exact Pick.head | apply Pick.tail)) (by repeat (first | exact Pick.head | apply Pick.tail)) hi)) rfl ?_
  refine WO.p rfl rfl (WO.p rfl rfl (WO.p rfl rfl ?_))
  refine WO.alloc rfl rfl rfl (fun b5 hb5 => ?_)
  refine WO.storeA rfl rfl rfl rfl Pick.head rfl rfl (WO.p rfl rfl ?_)
  refine WO.nil ?_
  refine W.sreg ?_
  refine WO.loadA rfl rfl (Cells.own (Pick.tail (Pick.tail (Pick.tail (Pick.head))))) rfl rfl (WO.p rfl rfl ?_)
  refine WO.callR (r := .tuple #[.agg #[.int .i64 81, .int .i64 11], .int .i64 0]) rfl Try.call16 (fun L w hi => by rw [← ex_val 2 (by omega) (q := (81, 11)) (by decide +kernel)]; exact c_Value w 10 6 _ _ _ _ exRows [[2, 6], [0, 3]] 2 (RdR.of_ow (e := 55) (e' := 52) (n := 2) encP_ok (by repeat (first | exact Pick.head | apply Pick.tail)) (by repeat (first | exact Pick.head | apply Pick.tail)) hi) (RdR.of_ow (e := 2) (e' := 53) (n := 2) encI_ok (by repeat (first | exact Pick.head | apply Pick.tail)) (by repeat (first | exact Pick.head | apply Pick.tail)) hi)) rfl ?_
  refine WO.p rfl rfl (WO.p rfl rfl (WO.p rfl rfl ?_))
  refine WO.alloc rfl rfl rfl (fun b6 hb6 => ?_)
  refine WO.storeA rfl rfl rfl rfl Pick.head rfl rfl (WO.p rfl rfl ?_)
  refine WO.nil ?_
  refine W.sreg ?_
  refine WO.loadA rfl rfl (Cells.own (Pick.tail (Pick.tail (Pick.tail (Pick.tail (Pick.head)))))) rfl rfl ?_
  refine WO.callR (r := .tuple #[.agg #[.int .i64 30, .int .i64 13, .int .i64 10, .int .i64 3], .int .i64 0]) rfl Try.call25 (fun L w hi => by rw [← ex_s0]; exact c_Span w 10 6 0 _ _ exRows (RdR.of_ow (e := 55) (e' := 52) (n := 2) encP_ok (by repeat (first | exact Pick.head | apply Pick.tail)) (by repeat (first | exact Pick.head | apply Pick.tail)) hi)) rfl ?_
  refine WO.p rfl rfl (WO.p rfl rfl (WO.p rfl rfl ?_))
  refine WO.alloc rfl rfl rfl (fun b7 hb7 => ?_)
  refine WO.storeA rfl rfl rfl rfl Pick.head rfl rfl (WO.p rfl rfl ?_)
  refine WO.nil ?_
  refine W.sreg ?_
  refine WO.loadA rfl rfl (Cells.own (Pick.tail (Pick.tail (Pick.tail (Pick.tail (Pick.tail (Pick.head))))))) rfl rfl ?_
  refine WO.callR (r := .tuple #[.agg #[.int .i64 27, .int .i64 7, .int .i64 54, .int .i64 11], .int .i64 0]) rfl Try.call25 (fun L w hi => by rw [← ex_s1]; exact c_Span w 10 6 1 _ _ exRows (RdR.of_ow (e := 55) (e' := 52) (n := 2) encP_ok (by repeat (first | exact Pick.head | apply Pick.tail)) (by repeat (first | exact Pick.head | apply Pick.tail)) hi)) rfl ?_
  refine WO.p rfl rfl (WO.p rfl rfl (WO.p rfl rfl ?_))
  refine WO.alloc rfl rfl rfl (fun b8 hb8 => ?_)
  refine WO.storeA rfl rfl rfl rfl Pick.head rfl rfl (WO.p rfl rfl ?_)
  refine WO.nil ?_
  refine W.sreg ?_
  refine WO.loadA rfl rfl (Cells.own (Pick.tail (Pick.tail (Pick.tail (Pick.tail (Pick.tail (Pick.tail (Pick.head)))))))) rfl rfl ?_
  refine WO.call (Post := fun v Hq => ∃ x : Value × List Value, v = .tuple #[x.1, .int .i64 0] ∧ Hq = [OwC 53 1 x.1 2 x.2, RowsE encI 2 1 x.2 [[2, 6], [1, 3]]]) rfl Try.call28 (fun L w hi => (c_End w 10 6 0 true _ _ exRows (RdR.of_ow (e := 55) (e' := 52) (n := 2) encP_ok (by repeat (first | exact Pick.head | apply Pick.tail)) (by repeat (first | exact Pick.head | apply Pick.tail)) hi)).mono (fun v w' ⟨Hq, ⟨x, ⟨e1, e2, e3⟩, e4⟩, e5⟩ => by rw [ex_plan (by omega)] at e1; have ey := ex_uniq (e2 (ex_plan (by omega))); rw [ey] at e4; exact ⟨Hq, ⟨(x.1, x.2.1), e1, e4⟩, e5⟩)) rfl ?_
  rintro _ _ ⟨⟨vE, rvE⟩, rfl, rfl⟩
  refine WO.p rfl rfl (WO.p rfl rfl (WO.p rfl rfl (WO.p rfl rfl (WO.p rfl rfl ?_))))
  refine WO.nil ?_
  refine W.sreg ?_
  refine WO.loadA rfl rfl (Cells.own (Pick.tail (Pick.tail (Pick.tail (Pick.tail (Pick.tail (Pick.tail (Pick.tail (Pick.tail (Pick.head)))))))))) rfl rfl ?_
  refine' WO.build (cs := _) rfl rfl rfl ?hf rfl ?_
  case hf => (conv => lhs; simp [-List.getD_eq_getElem?_getD, fillL, vcl, wrl, TTab.pl?.lget']) <;> rfl
  refine WO.callR (r := .int .i64 0) rfl Try.call22 (fun L w hi => by rw [← ex_b1]; exact c_CheckBound w 10 6 0 10 3 true _ _ exRows (RdR.of_ow (e := 55) (e' := 52) (n := 2) encP_ok (by repeat (first | exact Pick.head | apply Pick.tail)) (by repeat (first | exact Pick.head | apply Pick.tail)) hi)) rfl ?_
  refine WO.p rfl rfl ?_
  refine WO.nil ?_
  refine W.sreg ?_
  refine WO.loadA rfl rfl (Cells.own (Pick.tail (Pick.tail (Pick.tail (Pick.tail (Pick.tail (Pick.tail (Pick.tail (Pick.tail (Pick.head)))))))))) rfl rfl ?_
  refine' WO.build (cs := _) rfl rfl rfl ?hf rfl ?_
  case hf => (conv => lhs; simp [-List.getD_eq_getElem?_getD, fillL, vcl, wrl, TTab.pl?.lget']) <;> rfl
  refine WO.callR (r := .int .i64 14) rfl Try.call22 (fun L w hi => by rw [← ex_b2]; exact c_CheckBound w 10 6 0 3 1 true _ _ exRows (RdR.of_ow (e := 55) (e' := 52) (n := 2) encP_ok (by repeat (first | exact Pick.head | apply Pick.tail)) (by repeat (first | exact Pick.head | apply Pick.tail)) hi)) rfl ?_
  refine WO.p rfl rfl ?_
  refine WO.nil ?_
  refine W.sreg ?_
  refine WO.p rfl rfl (WO.p rfl rfl (WO.p rfl rfl ?_))
  refine WO.guard_bl rfl rfl (fun c1 => ?_) (fun c1 => ?_)
  · first
    | (exfalso; omega)
    | (refine WO.pg rfl rfl rfl (WO.pg rfl rfl rfl (WO.p rfl rfl (WO.p rfl rfl ?_)))
       refine WO.guard_bl rfl rfl (fun c2 => ?_) (fun c2 => ?_)
       · first
         | (exfalso; omega)
         | (refine WO.pg rfl rfl rfl (WO.pg rfl rfl rfl (WO.p rfl rfl (WO.p rfl rfl ?_)))
            refine WO.guard_bl rfl rfl (fun c3 => ?_) (fun c3 => ?_)
            · first
              | (exfalso; omega)
              | (refine WO.pg rfl rfl rfl (WO.pg rfl rfl rfl (WO.p rfl rfl (WO.p rfl rfl ?_)))
                 refine WO.guard_bl rfl rfl (fun c4 => ?_) (fun c4 => ?_)
                 · first
                   | (exfalso; omega)
                   | (refine WO.pg rfl rfl rfl (WO.pg rfl rfl rfl (WO.p rfl rfl (WO.p rfl rfl ?_)))
                      refine WO.guard_bl rfl rfl (fun c5 => ?_) (fun c5 => ?_)
                      · first
                        | (exfalso; omega)
                        | (refine WO.pg rfl rfl rfl (WO.pg rfl rfl rfl (WO.p rfl rfl (WO.p rfl rfl ?_)))
                           refine WO.guard_bl rfl rfl (fun c6 => ?_) (fun c6 => ?_)
                           · first
                             | (exfalso; omega)
                             | (refine WO.pg rfl rfl rfl (WO.pg rfl rfl rfl (WO.p rfl rfl (WO.p rfl rfl ?_)))
                                refine WO.guard_bl rfl rfl (fun c7 => ?_) (fun c7 => ?_)
                                · first
                                  | (exfalso; omega)
                                  | (refine WO.go' rfl (WO.loadA rfl rfl (Cells.own (Pick.tail (Pick.tail (Pick.tail (Pick.tail (Pick.tail (Pick.head))))))) rfl rfl (WO.go' rfl ?_))
                                     refine' WO.build (cs := _) rfl rfl rfl ?hf rfl ?_
                                     case hf => (conv => lhs; simp [-List.getD_eq_getElem?_getD, fillL, vcl, wrl, TTab.pl?.lget']) <;> rfl
                                     refine WO.go' rfl ?_
                                     refine WO.eqT rfl rfl (eq29t _ _) rfl ?_
                                     refine WO.p rfl rfl (WO.p rfl rfl (WO.go' rfl (WO.loadA rfl rfl (Cells.own (Pick.tail (Pick.tail (Pick.tail (Pick.tail (Pick.head)))))) rfl rfl (WO.go' rfl ?_))))
                                     refine' WO.build (cs := _) rfl rfl rfl ?hf rfl ?_
                                     case hf => (conv => lhs; simp [-List.getD_eq_getElem?_getD, fillL, vcl, wrl, TTab.pl?.lget']) <;> rfl
                                     refine WO.go' rfl ?_
                                     refine WO.eqT rfl rfl (eq29t _ _) rfl ?_
                                     refine WO.p rfl rfl (WO.p rfl rfl (WO.go' rfl (WO.loadA rfl rfl (Cells.own (Pick.tail (Pick.tail (Pick.tail (Pick.head))))) rfl rfl (WO.go' rfl ?_))))
                                     refine' WO.build (cs := _) rfl rfl rfl ?hf rfl ?_
                                     case hf => (conv => lhs; simp [-List.getD_eq_getElem?_getD, fillL, vcl, wrl, TTab.pl?.lget']) <;> rfl
                                     refine WO.go' rfl ?_
                                     refine' WO.build (cs := _) rfl rfl rfl ?hf rfl ?_
                                     case hf => (conv => lhs; simp [-List.getD_eq_getElem?_getD, fillL, vcl, wrl, TTab.pl?.lget']) <;> rfl
                                     refine WO.go' rfl ?_
                                     refine' WO.build (cs := _) rfl rfl rfl ?hf rfl ?_
                                     case hf => (conv => lhs; simp [-List.getD_eq_getElem?_getD, fillL, vcl, wrl, TTab.pl?.lget']) <;> rfl
                                     refine WO.go' rfl ?_
                                     refine WO.eqT rfl rfl (eq41t _ _ _ _) rfl ?_
                                     refine WO.p rfl rfl (WO.p rfl rfl (WO.go' rfl (WO.loadA rfl rfl (Cells.own (Pick.tail (Pick.tail (Pick.head)))) rfl rfl (WO.go' rfl ?_))))
                                     refine' WO.build (cs := _) rfl rfl rfl ?hf rfl ?_
                                     case hf => (conv => lhs; simp [-List.getD_eq_getElem?_getD, fillL, vcl, wrl, TTab.pl?.lget']) <;> rfl
                                     refine WO.go' rfl ?_
                                     refine' WO.build (cs := _) rfl rfl rfl ?hf rfl ?_
                                     case hf => (conv => lhs; simp [-List.getD_eq_getElem?_getD, fillL, vcl, wrl, TTab.pl?.lget']) <;> rfl
                                     refine WO.go' rfl ?_
                                     refine' WO.build (cs := _) rfl rfl rfl ?hf rfl ?_
                                     case hf => (conv => lhs; simp [-List.getD_eq_getElem?_getD, fillL, vcl, wrl, TTab.pl?.lget']) <;> rfl
                                     refine WO.go' rfl ?_
                                     refine WO.eqT rfl rfl (eq41t _ _ _ _) rfl ?_
                                     refine WO.p rfl rfl (WO.p rfl rfl (WO.pg rfl rfl rfl (WO.go' rfl ?_)))
                                     refine' WO.buildSl (cs := _) rfl rfl rfl rfl ?hf rfl rfl ?hl rfl (fun v9 => ?_)
                                     case hf => (conv => lhs; simp [-List.getD_eq_getElem?_getD, fillL, vcl, wrl, TTab.pl?.lget']) <;> rfl
                                     case hl => rfl
                                     refine WO.go' rfl ?_
                                     refine' WO.buildSl (cs := _) rfl rfl rfl rfl ?hf rfl rfl ?hl rfl (fun v10 => ?_)
                                     case hf => (conv => lhs; simp [-List.getD_eq_getElem?_getD, fillL, vcl, wrl, TTab.pl?.lget']) <;> rfl
                                     case hl => rfl
                                     refine WO.go' rfl ?_
                                     refine' WO.buildSl (cs := _) rfl rfl rfl rfl ?hf rfl rfl ?hl rfl (fun v11 => ?_)
                                     case hf => (conv => lhs; simp [-List.getD_eq_getElem?_getD, fillL, vcl, wrl, TTab.pl?.lget']) <;> rfl
                                     case hl => rfl
                                     refine WO.go' rfl ?_
                                     refine WO.chg (rowsNil (enc := encI) (e := 2) (sz := 1)) ?_
                                     refine WO.chg (rowsSnoc (enc := encI) (e := 2) (sz := 1) (rv := []) (xss := []) (r := .slice (some ⟨v9, 0, none⟩) 2 2) (xs := [2, 6]) .head (by repeat (first | exact Pick.head | apply Pick.tail))) ?_
                                     refine WO.chg (rowsSnoc (enc := encI) (e := 2) (sz := 1) (rv := [.slice (some ⟨v9, 0, none⟩) 2 2]) (xss := [[2, 6]]) (r := .slice (some ⟨v10, 0, none⟩) 2 2) (xs := [1, 3]) .head (by repeat (first | exact Pick.head | apply Pick.tail))) ?_
                                     refine WO.callR (r := .bool true) rfl Try.call38 (fun L w hi => law_same w _ _ rvE [.slice (some ⟨v9, 0, none⟩) 2 2, .slice (some ⟨v10, 0, none⟩) 2 2] [[2, 6], [1, 3]] [[2, 6], [1, 3]] (RdR.of_ow (e := 2) (e' := 53) (n := 2) encI_ok (by repeat (first | exact Pick.head | apply Pick.tail)) (by repeat (first | exact Pick.head | apply Pick.tail)) hi) (RdR.of_ow (e := 2) (e' := 53) (n := 2) encI_ok (by repeat (first | exact Pick.head | apply Pick.tail)) (by repeat (first | exact Pick.head | apply Pick.tail)) hi)) rfl ?_
                                     refine WO.p rfl rfl (WO.p rfl rfl ?_)
                                     refine WO.nil ?_
                                     refine W.ret ?_
                                     exact fin.ret (Res.one rfl (RV.tmp rfl)) rfl)
                                · first
                                  | (exfalso; omega)
                                  | (refine WO.no rfl rfl (WO.no rfl rfl (WO.no rfl rfl (WO.p rfl rfl (WO.p rfl rfl (WO.no rfl rfl (WO.no rfl rfl (WO.no rfl rfl (WO.p rfl rfl (WO.p rfl rfl (WO.no rfl rfl (WO.no rfl rfl ?_)))))))))))
                                     refine WO.no rfl rfl (WO.no rfl rfl (WO.no rfl rfl (WO.p rfl rfl (WO.p rfl rfl (WO.no rfl rfl (WO.no rfl rfl (WO.no rfl rfl (WO.no rfl rfl (WO.no rfl rfl (WO.p rfl rfl (WO.p rfl rfl ?_)))))))))))
                                     refine WO.no rfl rfl (WO.no rfl rfl (WO.no rfl rfl (WO.no rfl rfl (WO.no rfl rfl (WO.p rfl rfl (WO.p rfl rfl ?_))))))
                                     refine WO.nil ?_
                                     refine W.ret ?_
                                     exact fin.ret (Res.one rfl (RV.tmp rfl)) rfl))
                           · first
                             | (exfalso; omega)
                             | (refine WO.no rfl rfl (WO.no rfl rfl (WO.p rfl rfl (WO.p rfl rfl (WO.no rfl rfl (WO.no rfl rfl (WO.no rfl rfl (WO.p rfl rfl (WO.p rfl rfl (WO.no rfl rfl (WO.no rfl rfl (WO.no rfl rfl ?_)))))))))))
                                refine WO.p rfl rfl (WO.p rfl rfl (WO.no rfl rfl (WO.no rfl rfl (WO.no rfl rfl (WO.no rfl rfl (WO.no rfl rfl (WO.p rfl rfl (WO.p rfl rfl (WO.no rfl rfl (WO.no rfl rfl (WO.no rfl rfl ?_)))))))))))
                                refine WO.no rfl rfl (WO.no rfl rfl (WO.p rfl rfl (WO.p rfl rfl (WO.no rfl rfl (WO.no rfl rfl (WO.no rfl rfl (WO.no rfl rfl (WO.no rfl rfl (WO.p rfl rfl (WO.p rfl rfl ?_))))))))))
                                refine WO.nil ?_
                                refine W.ret ?_
                                exact fin.ret (Res.one rfl (RV.tmp rfl)) rfl))
                      · first
                        | (exfalso; omega)
                        | (refine WO.no rfl rfl (WO.no rfl rfl (WO.p rfl rfl (WO.p rfl rfl (WO.no rfl rfl (WO.no rfl rfl (WO.p rfl rfl (WO.p rfl rfl (WO.no rfl rfl (WO.no rfl rfl (WO.no rfl rfl (WO.p rfl rfl ?_)))))))))))
                           refine WO.p rfl rfl (WO.no rfl rfl (WO.no rfl rfl (WO.no rfl rfl (WO.p rfl rfl (WO.p rfl rfl (WO.no rfl rfl (WO.no rfl rfl (WO.no rfl rfl (WO.no rfl rfl (WO.no rfl rfl (WO.p rfl rfl ?_)))))))))))
                           refine WO.p rfl rfl (WO.no rfl rfl (WO.no rfl rfl (WO.no rfl rfl (WO.no rfl rfl (WO.no rfl rfl (WO.p rfl rfl (WO.p rfl rfl (WO.no rfl rfl (WO.no rfl rfl (WO.no rfl rfl (WO.no rfl rfl ?_)))))))))))
                           refine WO.no rfl rfl (WO.p rfl rfl (WO.p rfl rfl ?_))
                           refine WO.nil ?_
                           refine W.ret ?_
                           exact fin.ret (Res.one rfl (RV.tmp rfl)) rfl))
                 · first
                   | (exfalso; omega)
                   | (refine WO.no rfl rfl (WO.no rfl rfl (WO.p rfl rfl (WO.p rfl rfl (WO.no rfl rfl (WO.no rfl rfl (WO.p rfl rfl (WO.p rfl rfl (WO.no rfl rfl (WO.no rfl rfl (WO.p rfl rfl (WO.p rfl rfl ?_)))))))))))
                      refine WO.no rfl rfl (WO.no rfl rfl (WO.no rfl rfl (WO.p rfl rfl (WO.p rfl rfl (WO.no rfl rfl (WO.no rfl rfl (WO.no rfl rfl (WO.p rfl rfl (WO.p rfl rfl (WO.no rfl rfl (WO.no rfl rfl ?_)))))))))))
                      refine WO.no rfl rfl (WO.no rfl rfl (WO.no rfl rfl (WO.p rfl rfl (WO.p rfl rfl (WO.no rfl rfl (WO.no rfl rfl (WO.no rfl rfl (WO.no rfl rfl (WO.no rfl rfl (WO.p rfl rfl (WO.p rfl rfl ?_)))))))))))
                      refine WO.no rfl rfl (WO.no rfl rfl (WO.no rfl rfl (WO.no rfl rfl (WO.no rfl rfl (WO.p rfl rfl (WO.p rfl rfl ?_))))))
                      refine WO.nil ?_
                      refine W.ret ?_
                      exact fin.ret (Res.one rfl (RV.tmp rfl)) rfl))
            · first
              | (exfalso; omega)
              | (refine WO.no rfl rfl (WO.no rfl rfl (WO.p rfl rfl (WO.p rfl rfl (WO.no rfl rfl (WO.no rfl rfl (WO.p rfl rfl (WO.p rfl rfl (WO.no rfl rfl (WO.no rfl rfl (WO.p rfl rfl (WO.p rfl rfl ?_)))))))))))
                 refine WO.no rfl rfl (WO.no rfl rfl (WO.p rfl rfl (WO.p rfl rfl (WO.no rfl rfl (WO.no rfl rfl (WO.no rfl rfl (WO.p rfl rfl (WO.p rfl rfl (WO.no rfl rfl (WO.no rfl rfl (WO.no rfl rfl ?_)))))))))))
                 refine WO.p rfl rfl (WO.p rfl rfl (WO.no rfl rfl (WO.no rfl rfl (WO.no rfl rfl (WO.no rfl rfl (WO.no rfl rfl (WO.p rfl rfl (WO.p rfl rfl (WO.no rfl rfl (WO.no rfl rfl (WO.no rfl rfl ?_)))))))))))
                 refine WO.no rfl rfl (WO.no rfl rfl (WO.p rfl rfl (WO.p rfl rfl (WO.no rfl rfl (WO.no rfl rfl (WO.no rfl rfl (WO.no rfl rfl (WO.no rfl rfl (WO.p rfl rfl (WO.p rfl rfl ?_))))))))))
                 refine WO.nil ?_
                 refine W.ret ?_
                 exact fin.ret (Res.one rfl (RV.tmp rfl)) rfl))
       · first
         | (exfalso; omega)
         | (refine WO.no rfl rfl (WO.no rfl rfl (WO.p rfl rfl (WO.p rfl rfl (WO.no rfl rfl (WO.no rfl rfl (WO.p rfl rfl (WO.p rfl rfl (WO.no rfl rfl (WO.no rfl rfl (WO.p rfl rfl (WO.p rfl rfl ?_)))))))))))
            refine WO.no rfl rfl (WO.no rfl rfl (WO.p rfl rfl (WO.p rfl rfl (WO.no rfl rfl (WO.no rfl rfl (WO.p rfl rfl (WO.p rfl rfl (WO.no rfl rfl (WO.no rfl rfl (WO.no rfl rfl (WO.p rfl rfl ?_)))))))))))
            refine WO.p rfl rfl (WO.no rfl rfl (WO.no rfl rfl (WO.no rfl rfl (WO.p rfl rfl (WO.p rfl rfl (WO.no rfl rfl (WO.no rfl rfl (WO.no rfl rfl (WO.no rfl rfl (WO.no rfl rfl (WO.p rfl rfl ?_)))))))))))
            refine WO.p rfl rfl (WO.no rfl rfl (WO.no rfl rfl (WO.no rfl rfl (WO.no rfl rfl (WO.no rfl rfl (WO.p rfl rfl (WO.p rfl rfl (WO.no rfl rfl (WO.no rfl rfl (WO.no rfl rfl (WO.no rfl rfl ?_)))))))))))
            refine WO.no rfl rfl (WO.p rfl rfl (WO.p rfl rfl ?_))
            refine WO.nil ?_
            refine W.ret ?_
            exact fin.ret (Res.one rfl (RV.tmp rfl)) rfl))
  · first
    | (exfalso; omega)
    | (refine WO.no rfl rfl (WO.no rfl rfl (WO.p rfl rfl (WO.p rfl rfl (WO.no rfl rfl (WO.no rfl rfl (WO.p rfl rfl (WO.p rfl rfl (WO.no rfl rfl (WO.no rfl rfl (WO.p rfl rfl (WO.p rfl rfl ?_)))))))))))
       refine WO.no rfl rfl (WO.no rfl rfl (WO.p rfl rfl (WO.p rfl rfl (WO.no rfl rfl (WO.no rfl rfl (WO.p rfl rfl (WO.p rfl rfl (WO.no rfl rfl (WO.no rfl rfl (WO.p rfl rfl (WO.p rfl rfl ?_)))))))))))
       refine WO.no rfl rfl (WO.no rfl rfl (WO.no rfl rfl (WO.p rfl rfl (WO.p rfl rfl (WO.no rfl rfl (WO.no rfl rfl (WO.no rfl rfl (WO.p rfl rfl (WO.p rfl rfl (WO.no rfl rfl (WO.no rfl rfl ?_)))))))))))
       refine WO.no rfl rfl (WO.no rfl rfl (WO.no rfl rfl (WO.p rfl rfl (WO.p rfl rfl (WO.no rfl rfl (WO.no rfl rfl (WO.no rfl rfl (WO.no rfl rfl (WO.no rfl rfl (WO.p rfl rfl (WO.p rfl rfl ?_)))))))))))
       refine WO.no rfl rfl (WO.no rfl rfl (WO.no rfl rfl (WO.no rfl rfl (WO.no rfl rfl (WO.p rfl rfl (WO.p rfl rfl ?_))))))
       refine WO.nil ?_
       refine W.ret ?_
       exact fin.ret (Res.one rfl (RV.tmp rfl)) rfl)
end Go.Proofs.Ytgihklgpehfbpaa
namespace Go.Proofs.Ytgihklgpehfbpaa
open Go Go.TH
attribute [local irreducible] W WO pt
set_option maxRecDepth 10000
set_option maxHeartbeats 4000000
theorem ex_vols : volsR 10 6 exRows = .tuple #[.agg #[.int .i64 330, .int .i64 1, .int .i64 420, .int .i64 1], .int .i64 0] := by
  rw [← vols_o ex_hv, show volQ 10 6 (endsOf false exRows) = (330, 1) by decide +kernel, show volQ 10 6 (endsOf true exRows) = (420, 1) by decide +kernel]; rfl
theorem law_BoxKnown (w : World) : Ret Try.prog 11 ([] : List Value).toArray w (.bool true) := by
  refine Ret.of mixed tyTab Try.func11 rfl rfl ?_
  refine W.sreg ?_
  refine WO.p rfl rfl ?_
  refine WO.nil ?_
  refine W.sreg ?_
  refine WO.call (Post := fun v Hq => ∃ x : Value × List Value, v = .agg #[.int .i64 10, .int .i64 6, x.1] ∧ Hq = [OwC 52 1 x.1 2 x.2, RowsE encP 55 2 x.2 exRows]) rfl Try.call37 (fun L w hi => law_Hull w) rfl ?_
  rintro _ _ ⟨⟨o, rv⟩, rfl, rfl⟩
  refine WO.fact (OwC.form (by repeat (first | exact Pick.head | apply Pick.tail))) (fun hf => ?_)
  obtain ⟨a0, c0, rfl⟩ := hf
  refine WO.alloc rfl rfl rfl (fun b1 hb1 => ?_)
  refine WO.storeA rfl rfl rfl rfl Pick.head rfl rfl ?_
  refine WO.nil ?_
  refine W.sreg ?_
  refine' WO.buildSl (cs := _) rfl rfl rfl rfl ?hf rfl rfl ?hl rfl (fun v2 => ?_)
  case hf => (conv => lhs; simp [-List.getD_eq_getElem?_getD, fillL, vcl, wrl, TTab.pl?.lget']) <;> rfl
  case hl => rfl
  refine' WO.buildSl (cs := _) rfl rfl rfl rfl ?hf rfl rfl ?hl rfl (fun v3 => ?_)
  case hf => (conv => lhs; simp [-List.getD_eq_getElem?_getD, fillL, vcl, wrl, TTab.pl?.lget']) <;> rfl
  case hl => rfl
  refine' WO.buildSl (cs := _) rfl rfl rfl rfl ?hf rfl rfl ?hl rfl (fun v4 => ?_)
  case hf => (conv => lhs; simp [-List.getD_eq_getElem?_getD, fillL, vcl, wrl, TTab.pl?.lget']) <;> rfl
  case hl => rfl
  refine WO.p rfl rfl ?_
  refine WO.nil ?_
  refine W.chg (rowsNil (enc := encI) (e := 2) (sz := 1)) ?_
  refine W.chg (rowsSnoc (enc := encI) (e := 2) (sz := 1) (rv := []) (xss := []) (r := .slice (some ⟨v2, 0, none⟩) 2 2) (xs := [2, 6]) .head (.tail (.tail .head))) ?_
  refine W.chg (rowsSnoc (enc := encI) (e := 2) (sz := 1) (rv := [.slice (some ⟨v2, 0, none⟩) 2 2]) (xss := [[2, 6]]) (r := .slice (some ⟨v3, 0, none⟩) 2 2) (xs := [0, 3]) .head (.tail .head)) ?_
  refine W.sreg ?_
  refine WO.loadA rfl rfl (Cells.own (Pick.tail (Pick.tail (Pick.head)))) rfl rfl (WO.p rfl rfl ?_)
  refine WO.callR (r := .tuple #[.agg #[.int .i64 30, .int .i64 11], .int .i64 0]) rfl Try.call16 (fun L w hi => by rw [← ex_val 0 (by omega) (q := (30, 11)) (by decide +kernel)]; exact c_Value w 10 6 _ _ _ _ exRows [[2, 6], [0, 3]] 0 (RdR.of_ow (e := 55) (e' := 52) (n := 2) encP_ok (by repeat (first | exact Pick.head | apply Pick.tail)) (by repeat (first | exact Pick.head | apply Pick.tail)) hi) (RdR.of_ow (e := 2) (e' := 53) (n := 2) encI_ok (by repeat (first | exact Pick.head | apply Pick.tail)) (by repeat (first | exact Pick.head | apply Pick.tail)) hi)) rfl ?_
  refine WO.p rfl rfl (WO.p rfl rfl (WO.p rfl rfl ?_))
  refine WO.alloc rfl rfl rfl (fun b5 hb5 => ?_)
  refine WO.storeA rfl rfl rfl rfl Pick.head rfl rfl (WO.p rfl rfl ?_)
  refine WO.nil ?_
  refine W.sreg ?_
  refine WO.loadA rfl rfl (Cells.own (Pick.tail (Pick.tail (Pick.tail (Pick.head))))) rfl rfl (WO.p rfl rfl ?_)
  refine WO.callR (r := .tuple #[.agg #[.int .i64 54, .int .i64 11], .int .i64 0]) rfl Try.call16 (fun L w hi => by rw [← ex_val 1 (by omega) (q := (54, 11)) (by decide +kernel)]; exact c_Value w 10 6 _ _ _ _ exRows [[2, 6], [0, 3]] 1 (RdR.of_ow (e := 55) (e' := 52) (n := 2) encP_ok (by repeat (first | exact Pick.head | apply Pick.tail)) (by repeat (first | exact Pick.head | apply Pick.tail)) hi) (RdR.of_ow (e := 2) (e' := 53) (n := 2) encI_ok (by repeat (first | exact Pick.head | apply Pick.tail)) (by repeat (first | exact Pick.head | apply Pick.tail)) hi)) rfl ?_
  refine WO.p rfl rfl (WO.p rfl rfl (WO.p rfl rfl ?_))
  refine WO.alloc rfl rfl rfl (fun b6 hb6 => ?_)
  refine WO.storeA rfl rfl rfl rfl Pick.head rfl rfl (WO.p rfl rfl ?_)
  refine WO.nil ?_
  refine W.sreg ?_
  refine WO.loadA rfl rfl (Cells.own (Pick.tail (Pick.tail (Pick.tail (Pick.tail (Pick.head)))))) rfl rfl ?_
  refine WO.callR (r := .tuple #[.agg #[.int .i64 330, .int .i64 1, .int .i64 420, .int .i64 1], .int .i64 0]) rfl Try.call34 (fun L w hi => by rw [← ex_vols]; exact c_Volumes w 10 6 _ _ exRows (RdR.of_ow (e := 55) (e' := 52) (n := 2) encP_ok (by repeat (first | exact Pick.head | apply Pick.tail)) (by repeat (first | exact Pick.head | apply Pick.tail)) hi)) rfl ?_
  refine WO.p rfl rfl (WO.p rfl rfl (WO.p rfl rfl ?_))
  refine WO.alloc rfl rfl rfl (fun b7 hb7 => ?_)
  refine WO.storeA rfl rfl rfl rfl Pick.head rfl rfl (WO.p rfl rfl ?_)
  refine WO.nil ?_
  refine W.sreg ?_
  refine WO.loadA rfl rfl (Cells.own (Pick.tail (Pick.tail (Pick.tail (Pick.tail (Pick.tail (Pick.head))))))) rfl rfl ?_
  refine' WO.build (cs := _) rfl rfl rfl ?hf rfl ?_
  case hf => (conv => lhs; simp [-List.getD_eq_getElem?_getD, fillL, vcl, wrl, TTab.pl?.lget']) <;> rfl
  refine WO.callR (r := .int .i64 0) rfl Try.call22 (fun L w hi => by rw [← ex_b3]; exact c_CheckBound w 10 6 0 30 13 false _ _ exRows (RdR.of_ow (e := 55) (e' := 52) (n := 2) encP_ok (by repeat (first | exact Pick.head | apply Pick.tail)) (by repeat (first | exact Pick.head | apply Pick.tail)) hi)) rfl ?_
  refine WO.p rfl rfl ?_
  refine WO.nil ?_
  refine W.sreg ?_
  refine WO.p rfl rfl (WO.p rfl rfl (WO.p rfl rfl ?_))
  refine WO.guard_bl rfl rfl (fun c1 => ?_) (fun c1 => ?_)
  · first
    | (exfalso; omega)
    | (refine WO.pg rfl rfl rfl (WO.pg rfl rfl rfl (WO.p rfl rfl (WO.p rfl rfl ?_)))
       refine WO.guard_bl rfl rfl (fun c2 => ?_) (fun c2 => ?_)
       · first
         | (exfalso; omega)
         | (refine WO.pg rfl rfl rfl (WO.pg rfl rfl rfl (WO.p rfl rfl (WO.p rfl rfl ?_)))
            refine WO.guard_bl rfl rfl (fun c3 => ?_) (fun c3 => ?_)
            · first
              | (exfalso; omega)
              | (refine WO.pg rfl rfl rfl (WO.pg rfl rfl rfl (WO.p rfl rfl (WO.p rfl rfl ?_)))
                 refine WO.guard_bl rfl rfl (fun c4 => ?_) (fun c4 => ?_)
                 · first
                   | (exfalso; omega)
                   | (refine WO.go' rfl (WO.loadA rfl rfl (Cells.own (Pick.tail (Pick.tail (Pick.head)))) rfl rfl (WO.go' rfl ?_))
                      refine' WO.build (cs := _) rfl rfl rfl ?hf rfl ?_
                      case hf => (conv => lhs; simp [-List.getD_eq_getElem?_getD, fillL, vcl, wrl, TTab.pl?.lget']) <;> rfl
                      refine WO.go' rfl ?_
                      refine WO.eqT rfl rfl (eq29t _ _) rfl ?_
                      refine WO.p rfl rfl (WO.p rfl rfl (WO.go' rfl (WO.loadA rfl rfl (Cells.own (Pick.tail (Pick.head))) rfl rfl (WO.go' rfl ?_))))
                      refine' WO.build (cs := _) rfl rfl rfl ?hf rfl ?_
                      case hf => (conv => lhs; simp [-List.getD_eq_getElem?_getD, fillL, vcl, wrl, TTab.pl?.lget']) <;> rfl
                      refine WO.go' rfl ?_
                      refine WO.eqT rfl rfl (eq29t _ _) rfl ?_
                      refine WO.p rfl rfl (WO.p rfl rfl (WO.go' rfl (WO.loadA rfl rfl (Cells.own Pick.head) rfl rfl (WO.go' rfl ?_))))
                      refine' WO.build (cs := _) rfl rfl rfl ?hf rfl ?_
                      case hf => (conv => lhs; simp [-List.getD_eq_getElem?_getD, fillL, vcl, wrl, TTab.pl?.lget']) <;> rfl
                      refine WO.go' rfl ?_
                      refine' WO.build (cs := _) rfl rfl rfl ?hf rfl ?_
                      case hf => (conv => lhs; simp [-List.getD_eq_getElem?_getD, fillL, vcl, wrl, TTab.pl?.lget']) <;> rfl
                      refine WO.go' rfl ?_
                      refine' WO.build (cs := _) rfl rfl rfl ?hf rfl ?_
                      case hf => (conv => lhs; simp [-List.getD_eq_getElem?_getD, fillL, vcl, wrl, TTab.pl?.lget']) <;> rfl
                      refine WO.go' rfl ?_
                      refine WO.eqT rfl rfl (eq41t _ _ _ _) rfl ?_
                      refine WO.p rfl rfl (WO.p rfl rfl (WO.go' rfl ?_))
                      refine WO.callR rfl Try.call13 (fun L w hi => law_Works w) rfl ?_
                      refine WO.p rfl rfl (WO.p rfl rfl ?_)
                      refine WO.nil ?_
                      refine W.ret ?_
                      exact fin.ret (Res.one rfl (RV.tmp rfl)) rfl)
                 · first
                   | (exfalso; omega)
                   | (refine WO.no rfl rfl (WO.no rfl rfl (WO.no rfl rfl (WO.p rfl rfl (WO.p rfl rfl (WO.no rfl rfl (WO.no rfl rfl (WO.no rfl rfl (WO.p rfl rfl (WO.p rfl rfl (WO.no rfl rfl (WO.no rfl rfl ?_)))))))))))
                      refine WO.no rfl rfl (WO.no rfl rfl (WO.no rfl rfl (WO.p rfl rfl (WO.p rfl rfl (WO.no rfl rfl (WO.p rfl rfl (WO.p rfl rfl ?_)))))))
                      refine WO.nil ?_
                      refine W.ret ?_
                      exact fin.ret (Res.one rfl (RV.tmp rfl)) rfl))
            · first
              | (exfalso; omega)
              | (refine WO.no rfl rfl (WO.no rfl rfl (WO.p rfl rfl (WO.p rfl rfl (WO.no rfl rfl (WO.no rfl rfl (WO.no rfl rfl (WO.p rfl rfl (WO.p rfl rfl (WO.no rfl rfl (WO.no rfl rfl (WO.no rfl rfl ?_)))))))))))
                 refine WO.p rfl rfl (WO.p rfl rfl (WO.no rfl rfl (WO.no rfl rfl (WO.no rfl rfl (WO.no rfl rfl (WO.no rfl rfl (WO.p rfl rfl (WO.p rfl rfl (WO.no rfl rfl (WO.p rfl rfl (WO.p rfl rfl ?_)))))))))))
                 refine WO.nil ?_
                 refine W.ret ?_
                 exact fin.ret (Res.one rfl (RV.tmp rfl)) rfl))
       · first
         | (exfalso; omega)
         | (refine WO.no rfl rfl (WO.no rfl rfl (WO.p rfl rfl (WO.p rfl rfl (WO.no rfl rfl (WO.no rfl rfl (WO.p rfl rfl (WO.p rfl rfl (WO.no rfl rfl (WO.no rfl rfl (WO.no rfl rfl (WO.p rfl rfl ?_)))))))))))
            refine WO.p rfl rfl (WO.no rfl rfl (WO.no rfl rfl (WO.no rfl rfl (WO.p rfl rfl (WO.p rfl rfl (WO.no rfl rfl (WO.no rfl rfl (WO.no rfl rfl (WO.no rfl rfl (WO.no rfl rfl (WO.p rfl rfl ?_)))))))))))
            refine WO.p rfl rfl (WO.no rfl rfl (WO.p rfl rfl (WO.p rfl rfl ?_)))
            refine WO.nil ?_
            refine W.ret ?_
            exact fin.ret (Res.one rfl (RV.tmp rfl)) rfl))
  · first
    | (exfalso; omega)
    | (refine WO.no rfl rfl (WO.no rfl rfl (WO.p rfl rfl (WO.p rfl rfl (WO.no rfl rfl (WO.no rfl rfl (WO.p rfl rfl (WO.p rfl rfl (WO.no rfl rfl (WO.no rfl rfl (WO.p rfl rfl (WO.p rfl rfl ?_)))))))))))
       refine WO.no rfl rfl (WO.no rfl rfl (WO.no rfl rfl (WO.p rfl rfl (WO.p rfl rfl (WO.no rfl rfl (WO.no rfl rfl (WO.no rfl rfl (WO.p rfl rfl (WO.p rfl rfl (WO.no rfl rfl (WO.no rfl rfl ?_)))))))))))
       refine WO.no rfl rfl (WO.no rfl rfl (WO.no rfl rfl (WO.p rfl rfl (WO.p rfl rfl (WO.no rfl rfl (WO.p rfl rfl (WO.p rfl rfl ?_)))))))
       refine WO.nil ?_
       refine W.ret ?_
       exact fin.ret (Res.one rfl (RV.tmp rfl)) rfl)
end Go.Proofs.Ytgihklgpehfbpaa
namespace Go.Proofs.Ytgihklgpehfbpaa
open Go Go.TH
attribute [local irreducible] W WO pt
set_option maxRecDepth 10000
set_option maxHeartbeats 4000000
theorem law_BoxTrues (w : World) (sp st what : Int) (o o' : Value) (rv rv' : List Value) (rows : List (List (Int × Int))) (ys : List (List Int)) (hR : RdR encP 2 w.heap.size w o rv rows) (hR' : RdR encI 1 w.heap.size w o' rv' ys) :
    Ret Try.prog 3 [.agg #[.int .i64 sp, .int .i64 st, o], o', .int .i64 what].toArray w (.bool true) := by
  refine Ret.of mixed tyTab Try.func3 rfl rfl ?_
  replace hR : RdR encP 2 (fnCx mixed tyTab Try.f3.ntmps w).B (fnCx mixed tyTab Try.f3.ntmps w).w0 o rv rows := hR
  replace hR' : RdR encI 1 (fnCx mixed tyTab Try.f3.ntmps w).B (fnCx mixed tyTab Try.f3.ntmps w).w0 o' rv' ys := hR'
  refine W.sreg ?_
  refine WO.boxA rfl rfl (fun b1 hb1 => ?_)
  refine WO.p rfl rfl ?_
  refine WO.nil ?_
  refine W.seq ?_
  refine W.sreg ?_
  refine WO.loadA rfl rfl (Cells.own Pick.head) rfl rfl (WO.p rfl rfl ?_)
  refine WO.callR (r := .bool (grt rows ys)) rfl Try.call12 (fun L w hi => law_great w sp st o o' rv rv' rows ys (hR.later hi) (hR'.later hi)) rfl ?_
  refine WO.nil ?_
  refine W.cond rfl (fun c1 => ?_) (fun c1 => ?_)
  · first
    | (exfalso; omega)
    | (refine W.sreg ?_
       refine WO.callR rfl Try.call13 (fun L w hi => law_Works w) rfl ?_
       refine WO.p rfl rfl ?_
       refine WO.nil ?_
       refine W.ret ?_
       exact fin.ret (Res.one rfl (RV.tmp rfl)) rfl)
  · first
    | (exfalso; omega)
    | (refine W.skip ?_
       refine W.sreg ?_
       refine WO.loadA rfl rfl (Cells.own Pick.head) rfl rfl (WO.p rfl rfl ?_)
       refine WO.callR (r := volR sp st rows ys) rfl Try.call14 (fun L w hi => c_Volume w sp st o o' rv rv' rows ys (hR.later hi) (hR'.later hi)) rfl ?_
       refine WO.p rfl rfl (WO.p rfl rfl (WO.p rfl rfl ?_))
       refine WO.alloc rfl rfl rfl (fun b2 hb2 => ?_)
       refine WO.storeA rfl rfl rfl rfl Pick.head rfl rfl (WO.p rfl rfl ?_)
       refine WO.nil ?_
       refine W.sreg ?_
       refine WO.loadA rfl rfl (Cells.own (Pick.tail (Pick.head))) rfl rfl (WO.p rfl rfl ?_)
       refine WO.callR (r := volR sp st rows ys) rfl Try.call15 (fun L w hi => ref_Volume w sp st o o' rv rv' rows ys (hR.later hi) (hR'.later hi)) rfl ?_
       refine WO.p rfl rfl (WO.p rfl rfl (WO.p rfl rfl ?_))
       refine WO.alloc rfl rfl rfl (fun b3 hb3 => ?_)
       refine WO.storeA rfl rfl rfl rfl Pick.head rfl rfl (WO.p rfl rfl ?_)
       refine WO.nil ?_
       refine W.sreg ?_
       refine WO.loadA rfl rfl (Cells.own (Pick.tail (Pick.tail (Pick.head)))) rfl rfl (WO.p rfl rfl (WO.p rfl rfl ?_))
       refine WO.callR (r := valR sp st rows ys what) rfl Try.call16 (fun L w hi => c_Value w sp st o o' rv rv' rows ys what (hR.later hi) (hR'.later hi)) rfl ?_
       refine WO.p rfl rfl (WO.p rfl rfl (WO.p rfl rfl ?_))
       refine WO.alloc rfl rfl rfl (fun b4 hb4 => ?_)
       refine WO.storeA rfl rfl rfl rfl Pick.head rfl rfl (WO.p rfl rfl ?_)
       refine WO.nil ?_
       refine W.sreg ?_
       refine WO.loadA rfl rfl (Cells.own (Pick.tail (Pick.tail (Pick.tail (Pick.head))))) rfl rfl (WO.p rfl rfl (WO.p rfl rfl ?_))
       refine WO.callR (r := valR sp st rows ys what) rfl Try.call17 (fun L w hi => ref_Value w sp st o o' rv rv' rows ys what (hR.later hi) (hR'.later hi)) rfl ?_
       refine WO.p rfl rfl (WO.p rfl rfl (WO.p rfl rfl ?_))
       refine WO.alloc rfl rfl rfl (fun b5 hb5 => ?_)
       refine WO.storeA rfl rfl rfl rfl Pick.head rfl rfl (WO.p rfl rfl ?_)
       refine WO.nil ?_
       refine W.seq ?_
       refine W.drawD 32 [.b 0 [], .b 1 [], .b 2 [], .b 3 [], .r 4 [], .r 5 [], .b 6 [], .r 7 [], .b 8 [], .b 9 [], .r 10 [], .b 11 [], .r 12 [], .r 13 [], .r 14 [], .b 15 [], .b 16 [], .r 17 [], .r 18 [], .r 19 [], .r 20 [], .r 21 [], .r 22 [], .r 23 [], .r 24 [], .b 25 [], .b 26 [], .r 27 [], .r 28 [], .r 29 [], .r 30 [], .r 31 []] [] (A0 := []) (Sub.refl _) (by kernel_rfl) ?_ ?_
       · exact (ALok.b (ALok.b (ALok.b (ALok.b (ALok.r (ALok.r (ALok.b (ALok.r (ALok.b (ALok.b (ALok.r (ALok.b (ALok.r (ALok.r (ALok.r (ALok.b (ALok.b (ALok.r (ALok.r (ALok.r (ALok.r (ALok.r (ALok.r (ALok.r (ALok.r (ALok.b (ALok.b (ALok.r (ALok.r (ALok.r (ALok.r (ALok.r ALok.nil))))))))))))))))))))))))))))))))
       refine' DT.b rfl rfl rfl ?hq ?_
       case hq =>
         refine WO.loadA rfl rfl (Cells.own (Pick.tail (Pick.tail (Pick.tail (Pick.tail (Pick.head)))))) rfl rfl ?_
         exact WO.nil ⟨rfl, rfl⟩
       refine' DT.b rfl rfl rfl ?hq ?_
       case hq =>
         refine WO.callR (r := .int .i64 (chkHull sp st rows)) rfl Try.call18 (fun L w hi => c_CheckHull w sp st o rv rows (hR.later hi)) rfl ?_
         exact WO.nil ⟨rfl, rfl⟩
       refine' DT.b rfl rfl rfl ?hq ?_
       case hq =>
         refine WO.loadA rfl rfl (Cells.own (Pick.tail (Pick.tail (Pick.tail (Pick.tail (Pick.head)))))) rfl rfl ?_
         exact WO.nil ⟨rfl, rfl⟩
       refine' DT.b rfl rfl rfl ?hq ?_
       case hq =>
         refine WO.callR (r := .int .i64 (chkHull sp st rows)) rfl Try.call19 (fun L w hi => ref_checkHull w sp st o rv rows (hR.later hi)) rfl ?_
         exact WO.nil ⟨rfl, rfl⟩
       refine' DT.r rfl rfl rfl ?hq ?_
       case hq =>
         refine WO.p rfl rfl ?_
         exact WO.nil ⟨rfl, rfl⟩
       refine' DT.rB rfl rfl rfl ?hq (fun c2 => ?_) (fun c2 => ?_)
       case hq =>
         refine WO.p rfl rfl ?_
         exact WO.nil ⟨rfl, rfl⟩
       · first
         | (exfalso; omega)
         | (refine' DT.b rfl rfl rfl ?hq ?_
            case hq =>
              refine WO.go' rfl (WO.loadA rfl rfl (Cells.own (Pick.tail (Pick.tail (Pick.tail (Pick.tail (Pick.head)))))) rfl rfl ?_)
              exact WO.nil ⟨rfl, rfl⟩
            refine' DT.r rfl rfl rfl ?hq ?_
            case hq =>
              refine WO.pg rfl rfl rfl ?_
              exact WO.nil ⟨rfl, rfl⟩
            refine' DT.b rfl rfl rfl ?hq ?_
            case hq =>
              refine WO.go' rfl ?_
              refine WO.callR (r := .int .i64 (chkTrue sp st rows ys)) rfl Try.call20 (fun L w hi => c_CheckTrue w sp st o o' rv rv' rows ys (hR.later hi) (hR'.later hi)) rfl ?_
              exact WO.nil ⟨rfl, rfl⟩
            refine' DT.b rfl rfl rfl ?hq ?_
            case hq =>
              refine WO.go' rfl (WO.loadA rfl rfl (Cells.own (Pick.tail (Pick.tail (Pick.tail (Pick.tail (Pick.head)))))) rfl rfl ?_)
              exact WO.nil ⟨rfl, rfl⟩
            refine' DT.r rfl rfl rfl ?hq ?_
            case hq =>
              refine WO.pg rfl rfl rfl ?_
              exact WO.nil ⟨rfl, rfl⟩
            refine' DT.b rfl rfl rfl ?hq ?_
            case hq =>
              refine WO.go' rfl ?_
              refine WO.callR (r := .int .i64 (chkTrue sp st rows ys)) rfl Try.call21 (fun L w hi => ref_CheckTrue w sp st o o' rv rv' rows ys (hR.later hi) (hR'.later hi)) rfl ?_
              exact WO.nil ⟨rfl, rfl⟩
            refine' DT.r rfl rfl rfl ?hq ?_
            case hq =>
              refine WO.pg rfl rfl rfl ?_
              exact WO.nil ⟨rfl, rfl⟩
            refine' DT.r rfl rfl rfl ?hq ?_
            case hq =>
              refine WO.p rfl rfl ?_
              exact WO.nil ⟨rfl, rfl⟩
            refine' DT.rB rfl rfl rfl ?hq (fun c3 => ?_) (fun c3 => ?_)
            case hq =>
              refine WO.p rfl rfl ?_
              exact WO.nil ⟨rfl, rfl⟩
            · first
              | (exfalso; omega)
              | (refine' DT.b rfl rfl rfl ?hq ?_
                 case hq =>
                   refine WO.go' rfl (WO.loadA rfl rfl (Cells.own (Pick.tail (Pick.tail (Pick.tail (Pick.head))))) rfl rfl ?_)
                   exact WO.nil ⟨rfl, rfl⟩
                 refine' DT.b rfl rfl rfl ?hq ?_
                 case hq =>
                   refine WO.go' rfl (WO.loadA rfl rfl (Cells.own (Pick.tail (Pick.tail (Pick.head)))) rfl rfl ?_)
                   exact WO.nil ⟨rfl, rfl⟩
                 refine' DT.r rfl rfl rfl ?hq ?_
                 case hq =>
                   refine WO.go' rfl ?_
                   refine WO.eqT rfl rfl (eq29t _ _) rfl ?_
                   exact WO.nil ⟨rfl, rfl⟩
                 refine' DT.r rfl rfl rfl ?hq ?_
                 case hq =>
                   refine WO.p rfl rfl ?_
                   exact WO.nil ⟨rfl, rfl⟩
                 refine' DT.r rfl rfl rfl ?hq ?_
                 case hq =>
                   refine WO.p rfl rfl ?_
                   exact WO.nil ⟨rfl, rfl⟩
                 refine' DT.r rfl rfl rfl ?hq ?_
                 case hq =>
                   refine WO.pg rfl rfl rfl ?_
                   exact WO.nil ⟨rfl, rfl⟩
                 refine' DT.r rfl rfl rfl ?hq ?_
                 case hq =>
                   refine WO.pg rfl rfl rfl ?_
                   exact WO.nil ⟨rfl, rfl⟩
                 refine' DT.r rfl rfl rfl ?hq ?_
                 case hq =>
                   refine WO.pg rfl rfl rfl ?_
                   exact WO.nil ⟨rfl, rfl⟩
                 refine' DT.r rfl rfl rfl ?hq ?_
                 case hq =>
                   refine WO.p rfl rfl ?_
                   exact WO.nil ⟨rfl, rfl⟩
                 refine' DT.rB rfl rfl rfl ?hq (fun c4 => ?_) (fun c4 => ?_)
                 case hq =>
                   refine WO.p rfl rfl ?_
                   exact WO.nil ⟨rfl, rfl⟩
                 · first
                   | (exfalso; omega)
                   | (refine' DT.b rfl rfl rfl ?hq ?_
                      case hq =>
                        refine WO.go' rfl (WO.loadA rfl rfl (Cells.own (Pick.tail (Pick.head))) rfl rfl ?_)
                        exact WO.nil ⟨rfl, rfl⟩
                      refine' DT.b rfl rfl rfl ?hq ?_
                      case hq =>
                        refine WO.go' rfl (WO.loadA rfl rfl (Cells.own Pick.head) rfl rfl ?_)
                        exact WO.nil ⟨rfl, rfl⟩
                      refine' DT.r rfl rfl rfl ?hq ?_
                      case hq =>
                        refine WO.go' rfl ?_
                        refine WO.eqT rfl rfl (eq29t _ _) rfl ?_
                        exact WO.nil ⟨rfl, rfl⟩
                      refine' DT.r rfl rfl rfl ?hq ?_
                      case hq =>
                        refine WO.p rfl rfl ?_
                        exact WO.nil ⟨rfl, rfl⟩
                      refine' DT.r rfl rfl rfl ?hq ?_
                      case hq =>
                        refine WO.p rfl rfl ?_
                        exact WO.nil ⟨rfl, rfl⟩
                      refine' DT.r rfl rfl rfl ?hq ?_
                      case hq =>
                        refine WO.pg rfl rfl rfl ?_
                        exact WO.nil ⟨rfl, rfl⟩
                      refine' DT.r rfl rfl rfl ?hq ?_
                      case hq =>
                        refine WO.pg rfl rfl rfl ?_
                        exact WO.nil ⟨rfl, rfl⟩
                      refine DT.nil [_, _, _, _, _] rfl ?_
                      refine WO.pg rfl rfl rfl (WO.p rfl rfl (WO.p rfl rfl ?_))
                      refine WO.guard_bl rfl rfl (fun c5 => ?_) (fun c5 => ?_)
                      · first
                        | (exfalso; omega)
                        | (refine WO.go' rfl ?_
                           refine WO.callR rfl Try.call13 (fun L w hi => law_Works w) rfl ?_
                           refine WO.p rfl rfl (WO.p rfl rfl ?_)
                           refine WO.nil ?_
                           refine W.ret ?_
                           exact fin.ret (Res.one rfl (RV.tmp rfl)) rfl)
                      · first
                        | (exfalso; omega)
                        | (refine WO.no rfl rfl (WO.p rfl rfl (WO.p rfl rfl ?_))
                           refine WO.nil ?_
                           refine W.ret ?_
                           exact fin.ret (Res.one rfl (RV.tmp rfl)) rfl))
                 · first
                   | (exfalso; omega)
                   | (refine' DT.b rfl rfl rfl ?hq ?_
                      case hq =>
                        refine WO.no rfl rfl ?_
                        exact WO.nil ⟨rfl, rfl⟩
                      refine' DT.b rfl rfl rfl ?hq ?_
                      case hq =>
                        refine WO.no rfl rfl ?_
                        exact WO.nil ⟨rfl, rfl⟩
                      refine' DT.r rfl rfl rfl ?hq ?_
                      case hq =>
                        refine WO.no rfl rfl ?_
                        exact WO.nil ⟨rfl, rfl⟩
                      refine' DT.r rfl rfl rfl ?hq ?_
                      case hq =>
                        refine WO.p rfl rfl ?_
                        exact WO.nil ⟨rfl, rfl⟩
                      refine' DT.r rfl rfl rfl ?hq ?_
                      case hq =>
                        refine WO.p rfl rfl ?_
                        exact WO.nil ⟨rfl, rfl⟩
                      refine' DT.r rfl rfl rfl ?hq ?_
                      case hq =>
                        refine WO.no rfl rfl ?_
                        exact WO.nil ⟨rfl, rfl⟩
                      refine' DT.r rfl rfl rfl ?hq ?_
                      case hq =>
                        refine WO.no rfl rfl ?_
                        exact WO.nil ⟨rfl, rfl⟩
                      refine DT.nil [_, _, _, _, _] rfl ?_
                      refine WO.no rfl rfl (WO.p rfl rfl (WO.p rfl rfl (WO.no rfl rfl (WO.p rfl rfl (WO.p rfl rfl ?_)))))
                      refine WO.nil ?_
                      refine W.ret ?_
                      exact fin.ret (Res.one rfl (RV.tmp rfl)) rfl))
            · first
              | (exfalso; omega)
              | (refine' DT.b rfl rfl rfl ?hq ?_
                 case hq =>
                   refine WO.no rfl rfl ?_
                   exact WO.nil ⟨rfl, rfl⟩
                 refine' DT.b rfl rfl rfl ?hq ?_
                 case hq =>
                   refine WO.no rfl rfl ?_
                   exact WO.nil ⟨rfl, rfl⟩
                 refine' DT.r rfl rfl rfl ?hq ?_
                 case hq =>
                   refine WO.no rfl rfl ?_
                   exact WO.nil ⟨rfl, rfl⟩
                 refine' DT.r rfl rfl rfl ?hq ?_
                 case hq =>
                   refine WO.p rfl rfl ?_
                   exact WO.nil ⟨rfl, rfl⟩
                 refine' DT.r rfl rfl rfl ?hq ?_
                 case hq =>
                   refine WO.p rfl rfl ?_
                   exact WO.nil ⟨rfl, rfl⟩
                 refine' DT.r rfl rfl rfl ?hq ?_
                 case hq =>
                   refine WO.no rfl rfl ?_
                   exact WO.nil ⟨rfl, rfl⟩
                 refine' DT.r rfl rfl rfl ?hq ?_
                 case hq =>
                   refine WO.no rfl rfl ?_
                   exact WO.nil ⟨rfl, rfl⟩
                 refine' DT.r rfl rfl rfl ?hq ?_
                 case hq =>
                   refine WO.no rfl rfl ?_
                   exact WO.nil ⟨rfl, rfl⟩
                 refine' DT.r rfl rfl rfl ?hq ?_
                 case hq =>
                   refine WO.p rfl rfl ?_
                   exact WO.nil ⟨rfl, rfl⟩
                 refine' DT.r rfl rfl rfl ?hq ?_
                 case hq =>
                   refine WO.p rfl rfl ?_
                   exact WO.nil ⟨rfl, rfl⟩
                 refine' DT.b rfl rfl rfl ?hq ?_
                 case hq =>
                   refine WO.no rfl rfl ?_
                   exact WO.nil ⟨rfl, rfl⟩
                 refine' DT.b rfl rfl rfl ?hq ?_
                 case hq =>
                   refine WO.no rfl rfl ?_
                   exact WO.nil ⟨rfl, rfl⟩
                 refine' DT.r rfl rfl rfl ?hq ?_
                 case hq =>
                   refine WO.no rfl rfl ?_
                   exact WO.nil ⟨rfl, rfl⟩
                 refine' DT.r rfl rfl rfl ?hq ?_
                 case hq =>
                   refine WO.p rfl rfl ?_
                   exact WO.nil ⟨rfl, rfl⟩
                 refine' DT.r rfl rfl rfl ?hq ?_
                 case hq =>
                   refine WO.p rfl rfl ?_
                   exact WO.nil ⟨rfl, rfl⟩
                 refine' DT.r rfl rfl rfl ?hq ?_
                 case hq =>
                   refine WO.no rfl rfl ?_
                   exact WO.nil ⟨rfl, rfl⟩
                 refine' DT.r rfl rfl rfl ?hq ?_
                 case hq =>
                   refine WO.no rfl rfl ?_
                   exact WO.nil ⟨rfl, rfl⟩
                 refine DT.nil [_, _, _, _, _] rfl ?_
                 refine WO.no rfl rfl (WO.p rfl rfl (WO.p rfl rfl (WO.no rfl rfl (WO.p rfl rfl (WO.p rfl rfl ?_)))))
                 refine WO.nil ?_
                 refine W.ret ?_
                 exact fin.ret (Res.one rfl (RV.tmp rfl)) rfl))
       · first
         | (exfalso; omega)
         | (refine' DT.b rfl rfl rfl ?hq ?_
            case hq =>
              refine WO.no rfl rfl ?_
              exact WO.nil ⟨rfl, rfl⟩
            refine' DT.r rfl rfl rfl ?hq ?_
            case hq =>
              refine WO.no rfl rfl ?_
              exact WO.nil ⟨rfl, rfl⟩
            refine' DT.b rfl rfl rfl ?hq ?_
            case hq =>
              refine WO.no rfl rfl ?_
              exact WO.nil ⟨rfl, rfl⟩
            refine' DT.b rfl rfl rfl ?hq ?_
            case hq =>
              refine WO.no rfl rfl ?_
              exact WO.nil ⟨rfl, rfl⟩
            refine' DT.r rfl rfl rfl ?hq ?_
            case hq =>
              refine WO.no rfl rfl ?_
              exact WO.nil ⟨rfl, rfl⟩
            refine' DT.b rfl rfl rfl ?hq ?_
            case hq =>
              refine WO.no rfl rfl ?_
              exact WO.nil ⟨rfl, rfl⟩
            refine' DT.r rfl rfl rfl ?hq ?_
            case hq =>
              refine WO.no rfl rfl ?_
              exact WO.nil ⟨rfl, rfl⟩
            refine' DT.r rfl rfl rfl ?hq ?_
            case hq =>
              refine WO.p rfl rfl ?_
              exact WO.nil ⟨rfl, rfl⟩
            refine' DT.r rfl rfl rfl ?hq ?_
            case hq =>
              refine WO.p rfl rfl ?_
              exact WO.nil ⟨rfl, rfl⟩
            refine' DT.b rfl rfl rfl ?hq ?_
            case hq =>
              refine WO.no rfl rfl ?_
              exact WO.nil ⟨rfl, rfl⟩
            refine' DT.b rfl rfl rfl ?hq ?_
            case hq =>
              refine WO.no rfl rfl ?_
              exact WO.nil ⟨rfl, rfl⟩
            refine' DT.r rfl rfl rfl ?hq ?_
            case hq =>
              refine WO.no rfl rfl ?_
              exact WO.nil ⟨rfl, rfl⟩
            refine' DT.r rfl rfl rfl ?hq ?_
            case hq =>
              refine WO.p rfl rfl ?_
              exact WO.nil ⟨rfl, rfl⟩
            refine' DT.r rfl rfl rfl ?hq ?_
            case hq =>
              refine WO.p rfl rfl ?_
              exact WO.nil ⟨rfl, rfl⟩
            refine' DT.r rfl rfl rfl ?hq ?_
            case hq =>
              refine WO.no rfl rfl ?_
              exact WO.nil ⟨rfl, rfl⟩
            refine' DT.r rfl rfl rfl ?hq ?_
            case hq =>
              refine WO.no rfl rfl ?_
              exact WO.nil ⟨rfl, rfl⟩
            refine' DT.r rfl rfl rfl ?hq ?_
            case hq =>
              refine WO.no rfl rfl ?_
              exact WO.nil ⟨rfl, rfl⟩
            refine' DT.r rfl rfl rfl ?hq ?_
            case hq =>
              refine WO.p rfl rfl ?_
              exact WO.nil ⟨rfl, rfl⟩
            refine' DT.r rfl rfl rfl ?hq ?_
            case hq =>
              refine WO.p rfl rfl ?_
              exact WO.nil ⟨rfl, rfl⟩
            refine' DT.b rfl rfl rfl ?hq ?_
            case hq =>
              refine WO.no rfl rfl ?_
              exact WO.nil ⟨rfl, rfl⟩
            refine' DT.b rfl rfl rfl ?hq ?_
            case hq =>
              refine WO.no rfl rfl ?_
              exact WO.nil ⟨rfl, rfl⟩
            refine' DT.r rfl rfl rfl ?hq ?_
            case hq =>
              refine WO.no rfl rfl ?_
              exact WO.nil ⟨rfl, rfl⟩
            refine' DT.r rfl rfl rfl ?hq ?_
            case hq =>
              refine WO.p rfl rfl ?_
              exact WO.nil ⟨rfl, rfl⟩
            refine' DT.r rfl rfl rfl ?hq ?_
            case hq =>
              refine WO.p rfl rfl ?_
              exact WO.nil ⟨rfl, rfl⟩
            refine' DT.r rfl rfl rfl ?hq ?_
            case hq =>
              refine WO.no rfl rfl ?_
              exact WO.nil ⟨rfl, rfl⟩
            refine' DT.r rfl rfl rfl ?hq ?_
            case hq =>
              refine WO.no rfl rfl ?_
              exact WO.nil ⟨rfl, rfl⟩
            refine DT.nil [_, _, _, _, _] rfl ?_
            refine WO.no rfl rfl (WO.p rfl rfl (WO.p rfl rfl (WO.no rfl rfl (WO.p rfl rfl (WO.p rfl rfl ?_)))))
            refine WO.nil ?_
            refine W.ret ?_
            exact fin.ret (Res.one rfl (RV.tmp rfl)) rfl))
theorem law_BoxBounds (w : World) (sp st what num den : Int) (high : Bool) (o : Value) (rv : List Value) (rows : List (List (Int × Int))) (hR : RdR encP 2 w.heap.size w o rv rows) :
    Ret Try.prog 4 [.agg #[.int .i64 sp, .int .i64 st, o], .int .i64 what, .agg #[.int .i64 num, .int .i64 den], .bool high].toArray w (.bool true) := by
  refine Ret.of mixed tyTab Try.func4 rfl rfl ?_
  replace hR : RdR encP 2 (fnCx mixed tyTab Try.f4.ntmps w).B (fnCx mixed tyTab Try.f4.ntmps w).w0 o rv rows := hR
  refine W.sreg ?_
  refine WO.boxA rfl rfl (fun b1 hb1 => ?_)
  refine WO.boxA rfl rfl (fun b2 hb2 => ?_)
  refine WO.p rfl rfl ?_
  refine WO.nil ?_
  refine W.seq ?_
  refine W.sreg ?_
  refine WO.loadA rfl rfl (Cells.own (Pick.tail (Pick.head))) rfl rfl ?_
  refine WO.callR (r := .bool (grt rows [])) rfl Try.call12 (fun L w hi => law_great w sp st o (.slice none 0 0) rv [] rows [] (hR.later hi) (RdR.nilI _ _)) rfl ?_
  refine WO.nil ?_
  refine W.cond rfl (fun c1 => ?_) (fun c1 => ?_)
  · first
    | (exfalso; omega)
    | (refine W.sreg ?_
       refine WO.callR rfl Try.call13 (fun L w hi => law_Works w) rfl ?_
       refine WO.p rfl rfl ?_
       refine WO.nil ?_
       refine W.ret ?_
       exact fin.ret (Res.one rfl (RV.tmp rfl)) rfl)
  · first
    | (exfalso; omega)
    | (refine W.skip ?_
       refine W.seq ?_
       refine W.drawD 9 [.b 0 [], .r 1 [], .b 2 [], .r 3 [], .b 4 [], .b 5 [], .r 6 [], .b 7 [], .r 8 []] [] (A0 := []) (Sub.refl _) (by kernel_rfl) ?_ ?_
       · exact (ALok.b (ALok.r (ALok.b (ALok.r (ALok.b (ALok.b (ALok.r (ALok.b (ALok.r ALok.nil)))))))))
       refine' DT.b rfl rfl rfl ?hq ?_
       case hq =>
         refine WO.loadA rfl rfl (Cells.own (Pick.tail (Pick.head))) rfl rfl ?_
         exact WO.nil ⟨rfl, rfl⟩
       refine' DT.r rfl rfl rfl ?hq ?_
       case hq =>
         refine WO.p rfl rfl ?_
         exact WO.nil ⟨rfl, rfl⟩
       refine' DT.b rfl rfl rfl ?hq ?_
       case hq =>
         refine WO.loadA rfl rfl (Cells.own Pick.head) rfl rfl ?_
         exact WO.nil ⟨rfl, rfl⟩
       refine' DT.r rfl rfl rfl ?hq ?_
       case hq =>
         refine WO.p rfl rfl ?_
         exact WO.nil ⟨rfl, rfl⟩
       refine' DT.b rfl rfl rfl ?hq ?_
       case hq =>
         refine WO.callR rfl Try.call22 (fun L w hi => c_CheckBound w sp st what num den high o rv rows (hR.later hi)) rfl ?_
         exact WO.nil ⟨rfl, rfl⟩
       refine' DT.b rfl rfl rfl ?hq ?_
       case hq =>
         refine WO.loadA rfl rfl (Cells.own (Pick.tail (Pick.head))) rfl rfl ?_
         exact WO.nil ⟨rfl, rfl⟩
       refine' DT.r rfl rfl rfl ?hq ?_
       case hq =>
         refine WO.p rfl rfl ?_
         exact WO.nil ⟨rfl, rfl⟩
       refine' DT.b rfl rfl rfl ?hq ?_
       case hq =>
         refine WO.loadA rfl rfl (Cells.own Pick.head) rfl rfl ?_
         exact WO.nil ⟨rfl, rfl⟩
       refine' DT.r rfl rfl rfl ?hq ?_
       case hq =>
         refine WO.p rfl rfl ?_
         exact WO.nil ⟨rfl, rfl⟩
       refine DT.nil [_, _] rfl ?_
       refine WO.callR rfl Try.call23 (fun L w hi => ref_CheckBound w sp st what num den high o rv rows (hR.later hi)) rfl ?_
       refine WO.p rfl rfl (WO.p rfl rfl ?_)
       refine WO.guard_bl rfl rfl (fun c2 => ?_) (fun c2 => ?_)
       · first
         | (exfalso; omega)
         | (refine WO.go' rfl ?_
            refine WO.callR rfl Try.call13 (fun L w hi => law_Works w) rfl ?_
            refine WO.p rfl rfl (WO.p rfl rfl ?_)
            refine WO.nil ?_
            refine W.ret ?_
            exact fin.ret (Res.one rfl (RV.tmp rfl)) rfl)
       · first
         | (exfalso; omega)
         | (refine WO.no rfl rfl (WO.p rfl rfl (WO.p rfl rfl ?_))
            refine WO.nil ?_
            refine W.ret ?_
            exact fin.ret (Res.one rfl (RV.tmp rfl)) rfl))
end Go.Proofs.Ytgihklgpehfbpaa
namespace Go.Proofs.Ytgihklgpehfbpaa
open Go Go.TH
set_option maxRecDepth 10000
theorem posL {a b : Int} (h : 0 < a * b) (ha : 0 < a) : 0 < b := by
  have h1 : a * 0 < a * b := by rw [Int.mul_zero]; exact h
  exact Int.lt_of_mul_lt_mul_left h1 (by omega)
theorem lessQ_iff {a b : Int × Int} (ha : 0 ≤ a.1) (ha2 : 0 < a.2) (hb : 0 ≤ b.1) (hb2 : 0 < b.2) : lessQ a b = true ↔ a.1 * b.2 < b.1 * a.2 := by
  obtain ⟨n, d⟩ := a
  obtain ⟨m, e⟩ := b
  simp only at *
  have h1 := tmod_lt ha ha2
  have h2 := tmod_lt hb hb2
  have e1 : d * n.tdiv d + n.tmod d = n := Int.mul_tdiv_add_tmod n d
  have e2 : e * m.tdiv e + m.tmod e = m := Int.mul_tdiv_add_tmod m e
  unfold lessQ
  simp only
  generalize n.tdiv d = q at *
  generalize n.tmod d = r at *
  generalize m.tdiv e = u at *
  generalize m.tmod e = s at *
  have x1 : n * e = q * (d * e) + r * e := by rw [← e1, Int.add_mul]; congr 1; simp only [Int.mul_comm, Int.mul_left_comm]
  have x2 : m * d = u * (d * e) + s * d := by rw [← e2, Int.add_mul]; congr 1; simp only [Int.mul_comm, Int.mul_left_comm]
  have hre : r * e < d * e := Int.mul_lt_mul_of_pos_right h1.2 hb2
  have hsd : s * d < d * e := by rw [Int.mul_comm d e]; exact Int.mul_lt_mul_of_pos_right h2.2 ha2
  have hre0 : 0 ≤ r * e := Int.mul_nonneg h1.1 (by omega)
  have hsd0 : 0 ≤ s * d := Int.mul_nonneg h2.1 (by omega)
  rw [x1, x2]
  by_cases h : q = u
  · subst h
    rw [if_neg (by simp), decide_eq_true_iff]
    omega
  · rw [if_pos (by simpa using h), decide_eq_true_iff]
    constructor
    · intro hlt
      have : (q + 1) * (d * e) ≤ u * (d * e) := Int.mul_le_mul_of_nonneg_right (by omega) (Int.le_of_lt (Int.mul_pos ha2 hb2))
      rw [Int.add_mul, Int.one_mul] at this
      omega
    · intro hlt
      rcases Int.lt_or_le q u with h3 | h3
      · exact h3
      · exfalso
        have : (u + 1) * (d * e) ≤ q * (d * e) := Int.mul_le_mul_of_nonneg_right (by omega) (Int.le_of_lt (Int.mul_pos ha2 hb2))
        rw [Int.add_mul, Int.one_mul] at this
        omega
theorem red_red {n d : Int} (hn : 0 ≤ n) (hd : 0 < d) : red (red n d).1 (red n d).2 = red n d := by
  obtain ⟨x1, x2, x3, _⟩ := red_cross hn hd
  exact red_eq x3 x2 hn hd (by rw [x1])
section
variable {sp st what num den : Int} {high : Bool} {rows : List (List (Int × Int))} {ys zs : List (List Int)}
theorem val_isB (hv : HV sp st rows) (tv : TV rows ys) : isB (valQ sp st ys what) = true := by
  obtain ⟨⟨a1, a1'⟩, a2, a2'⟩ := tN_bound hv tv what
  obtain ⟨x1, x2, x3, x4, x5⟩ := red_cross a1 a2
  unfold isB
  rw [decide_eq_true_iff]
  exact ⟨x3, by unfold valQ; omega, by unfold valQ; omega, by unfold valQ; omega, red_red a1 a2⟩
/-- a fraction is beyond, or not, as its cross product says -/
theorem less_val (hv : HV sp st rows) (tv : TV rows ys) (tz : TV rows zs) : lessQ (valQ sp st ys what) (valQ sp st zs what) = true ↔ tN sp st ys what * tD st zs what < tN sp st zs what * tD st ys what := by
  obtain ⟨⟨a1, a1'⟩, a2, a2'⟩ := tN_bound hv tv what
  obtain ⟨x1, x2, x3, x4, x5⟩ := red_cross a1 a2
  obtain ⟨⟨b1, b1'⟩, b2, b2'⟩ := tN_bound hv tz what
  obtain ⟨y1, y2, y3, y4, y5⟩ := red_cross b1 b2
  unfold valQ
  rw [lessQ_iff x3 x2 y3 y2]
  -- r/s = n/d, r'/s' = n'/d'
  generalize tN sp st ys what = n at *
  generalize tD st ys what = d at *
  generalize tN sp st zs what = n' at *
  generalize tD st zs what = d' at *
  generalize red n d = f at *
  generalize red n' d' = g at *
  obtain ⟨r, s⟩ := f
  obtain ⟨r', s'⟩ := g
  simp only at *
  have e1 : (r * s') * (d * d') = (n * d') * (s * s') := by
    calc (r * s') * (d * d') = (r * d) * (s' * d') := by simp only [Int.mul_comm, Int.mul_left_comm]
      _ = (n * s) * (s' * d') := by rw [x1]
      _ = (n * d') * (s * s') := by simp only [Int.mul_comm, Int.mul_left_comm]
  have e2 : (r' * s) * (d * d') = (n' * d) * (s * s') := by
    calc (r' * s) * (d * d') = (r' * d') * (s * d) := by simp only [Int.mul_comm, Int.mul_left_comm]
      _ = (n' * s') * (s * d) := by rw [y1]
      _ = (n' * d) * (s * s') := by simp only [Int.mul_comm, Int.mul_left_comm]
  have hdd : 0 < d * d' := Int.mul_pos a2 b2
  have hss : 0 < s * s' := Int.mul_pos x2 y2
  constructor
  · intro h
    have h1 : (r * s') * (d * d') < (r' * s) * (d * d') := Int.mul_lt_mul_of_pos_right h hdd
    rw [e1, e2] at h1
    exact Int.lt_of_mul_lt_mul_right h1 (by omega)
  · intro h
    have h1 : (n * d') * (s * s') < (n' * d) * (s * s') := Int.mul_lt_mul_of_pos_right h hss
    rw [← e1, ← e2] at h1
    exact Int.lt_of_mul_lt_mul_right h1 (by omega)
/-- a bound and a hull -/
theorem less_bound (hv : HV sp st rows) (tv : TV rows ys) (hn : 0 ≤ num) (hd : 0 < den) : (lessQ (num, den) (valQ sp st ys what) = true ↔ 0 < den * tN sp st ys what - num * tD st ys what) ∧ (lessQ (valQ sp st ys what) (num, den) = true ↔ den * tN sp st ys what - num * tD st ys what < 0) := by
  obtain ⟨⟨a1, a1'⟩, a2, a2'⟩ := tN_bound hv tv what
  obtain ⟨x1, x2, x3, x4, x5⟩ := red_cross a1 a2
  unfold valQ
  rw [lessQ_iff (a := (num, den)) hn hd x3 x2, lessQ_iff (b := (num, den)) x3 x2 hn hd]
  generalize tN sp st ys what = n at *
  generalize tD st ys what = d at *
  generalize red n d = f at *
  obtain ⟨r, s⟩ := f
  simp only at *
  have e : s * (den * n - num * d) = d * (r * den - num * s) := by
    rw [Int.mul_sub, Int.mul_sub]
    have : s * (den * n) = d * (r * den) := by
      calc s * (den * n) = den * (n * s) := by simp only [Int.mul_comm, Int.mul_left_comm]
        _ = den * (r * d) := by rw [x1]
        _ = d * (r * den) := by simp only [Int.mul_comm, Int.mul_left_comm]
    rw [this]; congr 1; simp only [Int.mul_comm, Int.mul_left_comm]
  constructor
  · constructor
    · intro h
      have h1 : 0 < d * (r * den - num * s) := Int.mul_pos a2 (by omega)
      rw [← e] at h1
      exact posL h1 x2
    · intro h
      have h1 : 0 < s * (den * n - num * d) := Int.mul_pos x2 h
      rw [e] at h1
      have := posL h1 a2
      omega
  · constructor
    · intro h
      have h1 : 0 < d * -(r * den - num * s) := Int.mul_pos a2 (by omega)
      rw [Int.mul_neg, ← e, ← Int.mul_neg] at h1
      have := posL h1 x2
      omega
    · intro h
      have h1 : 0 < s * -(den * n - num * d) := Int.mul_pos x2 (by omega)
      rw [Int.mul_neg, e, ← Int.mul_neg] at h1
      have := posL h1 a2
      omega
end
end Go.Proofs.Ytgihklgpehfbpaa
namespace Go.Proofs.Ytgihklgpehfbpaa
open Go Go.TH Go.ChangeShapes Go.WideShapes Go.ChangeAt Go.RowKit
set_option maxRecDepth 100000
section
variable {H : Type} {enc : TypeId × Value → H} {w : World}
theorem cells55 : Try.prog.cellsOf 55 = 2 := by kernel_rfl
theorem cells52 : Try.prog.cellsOf 52 = 1 := by kernel_rfl
theorem cells22 : Try.prog.cellsOf 22 = 1 := by kernel_rfl
theorem cells53 : Try.prog.cellsOf 53 = 1 := by kernel_rfl
theorem cells2 : Try.prog.cellsOf 2 = 1 := by kernel_rfl
theorem cells5 : Try.prog.cellsOf 5 = 1 := by kernel_rfl
theorem cells24 : Try.prog.cellsOf 24 = 3 := by kernel_rfl
theorem cells29 : Try.prog.cellsOf 29 = 2 := by kernel_rfl
theorem wf64 {z : Int} (h : (Lit.int .i64 z).wf = true) : in64 z := by
  simp [Lit.wf, IntKind.min, IntKind.max, IntKind.signed, IntKind.bits] at h
  unfold in64; omega
theorem rd_int {n : Nat} {c : List Value} {y : DataW H × List MemPlace} (h : DataW.trod enc Try.prog w 0 (fun _ => true) true n 2 c = some y) : ∃ z : Int, c = encI z ∧ in64 z := by
  obtain ⟨z, rfl, _, hw⟩ := DataW.trod_int Try.underlying2 h
  exact ⟨z, rfl, wf64 hw⟩
theorem rd_u8 {n : Nat} {c : List Value} {y : DataW H × List MemPlace} (h : DataW.trod enc Try.prog w 0 (fun _ => true) true n 5 c = some y) : ∃ z : Int, c = [.int .u8 z] ∧ 0 ≤ z ∧ z ≤ 255 := by
  obtain ⟨z, rfl, _, hw⟩ := DataW.trod_int Try.underlying5 h
  simp [Lit.wf, IntKind.min, IntKind.max, IntKind.signed, IntKind.bits] at hw
  exact ⟨z, rfl, by omega, by omega⟩
def in64P (z : Int × Int) : Prop := in64 z.1 ∧ in64 z.2
theorem rd_two {c : List Value} {n : Nat} {y0 y1 : DataW H × List MemPlace} (hl : c.length = 2) (h0 : DataW.trod enc Try.prog w 0 (fun _ => true) true n 2 ((c.drop 0).take (Try.prog.cellsOf 2)) = some y0) (h1 : DataW.trod enc Try.prog w 0 (fun _ => true) true n 2 ((c.drop 1).take (Try.prog.cellsOf 2)) = some y1) : ∃ z : Int × Int, c = encP z ∧ in64P z := by
  rw [cells2] at h0 h1
  match c, hl with
  | [a, b], _ =>
    obtain ⟨u, hu, i0⟩ := rd_int h0
    obtain ⟨v, hv, i1⟩ := rd_int h1
    simp [encI] at hu hv
    subst hu; subst hv
    exact ⟨(u, v), rfl, i0, i1⟩
theorem rd_range {n : Nat} {c : List Value} {y : DataW H × List MemPlace} (hl : c.length = 2) (h : DataW.trod enc Try.prog w 0 (fun _ => true) true n 55 c = some y) : ∃ z : Int × Int, c = encP z ∧ in64P z := by
  obtain ⟨y0, y1, m, _, _, h0, h1⟩ := trod_struct2 Try.underlying55 h
  exact rd_two hl h0 h1
theorem open_hull {base : Nat} {v : Value} {d : DataW H} {ps : List MemPlace} (hv : Value.okWide Try.prog w .any base 24 v) (h : DataW.Trod enc Try.prog w 0 (fun _ => true) true 24 v d ps) :
    ∃ (sp st : Int) (o : Value) (rv : List Value) (rows : List (List (Int × Int))), v = .agg #[.int .i64 sp, .int .i64 st, o] ∧ RdR encP 2 w.heap.size w o rv rows ∧ in64 sp ∧ in64 st ∧ ∀ r ∈ rows, ∀ x ∈ r, in64P x := by
  unfold Value.okWide at hv
  rw [Try.underlying24] at hv
  obtain ⟨cs, rfl, hs, _⟩ := hv
  obtain ⟨fuel, hf⟩ := h
  obtain ⟨y0, y1, y2, n, _, hl, h0, h1, h2⟩ := Deep.trod_struct3 Try.underlying24 hf
  rw [cells24] at hl
  rw [cells2] at h0 h1
  rw [cells22] at h2
  obtain ⟨l, hcs⟩ : ∃ l, cs = List.toArray l := ⟨cs.toList, by simp⟩
  subst hcs
  simp only [Value.cells] at hl h0 h1 h2
  match l, hl with
  | [a, b, c], _ =>
    obtain ⟨u, hu, i0⟩ := rd_int h0
    obtain ⟨x, hx, i1⟩ := rd_int h1
    simp [encI] at hu hx
    subst hu; subst hx
    obtain ⟨o, rv, rows, ho, hr, hq⟩ := open_rdr (en := encP) (Q := in64P) Try.underlying22 cells52 Try.underlying52 cells55 (by omega) (fun n c y hl hy => rd_range hl hy) h2
    simp at ho
    subst ho
    exact ⟨u, x, c, rv, rows, rfl, hr, i0, i1, hq⟩
theorem open_table {base : Nat} {v : Value} {d : DataW H} {ps : List MemPlace} (hv : Value.okWide Try.prog w .any base 25 v) (h : DataW.Trod enc Try.prog w 0 (fun _ => true) true 25 v d ps) :
    ∃ (rv : List Value) (ys : List (List Int)), RdR encI 1 w.heap.size w v rv ys ∧ ∀ r ∈ ys, ∀ x ∈ r, in64 x := by
  obtain ⟨a0, len, cap, rfl⟩ := okWide_slice Try.underlying25 hv
  obtain ⟨fuel, hf⟩ := h
  obtain ⟨o, rv, rows, ho, hr, hq⟩ := open_rdr (en := encI) (Q := in64) Try.underlying25 cells53 Try.underlying53 cells2 (by omega) (fun n c y hl hy => rd_int hy) hf
  simp [Value.cells] at ho
  subst ho
  exact ⟨rv, rows, hr, hq⟩
theorem open_ratio {base : Nat} {v : Value} {d : DataW H} {ps : List MemPlace} (hv : Value.okWide Try.prog w .any base 29 v) (h : DataW.Trod enc Try.prog w 0 (fun _ => true) true 29 v d ps) :
    ∃ num den : Int, v = .agg #[.int .i64 num, .int .i64 den] ∧ in64 num ∧ in64 den := by
  unfold Value.okWide at hv
  rw [Try.underlying29] at hv
  obtain ⟨cs, rfl, hs, _⟩ := hv
  obtain ⟨fuel, hf⟩ := h
  obtain ⟨y0, y1, n, _, hl, h0, h1⟩ := trod_struct2 Try.underlying29 hf
  rw [cells29] at hl
  obtain ⟨l, hcs⟩ : ∃ l, cs = List.toArray l := ⟨cs.toList, by simp⟩
  subst hcs
  simp only [Value.cells] at hl h0 h1
  obtain ⟨z, hz, i0, i1⟩ := rd_two hl h0 h1
  subst hz
  exact ⟨z.1, z.2, rfl, i0, i1⟩
theorem open_i64 {T base : Nat} (hT : Try.prog.underlying T = some (.int .i64)) {v : Value} {d : DataW H} {ps : List MemPlace} (hv : Value.okWide Try.prog w .any base T v) (h : DataW.Trod enc Try.prog w 0 (fun _ => true) true T v d ps) : ∃ z : Int, v = .int .i64 z ∧ in64 z := by
  obtain ⟨z, rfl, _, _, hw⟩ := open_int hT hv h
  exact ⟨z, rfl, wf64 hw⟩
theorem open_u8 {base : Nat} {v : Value} {d : DataW H} {ps : List MemPlace} (hv : Value.okWide Try.prog w .any base 5 v) (h : DataW.Trod enc Try.prog w 0 (fun _ => true) true 5 v d ps) : ∃ z : Int, v = .int .u8 z ∧ 0 ≤ z ∧ z ≤ 255 := by
  obtain ⟨z, rfl, _, _, hw⟩ := open_int Try.underlying5 hv h
  simp [Lit.wf, IntKind.min, IntKind.max, IntKind.signed, IntKind.bits] at hw
  exact ⟨z, rfl, by omega, by omega⟩
theorem open_b {base : Nat} {v : Value} {d : DataW H} {ps : List MemPlace} (hv : Value.okWide Try.prog w .any base 4 v) (h : DataW.Trod enc Try.prog w 0 (fun _ => true) true 4 v d ps) : ∃ b : Bool, v = .bool b := by
  obtain ⟨z, rfl, _, _⟩ := open_bool Try.underlying4 hv h
  exact ⟨z, rfl⟩
theorem open_by {base : Nat} {v : Value} {d : DataW H} {ps : List MemPlace} (hv : Value.okWide Try.prog w .any base 50 v) (h : DataW.Trod enc Try.prog w 0 (fun _ => true) true 50 v d ps) :
    ∃ xs : List Int, RdF (fun n => [.int .u8 n]) 1 w.heap.size w v xs ∧ ∀ x ∈ xs, 0 ≤ x ∧ x ≤ 255 := by
  obtain ⟨a0, len, cap, rfl⟩ := okWide_slice Try.underlying50 hv
  obtain ⟨fuel, hf⟩ := h
  obtain ⟨o, xs, ho, hr, hq⟩ := open_rd (en := fun n : Int => [.int .u8 n]) (Q := fun x => 0 ≤ x ∧ x ≤ 255) Try.underlying50 cells5 (by omega) (fun n c y hl hy => rd_u8 hy) hf
  simp [Value.cells] at ho
  subst ho
  exact ⟨xs, hr, hq⟩
end
end Go.Proofs.Ytgihklgpehfbpaa
