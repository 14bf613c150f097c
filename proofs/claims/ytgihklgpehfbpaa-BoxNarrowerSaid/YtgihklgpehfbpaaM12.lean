/-
  What is proved here: more rules of a small program logic: slices of no elements, stores of structs into elements. Conditions: none; each rule states its own.
  What is proved here: how an array of two bytes reads, as an argument. Conditions: none.
  What is proved here: hulls whose ranges are narrower (no program in sight). Conditions: none; each theorem states its own.
  What is proved here: the law BoxNarrower, as a contract. Conditions: none.
-/
import Derived.Test.YtgihklgpehfbpaaM2
import Derived.DataElems
import Derived.Test.YtgihklgpehfbpaaM6
import Derived.OpenShut
import Derived.Test.YtgihklgpehfbpaaM7
namespace Go.TH
open Go
section
variable {P : Program} {C : Cx P} {E : Env} {H : List HP}
section rules
variable {ops : Array Oper} {K : KP} {rest : List Oper} {d : Nat} {ty : TypeId} {pos : String} {af : Array Edge} {x y z : Operand} {T T' : TypeId}
/-- a slice of no elements -/
theorem WO.buildSl0 {e sz by' : Nat} (hT : C.tt.sl? T = some (e, sz, by')) (hN : Nat.blt d C.N = true)
    (h : ∀ b, WO C ops rest K ((d, .slice (some ⟨b, 0, none⟩) 0 0) :: E) (OwC e sz (.slice (some ⟨b, 0, none⟩) 0 0) 0 [] :: H)) : WO C ops (⟨some d, .buildSlice T 0 #[], ty, pos, af, none⟩ :: rest) K E H := by
  refine WO.step rfl rfl hN (XO.run (by simp) fun L a w hfr hi => ?_)
  refine ⟨.slice (some ⟨w.heap.size, 0, none⟩) 0 0, w.alloc (.cells #[] e), OwC e sz (.slice (some ⟨w.heap.size, 0, none⟩) 0 0) 0 [] :: H, .inl ?_, h _, ?_⟩
  · have hr : (Instr.buildSlice T 0 #[]).run P w = .ok (.slice (some ⟨w.heap.size, 0, none⟩) 0 0) (w.alloc (.cells #[] e)) := by
      simp [Instr.buildSlice, run_underlying (SlT.of hT).u, run_sizeOf (SlT.of hT).size, Instr.fill, newRow, show Array.range 0 = #[] from Array.ext' (by simp)]
    simp only [execOp, Sem.run_bind]
    simp [hr]
  · exact OwC.shut (cur := []) (by simp) (Nat.le_refl _) (by simp [maxLen]) (by simp) (by simp) (hi.alloc' (.cells #[] e))
/-- a store of a struct into an element of one's own slice -/
theorem WO.storeOwN {e n i sz : Nat} {v : Value} {us cs : List Value} {H' : List HP} (hx : ev E x = some (.pointer (some (elt v i sz)))) (hy : ev E y = some (.agg us.toArray)) (hT : C.tt.ag? T = some sz) (hn : us.length = sz) (h1 : us.all (·.oneCell') = true) (p : Pick (OwC e sz v n cs) H H') (hl : i < n)
    (h : WO C ops rest K E (OwC e sz v n (wrl cs (i * sz) us) :: H')) : WO C ops (⟨none, .store T x y, ty, pos, af, none⟩ :: rest) K E H := by
  refine WO.step0 rfl rfl (XO.run (by simp) fun L a w hf hi => ?_)
  obtain ⟨hcl, hcase⟩ := OwC.open (hi.pickL p)
  rcases hcase with ⟨rfl, rfl, hv⟩ | ⟨g, cap, cur, rfl, q1, q2, q3, q4, hv⟩
  · omega
  · have hlook := (hv.look (b := g) (o := .cells cur.toArray e (0, 0)) ((Pick.head).app L)).1
    have ea : elt (.slice (some ⟨g, 0, none⟩) n cap) i sz = ⟨g, i * sz, none⟩ := by rw [elt_eq]; simp [base, Addr.add_lit]
    have hin : i * sz + sz ≤ n * sz := by rw [← Nat.succ_mul]; exact Nat.mul_le_mul_right _ hl
    have hle : n * sz ≤ cap * sz := Nat.mul_le_mul_right _ q1
    obtain ⟨w', hr, a1, a2, a3, a4, a5, a6⟩ := run_storeVar_own (P := P) (T := T) (b := g) (off := i * sz) (w := w) (cs := cur) (v := .agg us.toArray) (vs := us) (by simp [Value.cells]) (by rw [(AT.of hT).size, hn]) hlook (by omega) (by simpa using h1)
    refine ⟨undef, w', _, .inr ⟨?_, rfl⟩, h, ?_⟩
    · simp [execOp, hf.eval hx, hf.eval hy, ea, Instr.storeAt, Instr.sureAddr, hr]
    · have h2 := hv.set (b := g) (o := .cells cur.toArray e (0, 0)) (H' := L ++ H') Pick.mem a1 a2 a3 a4 a5 a6
      have h3 := h2.perm (List.perm_middle (l₁ := L) (l₂ := H')).symm
      refine OwC.shut (by rw [wrl_length]; exact hcl) q1 q2 (by rw [wrl_length]; exact q3) ?_ h3
      rw [← q4]
      have hcur : cur = cur.take (n * sz) ++ cur.drop (n * sz) := (List.take_append_drop _ _).symm
      have hlt : (cur.take (n * sz)).length = n * sz := by rw [List.length_take]; omega
      have hpre : cur.take (n * sz) = (cur.take (n * sz)).take (i * sz) ++ (cur.take (n * sz)).drop (i * sz) := (List.take_append_drop _ _).symm
      have hl1 : ((cur.take (n * sz)).take (i * sz)).length = i * sz := by rw [List.length_take, hlt]; omega
      generalize (cur.take (n * sz)).take (i * sz) = A at hpre hl1
      generalize (cur.take (n * sz)).drop (i * sz) = B at hpre
      have hB : us.length ≤ B.length := by rw [hpre, List.length_append, hl1] at hlt; omega
      have e1 : wrl cur (i * sz) us = A ++ us ++ (B ++ cur.drop (n * sz)).drop us.length := by
        rw [← hl1]
        conv => lhs; rw [hcur, hpre, List.append_assoc]
        exact wrl_eq us A _ (by rw [List.length_append]; omega)
      have e2 : wrl (cur.take (n * sz)) (i * sz) us = A ++ us ++ B.drop us.length := by
        rw [hpre, ← hl1]; exact wrl_eq us A B hB
      rw [e1, e2, List.drop_append_of_le_length hB, ← List.append_assoc]
      refine List.take_left' ?_
      rw [hpre, List.length_append] at hlt
      simp only [List.length_append, List.length_drop]
      omega
theorem WO.storeEN {α : Type} {enc : α → List Value} {e sz : Nat} {v : Value} {xs : List α} {n : α} {us : List Value} {i : Nat} {H' : List HP} (he : EncOk enc sz) (hx : ev E x = some (.pointer (some (elt v i sz)))) (hy : ev E y = some (.agg us.toArray)) (hu : enc n = us) (hT : C.tt.ag? T = some sz) (p : Pick (OwE enc e sz v xs) H H') (hl : i < xs.length)
    (h : WO C ops rest K E (OwE enc e sz v (xs.set i n) :: H')) : WO C ops (⟨none, .store T x y, ty, pos, af, none⟩ :: rest) K E H := by
  subst hu
  refine WO.storeOwN hx hy hT (he.len n) (by rw [List.all_eq_true]; exact fun u hu => he.one n u hu) p hl ?_
  unfold OwE at h
  rw [he.flat_set xs i n hl, List.length_set] at h
  exact h
/-- a store of a struct into a row -/
theorem WO.storeRowN {α : Type} {enc : α → List Value} {e sz : Nat} {rv : List Value} {xss : List (List α)} {n : α} {us : List Value} {i k : Nat} {H' : List HP} (he : EncOk enc sz) (hx : ev E x = some (.pointer (some (elt (rv.getD i undef) k sz)))) (hy : ev E y = some (.agg us.toArray)) (hu : enc n = us) (hT : C.tt.ag? T = some sz) (p : Pick (RowsE enc e sz rv xss) H H') (hi : i < xss.length) (hk : k < (xss.getD i []).length)
    (h : WO C ops rest K E (RowsE enc e sz rv (xss.set i ((xss.getD i []).set k n)) :: H')) : WO C ops (⟨none, .store T x y, ty, pos, af, none⟩ :: rest) K E H :=
  WO.chg (p.rowIn hi) (WO.storeEN he hx hy hu hT .head hk (WO.chg rowsOut h))
end rules
/-- all elements of a slice, as cells -/
theorem RdF.flat {α : Type} {enc : α → List Value} {sz : Nat} (he : EncOk enc sz) {v : Value} {xs : List α} (h : RdF enc sz C.B C.w0 v xs) : Cells C H (base v) (xs.flatMap enc) := by
  intro j u hu
  have hp := he.pos
  have hj : j < xs.length * sz := by rw [← he.flat_len]; exact (List.getElem?_eq_some_iff.1 hu).1
  have hi : j / sz < xs.length := Nat.div_lt_of_lt_mul (by rw [Nat.mul_comm]; exact hj)
  have hr : j % sz < sz := Nat.mod_lt _ hp
  have e : j / sz * sz + j % sz = j := by rw [Nat.mul_comm]; exact Nat.div_add_mod _ _
  have hx : xs[j / sz]? = some xs[j / sz] := by simp [hi]
  have hf := he.flat_get xs (j / sz) (j % sz) xs[j / sz] hx hr
  rw [e, hu] at hf
  have := h.cellNat (H := H) hx (j := j % sz) (u := u) hf.symm
  rwa [Addr.add_add, e] at this
end
end Go.TH
namespace Go.Proofs.Ytgihklgpehfbpaa
open Go Go.TH Go.ChangeShapes Go.WideShapes Go.ChangeAt Go.RowKit
set_option maxRecDepth 100000
section
variable {H : Type} {enc : TypeId × Value → H} {w : World}
theorem cells49 : Try.prog.cellsOf 49 = 2 := by kernel_rfl
theorem open_two8 {base : Nat} {v : Value} {d : DataW H} {ps : List MemPlace} (hv : Value.okWide Try.prog w .any base 49 v) (h : DataW.Trod enc Try.prog w 0 (fun _ => true) true 49 v d ps) :
    ∃ n m : Int, v = .agg #[.int .u8 n, .int .u8 m] ∧ (0 ≤ n ∧ n ≤ 255) ∧ (0 ≤ m ∧ m ≤ 255) := by
  unfold Value.okWide at hv
  rw [Try.underlying49] at hv
  obtain ⟨cs, rfl, hs, _⟩ := hv
  obtain ⟨fuel, hf⟩ := h
  obtain ⟨xs, m, _, _, hl, hx, he⟩ := DataW.trod_array Try.underlying49 hf
  rw [cells49] at hl
  obtain ⟨l, hcs⟩ : ∃ l, cs = List.toArray l := ⟨cs.toList, by simp⟩
  subst hcs
  simp only [Value.cells] at hl he
  match l, hl with
  | [a, b], _ =>
    have h0 := he 0 (by omega)
    have h1 := he 1 (by omega)
    rw [cells5] at h0 h1
    simp at h0 h1
    obtain ⟨y0, hy0⟩ : ∃ y, xs[0]? = some y := ⟨xs[0], by simp [hx]⟩
    obtain ⟨y1, hy1⟩ : ∃ y, xs[1]? = some y := ⟨xs[1], by simp [hx]⟩
    rw [hy0] at h0
    rw [hy1] at h1
    obtain ⟨u, hu, i0⟩ := rd_u8 h0
    obtain ⟨x, hxx, i1⟩ := rd_u8 h1
    simp at hu hxx
    subst hu; subst hxx
    exact ⟨u, x, rfl, i0, i1⟩
end
end Go.Proofs.Ytgihklgpehfbpaa
namespace Go.Proofs.Ytgihklgpehfbpaa
open Go Go.TH
set_option maxRecDepth 10000
/-- the same places, with ranges that are not wider -/
structure Nar (rows rows' : List (List (Int × Int))) : Prop where
  len : rows'.length = rows.length
  row : ∀ i, i < rows.length → (rows'.getD i []).length = (rows.getD i []).length
  inn : ∀ i k, i < rows.length → k < (rows.getD i []).length → ((rows.getD i []).getD k (0, 0)).1 ≤ ((rows'.getD i []).getD k (0, 0)).1 ∧ ((rows'.getD i []).getD k (0, 0)).1 ≤ ((rows'.getD i []).getD k (0, 0)).2 ∧ ((rows'.getD i []).getD k (0, 0)).2 ≤ ((rows.getD i []).getD k (0, 0)).2
section
variable {rows rows' : List (List (Int × Int))} {ys zs : List (List Int)} {sp st what : Int} {high : Bool}
theorem end_valN (hv : HV sp st rows) (hw : 0 ≤ what ∧ what ≤ 2) (tv : TV rows ys) : lessQ (valQ sp st ys what) (endV sp st what false rows) = false ∧ lessQ (endV sp st what true rows) (valQ sp st ys what) = false := by
  obtain ⟨zs, he⟩ := exists_end hv hw true
  obtain ⟨xs, hz⟩ := exists_end hv hw false
  rw [← endV_eq hv he, ← endV_eq hv hz]
  have b1 := he.best ys tv
  have b2 := hz.best ys tv
  have l1 := less_val (what := what) hv he.tv tv
  have l2 := less_val (what := what) hv tv hz.tv
  simp only [sgn, if_true, Int.one_mul] at b1
  simp only [sgn, if_false, Bool.false_eq_true] at b2
  constructor
  · cases hx : lessQ (valQ sp st ys what) (valQ sp st xs what)
    · rfl
    · have := l2.1 hx; omega
  · cases hx : lessQ (valQ sp st zs what) (valQ sp st ys what)
    · rfl
    · have := l1.1 hx; omega
theorem val_insN (hv : HV sp st rows) (hw : 0 ≤ what ∧ what ≤ 2) (tv : TV rows ys) : insQ (valQ sp st ys what) (endV sp st what false rows) (endV sp st what true rows) = true := by
  unfold insQ
  rw [val_isB hv tv, end_isB hv hw false, end_isB hv hw true, (end_valN hv hw tv).1, (end_valN hv hw tv).2]; rfl
theorem Nar.hv (h : Nar rows rows') (hv : HV sp st rows) : HV sp st rows' := by
  have hn := hv.n
  refine ⟨by rw [h.len]; exact hv.n, by rw [h.row 0 (by omega)]; exact hv.m, fun i hi => ?_, hv.sp, hv.st, fun i k hi hk => ?_, ?_⟩
  · rw [h.len] at hi
    rw [h.row i hi, h.row 0 (by omega)]; exact hv.eq i hi
  · rw [h.len] at hi
    rw [h.row i hi] at hk
    have h1 := hv.ok i k hi hk
    have h2 := h.inn i k hi hk
    omega
  · obtain ⟨i, k, hi, hk, hp⟩ := hv.pos
    have h2 := h.inn i k hi hk
    exact ⟨i, k, by rw [h.len]; exact hi, by rw [h.row i hi]; exact hk, by omega⟩
theorem Nar.tv (h : Nar rows rows') (tv : TV rows' zs) : TV rows zs := by
  have hl := tv.len
  have hl' := h.len
  refine ⟨by rw [tv.len, h.len], fun i hi => by rw [tv.row i hi, h.row i (by omega)], fun i k hi hk => ?_⟩
  have h1 := tv.within i k hi hk
  rw [tv.row i hi, h.row i (by omega)] at hk
  have h2 := h.inn i k (by omega) hk
  omega
theorem Nar.inside (h : Nar rows rows') (hv : HV sp st rows) (hw : 0 ≤ what ∧ what ≤ 2) (high : Bool) : insQ (endV sp st what high rows') (endV sp st what false rows) (endV sp st what true rows) = true := by
  obtain ⟨zs, he⟩ := exists_end (h.hv hv) hw high
  rw [← endV_eq (h.hv hv) he]
  exact val_insN hv hw (h.tv he.tv)
/-- the ranges of one number each -/
def oneR (ys : List (List Int)) : List (List (Int × Int)) := ys.map (fun r => r.map (fun y => (y, y)))
theorem oneR_row (ys : List (List Int)) (i : Nat) : (oneR ys).getD i [] = (ys.getD i []).map (fun y => (y, y)) := by
  unfold oneR
  rw [List.getD_eq_getElem?_getD, List.getElem?_map, List.getD_eq_getElem?_getD]
  cases ys[i]? <;> rfl
theorem oneR_at (ys : List (List Int)) {i k : Nat} : ((oneR ys).getD i []).getD k (0, 0) = (yy ys i k, yy ys i k) := by
  rw [oneR_row]
  unfold yy
  generalize ys.getD i [] = r
  rw [List.getD_eq_getElem?_getD, List.getElem?_map, List.getD_eq_getElem?_getD]
  cases r[k]? <;> rfl
theorem nar_one (tv : TV rows ys) : Nar rows (oneR ys) := by
  have hl := tv.len
  refine ⟨by rw [oneR, List.length_map, hl], fun i hi => by rw [oneR_row, List.length_map, tv.row i (by omega)], fun i k hi hk => ?_⟩
  have h1 := tv.within i k (by omega) (by rw [tv.row i (by omega)]; exact hk)
  rw [oneR_at]
  exact ⟨h1.1, Int.le_refl _, h1.2⟩
theorem one_tv (tz : TV (oneR ys) zs) : zs = ys := by
  have hl := tz.len
  have hl2 : (oneR ys).length = ys.length := by rw [oneR, List.length_map]
  have ext : ∀ {α : Type} {l r : List α} (z : α), l.length = r.length → (∀ i, i < l.length → l.getD i z = r.getD i z) → l = r := by
    intro α l r z hl h
    refine List.ext_getElem hl fun i h1 h2 => ?_
    have := h i h1
    rwa [List.getD_eq_getElem?_getD, List.getD_eq_getElem?_getD, List.getElem?_eq_getElem h1, List.getElem?_eq_getElem h2] at this
  refine ext [] (by omega) fun i hi => ?_
  have hr := tz.row i hi
  rw [oneR_row, List.length_map] at hr
  refine ext 0 hr fun k hk => ?_
  have h1 := tz.within i k hi hk
  rw [oneR_at] at h1
  have h2 : yy zs i k = yy ys i k := by dsimp only at h1; omega
  exact h2
theorem one_end (hv : HV sp st rows) (hw : 0 ≤ what ∧ what ≤ 2) (tv : TV rows ys) (high : Bool) : endV sp st what high (oneR ys) = valQ sp st ys what := by
  have hv' := (nar_one tv).hv hv
  obtain ⟨zs, he⟩ := exists_end hv' hw high
  rw [← endV_eq hv' he, one_tv he.tv]
theorem getD_set {α : Type} {l : List α} {i j : Nat} {x z : α} (hi : i < l.length) : (l.set i x).getD j z = if i = j then x else l.getD j z := by
  rw [List.getD_eq_getElem?_getD, List.getElem?_set]
  by_cases h : i = j
  · rw [if_pos h, if_pos h, if_pos hi]; rfl
  · rw [if_neg h, if_neg h, List.getD_eq_getElem?_getD]
/-- one range is narrower -/
def setR (rows : List (List (Int × Int))) (i k : Nat) (x : Int × Int) : List (List (Int × Int)) := rows.set i ((rows.getD i []).set k x)
theorem nar_set (hv : HV sp st rows) {i k : Nat} (hi : i < rows.length) (hk : k < (rows.getD i []).length) {y : Int} (h : ((rows.getD i []).getD k (0, 0)).1 ≤ y ∧ y ≤ ((rows.getD i []).getD k (0, 0)).2) : Nar rows (setR rows i k (((rows.getD i []).getD k (0, 0)).1, y)) := by
  unfold setR
  refine ⟨List.length_set, fun j hj => ?_, fun j m hj hm => ?_⟩
  · rw [getD_set hi]
    by_cases e : i = j
    · rw [if_pos e, List.length_set, e]
    · rw [if_neg e]
  · have ho := hv.ok j m hj hm
    rw [getD_set hi]
    by_cases e : i = j
    · subst e
      rw [if_pos rfl, getD_set hk]
      by_cases e2 : k = m
      · subst e2; rw [if_pos rfl]; exact ⟨Int.le_refl _, h.1, h.2⟩
      · rw [if_neg e2]; omega
    · rw [if_neg e]; omega
end
end Go.Proofs.Ytgihklgpehfbpaa
namespace Go.Proofs.Ytgihklgpehfbpaa
open Go Go.TH
attribute [local irreducible] W WO pt
set_option maxRecDepth 10000
set_option maxHeartbeats 4000000
theorem oneR_len (ys : List (List Int)) : (oneR ys).length = ys.length := by rw [oneR, List.length_map]
theorem oneR_rlen (ys : List (List Int)) (i : Nat) : ((oneR ys).getD i []).length = (ys.getD i []).length := by rw [oneR_row, List.length_map]
theorem take_snoc {α : Type} {l : List α} {i : Nat} {x z : α} (h : i < l.length) (e : l.getD i z = x) : l.take i ++ [x] = l.take (i + 1) := by rw [take_succ_getD h z, e]
theorem cell_row {P : Program} {C : Cx P} {ry : List Value} {ys : List (List Int)} {H H' : List HP} {i k : Nat} (p : Pick (RowsE encI 2 1 ry ys) H H') (hi : i < ys.length) (hk : k < (ys.getD i []).length) : Cell C H (elt (ry.getD i undef) k 1) (.int .i64 (yy ys i k)) :=
  RowsE.cell0 encI_ok p hi hk 0 rfl
theorem law_BoxNarrower (w : World) (sp st n m0 m1 : Int) (o o' : Value) (rv : List Value) (rows : List (List (Int × Int))) (by' : List Int) (hR : RdR encP 2 w.heap.size w o rv rows) (hB : RdF encU 1 w.heap.size w o' by') (hb8 : ∀ x ∈ by', 0 ≤ x ∧ x ≤ 255) (hn8 : 0 ≤ n ∧ n ≤ 255) (hm0 : 0 ≤ m0 ∧ m0 ≤ 255) (hm1 : 0 ≤ m1 ∧ m1 ≤ 255) :
    Ret Try.prog 6 [.agg #[.int .i64 sp, .int .i64 st, o], .int .u8 n, .agg #[.int .u8 m0, .int .u8 m1], o'].toArray w (.bool true) := by
  refine Ret.of mixed tyTab Try.func6 rfl rfl ?_
  replace hR : RdR encP 2 (fnCx mixed tyTab Try.f6.ntmps w).B (fnCx mixed tyTab Try.f6.ntmps w).w0 o rv rows := hR
  replace hB : RdF encU 1 (fnCx mixed tyTab Try.f6.ntmps w).B (fnCx mixed tyTab Try.f6.ntmps w).w0 o' by' := hB
  have hw : 0 ≤ n.tmod 3 ∧ n.tmod 3 ≤ 2 := tmod_in hn8.1 (by omega)
  obtain ⟨_, wa, wc, hoe, _⟩ := hR.sl
  subst hoe
  refine W.sreg ?_
  refine WO.boxA rfl rfl (fun b1 hb1 => ?_)
  refine WO.boxA rfl rfl (fun b2 hb2 => ?_)
  refine WO.p rfl rfl ?_
  refine WO.nil ?_
  refine W.seq ?_
  refine W.sreg ?_
  refine WO.loadA rfl rfl (Cells.own (Pick.tail (Pick.head))) rfl rfl ?_
  refine WO.callR (r := .bool (!grt rows [] && decide (chkHull sp st rows = 0))) rfl Try.call24 (fun L w hi => law_fine w sp st _ rv rows (hR.later hi)) rfl ?_
  refine WO.p rfl rfl (WO.p rfl rfl ?_)
  refine WO.guard_b rfl rfl (fun c1 => ?_) (fun c1 => ?_)
  · first
    | (exfalso; omega)
    | (refine WO.no rfl rfl (WO.no rfl rfl (WO.no rfl rfl (WO.p rfl rfl ?_)))
       refine WO.nil ?_
       refine W.cond_t rfl ?_
       refine W.sreg ?_
       refine WO.callR rfl Try.call13 (fun L w hi => law_Works w) rfl ?_
       refine WO.p rfl rfl ?_
       refine WO.nil ?_
       refine W.ret ?_
       first | exact fin.ret (Res.one rfl (RV.tmp rfl)) rfl)
  · first
    | (exfalso; omega)
    | (refine WO.pg rfl rfl rfl (WO.go' rfl ?_)
       refine' WO.len (n := _) rfl rfl ?hs rfl ?_
       case hs => (first | exact hB.sl | exact hR.sl | exact hys | exact hyr | exact hxs | exact hxr | (refine (hR.row _ ?_).sl; omega))
       refine WO.pg rfl rfl rfl (WO.p rfl rfl ?_)
       refine WO.nil ?_
       refine W.cond_bl rfl (fun c2 => ?_) (fun c2 => ?_)
       · first
         | (exfalso; omega)
         | (refine W.sreg ?_
            refine WO.callR rfl Try.call13 (fun L w hi => law_Works w) rfl ?_
            refine WO.p rfl rfl ?_
            refine WO.nil ?_
            refine W.ret ?_
            first | exact fin.ret (Res.one rfl (RV.tmp rfl)) rfl)
       · first
         | (exfalso; omega)
         | (refine W.skip ?_
            have hv : HV sp st rows := (fun (hh : (!(!grt rows [] && decide (chkHull sp st rows = 0))) = false) => HV.of (by simp at hh; exact hh.2)) (by assumption)
            have hvn := hv.n
            have hvm := hv.m
            refine W.sreg ?_
            refine WO.p rfl rfl (WO.conv64 rfl rfl rfl (by (first | (unfold in64; omega) | (unfold in64; omega))) rfl (WO.rem rfl rfl (by first | omega | assumption) rfl (WO.p rfl rfl ?_)))
            refine WO.nil ?_
            refine W.sreg ?_
            refine WO.loadA rfl rfl (Cells.own (Pick.tail (Pick.head))) rfl rfl (WO.p rfl rfl ?_)
            refine WO.call (Post := fun v Hq => ∃ x : List Value × List (List Int), TV rows x.2 ∧ Hq = [OwC 53 1 v rows.length x.1, RowsE encI 2 1 x.1 x.2]) rfl Try.call29 (fun L w hi => law_True w sp st _ o' rv rows by' (hR.later hi) (hB.later hi) hb8 hv) rfl ?_
            rintro vT _ ⟨⟨ry, ys⟩, htv, rfl⟩
            replace htv : TV rows ys := htv
            dsimp only
            have hyl := htv.len
            refine WO.p rfl rfl ?_
            refine WO.nil ?_
            refine W.seq ?_
            refine W.fact (OwC.sl (e := 53) (sz := 1) (cs := ry) (by repeat (first | exact Pick.head | apply Pick.tail))) (fun hys => ?_)
            refine W.fact (RowsE.rowsLen (enc := encI) (e := 2) (sz := 1) (by repeat (first | exact Pick.head | apply Pick.tail))) (fun hryl => ?_)
            refine W.drawD 5 [.b 0 [], .b 1 [], .a 2 11 (.cells #[.int .i64 0, .int .i64 0, .slice none 0 0] 24 (0, 0)), .a 3 12 (.cells #[.int .i64 0, .int .i64 0, .slice none 0 0] 24 (0, 0)), .s 4 []] [] (A0 := []) (Sub.refl _) (by kernel_rfl) ?_ ?_
            · exact (ALok.b (ALok.b (ALok.cons rfl rfl rfl rfl rfl (ALok.cons rfl rfl rfl rfl rfl (ALok.s ALok.nil)))))
            refine' DT.b rfl rfl rfl ?hq ?_
            case hq =>
              refine WO.loadA rfl rfl (Cells.own (Pick.tail (Pick.tail (Pick.tail (Pick.head))))) rfl rfl ?_
              exact WO.nil ⟨rfl, rfl⟩
            refine' DT.b rfl rfl rfl ?hq ?_
            case hq =>
              refine WO.loadA rfl rfl (Cells.own (Pick.tail (Pick.tail (Pick.tail (Pick.head))))) rfl rfl ?_
              exact WO.nil ⟨rfl, rfl⟩
            refine DT.a (fun b3 => ?_)
            refine DT.a (fun b4 => ?_)
            refine DT.s [_, _, _, _, _, _] rfl rfl rfl ?_
            refine WO.storeA rfl rfl rfl rfl (Pick.tail (Pick.head)) rfl rfl ?_
            refine WO.nil ⟨[_, _], rfl, rfl, (Keep.a (Keep.a (Keep.b (Keep.b Keep.nil)))), ?_⟩
            refine DT.nil [_, _, _, _, _, _] rfl ?_
            refine WO.storeA rfl rfl rfl rfl (Pick.tail (Pick.head)) rfl rfl ?_
            refine WO.nil ?_
            refine W.sreg ?_
            refine WO.fieldL rfl rfl rfl (WO.store1 rfl rfl rfl (by first | rfl | assumption) (Pick.tail (Pick.head)) rfl (WO.fieldL rfl rfl rfl (WO.store1 rfl rfl rfl (by first | rfl | assumption) (Pick.tail (Pick.head)) rfl ?_)))
            refine WO.nil ?_
            refine W.seq ?_
            refine W.sreg ?_
            refine WO.p rfl rfl ?_
            refine WO.nil ?_
            refine W.block ?_
            refine W.chg (owcNil (e := 52) (sz := 1)) ?_
            refine W.chg (rowsNil (enc := encP) (e := 55) (sz := 2)) ?_
            refine W.chg (owcNil (e := 52) (sz := 1)) ?_
            refine W.chg (rowsNil (enc := encP) (e := 55) (sz := 2)) ?_
            refine W.loop5 (fun (i : Nat) (vx : Value) (rx : List Value) (vo : Value) (ro : List Value) => i ≤ rows.length)
              (fun (i : Nat) (vx : Value) (rx : List Value) (vo : Value) (ro : List Value) => [(13, .int .i64 (i : Int)), (12, .pointer (some ⟨b4, 0, none⟩)), (11, .pointer (some ⟨b3, 0, none⟩)), (10, vT), (9, .int .i64 (n.tmod 3)), (6, .pointer (some ⟨b2, 0, none⟩)), (4, .pointer (some ⟨b1, 0, none⟩))])
              (fun (i : Nat) (vx : Value) (rx : List Value) (vo : Value) (ro : List Value) => [pt b1 (.cells #[.int .i64 sp, .int .i64 st, .slice wa rows.length wc] 24 (0, 0)), pt b2 (.cells #[.int .u8 m0, .int .u8 m1] 49 (0, 0)), pt b3 (.cells #[.int .i64 sp, .int .i64 st, vx] 24 (0, 0)), pt b4 (.cells #[.int .i64 sp, .int .i64 st, vo] 24 (0, 0)), OwC 53 1 vT rows.length ry, RowsE encI 2 1 ry ys, OwC 52 1 vx i rx, RowsE encP 55 2 rx (rows.take i), OwC 52 1 vo i ro, RowsE encP 55 2 ro ((oneR ys).take i)])
              (fun (i : Nat) (vx : Value) (rx : List Value) (vo : Value) (ro : List Value) => rows.length - i) 0 (.slice none 0 0) [] (.slice none 0 0) []
              (by omega) ⟨rfl, rfl, rfl, rfl, rfl, rfl, rfl, trivial⟩ (by repeat (first | exact Sub.nil | refine Sub.cons (by repeat (first | exact Pick.head | apply Pick.tail)) ?_)) ?_
            rintro i vx rx vo ro hi
            refine W.seq ?_
            refine W.sreg ?_
            refine WO.p rfl rfl (WO.fieldL rfl rfl rfl (WO.load rfl rfl (Cell.own Pick.head rfl) rfl ?_))
            refine' WO.len (n := _) rfl rfl ?hs rfl ?_
            case hs => (first | exact hB.sl | exact hR.sl | exact hys | exact hyr | exact hxs | exact hxr | (refine (hR.row _ ?_).sl; omega))
            refine WO.p rfl rfl ?_
            refine WO.nil ?_
            refine W.cond_bl rfl (fun c3 => ?_) (fun c3 => ?_)
            · first
              | (exfalso; omega)
              | (refine W.skip ?_
                 refine W.seq ?_
                 refine W.block ?_
                 refine W.fact (RowsE.rowSl (enc := encI) (e := 2) (sz := 1) (rv := ry) (xss := ys) (by repeat (first | exact Pick.head | apply Pick.tail)) (i := i) (by omega)) (fun hyr => ?_)
                 have hrl := htv.row i (by omega)
                 have hre := hv.eq i (by omega)
                 refine W.sreg ?_
                 refine WO.p rfl rfl ?_
                 refine WO.nil ?_
                 refine W.seq ?_
                 refine W.sreg ?_
                 refine WO.p rfl rfl ?_
                 refine WO.nil ?_
                 refine W.block ?_
                 refine W.chg (owNil (enc := encP) (e := 55) (sz := 2)) ?_
                 refine W.loop2 (fun (k : Nat) (r : Value) => k ≤ (ys.getD i []).length)
                   (fun (k : Nat) (r : Value) => [(15, .int .i64 (k : Int)), (14, r), (13, .int .i64 (i : Int)), (12, .pointer (some ⟨b4, 0, none⟩)), (11, .pointer (some ⟨b3, 0, none⟩)), (10, vT), (9, .int .i64 (n.tmod 3)), (6, .pointer (some ⟨b2, 0, none⟩)), (4, .pointer (some ⟨b1, 0, none⟩))])
                   (fun (k : Nat) (r : Value) => [pt b1 (.cells #[.int .i64 sp, .int .i64 st, .slice wa rows.length wc] 24 (0, 0)), pt b2 (.cells #[.int .u8 m0, .int .u8 m1] 49 (0, 0)), pt b3 (.cells #[.int .i64 sp, .int .i64 st, vx] 24 (0, 0)), pt b4 (.cells #[.int .i64 sp, .int .i64 st, vo] 24 (0, 0)), OwC 53 1 vT rows.length ry, RowsE encI 2 1 ry ys, OwC 52 1 vx i rx, RowsE encP 55 2 rx (rows.take i), OwC 52 1 vo i ro, RowsE encP 55 2 ro ((oneR ys).take i), OwE encP 55 2 r (((oneR ys).getD i []).take k)])
                   (fun (k : Nat) (r : Value) => (ys.getD i []).length - k) 0 (.slice none 0 0)
                   (by omega) ⟨rfl, rfl, rfl, rfl, rfl, rfl, rfl, rfl, rfl, trivial⟩ (by repeat (first | exact Sub.nil | refine Sub.cons (by repeat (first | exact Pick.head | apply Pick.tail)) ?_)) ?_
                 rintro k r hk
                 refine W.seq ?_
                 refine W.sreg ?_
                 refine WO.p rfl rfl (WO.p rfl rfl (WO.p rfl rfl ?_))
                 refine' WO.indexAddr (n := _) (i := _) rfl rfl rfl ?hs ?h1 rfl ?_
                 case hs => (first | exact hB.sl | exact hR.sl | exact hys | exact hyr | exact hxs | exact hxr | (refine (hR.row _ ?_).sl; omega))
                 case h1 => (first | omega | (simp; omega))
                 refine' WO.load (v := _) rfl rfl ?hc rfl ?_
                 case hc => (first | (refine hR.cellV ?_; omega) | (refine' OwC.cell1s (e := 53) (n := rows.length) (cs := ry) (Sub.cons ?_ Sub.nil) ?_; (repeat (first | exact Pick.head | apply Pick.tail)); omega) | (refine' OwC.cell1s (e := 52) (n := rows.length) (cs := rx) (Sub.cons ?_ Sub.nil) ?_; (repeat (first | exact Pick.head | apply Pick.tail)); omega) | (refine' cell_row (ys := ys) (ry := ry) ?_ ?_ ?_; any_goals (first | ((repeat (first | exact Pick.head | apply Pick.tail)); done) | omega)) | (refine (hR.row _ ?_).cell0 ?_ (0, 0) ?_ <;> first | rfl | omega))
                 refine' WO.len (n := _) rfl rfl ?hs rfl ?_
                 case hs => (first | exact hB.sl | exact hR.sl | exact hys | exact hyr | exact hxs | exact hxr | (refine (hR.row _ ?_).sl; omega))
                 refine WO.p rfl rfl ?_
                 refine WO.nil ?_
                 refine W.cond_bl rfl (fun c4 => ?_) (fun c4 => ?_)
                 · first
                   | (exfalso; omega)
                   | (refine W.skip ?_
                      refine W.seq ?_
                      refine W.block ?_
                      refine W.drawD 17 [.r 0 [], .r 1 [], .r 2 [], .r 3 [], .b 4 [], .r 5 [], .r 6 [], .b 7 [], .r 8 [], .r 9 [], .r 10 [], .b 11 [], .r 12 [], .r 13 [], .b 14 [], .r 15 [], .c 16 []] [] (A0 := [_]) (H0 := [_, _, _, _, _, _, _, _, _, _]) (.cons (Pick.tail (Pick.tail (Pick.tail (Pick.tail (Pick.tail (Pick.tail (Pick.tail (Pick.tail (Pick.tail (Pick.tail .head)))))))))) (.cons .head (.cons .head (.cons .head (.cons .head (.cons .head (.cons .head (.cons .head (.cons .head (.cons .head (.cons .head .nil))))))))))) (by kernel_rfl) ?_ ?_
                      · exact (ALok.r (ALok.r (ALok.r (ALok.r (ALok.b (ALok.r (ALok.r (ALok.b (ALok.r (ALok.r (ALok.r (ALok.b (ALok.r (ALok.r (ALok.b (ALok.r (ALok.c ALok.nil)))))))))))))))))
                      refine' DT.r rfl rfl rfl ?hq ?_
                      case hq =>
                        refine WO.p rfl rfl ?_
                        exact WO.nil ⟨rfl, rfl⟩
                      refine' DT.r rfl rfl rfl ?hq ?_
                      case hq =>
                        refine WO.p rfl rfl ?_
                        exact WO.nil ⟨rfl, rfl⟩
                      refine' DT.r rfl rfl rfl ?hq ?_
                      case hq =>
                        refine WO.p rfl rfl ?_
                        exact WO.nil ⟨rfl, rfl⟩
                      refine' DT.r rfl rfl rfl ?hq ?_
                      case hq =>
                        refine' WO.indexAddr (n := _) (i := _) rfl rfl rfl ?hs ?h1 rfl ?_
                        case hs => (first | exact hB.sl | exact hR.sl | exact hys | exact hyr | exact hxs | exact hxr | (refine (hR.row _ ?_).sl; omega))
                        case h1 => (first | omega | (simp; omega))
                        exact WO.nil ⟨rfl, rfl⟩
                      refine' DT.b rfl rfl rfl ?hq ?_
                      case hq =>
                        refine' WO.load (v := _) rfl rfl ?hc rfl ?_
                        case hc => (first | (refine hR.cellV ?_; omega) | (refine' OwC.cell1s (e := 53) (n := rows.length) (cs := ry) (Sub.cons ?_ Sub.nil) ?_; (repeat (first | exact Pick.head | apply Pick.tail)); omega) | (refine' OwC.cell1s (e := 52) (n := rows.length) (cs := rx) (Sub.cons ?_ Sub.nil) ?_; (repeat (first | exact Pick.head | apply Pick.tail)); omega) | (refine' cell_row (ys := ys) (ry := ry) ?_ ?_ ?_; any_goals (first | ((repeat (first | exact Pick.head | apply Pick.tail)); done) | omega)) | (refine (hR.row _ ?_).cell0 ?_ (0, 0) ?_ <;> first | rfl | omega))
                        exact WO.nil ⟨rfl, rfl⟩
                      refine' DT.r rfl rfl rfl ?hq ?_
                      case hq =>
                        refine WO.p rfl rfl ?_
                        exact WO.nil ⟨rfl, rfl⟩
                      refine' DT.r rfl rfl rfl ?hq ?_
                      case hq =>
                        refine' WO.indexAddr (n := _) (i := _) rfl rfl rfl ?hs ?h1 rfl ?_
                        case hs => (first | exact hB.sl | exact hR.sl | exact hys | exact hyr | exact hxs | exact hxr | (refine (hR.row _ ?_).sl; omega))
                        case h1 => (first | omega | (simp; omega))
                        exact WO.nil ⟨rfl, rfl⟩
                      refine' DT.b rfl rfl rfl ?hq ?_
                      case hq =>
                        refine' WO.load (v := _) rfl rfl ?hc rfl ?_
                        case hc => (first | (refine hR.cellV ?_; omega) | (refine' OwC.cell1s (e := 53) (n := rows.length) (cs := ry) (Sub.cons ?_ Sub.nil) ?_; (repeat (first | exact Pick.head | apply Pick.tail)); omega) | (refine' OwC.cell1s (e := 52) (n := rows.length) (cs := rx) (Sub.cons ?_ Sub.nil) ?_; (repeat (first | exact Pick.head | apply Pick.tail)); omega) | (refine' cell_row (ys := ys) (ry := ry) ?_ ?_ ?_; any_goals (first | ((repeat (first | exact Pick.head | apply Pick.tail)); done) | omega)) | (refine (hR.row _ ?_).cell0 ?_ (0, 0) ?_ <;> first | rfl | omega))
                        exact WO.nil ⟨rfl, rfl⟩
                      refine' DT.r rfl rfl rfl ?hq ?_
                      case hq =>
                        refine WO.p rfl rfl ?_
                        exact WO.nil ⟨rfl, rfl⟩
                      refine' DT.r rfl rfl rfl ?hq ?_
                      case hq =>
                        refine WO.p rfl rfl ?_
                        exact WO.nil ⟨rfl, rfl⟩
                      refine' DT.r rfl rfl rfl ?hq ?_
                      case hq =>
                        refine' WO.indexAddr (n := _) (i := _) rfl rfl rfl ?hs ?h1 rfl ?_
                        case hs => (first | exact hB.sl | exact hR.sl | exact hys | exact hyr | exact hxs | exact hxr | (refine (hR.row _ ?_).sl; omega))
                        case h1 => (first | omega | (simp; omega))
                        exact WO.nil ⟨rfl, rfl⟩
                      refine' DT.b rfl rfl rfl ?hq ?_
                      case hq =>
                        refine' WO.load (v := _) rfl rfl ?hc rfl ?_
                        case hc => (first | (refine hR.cellV ?_; omega) | (refine' OwC.cell1s (e := 53) (n := rows.length) (cs := ry) (Sub.cons ?_ Sub.nil) ?_; (repeat (first | exact Pick.head | apply Pick.tail)); omega) | (refine' OwC.cell1s (e := 52) (n := rows.length) (cs := rx) (Sub.cons ?_ Sub.nil) ?_; (repeat (first | exact Pick.head | apply Pick.tail)); omega) | (refine' cell_row (ys := ys) (ry := ry) ?_ ?_ ?_; any_goals (first | ((repeat (first | exact Pick.head | apply Pick.tail)); done) | omega)) | (refine (hR.row _ ?_).cell0 ?_ (0, 0) ?_ <;> first | rfl | omega))
                        exact WO.nil ⟨rfl, rfl⟩
                      refine' DT.r rfl rfl rfl ?hq ?_
                      case hq =>
                        refine WO.p rfl rfl ?_
                        exact WO.nil ⟨rfl, rfl⟩
                      refine' DT.r rfl rfl rfl ?hq ?_
                      case hq =>
                        refine' WO.indexAddr (n := _) (i := _) rfl rfl rfl ?hs ?h1 rfl ?_
                        case hs => (first | exact hB.sl | exact hR.sl | exact hys | exact hyr | exact hxs | exact hxr | (refine (hR.row _ ?_).sl; omega))
                        case h1 => (first | omega | (simp; omega))
                        exact WO.nil ⟨rfl, rfl⟩
                      refine' DT.b rfl rfl rfl ?hq ?_
                      case hq =>
                        refine' WO.load (v := _) rfl rfl ?hc rfl ?_
                        case hc => (first | (refine hR.cellV ?_; omega) | (refine' OwC.cell1s (e := 53) (n := rows.length) (cs := ry) (Sub.cons ?_ Sub.nil) ?_; (repeat (first | exact Pick.head | apply Pick.tail)); omega) | (refine' OwC.cell1s (e := 52) (n := rows.length) (cs := rx) (Sub.cons ?_ Sub.nil) ?_; (repeat (first | exact Pick.head | apply Pick.tail)); omega) | (refine' cell_row (ys := ys) (ry := ry) ?_ ?_ ?_; any_goals (first | ((repeat (first | exact Pick.head | apply Pick.tail)); done) | omega)) | (refine (hR.row _ ?_).cell0 ?_ (0, 0) ?_ <;> first | rfl | omega))
                        exact WO.nil ⟨rfl, rfl⟩
                      refine' DT.r rfl rfl rfl ?hq ?_
                      case hq =>
                        refine' WO.build (cs := _) rfl rfl rfl ?hf rfl ?_
                        case hf => (conv => lhs; simp [-List.getD_eq_getElem?_getD, fillL, vcl, wrl, TTab.pl?.lget']) <;> rfl
                        exact WO.nil ⟨rfl, rfl⟩
                      refine DT.c [_, _, _, _, _, _, _, _, _, _, _] rfl rfl rfl rfl ?_
                      refine' WO.buildSl (cs := _) rfl rfl rfl rfl ?hf rfl rfl ?hl rfl (fun v5 => ?_)
                      case hf => (conv => lhs; simp [-List.getD_eq_getElem?_getD, fillL, vcl, wrl, TTab.pl?.lget']) <;> rfl
                      case hl => rfl
                      refine WO.nil ⟨_, [_, _], rfl, rfl, (Keep.r (Keep.b (Keep.r (Keep.r (Keep.b (Keep.r (Keep.r (Keep.r (Keep.b (Keep.r (Keep.r (Keep.b (Keep.r (Keep.r (Keep.r (Keep.r Keep.nil)))))))))))))))), ?_⟩
                      refine DT.nil [_, _, _, _, _, _, _, _, _, _, _, _] rfl ?_
                      refine' WO.appendE (enc := encP) (m := 1) (ys := [(yy ys i k, yy ys i k)]) encP_ok rfl rfl rfl rfl rfl (by repeat (first | exact Pick.head | apply Pick.tail)) (isSl_lit (by omega)) (by omega) rfl (OwC.cells .head) (by rw [List.length_take, oneR_rlen]; omega) (by rw [List.length_take, oneR_rlen]; omega) rfl (fun g c => ?_)
                      rw [take_snoc (z := (0, 0)) (by rw [oneR_rlen]; omega) (oneR_at ys)]
                      refine WO.p rfl rfl ?_
                      refine WO.nil ?_
                      refine W.region ?_
                      refine WO.p rfl rfl (WO.ar rfl rfl rfl (by (first | (unfold in64; omega) | (unfold in64; omega))) rfl (WO.p rfl rfl ?_))
                      refine WO.nil ?_
                      refine' ⟨k + 1, _, ?hp, ?hmu, ⟨rfl, rfl, rfl, rfl, rfl, rfl, rfl, rfl, rfl, trivial⟩, ?hS⟩
                      case hS => repeat (first | exact Sub.nil | refine Sub.cons (by repeat (first | exact Pick.head | apply Pick.tail)) ?_)
                      case hp => omega
                      case hmu => omega)
                 · first
                   | (exfalso; omega)
                   | (refine W.exit (blk_same ?_)
                      obtain rfl : k = (ys.getD i []).length := by omega
                      rw [show ((oneR ys).getD i []).take (ys.getD i []).length = (oneR ys).getD i [] by rw [← oneR_rlen, List.take_length]]
                      refine W.fact (OwE.form (enc := encP) (e := 55) (sz := 2) (by repeat (first | exact Pick.head | apply Pick.tail))) (fun hf => ?_)
                      obtain ⟨ra, rc, rfl⟩ := hf
                      rw [oneR_rlen]
                      refine W.sreg ?_
                      refine WO.fieldL rfl rfl rfl (WO.load rfl rfl (Cell.own (Pick.tail (Pick.tail (Pick.tail (Pick.head)))) rfl) rfl (WO.p rfl rfl ?_))
                      refine' WO.buildSl (cs := _) rfl rfl rfl rfl ?hf rfl rfl ?hl rfl (fun v6 => ?_)
                      case hf => (conv => lhs; simp [-List.getD_eq_getElem?_getD, fillL, vcl, wrl, TTab.pl?.lget']) <;> rfl
                      case hl => rfl
                      refine' WO.append (e := 52) (n := i) (cs := ro) (m := 1) (news := [.slice ra (ys.getD i []).length rc]) rfl rfl rfl rfl rfl (by repeat (first | exact Pick.head | apply Pick.tail)) (isSl_lit (by omega)) (by omega) (OwC.cells .head) rfl (by simp [Value.oneCell']) (by omega) (by omega) rfl (fun g c' => ?_)
                      refine WO.fieldL rfl rfl rfl (WO.store1 rfl rfl rfl (by first | rfl | assumption) (Pick.tail (Pick.tail (Pick.tail (Pick.tail (Pick.tail (Pick.head)))))) rfl ?_)
                      refine WO.nil ?_
                      refine W.chg (rowsSnoc (enc := encP) (e := 55) (sz := 2) (rv := ro) (xss := (oneR ys).take i) (by repeat (first | exact Pick.head | apply Pick.tail)) (by repeat (first | exact Pick.head | apply Pick.tail))) ?_
                      rw [take_snoc (z := []) (by rw [oneR_len]; omega) rfl]
                      refine W.drawD 10 [.r 0 [], .b 1 [], .r 3 [], .b 4 [], .r 5 [], .r 6 [], .b 7 [], .c 2 [], .c 8 [], .c 9 []] [] (A0 := [_]) (H0 := [_, _, _, _, _, _, _, _, _, _]) (.cons (Pick.tail (Pick.tail (Pick.tail (Pick.tail (Pick.tail (Pick.tail (Pick.tail (Pick.tail (Pick.tail .head))))))))) (.cons .head (.cons .head (.cons .head (.cons .head (.cons .head (.cons .head (.cons .head (.cons .head (.cons .head (.cons .head .nil))))))))))) (by kernel_rfl) ?_ ?_
                      · exact (ALok.r (ALok.b (ALok.r (ALok.b (ALok.r (ALok.r (ALok.b (ALok.c (ALok.c (ALok.c ALok.nil))))))))))
                      refine' DT.r rfl rfl rfl ?hq ?_
                      case hq =>
                        refine WO.fieldL rfl rfl rfl ?_
                        exact WO.nil ⟨rfl, rfl⟩
                      refine' DT.b rfl rfl rfl ?hq ?_
                      case hq =>
                        refine WO.load rfl rfl (Cell.own (Pick.tail (Pick.tail (Pick.tail (Pick.tail (Pick.tail (Pick.tail (Pick.head))))))) rfl) rfl ?_
                        exact WO.nil ⟨rfl, rfl⟩
                      refine' DT.r rfl rfl rfl ?hq ?_
                      case hq =>
                        refine WO.fieldL rfl rfl rfl ?_
                        exact WO.nil ⟨rfl, rfl⟩
                      refine' DT.b rfl rfl rfl ?hq ?_
                      case hq =>
                        refine WO.load rfl rfl (Cell.own (Pick.tail (Pick.tail (Pick.tail (Pick.tail (Pick.head))))) rfl) rfl ?_
                        exact WO.nil ⟨rfl, rfl⟩
                      refine' DT.r rfl rfl rfl ?hq ?_
                      case hq =>
                        refine WO.p rfl rfl ?_
                        exact WO.nil ⟨rfl, rfl⟩
                      refine' DT.r rfl rfl rfl ?hq ?_
                      case hq =>
                        refine' WO.indexAddr (n := _) (i := _) rfl rfl rfl ?hs ?h1 rfl ?_
                        case hs => (first | exact hB.sl | exact hR.sl | exact hys | exact hyr | exact hxs | exact hxr | (refine (hR.row _ ?_).sl; omega))
                        case h1 => (first | omega | (simp; omega))
                        exact WO.nil ⟨rfl, rfl⟩
                      refine' DT.b rfl rfl rfl ?hq ?_
                      case hq =>
                        refine' WO.load (v := _) rfl rfl ?hc rfl ?_
                        case hc => (first | (refine hR.cellV ?_; omega) | (refine' OwC.cell1s (e := 53) (n := rows.length) (cs := ry) (Sub.cons ?_ Sub.nil) ?_; (repeat (first | exact Pick.head | apply Pick.tail)); omega) | (refine' OwC.cell1s (e := 52) (n := rows.length) (cs := rx) (Sub.cons ?_ Sub.nil) ?_; (repeat (first | exact Pick.head | apply Pick.tail)); omega) | (refine' cell_row (ys := ys) (ry := ry) ?_ ?_ ?_; any_goals (first | ((repeat (first | exact Pick.head | apply Pick.tail)); done) | omega)) | (refine (hR.row _ ?_).cell0 ?_ (0, 0) ?_ <;> first | rfl | omega))
                        exact WO.nil ⟨rfl, rfl⟩
                      refine DT.c [_, _, _, _, _, _, _, _, _, _, _] rfl rfl rfl rfl ?_
                      refine WO.buildSl0 rfl rfl (fun e0 => ?_)
                      refine WO.nil ⟨_, [_, _], rfl, rfl, (Keep.b (Keep.r (Keep.r (Keep.b (Keep.r (Keep.b (Keep.r Keep.nil))))))), ?_⟩
                      refine DT.c [_, _, _, _, _, _, _, _, _, _, _, _] rfl rfl rfl rfl ?_
                      refine' WO.appendE (enc := encP) (xs := []) (m := (rows.getD i []).length) (ys := rows.getD i []) encP_ok rfl rfl rfl rfl rfl (by repeat (first | exact Pick.head | apply Pick.tail)) (hR.row _ (by omega)).sl (by omega) rfl ((hR.row i (by omega)).flat encP_ok) (by simp only [List.length_nil]; omega) (by simp only [List.length_nil]; omega) rfl (fun g3 c3 => ?_)
                      rw [List.nil_append, List.length_nil, Nat.zero_add (rows.getD i []).length]
                      refine WO.nil ⟨_, [_, _], rfl, rfl, (Keep.c (Keep.b (Keep.r (Keep.r (Keep.b (Keep.r (Keep.b (Keep.r Keep.nil)))))))), ?_⟩
                      refine DT.c [_, _, _, _, _, _, _, _, _, _, _, _] rfl rfl rfl rfl ?_
                      refine' WO.buildSl (cs := _) rfl rfl rfl rfl ?hf rfl rfl ?hl rfl (fun v7 => ?_)
                      case hf => (conv => lhs; simp [-List.getD_eq_getElem?_getD, fillL, vcl, wrl, TTab.pl?.lget']) <;> rfl
                      case hl => rfl
                      refine WO.nil ⟨_, [_, _, _], rfl, rfl, (Keep.c (Keep.c (Keep.b (Keep.r (Keep.r (Keep.b (Keep.r (Keep.b (Keep.r Keep.nil))))))))), ?_⟩
                      refine DT.nil [_, _, _, _, _, _, _, _, _, _, _, _, _] rfl ?_
                      refine' WO.append (e := 52) (n := i) (cs := rx) (m := 1) (news := [.slice (some ⟨g3, 0, none⟩) (rows.getD i []).length c3]) rfl rfl rfl rfl rfl (by repeat (first | exact Pick.head | apply Pick.tail)) (isSl_lit (by omega)) (by omega) (OwC.cells .head) rfl (by simp [Value.oneCell']) (by omega) (by omega) rfl (fun g4 c4 => ?_)
                      refine WO.fieldL rfl rfl rfl (WO.store1 rfl rfl rfl (by first | rfl | assumption) (Pick.tail (Pick.tail (Pick.tail (Pick.tail (Pick.tail (Pick.tail (Pick.tail (Pick.tail (Pick.tail (Pick.head)))))))))) rfl ?_)
                      refine WO.nil ?_
                      refine W.chg (rowsSnoc (enc := encP) (e := 55) (sz := 2) (rv := rx) (xss := rows.take i) (by repeat (first | exact Pick.head | apply Pick.tail)) (by repeat (first | exact Pick.head | apply Pick.tail))) ?_
                      rw [take_snoc (z := []) (by omega) rfl]
                      refine W.region ?_
                      refine WO.p rfl rfl (WO.ar rfl rfl rfl (by (first | (unfold in64; omega) | (unfold in64; omega))) rfl (WO.p rfl rfl ?_))
                      refine WO.nil ?_
                      refine' ⟨i + 1, _, _, _, _, ?hp, ?hmu, ⟨rfl, rfl, rfl, rfl, rfl, rfl, rfl, trivial⟩, ?hS⟩
                      case hS => repeat (first | exact Sub.nil | refine Sub.cons (by repeat (first | exact Pick.head | apply Pick.tail)) ?_)
                      case hp => omega
                      case hmu => omega))
            · first
              | (exfalso; omega)
              | (refine W.exit (blk_same ?_)
                 obtain rfl : i = rows.length := by omega
                 rw [List.take_length, show (oneR ys).take rows.length = oneR ys by rw [← hyl, ← oneR_len, List.take_length]]
                 refine W.fact (OwC.sl (e := 52) (sz := 1) (cs := rx) (by repeat (first | exact Pick.head | apply Pick.tail))) (fun hxs => ?_)
                 refine W.fact (RowsE.rowsLen (enc := encP) (e := 55) (sz := 2) (rv := rx) (xss := rows) (by repeat (first | exact Pick.head | apply Pick.tail))) (fun hxl => ?_)
                 obtain ⟨q1, hq1⟩ : ∃ q : Nat, m0.tmod (rows.length : Int) = (q : Int) := ⟨(m0.tmod (rows.length : Int)).toNat, by have := tmod_in (a := m0) (b := (rows.length : Int)) hm0.1 (by omega); omega⟩
                 have hb1' : q1 < rows.length := by have := tmod_in (a := m0) (b := (rows.length : Int)) hm0.1 (by omega); omega
                 have hre := hv.eq q1 hb1'
                 obtain ⟨q2, hq2⟩ : ∃ q : Nat, m1.tmod ((rows.getD q1 []).length : Int) = (q : Int) := ⟨(m1.tmod ((rows.getD q1 []).length : Int)).toNat, by have := tmod_in (a := m1) (b := ((rows.getD q1 []).length : Int)) hm1.1 (by omega); omega⟩
                 have hb2' : q2 < (rows.getD q1 []).length := by have := tmod_in (a := m1) (b := ((rows.getD q1 []).length : Int)) hm1.1 (by omega); omega
                 have hrl := htv.row q1 (by omega)
                 have hwi := htv.within q1 q2 (by omega) (by omega)
                 refine W.fact (RowsE.rowSl (enc := encI) (e := 2) (sz := 1) (rv := ry) (xss := ys) (by repeat (first | exact Pick.head | apply Pick.tail)) (i := q1) (by omega)) (fun hyr => ?_)
                 refine W.fact (RowsE.rowSl (enc := encP) (e := 55) (sz := 2) (rv := rx) (xss := rows) (by repeat (first | exact Pick.head | apply Pick.tail)) (i := q1) (by omega)) (fun hxr => ?_)
                 refine W.sreg ?_
                 refine WO.indexArrL (o' := 0) rfl rfl rfl (by decide) rfl rfl ?_
                 refine WO.load rfl rfl (Cell.own (Pick.tail (Pick.head)) rfl) rfl (WO.conv64 rfl rfl rfl (by (first | (unfold in64; omega) | (unfold in64; omega))) rfl (WO.fieldL rfl rfl rfl (WO.load rfl rfl (Cell.own Pick.head rfl) rfl ?_)))
                 refine' WO.len (n := _) rfl rfl ?hs rfl ?_
                 case hs => (first | exact hB.sl | exact hR.sl | exact hys | exact hyr | exact hxs | exact hxr | (refine (hR.row _ ?_).sl; omega))
                 refine WO.rem rfl rfl (by first | omega | assumption) rfl (WO.p rfl rfl ?_)
                 refine WO.nil ?_
                 refine W.seq ?_
                 rw [hq1]
                 refine W.drawD 9 [.r 0 [], .b 1 [], .r 2 [], .r 3 [], .b 4 [], .r 5 [], .r 6 [], .b 7 [], .r 8 []] [] (A0 := []) (Sub.refl _) (by kernel_rfl) ?_ ?_
                 · exact (ALok.r (ALok.b (ALok.r (ALok.r (ALok.b (ALok.r (ALok.r (ALok.b (ALok.r ALok.nil)))))))))
                 refine' DT.r rfl rfl rfl ?hq ?_
                 case hq =>
                   refine WO.indexArrL (o' := 1) rfl rfl rfl (by decide) rfl rfl ?_
                   exact WO.nil ⟨rfl, rfl⟩
                 refine' DT.b rfl rfl rfl ?hq ?_
                 case hq =>
                   refine WO.load rfl rfl (Cell.own (Pick.tail (Pick.head)) rfl) rfl ?_
                   exact WO.nil ⟨rfl, rfl⟩
                 refine' DT.r rfl rfl rfl ?hq ?_
                 case hq =>
                   refine WO.conv64 rfl rfl rfl (by (first | (unfold in64; omega) | (unfold in64; omega))) rfl ?_
                   exact WO.nil ⟨rfl, rfl⟩
                 refine' DT.r rfl rfl rfl ?hq ?_
                 case hq =>
                   refine WO.fieldL rfl rfl rfl ?_
                   exact WO.nil ⟨rfl, rfl⟩
                 refine' DT.b rfl rfl rfl ?hq ?_
                 case hq =>
                   refine WO.load rfl rfl (Cell.own Pick.head rfl) rfl ?_
                   exact WO.nil ⟨rfl, rfl⟩
                 refine' DT.r rfl rfl rfl ?hq ?_
                 case hq =>
                   refine WO.p rfl rfl ?_
                   exact WO.nil ⟨rfl, rfl⟩
                 refine' DT.r rfl rfl rfl ?hq ?_
                 case hq =>
                   refine' WO.indexAddr (n := _) (i := _) rfl rfl rfl ?hs ?h1 rfl ?_
                   case hs => (first | exact hB.sl | exact hR.sl | exact hys | exact hyr | exact hxs | exact hxr | (refine (hR.row _ ?_).sl; omega))
                   case h1 => (first | omega | (simp; omega))
                   exact WO.nil ⟨rfl, rfl⟩
                 refine' DT.b rfl rfl rfl ?hq ?_
                 case hq =>
                   refine' WO.load (v := _) rfl rfl ?hc rfl ?_
                   case hc => (first | (refine hR.cellV ?_; omega) | (refine' OwC.cell1s (e := 53) (n := rows.length) (cs := ry) (Sub.cons ?_ Sub.nil) ?_; (repeat (first | exact Pick.head | apply Pick.tail)); omega) | (refine' OwC.cell1s (e := 52) (n := rows.length) (cs := rx) (Sub.cons ?_ Sub.nil) ?_; (repeat (first | exact Pick.head | apply Pick.tail)); omega) | (refine' cell_row (ys := ys) (ry := ry) ?_ ?_ ?_; any_goals (first | ((repeat (first | exact Pick.head | apply Pick.tail)); done) | omega)) | (refine (hR.row _ ?_).cell0 ?_ (0, 0) ?_ <;> first | rfl | omega))
                   exact WO.nil ⟨rfl, rfl⟩
                 refine' DT.r rfl rfl rfl ?hq ?_
                 case hq =>
                   refine' WO.len (n := _) rfl rfl ?hs rfl ?_
                   case hs => (first | exact hB.sl | exact hR.sl | exact hys | exact hyr | exact hxs | exact hxr | (refine (hR.row _ ?_).sl; omega))
                   exact WO.nil ⟨rfl, rfl⟩
                 refine DT.nil [_, _, _, _, _, _, _, _, _, _] rfl ?_
                 refine WO.rem rfl rfl (by first | omega | assumption) rfl (WO.p rfl rfl ?_)
                 refine WO.nil ?_
                 refine W.seq ?_
                 rw [hq2]
                 refine W.drawD 23 [.r 0 [], .b 1 [], .r 2 [], .r 3 [], .b 4 [], .r 5 [], .r 6 [], .b 7 [], .r 8 [], .r 9 [], .b 10 [], .r 11 [], .r 12 [], .r 13 [], .b 14 [], .r 15 [], .r 16 [], .r 17 [], .b 18 [], .r 19 [], .r 20 [], .b 21 [], .r 22 []] [] (A0 := []) (Sub.refl _) (by kernel_rfl) ?_ ?_
                 · exact (ALok.r (ALok.b (ALok.r (ALok.r (ALok.b (ALok.r (ALok.r (ALok.b (ALok.r (ALok.r (ALok.b (ALok.r (ALok.r (ALok.r (ALok.b (ALok.r (ALok.r (ALok.r (ALok.b (ALok.r (ALok.r (ALok.b (ALok.r ALok.nil)))))))))))))))))))))))
                 refine' DT.r rfl rfl rfl ?hq ?_
                 case hq =>
                   refine WO.fieldL rfl rfl rfl ?_
                   exact WO.nil ⟨rfl, rfl⟩
                 refine' DT.b rfl rfl rfl ?hq ?_
                 case hq =>
                   refine WO.load rfl rfl (Cell.own (Pick.tail (Pick.tail (Pick.head))) rfl) rfl ?_
                   exact WO.nil ⟨rfl, rfl⟩
                 refine' DT.r rfl rfl rfl ?hq ?_
                 case hq =>
                   refine WO.p rfl rfl ?_
                   exact WO.nil ⟨rfl, rfl⟩
                 refine' DT.r rfl rfl rfl ?hq ?_
                 case hq =>
                   refine' WO.indexAddr (n := _) (i := _) rfl rfl rfl ?hs ?h1 rfl ?_
                   case hs => (first | exact hB.sl | exact hR.sl | exact hys | exact hyr | exact hxs | exact hxr | (refine (hR.row _ ?_).sl; omega))
                   case h1 => (first | omega | (simp; omega))
                   exact WO.nil ⟨rfl, rfl⟩
                 refine' DT.b rfl rfl rfl ?hq ?_
                 case hq =>
                   refine' WO.load (v := _) rfl rfl ?hc rfl ?_
                   case hc => (first | (refine hR.cellV ?_; omega) | (refine' OwC.cell1s (e := 53) (n := rows.length) (cs := ry) (Sub.cons ?_ Sub.nil) ?_; (repeat (first | exact Pick.head | apply Pick.tail)); omega) | (refine' OwC.cell1s (e := 52) (n := rows.length) (cs := rx) (Sub.cons ?_ Sub.nil) ?_; (repeat (first | exact Pick.head | apply Pick.tail)); omega) | (refine' cell_row (ys := ys) (ry := ry) ?_ ?_ ?_; any_goals (first | ((repeat (first | exact Pick.head | apply Pick.tail)); done) | omega)) | (refine (hR.row _ ?_).cell0 ?_ (0, 0) ?_ <;> first | rfl | omega))
                   exact WO.nil ⟨rfl, rfl⟩
                 refine' DT.r rfl rfl rfl ?hq ?_
                 case hq =>
                   refine WO.p rfl rfl ?_
                   exact WO.nil ⟨rfl, rfl⟩
                 refine' DT.r rfl rfl rfl ?hq ?_
                 case hq =>
                   refine WO.fieldL rfl rfl rfl ?_
                   exact WO.nil ⟨rfl, rfl⟩
                 refine' DT.b rfl rfl rfl ?hq ?_
                 case hq =>
                   refine WO.load rfl rfl (Cell.own Pick.head rfl) rfl ?_
                   exact WO.nil ⟨rfl, rfl⟩
                 refine' DT.r rfl rfl rfl ?hq ?_
                 case hq =>
                   refine WO.p rfl rfl ?_
                   exact WO.nil ⟨rfl, rfl⟩
                 refine' DT.r rfl rfl rfl ?hq ?_
                 case hq =>
                   refine' WO.indexAddr (n := _) (i := _) rfl rfl rfl ?hs ?h1 rfl ?_
                   case hs => (first | exact hB.sl | exact hR.sl | exact hys | exact hyr | exact hxs | exact hxr | (refine (hR.row _ ?_).sl; omega))
                   case h1 => (first | omega | (simp; omega))
                   exact WO.nil ⟨rfl, rfl⟩
                 refine' DT.b rfl rfl rfl ?hq ?_
                 case hq =>
                   refine' WO.load (v := _) rfl rfl ?hc rfl ?_
                   case hc => (first | (refine hR.cellV ?_; omega) | (refine' OwC.cell1s (e := 53) (n := rows.length) (cs := ry) (Sub.cons ?_ Sub.nil) ?_; (repeat (first | exact Pick.head | apply Pick.tail)); omega) | (refine' OwC.cell1s (e := 52) (n := rows.length) (cs := rx) (Sub.cons ?_ Sub.nil) ?_; (repeat (first | exact Pick.head | apply Pick.tail)); omega) | (refine' cell_row (ys := ys) (ry := ry) ?_ ?_ ?_; any_goals (first | ((repeat (first | exact Pick.head | apply Pick.tail)); done) | omega)) | (refine (hR.row _ ?_).cell0 ?_ (0, 0) ?_ <;> first | rfl | omega))
                   exact WO.nil ⟨rfl, rfl⟩
                 refine' DT.r rfl rfl rfl ?hq ?_
                 case hq =>
                   refine WO.p rfl rfl ?_
                   exact WO.nil ⟨rfl, rfl⟩
                 refine' DT.r rfl rfl rfl ?hq ?_
                 case hq =>
                   refine' WO.indexAddr (n := _) (i := _) rfl rfl rfl ?hs ?h1 rfl ?_
                   case hs => (first | exact hB.sl | exact hR.sl | exact hys | exact hyr | exact hxs | exact hxr | (refine (hR.row _ ?_).sl; omega))
                   case h1 => (first | omega | (simp; omega))
                   exact WO.nil ⟨rfl, rfl⟩
                 refine' DT.r rfl rfl rfl ?hq ?_
                 case hq =>
                   refine WO.field0 rfl rfl rfl ?_
                   exact WO.nil ⟨rfl, rfl⟩
                 refine' DT.b rfl rfl rfl ?hq ?_
                 case hq =>
                   refine' WO.load (v := _) rfl rfl ?hc rfl ?_
                   case hc => (first | (refine hR.cellV ?_; omega) | (refine' OwC.cell1s (e := 53) (n := rows.length) (cs := ry) (Sub.cons ?_ Sub.nil) ?_; (repeat (first | exact Pick.head | apply Pick.tail)); omega) | (refine' OwC.cell1s (e := 52) (n := rows.length) (cs := rx) (Sub.cons ?_ Sub.nil) ?_; (repeat (first | exact Pick.head | apply Pick.tail)); omega) | (refine' cell_row (ys := ys) (ry := ry) ?_ ?_ ?_; any_goals (first | ((repeat (first | exact Pick.head | apply Pick.tail)); done) | omega)) | (refine (hR.row _ ?_).cell0 ?_ (0, 0) ?_ <;> first | rfl | omega))
                   exact WO.nil ⟨rfl, rfl⟩
                 refine' DT.r rfl rfl rfl ?hq ?_
                 case hq =>
                   refine WO.p rfl rfl ?_
                   exact WO.nil ⟨rfl, rfl⟩
                 refine' DT.r rfl rfl rfl ?hq ?_
                 case hq =>
                   refine WO.p rfl rfl ?_
                   exact WO.nil ⟨rfl, rfl⟩
                 refine' DT.r rfl rfl rfl ?hq ?_
                 case hq =>
                   refine' WO.indexAddr (n := _) (i := _) rfl rfl rfl ?hs ?h1 rfl ?_
                   case hs => (first | exact hB.sl | exact hR.sl | exact hys | exact hyr | exact hxs | exact hxr | (refine (hR.row _ ?_).sl; omega))
                   case h1 => (first | omega | (simp; omega))
                   exact WO.nil ⟨rfl, rfl⟩
                 refine' DT.b rfl rfl rfl ?hq ?_
                 case hq =>
                   refine' WO.load (v := _) rfl rfl ?hc rfl ?_
                   case hc => (first | (refine hR.cellV ?_; omega) | (refine' OwC.cell1s (e := 53) (n := rows.length) (cs := ry) (Sub.cons ?_ Sub.nil) ?_; (repeat (first | exact Pick.head | apply Pick.tail)); omega) | (refine' OwC.cell1s (e := 52) (n := rows.length) (cs := rx) (Sub.cons ?_ Sub.nil) ?_; (repeat (first | exact Pick.head | apply Pick.tail)); omega) | (refine' cell_row (ys := ys) (ry := ry) ?_ ?_ ?_; any_goals (first | ((repeat (first | exact Pick.head | apply Pick.tail)); done) | omega)) | (refine (hR.row _ ?_).cell0 ?_ (0, 0) ?_ <;> first | rfl | omega))
                   exact WO.nil ⟨rfl, rfl⟩
                 refine' DT.r rfl rfl rfl ?hq ?_
                 case hq =>
                   refine WO.p rfl rfl ?_
                   exact WO.nil ⟨rfl, rfl⟩
                 refine' DT.r rfl rfl rfl ?hq ?_
                 case hq =>
                   refine' WO.indexAddr (n := _) (i := _) rfl rfl rfl ?hs ?h1 rfl ?_
                   case hs => (first | exact hB.sl | exact hR.sl | exact hys | exact hyr | exact hxs | exact hxr | (refine (hR.row _ ?_).sl; omega))
                   case h1 => (first | omega | (simp; omega))
                   exact WO.nil ⟨rfl, rfl⟩
                 refine' DT.b rfl rfl rfl ?hq ?_
                 case hq =>
                   refine' WO.load (v := _) rfl rfl ?hc rfl ?_
                   case hc => (first | (refine hR.cellV ?_; omega) | (refine' OwC.cell1s (e := 53) (n := rows.length) (cs := ry) (Sub.cons ?_ Sub.nil) ?_; (repeat (first | exact Pick.head | apply Pick.tail)); omega) | (refine' OwC.cell1s (e := 52) (n := rows.length) (cs := rx) (Sub.cons ?_ Sub.nil) ?_; (repeat (first | exact Pick.head | apply Pick.tail)); omega) | (refine' cell_row (ys := ys) (ry := ry) ?_ ?_ ?_; any_goals (first | ((repeat (first | exact Pick.head | apply Pick.tail)); done) | omega)) | (refine (hR.row _ ?_).cell0 ?_ (0, 0) ?_ <;> first | rfl | omega))
                   exact WO.nil ⟨rfl, rfl⟩
                 refine' DT.r rfl rfl rfl ?hq ?_
                 case hq =>
                   refine' WO.build (cs := _) rfl rfl rfl ?hf rfl ?_
                   case hf => (conv => lhs; simp [-List.getD_eq_getElem?_getD, fillL, vcl, wrl, TTab.pl?.lget']) <;> rfl
                   exact WO.nil ⟨rfl, rfl⟩
                 refine DT.nil [_, _, _, _, _, _, _, _, _, _] rfl ?_
                 refine' WO.indexAddr (n := _) (i := _) rfl rfl rfl ?hs ?h1 rfl ?_
                 case hs => (first | exact hB.sl | exact hR.sl | exact hys | exact hyr | exact hxs | exact hxr | (refine (hR.row _ ?_).sl; omega))
                 case h1 => (first | omega | (simp; omega))
                 refine WO.storeRowN (n := (((rows.getD q1 []).getD q2 (0, 0)).1, yy ys q1 q2)) encP_ok rfl rfl rfl rfl (by repeat (first | exact Pick.head | apply Pick.tail)) (by omega) (by omega) ?_
                 refine WO.nil ?_
                 have hN := nar_set hv hb1' hb2' hwi
                 have hvx := hN.hv hv
                 have hNo := nar_one htv
                 have hvo := hNo.hv hv
                 obtain ⟨a, b, hlo⟩ : ∃ a b, endV sp st (n.tmod 3) false rows = (a, b) := ⟨_, _, rfl⟩
                 obtain ⟨c, d, hhi⟩ : ∃ c d, endV sp st (n.tmod 3) true rows = (c, d) := ⟨_, _, rfl⟩
                 obtain ⟨e1, e2, hxlo⟩ : ∃ a b, endV sp st (n.tmod 3) false (setR rows q1 q2 (((rows.getD q1 []).getD q2 (0, 0)).1, yy ys q1 q2)) = (a, b) := ⟨_, _, rfl⟩
                 obtain ⟨e3, e4, hxhi⟩ : ∃ a b, endV sp st (n.tmod 3) true (setR rows q1 q2 (((rows.getD q1 []).getD q2 (0, 0)).1, yy ys q1 q2)) = (a, b) := ⟨_, _, rfl⟩
                 obtain ⟨vn, vd, hvq⟩ : ∃ a b, valQ sp st ys (n.tmod 3) = (a, b) := ⟨_, _, rfl⟩
                 have hol := one_end hv hw htv false
                 have hoh := one_end hv hw htv true
                 rw [hvq] at hol hoh
                 have hi1 := hN.inside hv hw false
                 rw [hxlo, hlo, hhi] at hi1
                 have hi2 := hN.inside hv hw true
                 rw [hxhi, hlo, hhi] at hi2
                 refine W.sreg ?_
                 refine WO.loadA rfl rfl (Cells.own (Pick.tail (Pick.head))) rfl rfl (WO.p rfl rfl ?_)
                 refine WO.callR (r := .tuple #[.agg #[.int .i64 a, .int .i64 b, .int .i64 c, .int .i64 d], .int .i64 0]) rfl Try.call25 (fun L w hi => by have h := c_Span w sp st (n.tmod 3) _ rv rows (hR.later hi); rw [← spanR_0 (by rw [plan_0 hv hw]; simp), hlo, hhi] at h; exact h) rfl ?_
                 refine WO.p rfl rfl (WO.p rfl rfl (WO.p rfl rfl ?_))
                 refine WO.alloc rfl rfl rfl (fun b8 hb8 => ?_)
                 refine WO.storeA rfl rfl rfl rfl Pick.head rfl rfl (WO.p rfl rfl ?_)
                 refine WO.nil ?_
                 refine W.sreg ?_
                 refine WO.loadA rfl rfl (Cells.own (Pick.tail (Pick.tail (Pick.tail (Pick.tail (Pick.head)))))) rfl rfl (WO.p rfl rfl ?_)
                 refine WO.callR (r := .tuple #[.agg #[.int .i64 e1, .int .i64 e2, .int .i64 e3, .int .i64 e4], .int .i64 0]) rfl Try.call25 (fun L w hi => by have h := c_Span w sp st (n.tmod 3) vx rx (setR rows q1 q2 (((rows.getD q1 []).getD q2 (0, 0)).1, yy ys q1 q2)) (RdR.of_ow (e := 55) (e' := 52) (n := rows.length) encP_ok (by repeat (first | exact Pick.head | apply Pick.tail)) (by repeat (first | exact Pick.head | apply Pick.tail)) hi); rw [← spanR_0 (by rw [plan_0 hvx hw]; simp), hxlo, hxhi] at h; exact h) rfl ?_
                 refine WO.p rfl rfl (WO.p rfl rfl (WO.p rfl rfl ?_))
                 refine WO.alloc rfl rfl rfl (fun b9 hb9 => ?_)
                 refine WO.storeA rfl rfl rfl rfl Pick.head rfl rfl (WO.p rfl rfl ?_)
                 refine WO.nil ?_
                 refine W.sreg ?_
                 refine WO.loadA rfl rfl (Cells.own (Pick.tail (Pick.tail (Pick.tail (Pick.tail (Pick.tail (Pick.tail (Pick.head)))))))) rfl rfl (WO.p rfl rfl ?_)
                 refine WO.callR (r := .tuple #[.agg #[.int .i64 vn, .int .i64 vd, .int .i64 vn, .int .i64 vd], .int .i64 0]) rfl Try.call25 (fun L w hi => by have h := c_Span w sp st (n.tmod 3) vo ro (oneR ys) (RdR.of_ow (e := 55) (e' := 52) (n := rows.length) encP_ok (by repeat (first | exact Pick.head | apply Pick.tail)) (by repeat (first | exact Pick.head | apply Pick.tail)) hi); rw [← spanR_0 (by rw [plan_0 hvo hw]; simp), hol, hoh] at h; exact h) rfl ?_
                 refine WO.p rfl rfl (WO.p rfl rfl (WO.p rfl rfl ?_))
                 refine WO.alloc rfl rfl rfl (fun b10 hb10 => ?_)
                 refine WO.storeA rfl rfl rfl rfl Pick.head rfl rfl (WO.p rfl rfl ?_)
                 refine WO.nil ?_
                 refine W.sreg ?_
                 refine WO.loadA rfl rfl (Cells.own (Pick.tail (Pick.tail (Pick.tail (Pick.tail (Pick.head)))))) rfl rfl (WO.p rfl rfl (WO.p rfl rfl ?_))
                 refine WO.callR (r := .tuple #[.agg #[.int .i64 vn, .int .i64 vd], .int .i64 0]) rfl Try.call16 (fun L w hi => by have h := c_Value w sp st _ vT rv ry rows ys (n.tmod 3) (hR.later hi) (RdR.of_ow (e := 2) (e' := 53) (n := rows.length) encI_ok (by repeat (first | exact Pick.head | apply Pick.tail)) (by repeat (first | exact Pick.head | apply Pick.tail)) hi); rw [← valR_o (by rw [TV.to hv htv]; simp) (by rw [plan_0 hv hw]; simp), hvq] at h; exact h) rfl ?_
                 refine WO.p rfl rfl (WO.p rfl rfl (WO.p rfl rfl ?_))
                 refine WO.alloc rfl rfl rfl (fun b11 hb11 => ?_)
                 refine WO.storeA rfl rfl rfl rfl Pick.head rfl rfl (WO.p rfl rfl ?_)
                 refine WO.nil ?_
                 refine W.sreg ?_
                 refine WO.p rfl rfl (WO.p rfl rfl (WO.p rfl rfl ?_))
                 refine WO.guard_bl rfl rfl (fun c5 => ?_) (fun c5 => ?_)
                 · first
                   | (exfalso; omega)
                   | (refine WO.pg rfl rfl rfl (WO.pg rfl rfl rfl (WO.p rfl rfl (WO.p rfl rfl ?_)))
                      refine WO.guard_bl rfl rfl (fun c6 => ?_) (fun c6 => ?_)
                      · first
                        | (exfalso; omega)
                        | (refine WO.pg rfl rfl rfl (WO.pg rfl rfl rfl (WO.p rfl rfl (WO.p rfl rfl ?_)))
                           refine WO.guard_bl rfl rfl (fun c7 => ?_) (fun c7 => ?_)
                           · first
                             | (exfalso; omega)
                             | (refine WO.pg rfl rfl rfl (WO.pg rfl rfl rfl (WO.p rfl rfl (WO.p rfl rfl ?_)))
                                refine WO.guard_bl rfl rfl (fun c8 => ?_) (fun c8 => ?_)
                                · first
                                  | (exfalso; omega)
                                  | (refine WO.go' rfl (WO.field0 rfl rfl rfl (WO.go' rfl (WO.loadA rfl rfl (Cells.ownAt (n := 2) (Pick.tail (Pick.tail (Pick.head))) rfl) rfl rfl (WO.go' rfl (WO.loadA rfl rfl (Cells.own (Pick.tail (Pick.tail (Pick.tail (Pick.head))))) rfl rfl (WO.go' rfl ?_))))))
                                     refine WO.callR (r := .bool true) rfl Try.call30 (fun L w hi => by have h := law_inside w e1 e2 a b c d; rw [hi1] at h; exact h) rfl ?_
                                     refine WO.p rfl rfl (WO.p rfl rfl (WO.go' rfl (WO.fieldL rfl rfl rfl (WO.go' rfl (WO.loadA rfl rfl (Cells.ownAt (n := 2) (Pick.tail (Pick.tail (Pick.head))) rfl) rfl rfl (WO.go' rfl (WO.loadA rfl rfl (Cells.own (Pick.tail (Pick.tail (Pick.tail (Pick.head))))) rfl rfl (WO.go' rfl ?_))))))))
                                     refine WO.callR (r := .bool true) rfl Try.call30 (fun L w hi => by have h := law_inside w e3 e4 a b c d; rw [hi2] at h; exact h) rfl ?_
                                     refine WO.p rfl rfl (WO.p rfl rfl (WO.go' rfl (WO.loadA rfl rfl (Cells.own (Pick.tail (Pick.head))) rfl rfl (WO.go' rfl (WO.loadA rfl rfl (Cells.own Pick.head) rfl rfl (WO.go' rfl (WO.loadA rfl rfl (Cells.own Pick.head) rfl rfl (WO.go' rfl ?_))))))))
                                     refine' WO.build (cs := _) rfl rfl rfl ?hf rfl ?_
                                     case hf => (conv => lhs; simp [-List.getD_eq_getElem?_getD, fillL, vcl, wrl, TTab.pl?.lget']) <;> rfl
                                     refine WO.go' rfl ?_
                                     refine WO.eqT rfl rfl (eq41t _ _ _ _) rfl ?_
                                     refine WO.p rfl rfl (WO.p rfl rfl (WO.go' rfl ?_))
                                     refine WO.callR rfl Try.call13 (fun L w hi => law_Works w) rfl ?_
                                     refine WO.p rfl rfl (WO.p rfl rfl ?_)
                                     refine WO.nil ?_
                                     refine W.ret ?_
                                     first | exact fin.ret (Res.one rfl (RV.tmp rfl)) rfl)
                                · first
                                  | (exfalso; omega)
                                  | (refine WO.no rfl rfl (WO.no rfl rfl (WO.no rfl rfl (WO.no rfl rfl (WO.p rfl rfl (WO.p rfl rfl (WO.no rfl rfl (WO.no rfl rfl (WO.no rfl rfl (WO.no rfl rfl (WO.p rfl rfl (WO.p rfl rfl ?_)))))))))))
                                     refine WO.no rfl rfl (WO.no rfl rfl (WO.no rfl rfl (WO.no rfl rfl (WO.no rfl rfl (WO.p rfl rfl (WO.p rfl rfl (WO.no rfl rfl (WO.p rfl rfl (WO.p rfl rfl ?_)))))))))
                                     refine WO.nil ?_
                                     refine W.ret ?_
                                     first | exact fin.ret (Res.one rfl (RV.tmp rfl)) rfl))
                           · first
                             | (exfalso; omega)
                             | (refine WO.no rfl rfl (WO.no rfl rfl (WO.p rfl rfl (WO.p rfl rfl (WO.no rfl rfl (WO.no rfl rfl (WO.no rfl rfl (WO.no rfl rfl (WO.p rfl rfl (WO.p rfl rfl (WO.no rfl rfl (WO.no rfl rfl ?_)))))))))))
                                refine WO.no rfl rfl (WO.no rfl rfl (WO.p rfl rfl (WO.p rfl rfl (WO.no rfl rfl (WO.no rfl rfl (WO.no rfl rfl (WO.no rfl rfl (WO.no rfl rfl (WO.p rfl rfl (WO.p rfl rfl (WO.no rfl rfl ?_)))))))))))
                                refine WO.p rfl rfl (WO.p rfl rfl ?_)
                                refine WO.nil ?_
                                refine W.ret ?_
                                first | exact fin.ret (Res.one rfl (RV.tmp rfl)) rfl))
                      · first
                        | (exfalso; omega)
                        | (refine WO.no rfl rfl (WO.no rfl rfl (WO.p rfl rfl (WO.p rfl rfl (WO.no rfl rfl (WO.no rfl rfl (WO.p rfl rfl (WO.p rfl rfl (WO.no rfl rfl (WO.no rfl rfl (WO.no rfl rfl (WO.no rfl rfl ?_)))))))))))
                           refine WO.p rfl rfl (WO.p rfl rfl (WO.no rfl rfl (WO.no rfl rfl (WO.no rfl rfl (WO.no rfl rfl (WO.p rfl rfl (WO.p rfl rfl (WO.no rfl rfl (WO.no rfl rfl (WO.no rfl rfl (WO.no rfl rfl ?_)))))))))))
                           refine WO.no rfl rfl (WO.p rfl rfl (WO.p rfl rfl (WO.no rfl rfl (WO.p rfl rfl (WO.p rfl rfl ?_)))))
                           refine WO.nil ?_
                           refine W.ret ?_
                           first | exact fin.ret (Res.one rfl (RV.tmp rfl)) rfl))
                 · first
                   | (exfalso; omega)
                   | (refine WO.no rfl rfl (WO.no rfl rfl (WO.p rfl rfl (WO.p rfl rfl (WO.no rfl rfl (WO.no rfl rfl (WO.p rfl rfl (WO.p rfl rfl (WO.no rfl rfl (WO.no rfl rfl (WO.p rfl rfl (WO.p rfl rfl ?_)))))))))))
                      refine WO.no rfl rfl (WO.no rfl rfl (WO.no rfl rfl (WO.no rfl rfl (WO.p rfl rfl (WO.p rfl rfl (WO.no rfl rfl (WO.no rfl rfl (WO.no rfl rfl (WO.no rfl rfl (WO.p rfl rfl (WO.p rfl rfl ?_)))))))))))
                      refine WO.no rfl rfl (WO.no rfl rfl (WO.no rfl rfl (WO.no rfl rfl (WO.no rfl rfl (WO.p rfl rfl (WO.p rfl rfl (WO.no rfl rfl (WO.p rfl rfl (WO.p rfl rfl ?_)))))))))
                      refine WO.nil ?_
                      refine W.ret ?_
                      first | exact fin.ret (Res.one rfl (RV.tmp rfl)) rfl))))
end Go.Proofs.Ytgihklgpehfbpaa
