/-
  What is proved here: valid hulls and true ones, and the reference's volume and values. Conditions: none; each contract states its own.
-/
import Derived.Test.YtgihklgpehfbpaaB8
namespace Go.Proofs.Ytgihklgpehfbpaa
open Go Go.TH
attribute [local irreducible] W WO pt
set_option maxRecDepth 10000
/-- a valid hull -/
structure HV (sp st : Int) (rows : List (List (Int × Int))) : Prop where
  n : 2 ≤ rows.length ∧ rows.length ≤ 10
  m : 2 ≤ (rows.getD 0 []).length ∧ (rows.getD 0 []).length ≤ 6
  eq : ∀ i, i < rows.length → (rows.getD i []).length = (rows.getD 0 []).length
  sp : 1 ≤ sp ∧ sp ≤ 1000
  st : 1 ≤ st ∧ st ≤ 100
  ok : ∀ i k, i < rows.length → k < (rows.getD i []).length → 0 ≤ ((rows.getD i []).getD k (0, 0)).1 ∧ ((rows.getD i []).getD k (0, 0)).1 ≤ ((rows.getD i []).getD k (0, 0)).2 ∧ ((rows.getD i []).getD k (0, 0)).2 ≤ 500 ∧ ((rows.getD i []).getD k (0, 0)).2 - ((rows.getD i []).getD k (0, 0)).1 ≤ 20
  pos : ∃ i k, i < rows.length ∧ k < (rows.getD i []).length ∧ 0 < ((rows.getD i []).getD k (0, 0)).1
theorem mem_getD {α : Type} {l : List α} {x : α} (z : α) (h : x ∈ l) : ∃ i, i < l.length ∧ l.getD i z = x := by
  obtain ⟨i, hi, e⟩ := List.mem_iff_getElem.1 h
  exact ⟨i, hi, by simp [hi, e]⟩
theorem HV.of {sp st : Int} {rows : List (List (Int × Int))} (h : chkHull sp st rows = 0) : HV sp st rows := by
  unfold chkHull at h
  split at h; · omega
  split at h; · omega
  split at h; · omega
  split at h; · omega
  split at h; · omega
  rename_i h1 h2 h3 h4 h5
  have h2' := Decidable.not_not.1 h2
  have h4' := Decidable.not_not.1 h4
  have h5' := Decidable.not_not.1 h5
  refine ⟨by omega, by omega, fun i hi => h2' _ (getD_mem hi []), by omega, by omega, fun i k hi hk => ?_, ?_⟩
  · have := h4' _ (getD_mem hi []) _ (getD_mem hk (0, 0))
    simpa only [okR, decide_eq_true_eq] using this
  · obtain ⟨r, hr, x, hx, hp⟩ := h5'
    obtain ⟨i, hi, rfl⟩ := mem_getD [] hr
    obtain ⟨k, hk, rfl⟩ := mem_getD (0, 0) hx
    exact ⟨i, k, hi, hk, by simpa only [posR, decide_eq_true_eq] using hp⟩
theorem HV.to {sp st : Int} {rows : List (List (Int × Int))} (h : HV sp st rows) : chkHull sp st rows = 0 := by
  have h0 := h.n; have h1 := h.m; have h2 := h.sp; have h3 := h.st
  refine (ck0 (by omega) (fun r hr => ?_) (by omega) (fun r hr x hx => ?_) ?_).symm
  · obtain ⟨i, hi, rfl⟩ := mem_getD [] hr
    exact h.eq i hi
  · obtain ⟨i, hi, rfl⟩ := mem_getD [] hr
    obtain ⟨k, hk, rfl⟩ := mem_getD (0, 0) hx
    simpa only [okR, decide_eq_true_eq] using h.ok i k hi hk
  · obtain ⟨i, k, hi, hk, hp⟩ := h.pos
    exact ⟨_, getD_mem hi [], _, getD_mem hk (0, 0), by simpa only [posR, decide_eq_true_eq] using hp⟩
/-- a true hull of it -/
structure TV (rows : List (List (Int × Int))) (ys : List (List Int)) : Prop where
  len : ys.length = rows.length
  row : ∀ i, i < ys.length → (ys.getD i []).length = (rows.getD i []).length
  within : ∀ i k, i < ys.length → k < (ys.getD i []).length → ((rows.getD i []).getD k (0, 0)).1 ≤ yy ys i k ∧ yy ys i k ≤ ((rows.getD i []).getD k (0, 0)).2
theorem TV.of {sp st : Int} {rows : List (List (Int × Int))} {ys : List (List Int)} (h : chkTrue sp st rows ys = 0) : HV sp st rows ∧ TV rows ys := by
  unfold chkTrue at h
  split at h
  · rename_i h1; exact absurd h h1
  split at h; · omega
  split at h; · omega
  split at h; · omega
  rename_i h1 h2 h3 h4
  exact ⟨HV.of (Decidable.not_not.1 h1), Decidable.not_not.1 h2, Decidable.not_not.1 h3, fun i k hi hk => Decidable.not_not.1 h4 i hi k hk⟩
theorem TV.to {sp st : Int} {rows : List (List (Int × Int))} {ys : List (List Int)} (h : HV sp st rows) (t : TV rows ys) : chkTrue sp st rows ys = 0 :=
  (ct5 (by simpa using h.to) t.len t.row (fun i hi k hk => t.within i k hi hk)).symm
theorem TV.small {sp st : Int} {rows : List (List (Int × Int))} {ys : List (List Int)} (h : HV sp st rows) (t : TV rows ys) : Small ys := by
  have hl := t.len
  refine ⟨by have := h.n; omega, fun i hi => ?_, fun i k hi hk => ?_⟩
  · rw [t.row i hi, h.eq i (by omega)]; have := h.m; omega
  · have h1 := t.within i k hi hk
    have h2 := h.ok i k (by omega) (by rw [← t.row i hi]; exact hk)
    omega
theorem ps_pos {f : Nat → Int} : ∀ {k : Nat}, (∀ j, j < k → 0 ≤ f j) → ∀ i, i < k → f i ≤ ps f k
  | 0, _, i, hi => by omega
  | k + 1, h, i, hi => by
    simp only [ps]
    rcases Nat.lt_or_ge i k with h1 | h1
    · have := ps_pos (k := k) (fun j hj => h j (by omega)) i h1
      have := h k (by omega)
      omega
    · obtain rfl : i = k := by omega
      have : 0 ≤ ps f i := by
        clear hi h1
        induction i with
        | zero => simp [ps]
        | succ i ih => simp only [ps]; have := ih (fun j hj => h j (by omega)); have := h i (by omega); omega
      omega
theorem wgt_pos (i n : Nat) : 1 ≤ wgt i n := by unfold wgt; split <;> omega
theorem TV.pos {sp st : Int} {rows : List (List (Int × Int))} {ys : List (List Int)} (h : HV sp st rows) (t : TV rows ys) : 0 < sAll ys ys.length := by
  have hs := t.small h
  obtain ⟨i, k, hi, hk, hp⟩ := h.pos
  have hl := t.len
  have hr := t.row i (by omega)
  have h1 := t.within i k (by omega) (by omega)
  have h2 : xw ys i k ≤ ps (fun k => xw ys i k) (ys.getD i []).length := ps_pos (fun j hj => (hs.xw (by omega) hj).1) k (by omega)
  have h3 : ps (fun k => xw ys i k) (ys.getD i []).length ≤ sAll ys ys.length := ps_pos (f := fun i => ps (fun k => xw ys i k) (ys.getD i []).length) (fun j hj => (hs.rowp (c := fun i k => xw ys i k) (B := 2000) (by omega) (fun i k hi hk => hs.xw hi hk) hj (Nat.le_refl _)).1) i (by omega)
  have h4 : 1 * 1 * 1 ≤ xw ys i k := by
    unfold xw
    have a := wgt_pos i ys.length
    have b := wgt_pos k (ys.getD i []).length
    exact Int.mul_le_mul (Int.mul_le_mul a b (by omega) (by omega)) (by omega) (by omega) (Int.mul_nonneg (by omega) (by omega))
  omega
/-- what stands above, and below, in what is asked -/
def tN (sp st : Int) (ys : List (List Int)) (what : Int) : Int :=
  if what = 0 then sp * sAlong ys ys.length else if what = 1 then st * sAbove ys ys.length else 3 * st * st * sAbove ys ys.length + 2 * sCubes ys ys.length
def tD (st : Int) (ys : List (List Int)) (what : Int) : Int := if what = 0 then sAll ys ys.length else if what = 1 then sAll ys ys.length else 3 * st * sAll ys ys.length
def valQ (sp st : Int) (ys : List (List Int)) (what : Int) : Int × Int := red (tN sp st ys what) (tD st ys what)
/-- the volume of a true hull -/
def volQ (sp st : Int) (ys : List (List Int)) : Int × Int := red (sp * st * sAll ys ys.length) 2
theorem ref_value (w : World) (sp st : Int) (o o' : Value) (rv : List Value) (ys : List (List Int)) (what : Int) (hR : RdR encI 1 w.heap.size w o' rv ys) (hS : Small ys) (hp : 0 < sAll ys ys.length) (hsp : 1 ≤ sp ∧ sp ≤ 1000) (hst : 1 ≤ st ∧ st ≤ 100) :
    Ret Try.prog 43 [.agg #[.int .i64 sp, .int .i64 st, o], o', .int .i64 what].toArray w (.agg (encP (valQ sp st ys what)).toArray) := by
  refine Ret.of mixed tyTab Try.func43 rfl rfl ?_
  replace hR : RdR encI 1 (fnCx mixed tyTab Try.f43.ntmps w).B (fnCx mixed tyTab Try.f43.ntmps w).w0 o' rv ys := hR
  have ba := hS.all (Nat.le_refl _)
  have bl' := hS.along (Nat.le_refl _)
  have bb := hS.above (Nat.le_refl _)
  have bc := hS.cubes (Nat.le_refl _)
  have p1 := mulB (A := 1000) (B := 1200000) ⟨by omega, hsp.2⟩ bl'
  have p2 := mulB (A := 100) (B := 720000) ⟨by omega, hst.2⟩ bb
  have p3 : 0 ≤ 3 * st ∧ 3 * st ≤ 300 := by omega
  have p4 := mulB (A := 300) (B := 100) p3 ⟨by omega, hst.2⟩
  have p5 := mulB p4 bb
  have p6 := mulB p3 ba
  have p7 : 0 < 3 * st * sAll ys ys.length := Int.mul_pos (by omega) hp
  refine W.sreg ?_
  refine WO.boxA rfl rfl (fun b1 hb1 => ?_)
  refine WO.alloc rfl rfl rfl (fun b2 hb2 => ?_)
  refine WO.nil ?_
  refine W.sreg ?_
  refine WO.p rfl rfl ?_
  refine WO.callR rfl Try.call40 (fun L w hi => ref_sums w o' rv ys (hR.later hi) hS) rfl ?_
  refine WO.p rfl rfl (WO.p rfl rfl (WO.p rfl rfl (WO.p rfl rfl (WO.p rfl rfl (WO.p rfl rfl (WO.p rfl rfl (WO.p rfl rfl (WO.p rfl rfl ?_))))))))
  refine WO.nil ?_
  refine W.seq ?_
  refine W.sreg ?_
  refine WO.p rfl rfl ?_
  refine WO.nil ?_
  refine W.block ?_
  refine W.sreg ?_
  refine WO.p rfl rfl (WO.p rfl rfl ?_)
  refine WO.nil ?_
  refine W.cond_bl rfl (fun c1 => ?_) (fun c1 => ?_)
  · first
    | (exfalso; omega)
    | (refine W.sreg ?_
       refine WO.field0 rfl rfl rfl (WO.load rfl rfl (Cell.own (Pick.tail (Pick.head)) rfl) rfl (WO.p rfl rfl (WO.ar rfl rfl rfl (by (first | (unfold in64; omega))) rfl (WO.p rfl rfl ?_))))
       refine WO.callR rfl Try.call31 (fun L w hi => ref_Fraction w _ _ (by omega) (by omega) (by unfold in64; omega) (by unfold in64; omega)) rfl ?_
       refine WO.storeA rfl rfl rfl rfl Pick.head rfl rfl ?_
       refine WO.nil ?_
       refine W.ret ?_
       exact fin.ret (Res.one rfl (RV.cell rfl rfl rfl (Cells.own Pick.head))) (by unfold valQ tN tD; first | (subst what; rfl) | (rw [if_neg (by omega), if_neg (by omega), if_neg (by omega), if_neg (by omega)] <;> rfl)))
  · first
    | (exfalso; omega)
    | (refine W.sreg ?_
       refine WO.p rfl rfl (WO.p rfl rfl ?_)
       refine WO.nil ?_
       refine W.cond_bl rfl (fun c2 => ?_) (fun c2 => ?_)
       · first
         | (exfalso; omega)
         | (refine W.sreg ?_
            refine WO.fieldL rfl rfl rfl (WO.load rfl rfl (Cell.own (Pick.tail (Pick.head)) rfl) rfl (WO.p rfl rfl (WO.ar rfl rfl rfl (by (first | (unfold in64; omega))) rfl (WO.p rfl rfl ?_))))
            refine WO.callR rfl Try.call31 (fun L w hi => ref_Fraction w _ _ (by omega) (by omega) (by unfold in64; omega) (by unfold in64; omega)) rfl ?_
            refine WO.storeA rfl rfl rfl rfl Pick.head rfl rfl ?_
            refine WO.nil ?_
            refine W.ret ?_
            exact fin.ret (Res.one rfl (RV.cell rfl rfl rfl (Cells.own Pick.head))) (by unfold valQ tN tD; first | (subst what; rfl) | (rw [if_neg (by omega), if_neg (by omega), if_neg (by omega), if_neg (by omega)] <;> rfl)))
       · first
         | (exfalso; omega)
         | (refine W.skip ?_
            refine W.sreg ?_
            refine WO.fieldL rfl rfl rfl (WO.load rfl rfl (Cell.own (Pick.tail (Pick.head)) rfl) rfl (WO.ar rfl rfl rfl (by (first | (unfold in64; omega))) rfl (WO.fieldL rfl rfl rfl (WO.load rfl rfl (Cell.own (Pick.tail (Pick.head)) rfl) rfl (WO.ar rfl rfl rfl (by (first | (unfold in64; omega))) rfl (WO.p rfl rfl (WO.ar rfl rfl rfl (by (first | (unfold in64; omega))) rfl (WO.p rfl rfl (WO.ar rfl rfl rfl (by (first | (unfold in64; omega))) rfl (WO.ar rfl rfl rfl (by (first | (unfold in64; omega))) rfl (WO.fieldL rfl rfl rfl ?_)))))))))))
            refine WO.load rfl rfl (Cell.own (Pick.tail (Pick.head)) rfl) rfl (WO.ar rfl rfl rfl (by (first | (unfold in64; omega))) rfl (WO.p rfl rfl (WO.ar rfl rfl rfl (by (first | (unfold in64; omega))) rfl ?_)))
            refine WO.callR rfl Try.call31 (fun L w hi => ref_Fraction w _ _ (by omega) (by omega) (by unfold in64; omega) (by unfold in64; omega)) rfl ?_
            refine WO.storeA rfl rfl rfl rfl Pick.head rfl rfl ?_
            refine WO.nil ?_
            refine W.ret ?_
            exact fin.ret (Res.one rfl (RV.cell rfl rfl rfl (Cells.own Pick.head))) (by unfold valQ tN tD; first | (subst what; rfl) | (rw [if_neg (by omega), if_neg (by omega), if_neg (by omega), if_neg (by omega)] <;> rfl))))
/-- what Volume answers -/
def volV (sp st : Int) (rows : List (List (Int × Int))) (ys : List (List Int)) : Int × Int := if chkTrue sp st rows ys = 0 then volQ sp st ys else (0, 0)
def volR (sp st : Int) (rows : List (List (Int × Int))) (ys : List (List Int)) : Value := .tuple #[.agg (encP (volV sp st rows ys)).toArray, .int .i64 (chkTrue sp st rows ys)]
theorem volR_0 {sp st : Int} {rows : List (List (Int × Int))} {ys : List (List Int)} (h : chkTrue sp st rows ys = 0) : .tuple #[.agg (encP (volQ sp st ys)).toArray, .int .i64 0] = volR sp st rows ys := by unfold volR volV; rw [if_pos h, h]
theorem volR_1 {sp st : Int} {rows : List (List (Int × Int))} {ys : List (List Int)} (h : chkTrue sp st rows ys ≠ 0) : .tuple #[.agg (encP (0, 0)).toArray, .int .i64 (chkTrue sp st rows ys)] = volR sp st rows ys := by unfold volR volV; rw [if_neg h]
theorem ref_Volume (w : World) (sp st : Int) (o o' : Value) (rv rv' : List Value) (rows : List (List (Int × Int))) (ys : List (List Int)) (hR : RdR encP 2 w.heap.size w o rv rows) (hR' : RdR encI 1 w.heap.size w o' rv' ys) :
    Ret Try.prog 15 [.agg #[.int .i64 sp, .int .i64 st, o], o'].toArray w (volR sp st rows ys) := by
  refine Ret.of mixed tyTab Try.func15 rfl rfl ?_
  replace hR : RdR encP 2 (fnCx mixed tyTab Try.f15.ntmps w).B (fnCx mixed tyTab Try.f15.ntmps w).w0 o rv rows := hR
  replace hR' : RdR encI 1 (fnCx mixed tyTab Try.f15.ntmps w).B (fnCx mixed tyTab Try.f15.ntmps w).w0 o' rv' ys := hR'
  refine W.sreg ?_
  refine WO.boxA rfl rfl (fun b1 hb1 => ?_)
  refine WO.alloc rfl rfl rfl (fun b2 hb2 => ?_)
  refine WO.p rfl rfl ?_
  refine WO.nil ?_
  refine W.seq ?_
  refine W.sreg ?_
  refine WO.loadA rfl rfl (Cells.own (Pick.tail (Pick.head))) rfl rfl (WO.p rfl rfl ?_)
  refine WO.callR (r := .int .i64 (chkTrue sp st rows ys)) rfl Try.call21 (fun L w hi => ref_CheckTrue w sp st o o' rv rv' rows ys (hR.later hi) (hR'.later hi)) rfl ?_
  refine WO.p rfl rfl ?_
  refine WO.nil ?_
  refine W.cond_bl rfl (fun c1 => ?_) (fun c1 => ?_)
  · first
    | (exfalso; omega)
    | (refine W.sreg ?_
       refine' WO.build (cs := _) rfl rfl rfl ?hf rfl ?_
       case hf => (conv => lhs; simp [-List.getD_eq_getElem?_getD, fillL, vcl, wrl, TTab.pl?.lget']) <;> rfl
       refine WO.loadA rfl rfl (Cells.own (Pick.tail (Pick.head))) rfl rfl (WO.p rfl rfl ?_)
       refine WO.callR (r := .int .i64 (chkTrue sp st rows ys)) rfl Try.call21 (fun L w hi => ref_CheckTrue w sp st o o' rv rv' rows ys (hR.later hi) (hR'.later hi)) rfl ?_
       refine WO.storeA rfl rfl rfl rfl Pick.head rfl rfl (WO.p rfl rfl ?_)
       refine WO.nil ?_
       refine W.ret ?_
       refine fin.ret (Res.two rfl (RV.cell rfl rfl rfl (Cells.own Pick.head)) (RV.tmp rfl)) ?_
       first | exact volR_0 (by omega) | exact volR_1 (by omega))
  · first
    | (exfalso; omega)
    | (refine W.skip ?_
       refine W.sreg ?_
       refine WO.p rfl rfl ?_
       obtain ⟨hv, tv⟩ := TV.of (sp := sp) (st := st) (rows := rows) (ys := ys) (by omega)
       have hS := tv.small hv
       have ba := hS.all (Nat.le_refl _)
       have q1 := hv.sp
       have q2 := hv.st
       have p1 := mulB (A := 1000) (B := 100) ⟨by omega, q1.2⟩ ⟨by omega, q2.2⟩
       have p2 := mulB p1 ba
       have i1 : in64 (sp * st) := in64B p1 (by omega)
       have i2 : in64 (sp * st * sAll ys ys.length) := in64B p2 (by omega)
       refine WO.callR rfl Try.call40 (fun L w hi => ref_sums w o' rv' ys (hR'.later hi) hS) rfl ?_
       refine WO.p rfl rfl (WO.p rfl rfl (WO.p rfl rfl (WO.p rfl rfl (WO.p rfl rfl (WO.p rfl rfl (WO.p rfl rfl (WO.p rfl rfl (WO.p rfl rfl ?_))))))))
       refine WO.nil ?_
       refine W.sreg ?_
       refine WO.field0 rfl rfl rfl (WO.load rfl rfl (Cell.own (Pick.tail (Pick.head)) rfl) rfl (WO.fieldL rfl rfl rfl (WO.load rfl rfl (Cell.own (Pick.tail (Pick.head)) rfl) rfl (WO.ar rfl rfl rfl (by (first | (unfold in64; omega) | assumption)) rfl (WO.p rfl rfl (WO.ar rfl rfl rfl (by (first | (unfold in64; omega) | assumption)) rfl ?_))))))
       refine WO.callR rfl Try.call31 (fun L w hi => ref_Fraction w _ _ (by omega) (by omega) i2 (by unfold in64; omega)) rfl ?_
       refine WO.storeA rfl rfl rfl rfl Pick.head rfl rfl (WO.p rfl rfl ?_)
       refine WO.nil ?_
       refine W.ret ?_
       refine fin.ret (Res.two rfl (RV.cell rfl rfl rfl (Cells.own Pick.head)) (RV.tmp rfl)) ?_
       first | exact volR_0 (by omega) | exact volR_1 (by omega))
/-- what Value answers -/
def valE (sp st : Int) (rows : List (List (Int × Int))) (ys : List (List Int)) (what : Int) : Int := if chkTrue sp st rows ys = 0 then (if what < 0 ∨ 2 < what then 3 else 0) else chkTrue sp st rows ys
def valV (sp st : Int) (rows : List (List (Int × Int))) (ys : List (List Int)) (what : Int) : Int × Int := if valE sp st rows ys what = 0 then valQ sp st ys what else (0, 0)
def valR (sp st : Int) (rows : List (List (Int × Int))) (ys : List (List Int)) (what : Int) : Value := .tuple #[.agg (encP (valV sp st rows ys what)).toArray, .int .i64 (valE sp st rows ys what)]
section
variable {sp st : Int} {rows : List (List (Int × Int))} {ys : List (List Int)} {what : Int}
theorem valR_0 (h : chkTrue sp st rows ys = 0) (hw : ¬ (what < 0 ∨ 2 < what)) : .tuple #[.agg (encP (valQ sp st ys what)).toArray, .int .i64 0] = valR sp st rows ys what := by
  have e : valE sp st rows ys what = 0 := by unfold valE; rw [if_pos h, if_neg hw]
  unfold valR valV; rw [if_pos e, e]
theorem valR_3 (h : chkTrue sp st rows ys = 0) (hw : what < 0 ∨ 2 < what) : .tuple #[.agg (encP (0, 0)).toArray, .int .i64 3] = valR sp st rows ys what := by
  have e : valE sp st rows ys what = 3 := by unfold valE; rw [if_pos h, if_pos hw]
  unfold valR valV; rw [e]; rfl
theorem valR_1 (h : chkTrue sp st rows ys ≠ 0) : .tuple #[.agg (encP (0, 0)).toArray, .int .i64 (chkTrue sp st rows ys)] = valR sp st rows ys what := by
  have e : valE sp st rows ys what = chkTrue sp st rows ys := by unfold valE; rw [if_neg h]
  unfold valR valV; rw [e, if_neg h]
end
theorem ref_Value (w : World) (sp st : Int) (o o' : Value) (rv rv' : List Value) (rows : List (List (Int × Int))) (ys : List (List Int)) (what : Int) (hR : RdR encP 2 w.heap.size w o rv rows) (hR' : RdR encI 1 w.heap.size w o' rv' ys) :
    Ret Try.prog 17 [.agg #[.int .i64 sp, .int .i64 st, o], o', .int .i64 what].toArray w (valR sp st rows ys what) := by
  refine Ret.of mixed tyTab Try.func17 rfl rfl ?_
  replace hR : RdR encP 2 (fnCx mixed tyTab Try.f17.ntmps w).B (fnCx mixed tyTab Try.f17.ntmps w).w0 o rv rows := hR
  replace hR' : RdR encI 1 (fnCx mixed tyTab Try.f17.ntmps w).B (fnCx mixed tyTab Try.f17.ntmps w).w0 o' rv' ys := hR'
  refine W.sreg ?_
  refine WO.boxA rfl rfl (fun b1 hb1 => ?_)
  refine WO.alloc rfl rfl rfl (fun b2 hb2 => ?_)
  refine WO.p rfl rfl ?_
  refine WO.nil ?_
  refine W.seq ?_
  refine W.sreg ?_
  refine WO.loadA rfl rfl (Cells.own (Pick.tail (Pick.head))) rfl rfl (WO.p rfl rfl ?_)
  refine WO.callR (r := .int .i64 (chkTrue sp st rows ys)) rfl Try.call21 (fun L w hi => ref_CheckTrue w sp st o o' rv rv' rows ys (hR.later hi) (hR'.later hi)) rfl ?_
  refine WO.p rfl rfl ?_
  refine WO.nil ?_
  refine W.cond_bl rfl (fun c1 => ?_) (fun c1 => ?_)
  · first
    | (exfalso; omega)
    | (refine W.sreg ?_
       refine' WO.build (cs := _) rfl rfl rfl ?hf rfl ?_
       case hf => (conv => lhs; simp [-List.getD_eq_getElem?_getD, fillL, vcl, wrl, TTab.pl?.lget']) <;> rfl
       refine WO.loadA rfl rfl (Cells.own (Pick.tail (Pick.head))) rfl rfl (WO.p rfl rfl ?_)
       refine WO.callR (r := .int .i64 (chkTrue sp st rows ys)) rfl Try.call21 (fun L w hi => ref_CheckTrue w sp st o o' rv rv' rows ys (hR.later hi) (hR'.later hi)) rfl ?_
       refine WO.storeA rfl rfl rfl rfl Pick.head rfl rfl (WO.p rfl rfl ?_)
       refine WO.nil ?_
       refine W.ret ?_
       refine fin.ret (Res.two rfl (RV.cell rfl rfl rfl (Cells.own Pick.head)) (RV.tmp rfl)) ?_
       first | exact valR_0 (by omega) (by omega) | exact valR_3 (by omega) (by omega) | exact valR_1 (by omega))
  · first
    | (exfalso; omega)
    | (refine W.skip ?_
       refine W.seq ?_
       refine W.sreg ?_
       refine WO.p rfl rfl (WO.p rfl rfl (WO.p rfl rfl ?_))
       refine WO.guard_bl rfl rfl (fun c2 => ?_) (fun c2 => ?_)
       · first
         | (exfalso; omega)
         | (refine WO.no rfl rfl (WO.no rfl rfl (WO.p rfl rfl ?_))
            refine WO.nil ?_
            refine W.cond_t rfl ?_
            refine W.sreg ?_
            refine' WO.build (cs := _) rfl rfl rfl ?hf rfl ?_
            case hf => (conv => lhs; simp [-List.getD_eq_getElem?_getD, fillL, vcl, wrl, TTab.pl?.lget']) <;> rfl
            refine WO.storeA rfl rfl rfl rfl Pick.head rfl rfl (WO.p rfl rfl ?_)
            refine WO.nil ?_
            refine W.ret ?_
            refine fin.ret (Res.two rfl (RV.cell rfl rfl rfl (Cells.own Pick.head)) (RV.tmp rfl)) ?_
            first | exact valR_0 (by omega) (by omega) | exact valR_3 (by omega) (by omega) | exact valR_1 (by omega))
       · first
         | (exfalso; omega)
         | (refine WO.pg rfl rfl rfl (WO.pg rfl rfl rfl (WO.p rfl rfl ?_))
            refine WO.nil ?_
            refine W.cond_bl rfl (fun c3 => ?_) (fun c3 => ?_)
            · first
              | (exfalso; omega)
              | (refine W.sreg ?_
                 refine' WO.build (cs := _) rfl rfl rfl ?hf rfl ?_
                 case hf => (conv => lhs; simp [-List.getD_eq_getElem?_getD, fillL, vcl, wrl, TTab.pl?.lget']) <;> rfl
                 refine WO.storeA rfl rfl rfl rfl Pick.head rfl rfl (WO.p rfl rfl ?_)
                 refine WO.nil ?_
                 refine W.ret ?_
                 refine fin.ret (Res.two rfl (RV.cell rfl rfl rfl (Cells.own Pick.head)) (RV.tmp rfl)) ?_
                 first | exact valR_0 (by omega) (by omega) | exact valR_3 (by omega) (by omega) | exact valR_1 (by omega))
            · first
              | (exfalso; omega)
              | (refine W.skip ?_
                 refine W.sreg ?_
                 refine WO.loadA rfl rfl (Cells.own (Pick.tail (Pick.head))) rfl rfl (WO.p rfl rfl (WO.p rfl rfl ?_))
                 obtain ⟨hv, tv⟩ := TV.of (sp := sp) (st := st) (rows := rows) (ys := ys) (by omega)
                 refine WO.callR rfl Try.call43 (fun L w hi => ref_value w sp st o o' rv' ys what (hR'.later hi) (tv.small hv) (tv.pos hv) hv.sp hv.st) rfl ?_
                 refine WO.storeA rfl rfl rfl rfl Pick.head rfl rfl (WO.p rfl rfl ?_)
                 refine WO.nil ?_
                 refine W.ret ?_
                 refine fin.ret (Res.two rfl (RV.cell rfl rfl rfl (Cells.own Pick.head)) (RV.tmp rfl)) ?_
                 first | exact valR_0 (by omega) (by omega) | exact valR_3 (by omega) (by omega) | exact valR_1 (by omega))))
end Go.Proofs.Ytgihklgpehfbpaa

