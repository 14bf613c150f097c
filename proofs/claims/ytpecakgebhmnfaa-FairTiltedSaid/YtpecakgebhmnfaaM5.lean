/-
  What is proved here: which labels are right, and their bound, as the program tells. Conditions: none; each contract states its own.
  What is proved here: states with their offsets. Conditions: none; each contract states its own.
  What is proved here: which state leads to which. Conditions: none; each contract states its own.
  What is proved here: the list of all states: each once, spot by spot; which states a state leads to. Conditions: none; each theorem states its own.
  What is proved here: the reference's labels, as lists. Conditions: none; each contract states its own.
  What is proved here: right labels, and their bound, as the reference tells. Conditions: none; each contract states its own.
  What is proved here: plain law of labels: both make the same; they are right, and their bound is the least cost; no right labels have a greater one. Conditions: none; each theorem states its own.
  What is proved here: the labels that are made are right, and their bound is the least cost; no right labels have a greater bound. Conditions: none; each theorem states its own.
-/
import Derived.Test.YtpecakgebhmnfaaM4
import Derived.ChangeKeysEq
set_option linter.unusedVariables false
set_option linter.unusedSimpArgs false
namespace Go.Proofs.Ytpecakgebhmnfaa
open Go Go.TH
attribute [local irreducible] W WO pt
set_option maxRecDepth 10000
set_option maxHeartbeats 1000000
/-- the map of the first j labels -/
def mkTo (l : List (Int × Int)) (labs : List Int) (j : Nat) : Sk → Option Int := (((allL l).zip labs).take j).foldl (fun f p => updM f p.1 p.2) (fun _ => none)
theorem mkTo_succ {l : List (Int × Int)} {labs : List Int} {j : Nat} {k : Sk} {x : Int} (h1 : (allL l)[j]? = some k) (h2 : labs[j]? = some x) : mkTo l labs (j + 1) = updM (mkTo l labs j) k x := by
  have h3 : ((allL l).zip labs)[j]? = some (k, x) := by rw [List.getElem?_zip_eq_some]; exact ⟨h1, h2⟩
  unfold mkTo
  rw [List.take_add_one, h3]
  simp
def BdM (f : Sk → Option Int) : Prop := ∀ k, 0 ≤ (f k).getD 0 ∧ (f k).getD 0 ≤ 1099511627776
theorem mkTo_bd {l : List (Int × Int)} {labs : List Int} (h : ∀ x ∈ labs, 0 ≤ x ∧ x ≤ 1099511627776) : ∀ j, BdM (mkTo l labs j)
  | 0 => by intro k; unfold mkTo; simp
  | j + 1 => by
    cases h3 : ((allL l).zip labs)[j]? with
    | none =>
      have := mkTo_bd h (l := l) j
      unfold mkTo at this ⊢
      rwa [List.take_of_length_le (by have := List.getElem?_eq_none_iff.1 h3; omega), ← List.take_of_length_le (l := (allL l).zip labs) (i := j) (List.getElem?_eq_none_iff.1 h3)]
    | some p =>
      obtain ⟨k, x⟩ := p
      obtain ⟨h1, h2⟩ := List.getElem?_zip_eq_some.1 h3
      rw [mkTo_succ h1 h2]
      intro k'
      unfold updM
      split
      · exact h x (List.mem_of_getElem? h2)
      · exact mkTo_bd h j k'
def ckG1 (f : Sk → Option Int) (k : Sk) (g : Bool) : Bool := if k.1 = 1 ∧ k.2.2.2 = 0 then g && decide ((f k).getD 0 = 0) else g
def ckGN (B T : Int) (l : List (Int × Int)) (f : Sk → Option Int) (k : Sk) (g : Bool) : Nat → Bool
  | 0 => g
  | c + 1 => ckGN B T l f k g c && decide ((f (toK l k c)).getD 0 ≤ (f k).getD 0 + costK B T l k c)
def ckG (B T : Int) (l : List (Int × Int)) (f : Sk → Option Int) (j : Nat) : Bool := ((allL l).take j).foldl (fun g k => ckGN B T l f k (ckG1 f k g) (lw l k.1)) true
def ckB (l : List (Int × Int)) (f : Sk → Option Int) (j : Nat) : Int := ((allL l).take j).foldl (fun b k => if k.1 + 1 = l.length then min b ((f k).getD 0) else b) 1099511627776
theorem ckG_succ {B T : Int} {l : List (Int × Int)} {f : Sk → Option Int} {j : Nat} {k : Sk} (h : (allL l)[j]? = some k) : ckG B T l f (j + 1) = ckGN B T l f k (ckG1 f k (ckG B T l f j)) (lw l k.1) := by
  unfold ckG; rw [List.take_add_one, h]; simp
theorem ckB_succ {l : List (Int × Int)} {f : Sk → Option Int} {j : Nat} {k : Sk} (h : (allL l)[j]? = some k) : ckB l f (j + 1) = if k.1 + 1 = l.length then min (ckB l f j) ((f k).getD 0) else ckB l f j := by
  unfold ckB; rw [List.take_add_one, h]; simp
/-- the answer to labels -/
def lkE (l : List (Int × Int)) (t : Int) (labs : List Int) : Int :=
  if chkF l t ≠ 0 then chkF l t else if labs.length ≠ (allL l).length then 15 else if ¬ (∀ x ∈ labs, 0 ≤ x ∧ x ≤ 1099511627776) then 3 else if (allL l).length = 0 then 0
  else if ckG 1 t l (mkTo l labs (allL l).length) (allL l).length = true then 0 else 14
def lkV (l : List (Int × Int)) (t : Int) (labs : List Int) : Int := if lkE l t labs = 0 ∧ (allL l).length ≠ 0 then ckB l (mkTo l labs (allL l).length) (allL l).length else 0
section
variable {l : List (Int × Int)} {t : Int} {labs : List Int}
theorem lk_no (h : lkE l t labs ≠ 0) : lkV l t labs = 0 := if_neg fun x => h x.1
theorem lk0 (h : chkF l t ≠ 0) : lkE l t labs = chkF l t ∧ lkV l t labs = 0 := by
  have e : lkE l t labs = chkF l t := if_pos h
  exact ⟨e, lk_no (by rw [e]; exact h)⟩
theorem lk1 (h : chkF l t = 0) (h1 : labs.length ≠ (allL l).length) : lkE l t labs = 15 ∧ lkV l t labs = 0 := by
  have e : lkE l t labs = 15 := by unfold lkE; rw [if_neg (by omega), if_pos h1]
  exact ⟨e, lk_no (by rw [e]; omega)⟩
theorem lk2 (h : chkF l t = 0) (h1 : labs.length = (allL l).length) (h2 : ¬ (∀ x ∈ labs, 0 ≤ x ∧ x ≤ 1099511627776)) : lkE l t labs = 3 ∧ lkV l t labs = 0 := by
  have e : lkE l t labs = 3 := by unfold lkE; rw [if_neg (by omega), if_neg (by omega), if_pos h2]
  exact ⟨e, lk_no (by rw [e]; omega)⟩
theorem lk3 (h : chkF l t = 0) (h1 : labs.length = (allL l).length) (h2 : ∀ x ∈ labs, 0 ≤ x ∧ x ≤ 1099511627776) (h3 : (allL l).length = 0) : lkE l t labs = 0 ∧ lkV l t labs = 0 := by
  have e : lkE l t labs = 0 := by unfold lkE; rw [if_neg (by omega), if_neg (by omega), if_neg (fun h => h h2), if_pos h3]
  exact ⟨e, if_neg fun x => x.2 h3⟩
theorem lk4 (h : chkF l t = 0) (h1 : labs.length = (allL l).length) (h2 : ∀ x ∈ labs, 0 ≤ x ∧ x ≤ 1099511627776) (h3 : (allL l).length ≠ 0) (h4 : ckG 1 t l (mkTo l labs (allL l).length) (allL l).length = true) : lkE l t labs = 0 ∧ lkV l t labs = ckB l (mkTo l labs (allL l).length) (allL l).length := by
  have e : lkE l t labs = 0 := by unfold lkE; rw [if_neg (by omega), if_neg (by omega), if_neg (fun h => h h2), if_neg h3, if_pos h4]
  exact ⟨e, if_pos ⟨e, h3⟩⟩
theorem lk5 (h : chkF l t = 0) (h1 : labs.length = (allL l).length) (h2 : ∀ x ∈ labs, 0 ≤ x ∧ x ≤ 1099511627776) (h3 : (allL l).length ≠ 0) (h4 : ¬ ckG 1 t l (mkTo l labs (allL l).length) (allL l).length = true) : lkE l t labs = 14 ∧ lkV l t labs = 0 := by
  have e : lkE l t labs = 14 := by unfold lkE; rw [if_neg (by omega), if_neg (by omega), if_neg (fun h => h h2), if_neg h3, if_neg h4]
  exact ⟨e, lk_no (by rw [e]; omega)⟩
end
theorem eqItems78 (a : Int) (w : World) : (Op.equalIn 10000 78 (.agg #[.int .i64 a, .int .i64 0, .int .i64 0]) (.agg #[.int .i64 0, .int .i64 0, .int .i64 0])).run Try.prog w = .ok (bl (a = 0)) w := by
  have hi : ∃ i, Try.prog.info? 2 = some i := ⟨_, rfl⟩
  obtain ⟨i, hi⟩ := hi
  have hc : Try.prog.cellsOf 2 = 1 := rfl
  rw [show (10000 : Nat) = 9998 + 1 + 1 from rfl, run_equalIn_array w (9998 + 1) _ _ Try.underlying78 hi, hc, show List.range 3 = [0, 1, 2] from rfl]
  by_cases h : a = 0
  · subst h; simp [Op.eqItems, part, isAgg, run_underlying Try.underlying2, run_equalIn_int _ _ _ _ _ _ _ Try.underlying2, bl_eq]
  · simp [Op.eqItems, part, isAgg, run_underlying Try.underlying2, run_equalIn_int _ _ _ _ _ _ _ Try.underlying2, bl_eq, h]
theorem eq78 (a : Int) : EqT Try.prog .eql 78 (.agg #[.int .i64 a, .int .i64 0, .int .i64 0]) (.agg #[.int .i64 0, .int .i64 0, .int .i64 0]) (.bool (bl (a = 0))) := fun x y w => by
  simp [eqGuard, binOp, Op.equal, Op.maxDepth, go_sem, Try.underlying78, eqItems78]
theorem ckA {f : Sk → Option Int} {k : Sk} {g : Bool} (h : k.1 = 1 ∧ k.2.2.2 = 0) (hg : g = true) : bl ((f k).getD 0 = 0) = bl (ckG1 f k g = true) := by
  unfold ckG1; rw [if_pos h, hg]; simp [bl_eq]
theorem ckA' {f : Sk → Option Int} {k : Sk} {g : Bool} (h : k.1 = 1 ∧ k.2.2.2 = 0) (hg : ¬ g = true) : false = bl (ckG1 f k g = true) := by
  unfold ckG1; rw [if_pos h, show g = false by simpa using hg]; simp [bl_eq]
theorem ckC {f : Sk → Option Int} {k : Sk} {g : Bool} (h : ¬ (k.1 = 1 ∧ k.2.2.2 = 0)) : bl (g = true) = bl (ckG1 f k g = true) := by
  unfold ckG1; rw [if_neg h]
theorem ptEq {b : Nat} {cs cs' : List Value} {t : TypeId} {fr : Nat × Nat} {H H' : List HP} (pk : Pick (pt b (.cells cs.toArray t fr)) H H') (e : cs = cs') : ∀ h, sat H h → sat (pt b (.cells cs'.toArray t fr) :: H') h := by
  subst e
  exact fun h hs => pk.sat hs
theorem c_CheckLabels (w : World) (v : Value) (l : List (Int × Int)) (t : Int) (lv : Value) (labs : List Int) (hR : RdF encP 2 w.heap.size w v l) (hL : RdF encI 1 w.heap.size w lv labs) : Ret Try.prog 25 [.agg #[v, .int .i64 t], lv].toArray w (.tuple #[.int .i64 (lkV l t labs), .int .i64 (lkE l t labs)]) := by
  refine Ret.of mixed tyTab Try.func25 rfl rfl ?_
  replace hR : RdF encP 2 (fnCx mixed tyTab Try.f25.ntmps w).B (fnCx mixed tyTab Try.f25.ntmps w).w0 v l := hR
  replace hL : RdF encI 1 (fnCx mixed tyTab Try.f25.ntmps w).B (fnCx mixed tyTab Try.f25.ntmps w).w0 lv labs := hL
  have hoc := hR.sl.oc
  have hll := hL.sl.le
  refine W.sreg ?_
  refine WO.boxA rfl rfl (fun b1 hb1 => ?_)
  refine WO.p rfl rfl (WO.p rfl rfl ?_)
  refine WO.nil ?_
  refine W.seq ?_
  refine W.sreg ?_
  refine WO.loadA rfl rfl (Cells.own Pick.head) rfl rfl ?_
  refine WO.callR rfl Try.call18 (fun L w hi => c_CheckSpots w v l t (hR.later hi)) rfl ?_
  refine WO.p rfl rfl ?_
  refine WO.nil ?_
  refine W.sreg ?_
  refine WO.p rfl rfl (WO.p rfl rfl ?_)
  refine WO.nil ?_
  refine W.cond_bl rfl (fun c1 => ?_) (fun c1 => ?_)
  · first
    | (exfalso; omega)
    | (refine W.sreg ?_
       refine WO.p rfl rfl (WO.p rfl rfl (WO.p rfl rfl ?_))
       refine WO.nil ?_
       refine W.ret ?_
       first | (obtain ⟨e1, e2⟩ := lk0 (labs := labs) c1; rw [e1, e2]; exact fin.ret (Res.two rfl (RV.tmp rfl) (RV.tmp rfl)) rfl) | (obtain ⟨e1, e2⟩ := lk1 (l := l) (t := t) (labs := labs) (by omega) (by omega); rw [e1, e2]; exact fin.ret (Res.two rfl (RV.tmp rfl) (RV.tmp rfl)) rfl) | (obtain ⟨e1, e2⟩ := lk2 (l := l) (t := t) (labs := labs) (by omega) (by omega) (by assumption); rw [e1, e2]; exact fin.ret (Res.two rfl (RV.tmp rfl) (RV.tmp rfl)) rfl) | (obtain ⟨e1, e2⟩ := lk3 (l := l) (t := t) (labs := labs) (by omega) (by omega) (by assumption) (by omega); rw [e1, e2]; exact fin.ret (Res.two rfl (RV.tmp rfl) (RV.tmp rfl)) rfl) | (obtain ⟨e1, e2⟩ := lk4 hc0 hc2 c3 hc4 (hgg ▸ (by assumption)); rw [e1, e2, ← hbb]; exact fin.ret (Res.two rfl (RV.tmp rfl) (RV.tmp rfl)) rfl) | (obtain ⟨e1, e2⟩ := lk5 hc0 hc2 c3 hc4 (hgg ▸ (by assumption)); rw [e1, e2]; exact fin.ret (Res.two rfl (RV.tmp rfl) (RV.tmp rfl)) rfl))
  · first
    | (exfalso; omega)
    | (refine W.skip ?_
       have hcf := chkF0.1 (show chkF l t = 0 by omega)
       have hC : OkC 1 t := ⟨.inr rfl, hcf.2.1⟩
       have hg := hcf.2.2
       have hal := allL_len hg hcf.1.2
       refine W.sreg ?_
       refine WO.loadA rfl rfl (Cells.own Pick.head) rfl rfl (WO.fieldL rfl rfl rfl (WO.load rfl rfl (Cell.own Pick.head rfl) rfl ?_))
       refine WO.call rfl Try.call43 (fun L w hi => c_new w v l t 1 t hR.sl hcf.1.2 hoc) rfl ?_
       rintro _ _ ⟨⟨q, dv⟩, rfl, rfl⟩
       refine WO.p rfl rfl ?_
       refine WO.nil ?_
       have hS : DrS (fnCx mixed tyTab Try.f25.ntmps w).B (fnCx mixed tyTab Try.f25.ntmps w).w0 (pt q (.cells #[v, .int .i64 t, .int .i64 1, .int .i64 t, dv] 81 (0, 0))) ⟨q, 0, none⟩ v l t 1 t dv := DrS.own hR
       refine W.sreg ?_
       refine WO.p rfl rfl ?_
       refine WO.call rfl Try.call46 (fun L w hi => c_all w ⟨q, 0, none⟩ v l t 1 t dv (hS.at (by repeat (first | exact Pick.head | apply Pick.tail)) hi) hg hcf.1.2 hcf.1.1) rfl ?_
       rintro rv _ ⟨_, rfl, rfl⟩
       refine WO.fact (OwE.sl (enc := encSk) (e := 77) (sz := 4) (v := rv) (xs := allL l) Pick.head) (fun hrv => ?_)
       refine WO.p rfl rfl ?_
       refine WO.nil ?_
       refine W.seq ?_
       refine W.block ?_
       refine W.sreg ?_
       refine WO.p rfl rfl ?_
       refine' WO.len (n := _) rfl rfl ?hs rfl ?_
       case hs => (first | exact hrv | exact hL.sl | exact hR.sl)
       refine WO.p rfl rfl ?_
       refine' WO.len (n := _) rfl rfl ?hs rfl ?_
       case hs => (first | exact hrv | exact hL.sl | exact hR.sl)
       refine WO.p rfl rfl (WO.p rfl rfl ?_)
       refine WO.nil ?_
       refine W.cond_bl rfl (fun c2 => ?_) (fun c2 => ?_)
       · first
         | (exfalso; omega)
         | (refine W.sreg ?_
            refine WO.p rfl rfl (WO.p rfl rfl ?_)
            refine WO.nil ?_
            refine W.ret ?_
            first | (obtain ⟨e1, e2⟩ := lk0 (labs := labs) c1; rw [e1, e2]; exact fin.ret (Res.two rfl (RV.tmp rfl) (RV.tmp rfl)) rfl) | (obtain ⟨e1, e2⟩ := lk1 (l := l) (t := t) (labs := labs) (by omega) (by omega); rw [e1, e2]; exact fin.ret (Res.two rfl (RV.tmp rfl) (RV.tmp rfl)) rfl) | (obtain ⟨e1, e2⟩ := lk2 (l := l) (t := t) (labs := labs) (by omega) (by omega) (by assumption); rw [e1, e2]; exact fin.ret (Res.two rfl (RV.tmp rfl) (RV.tmp rfl)) rfl) | (obtain ⟨e1, e2⟩ := lk3 (l := l) (t := t) (labs := labs) (by omega) (by omega) (by assumption) (by omega); rw [e1, e2]; exact fin.ret (Res.two rfl (RV.tmp rfl) (RV.tmp rfl)) rfl) | (obtain ⟨e1, e2⟩ := lk4 hc0 hc2 c3 hc4 (hgg ▸ (by assumption)); rw [e1, e2, ← hbb]; exact fin.ret (Res.two rfl (RV.tmp rfl) (RV.tmp rfl)) rfl) | (obtain ⟨e1, e2⟩ := lk5 hc0 hc2 c3 hc4 (hgg ▸ (by assumption)); rw [e1, e2]; exact fin.ret (Res.two rfl (RV.tmp rfl) (RV.tmp rfl)) rfl))
       · first
         | (exfalso; omega)
         | (refine W.sreg ?_
            refine WO.p rfl rfl ?_
            refine WO.callR (r := .bool (bl (∀ x ∈ labs, 0 ≤ x ∧ x ≤ 1099511627776))) rfl Try.call37 (fun L w hi => c_within w lv labs 0 1099511627776 (hL.later hi)) rfl ?_
            refine WO.p rfl rfl (WO.p rfl rfl ?_)
            refine WO.nil ?_
            refine W.cond_nbl rfl (fun c3 => ?_) (fun c3 => ?_)
            · first
              | (exfalso; omega)
              | (refine W.sreg ?_
                 refine WO.p rfl rfl (WO.p rfl rfl ?_)
                 refine WO.nil ?_
                 refine W.ret ?_
                 first | (obtain ⟨e1, e2⟩ := lk0 (labs := labs) c1; rw [e1, e2]; exact fin.ret (Res.two rfl (RV.tmp rfl) (RV.tmp rfl)) rfl) | (obtain ⟨e1, e2⟩ := lk1 (l := l) (t := t) (labs := labs) (by omega) (by omega); rw [e1, e2]; exact fin.ret (Res.two rfl (RV.tmp rfl) (RV.tmp rfl)) rfl) | (obtain ⟨e1, e2⟩ := lk2 (l := l) (t := t) (labs := labs) (by omega) (by omega) (by assumption); rw [e1, e2]; exact fin.ret (Res.two rfl (RV.tmp rfl) (RV.tmp rfl)) rfl) | (obtain ⟨e1, e2⟩ := lk3 (l := l) (t := t) (labs := labs) (by omega) (by omega) (by assumption) (by omega); rw [e1, e2]; exact fin.ret (Res.two rfl (RV.tmp rfl) (RV.tmp rfl)) rfl) | (obtain ⟨e1, e2⟩ := lk4 hc0 hc2 c3 hc4 (hgg ▸ (by assumption)); rw [e1, e2, ← hbb]; exact fin.ret (Res.two rfl (RV.tmp rfl) (RV.tmp rfl)) rfl) | (obtain ⟨e1, e2⟩ := lk5 hc0 hc2 c3 hc4 (hgg ▸ (by assumption)); rw [e1, e2]; exact fin.ret (Res.two rfl (RV.tmp rfl) (RV.tmp rfl)) rfl))
            · first
              | (exfalso; omega)
              | (refine W.sreg ?_
                 refine WO.p rfl rfl ?_
                 refine' WO.len (n := _) rfl rfl ?hs rfl ?_
                 case hs => (first | exact hrv | exact hL.sl | exact hR.sl)
                 refine WO.p rfl rfl (WO.p rfl rfl ?_)
                 refine WO.nil ?_
                 refine W.cond_bl rfl (fun c4 => ?_) (fun c4 => ?_)
                 · first
                   | (exfalso; omega)
                   | (refine W.sreg ?_
                      refine WO.p rfl rfl (WO.p rfl rfl ?_)
                      refine WO.nil ?_
                      refine W.ret ?_
                      first | (obtain ⟨e1, e2⟩ := lk0 (labs := labs) c1; rw [e1, e2]; exact fin.ret (Res.two rfl (RV.tmp rfl) (RV.tmp rfl)) rfl) | (obtain ⟨e1, e2⟩ := lk1 (l := l) (t := t) (labs := labs) (by omega) (by omega); rw [e1, e2]; exact fin.ret (Res.two rfl (RV.tmp rfl) (RV.tmp rfl)) rfl) | (obtain ⟨e1, e2⟩ := lk2 (l := l) (t := t) (labs := labs) (by omega) (by omega) (by assumption); rw [e1, e2]; exact fin.ret (Res.two rfl (RV.tmp rfl) (RV.tmp rfl)) rfl) | (obtain ⟨e1, e2⟩ := lk3 (l := l) (t := t) (labs := labs) (by omega) (by omega) (by assumption) (by omega); rw [e1, e2]; exact fin.ret (Res.two rfl (RV.tmp rfl) (RV.tmp rfl)) rfl) | (obtain ⟨e1, e2⟩ := lk4 hc0 hc2 c3 hc4 (hgg ▸ (by assumption)); rw [e1, e2, ← hbb]; exact fin.ret (Res.two rfl (RV.tmp rfl) (RV.tmp rfl)) rfl) | (obtain ⟨e1, e2⟩ := lk5 hc0 hc2 c3 hc4 (hgg ▸ (by assumption)); rw [e1, e2]; exact fin.ret (Res.two rfl (RV.tmp rfl) (RV.tmp rfl)) rfl))
                 · first
                   | (exfalso; omega)
                   | (refine W.skip ?_
                      have hc0 : chkF l t = 0 := by omega
                      have hc2 : labs.length = (allL l).length := by omega
                      have hc4 : (allL l).length ≠ 0 := by omega
                      refine W.sreg ?_
                      refine WO.makeMap rfl (fun mb => ?_)
                      refine WO.chg (MapP.start (by repeat (first | exact Pick.head | apply Pick.tail))) ?_
                      refine WO.alloc rfl rfl rfl (fun b2 hb2 => ?_)
                      refine WO.store1 rfl rfl rfl (by first | rfl | assumption) Pick.head rfl ?_
                      refine WO.nil ?_
                      refine W.seq ?_
                      refine W.sreg ?_
                      refine WO.p rfl rfl ?_
                      refine' WO.len (n := _) rfl rfl ?hs rfl ?_
                      case hs => (first | exact hrv | exact hL.sl | exact hR.sl)
                      refine WO.p rfl rfl ?_
                      refine WO.nil ?_
                      refine W.block ?_
                      rw [show (fun _ => none : Sk → Option Int) = mkTo l labs 0 from rfl]
                      refine W.loop (fun (j : Nat) => j ≤ (allL l).length)
                        (fun (j : Nat) => [(1, lv), (7, .pointer (some ⟨q, 0, none⟩)), (8, rv), (9, .pointer (some ⟨b2, 0, none⟩)), (44, rv), (45, .int .i64 ((allL l).length : Int)), (46, .int .i64 (j : Int))])
                        (fun (j : Nat) => [pt q (.cells #[v, .int .i64 t, .int .i64 1, .int .i64 t, dv] 81 (0, 0)), pt b2 (.cells #[.map (some mb)] 73 (0, 0)), MapP mb (mkTo l labs j), OwE encSk 77 4 rv (allL l)])
                        (fun (j : Nat) => (allL l).length - j) 0
                        (by exact Nat.zero_le _) ⟨rfl, rfl, rfl, rfl, rfl, rfl, rfl, trivial⟩ (by repeat (first | exact Sub.nil | refine Sub.cons (by repeat (first | exact Pick.head | apply Pick.tail)) ?_)) ?_
                      rintro j hj
                      refine W.sreg ?_
                      refine WO.p rfl rfl ?_
                      refine WO.nil ?_
                      refine W.seq ?_
                      refine W.cond_bl rfl (fun c5 => ?_) (fun c5 => ?_)
                      · first
                        | (exfalso; omega)
                        | (refine W.skip ?_
                           refine W.seq ?_
                           refine W.block ?_
                           obtain ⟨⟨i, a, b, s⟩, hk⟩ : ∃ k, (allL l)[j]? = some k := ⟨_, List.getElem?_eq_getElem (show j < (allL l).length by omega)⟩
                           obtain ⟨x, hx⟩ : ∃ x, labs[j]? = some x := ⟨_, List.getElem?_eq_getElem (show j < labs.length by omega)⟩
                           have hxd : labs.getD j 0 = x := by rw [List.getD_eq_getElem?_getD, hx]; rfl
                           have hmk := mkTo_succ hk hx
                           refine W.sreg ?_
                           refine WO.p rfl rfl ?_
                           refine' WO.indexAddr (n := _) (i := _) rfl rfl rfl ?hs ?h1 rfl ?_
                           case hs => (first | exact hrv | exact hL.sl | exact hR.sl)
                           case h1 => (first | omega | (simp; omega))
                           refine' WO.loadA (vs := _) rfl rfl ?hc ?hl rfl ?_
                           case hc => (first | (refine OwK.cells (v := rv) (xs := allL l) ?_ hk; exact (by repeat (first | exact Sub.nil | refine Sub.cons (by repeat (first | exact Pick.head | apply Pick.tail)) ?_))))
                           case hl => rfl
                           refine WO.alloc rfl rfl rfl (fun b3 hb3 => ?_)
                           refine WO.p rfl rfl (WO.storeA rfl rfl rfl rfl Pick.head rfl rfl ?_)
                           refine WO.nil ?_
                           refine W.drawD 6 [.b 0 [], .b 1 [], .r 2 [], .r 3 [], .r 4 [], .b 5 []] [] (A0 := []) (Sub.refl _) (by kernel_rfl) ?_ ?_
                           · exact (ALok.b (ALok.b (ALok.r (ALok.r (ALok.r (ALok.b ALok.nil))))))
                           refine' DT.b rfl rfl rfl ?hq ?_
                           case hq =>
                             refine WO.load rfl rfl (Cell.own (Pick.tail (Pick.tail (Pick.head))) rfl) rfl ?_
                             exact WO.nil ⟨rfl, rfl⟩
                           refine' DT.b rfl rfl rfl ?hq ?_
                           case hq =>
                             refine WO.loadA rfl rfl (Cells.own Pick.head) rfl rfl ?_
                             exact WO.nil ⟨rfl, rfl⟩
                           refine' DT.r rfl rfl rfl ?hq ?_
                           case hq =>
                             refine WO.p rfl rfl ?_
                             exact WO.nil ⟨rfl, rfl⟩
                           refine' DT.r rfl rfl rfl ?hq ?_
                           case hq =>
                             refine WO.p rfl rfl ?_
                             exact WO.nil ⟨rfl, rfl⟩
                           refine' DT.r rfl rfl rfl ?hq ?_
                           case hq =>
                             refine' WO.indexAddr (n := _) (i := _) rfl rfl rfl ?hs ?h1 rfl ?_
                             case hs => (first | exact hL.sl)
                             case h1 => (first | omega | (simp; omega))
                             exact WO.nil ⟨rfl, rfl⟩
                           refine' DT.b rfl rfl rfl ?hq ?_
                           case hq =>
                             refine' WO.load (v := _) rfl rfl ?hc rfl ?_
                             case hc => (first | (refine hL.cell0 (i := j) (by omega) 0 ?_; rw [hxd]; rfl))
                             exact WO.nil ⟨rfl, rfl⟩
                           refine DT.nil [_, _, _, _, _] rfl ?_
                           refine WO.mapUpd (k := (i, a, b, s)) rfl rfl rfl rfl rfl (by repeat (first | exact Pick.head | apply Pick.tail)) ?_
                           refine WO.nil ?_
                           rw [← hmk]
                           refine W.region ?_
                           refine WO.ar rfl rfl rfl (by (first | (unfold in64; omega) | (unfold in64; omega))) rfl (WO.p rfl rfl ?_)
                           refine WO.nil ?_
                           refine' ⟨j + 1, ?hp, ?hmu, ⟨rfl, rfl, rfl, rfl, rfl, rfl, rfl, trivial⟩, ?hS⟩
                           case hS => repeat (first | exact Sub.nil | refine Sub.cons (by repeat (first | exact Pick.head | apply Pick.tail)) ?_)
                           case hp => omega
                           case hmu => omega)
                      · first
                        | (exfalso; omega)
                        | (refine W.exit (blk_same ?_)
                           obtain rfl : j = (allL l).length := by omega
                           refine W.sreg ?_
                           refine WO.alloc rfl rfl rfl (fun b3 hb3 => ?_)
                           refine WO.store1 rfl rfl rfl (by first | rfl | assumption) Pick.head rfl ?_
                           refine WO.nil ?_
                           refine W.sreg ?_
                           refine WO.p rfl rfl ?_
                           refine WO.nil ?_
                           refine W.sreg ?_
                           refine WO.alloc rfl rfl rfl (fun b4 hb4 => ?_)
                           refine WO.alloc rfl rfl rfl (fun b5 hb5 => ?_)
                           refine WO.nil ?_
                           refine W.seq ?_
                           refine W.sreg ?_
                           refine WO.p rfl rfl ?_
                           refine' WO.len (n := _) rfl rfl ?hs rfl ?_
                           case hs => (first | exact hrv | exact hL.sl | exact hR.sl)
                           refine WO.p rfl rfl ?_
                           refine WO.nil ?_
                           refine W.block ?_
                           refine W.chg (ptEq (b := b3) (cs' := [.bool (bl (true = true))]) (by repeat (first | exact Pick.head | apply Pick.tail)) (by simp [bl_eq])) ?_
                           refine W.loop4 (fun (j2 : Nat) (g : Bool) (bnd : Int) (r0 : Int) => j2 ≤ (allL l).length ∧ g = ckG 1 t l (mkTo l labs (allL l).length) j2 ∧ bnd = ckB l (mkTo l labs (allL l).length) j2)
                             (fun (j2 : Nat) (g : Bool) (bnd : Int) (r0 : Int) => [(7, .pointer (some ⟨q, 0, none⟩)), (9, .pointer (some ⟨b2, 0, none⟩)), (12, .pointer (some ⟨b3, 0, none⟩)), (13, .int .i64 bnd), (14, .pointer (some ⟨b4, 0, none⟩)), (15, .pointer (some ⟨b5, 0, none⟩)), (58, rv), (59, .int .i64 ((allL l).length : Int)), (60, .int .i64 (j2 : Int))])
                             (fun (j2 : Nat) (g : Bool) (bnd : Int) (r0 : Int) => [pt q (.cells #[v, .int .i64 t, .int .i64 1, .int .i64 t, dv] 81 (0, 0)), pt b2 (.cells #[.map (some mb)] 73 (0, 0)), pt b3 (.cells #[.bool (bl (g = true))] 4 (0, 0)), pt b4 (.cells #[.int .i64 0, .int .i64 0, .int .i64 0] 78 (0, 0)), pt b5 (.cells #[.int .i64 r0, .int .i64 0, .int .i64 0] 78 (0, 0)), MapP mb (mkTo l labs (allL l).length), OwE encSk 77 4 rv (allL l)])
                             (fun (j2 : Nat) (g : Bool) (bnd : Int) (r0 : Int) => (allL l).length - j2) 0 true 1099511627776 0
                             (by exact ⟨Nat.zero_le _, rfl, rfl⟩) ⟨rfl, rfl, rfl, rfl, rfl, rfl, rfl, rfl, rfl, trivial⟩ (by repeat (first | exact Sub.nil | refine Sub.cons (by repeat (first | exact Pick.head | apply Pick.tail)) ?_)) ?_
                           rintro j2 g bnd r0 ⟨hj2, hgg, hbb⟩
                           refine W.sreg ?_
                           refine WO.p rfl rfl ?_
                           refine WO.nil ?_
                           refine W.seq ?_
                           refine W.cond_bl rfl (fun c6 => ?_) (fun c6 => ?_)
                           · first
                             | (exfalso; omega)
                             | (refine W.skip ?_
                                refine W.seq ?_
                                refine W.block ?_
                                obtain ⟨⟨i, a, b, s⟩, hk⟩ : ∃ k, (allL l)[j2]? = some k := ⟨_, List.getElem?_eq_getElem (show j2 < (allL l).length by omega)⟩
                                have hok : OkK l (i, a, b, s) := mem_all.1 (List.mem_of_getElem? hk)
                                have hil : i < l.length := hok.2.1
                                have hbd := mkTo_bd (l := l) c3 (allL l).length
                                have hgs := ckG_succ (B := 1) (T := t) (f := mkTo l labs (allL l).length) hk
                                have hbs := ckB_succ (f := mkTo l labs (allL l).length) hk
                                rw [← hgg] at hgs
                                rw [← hbb] at hbs
                                generalize hF : mkTo l labs (allL l).length = F at hbd hgs hbs hgg hbb ⊢
                                refine W.sreg ?_
                                refine' WO.indexAddr (n := _) (i := _) rfl rfl rfl ?hs ?h1 rfl ?_
                                case hs => (first | exact hrv | exact hL.sl | exact hR.sl)
                                case h1 => (first | omega | (simp; omega))
                                refine' WO.loadA (vs := _) rfl rfl ?hc ?hl rfl ?_
                                case hc => (first | (refine OwK.cells (v := rv) (xs := allL l) ?_ hk; exact (by repeat (first | exact Sub.nil | refine Sub.cons (by repeat (first | exact Pick.head | apply Pick.tail)) ?_))))
                                case hl => rfl
                                refine WO.alloc rfl rfl rfl (fun b6 hb6 => ?_)
                                refine WO.storeA rfl rfl rfl rfl Pick.head rfl rfl ?_
                                refine WO.nil ?_
                                refine W.seq ?_
                                refine W.sreg ?_
                                refine WO.field0 rfl rfl rfl (WO.load rfl rfl (Cell.own Pick.head rfl) rfl (WO.p rfl rfl (WO.p rfl rfl ?_)))
                                refine WO.guard_bl rfl rfl (fun c7 => ?_) (fun c7 => ?_)
                                · first
                                  | (exfalso; omega)
                                  | (refine WO.go' rfl (WO.fieldL rfl rfl rfl (WO.go' rfl (WO.loadA rfl rfl (Cells.ownAt (n := 1) Pick.head rfl) rfl rfl (WO.go' rfl ?_))))
                                     refine' WO.build (cs := _) rfl rfl rfl ?hf rfl ?_
                                     case hf => (conv => lhs; simp [-List.getD_eq_getElem?_getD, fillL, vcl, wrl, TTab.pl?.lget']) <;> rfl
                                     refine WO.go' rfl ?_
                                     refine WO.eqT (v := .agg #[.int .i64 ((0 : Nat) : Int)]) rfl rfl (eq75 s 0) rfl ?_
                                     refine WO.p rfl rfl ?_
                                     refine WO.nil ?_
                                     refine W.cond_bl rfl (fun c8 => ?_) (fun c8 => ?_)
                                     · first
                                       | (exfalso; omega)
                                       | (refine W.sreg ?_
                                          refine WO.load rfl rfl (Cell.own (Pick.tail (Pick.tail (Pick.head))) rfl) rfl (WO.loadA rfl rfl (Cells.own Pick.head) rfl rfl ?_)
                                          refine WO.mapGet (k := (i, a, b, s)) rfl rfl rfl rfl (by repeat (first | exact Pick.head | apply Pick.tail)) rfl ?_
                                          refine WO.indexArrL (o' := 0) rfl rfl rfl (by decide) rfl rfl ?_
                                          refine WO.store1 rfl rfl rfl (by first | rfl | assumption) (Pick.tail (Pick.tail (Pick.tail (Pick.tail (Pick.tail (Pick.head)))))) rfl ?_
                                          refine WO.nil ?_
                                          refine W.region ?_
                                          refine WO.load rfl rfl (Cell.own (Pick.tail (Pick.tail (Pick.tail (Pick.tail (Pick.head))))) rfl) rfl (WO.p rfl rfl ?_)
                                          refine WO.guard_bl rfl rfl (fun c9 => ?_) (fun c9 => ?_)
                                          · first
                                            | (exfalso; omega)
                                            | (refine WO.go' rfl (WO.loadA rfl rfl (Cells.own Pick.head) rfl rfl (WO.go' rfl (WO.loadA rfl rfl (Cells.own (Pick.tail (Pick.tail (Pick.tail (Pick.tail (Pick.tail (Pick.head))))))) rfl rfl (WO.go' rfl ?_))))
                                               refine WO.eqT rfl rfl (eq78 _) rfl ?_
                                               refine WO.p rfl rfl (WO.store1 rfl rfl rfl (by first | rfl | assumption) (Pick.tail (Pick.tail (Pick.tail (Pick.tail (Pick.head))))) rfl ?_)
                                               refine WO.nil ?_
                                               refine W.seq ?_
                                               refine W.seq ?_
                                               have hgg1 : ∀ z, z = bl (ckG1 F (i, a, b, s) g = true) → [Value.bool z] = [Value.bool (bl (ckG1 F (i, a, b, s) g = true))] := fun z h => by rw [h]
                                               refine W.chg (ptEq (b := b3) (cs' := [.bool (bl (ckG1 F (i, a, b, s) g = true))]) (by repeat (first | exact Pick.head | apply Pick.tail)) (by first | exact hgg1 _ (ckA ⟨show i = 1 by omega, show s = 0 by omega⟩ (by assumption)) | exact hgg1 _ (ckA' ⟨show i = 1 by omega, show s = 0 by omega⟩ (by assumption)) | exact hgg1 _ (ckC (fun h => by have h1 : i = 1 := h.1; have h2 : s = 0 := h.2; omega)))) ?_
                                               refine W.drawD 9 [.r 0 [], .b 1 [], .r 2 [], .r 3 [], .r 4 [], .r 5 [], .r 6 [], .b 7 [], .r 8 []] [] (A0 := []) (Sub.refl _) (by kernel_rfl) ?_ ?_
                                               · exact (ALok.r (ALok.b (ALok.r (ALok.r (ALok.r (ALok.r (ALok.r (ALok.b (ALok.r ALok.nil)))))))))
                                               refine' DT.r rfl rfl rfl ?hq ?_
                                               case hq =>
                                                 refine WO.field0 rfl rfl rfl ?_
                                                 exact WO.nil ⟨rfl, rfl⟩
                                               refine' DT.b rfl rfl rfl ?hq ?_
                                               case hq =>
                                                 refine WO.load rfl rfl (Cell.own (Pick.tail (Pick.tail (Pick.head))) rfl) rfl ?_
                                                 exact WO.nil ⟨rfl, rfl⟩
                                               refine' DT.r rfl rfl rfl ?hq ?_
                                               case hq =>
                                                 refine WO.ar rfl rfl rfl (by (first | (unfold in64; omega) | (unfold in64; omega))) rfl ?_
                                                 exact WO.nil ⟨rfl, rfl⟩
                                               refine' DT.r rfl rfl rfl ?hq ?_
                                               case hq =>
                                                 refine WO.p rfl rfl ?_
                                                 exact WO.nil ⟨rfl, rfl⟩
                                               refine' DT.r rfl rfl rfl ?hq ?_
                                               case hq =>
                                                 refine WO.p rfl rfl ?_
                                                 exact WO.nil ⟨rfl, rfl⟩
                                               refine' DT.r rfl rfl rfl ?hq ?_
                                               case hq =>
                                                 refine WO.field0 rfl rfl rfl ?_
                                                 exact WO.nil ⟨rfl, rfl⟩
                                               refine' DT.r rfl rfl rfl ?hq ?_
                                               case hq =>
                                                 refine WO.field0 rfl rfl rfl ?_
                                                 exact WO.nil ⟨rfl, rfl⟩
                                               refine' DT.b rfl rfl rfl ?hq ?_
                                               case hq =>
                                                 refine WO.load rfl rfl (Cell.own (Pick.tail (Pick.tail (Pick.tail (Pick.head)))) rfl) rfl ?_
                                                 exact WO.nil ⟨rfl, rfl⟩
                                               refine' DT.r rfl rfl rfl ?hq ?_
                                               case hq =>
                                                 refine' WO.len (n := _) rfl rfl ?hs rfl ?_
                                                 case hs => (first | exact hR.sl)
                                                 exact WO.nil ⟨rfl, rfl⟩
                                               refine DT.nil [_, _, _, _, _, _, _, _] rfl ?_
                                               refine WO.p rfl rfl ?_
                                               refine WO.nil ?_
                                               refine W.cond_bl rfl (fun c10 => ?_) (fun c10 => ?_)
                                               · first
                                                 | (exfalso; omega)
                                                 | (refine W.region ?_
                                                    refine WO.p rfl rfl (WO.load rfl rfl (Cell.own (Pick.tail (Pick.tail (Pick.tail (Pick.tail (Pick.head))))) rfl) rfl (WO.loadA rfl rfl (Cells.own (Pick.tail (Pick.tail (Pick.head)))) rfl rfl ?_))
                                                    refine WO.mapGet (k := (i, a, b, s)) rfl rfl rfl rfl (by repeat (first | exact Pick.head | apply Pick.tail)) rfl ?_
                                                    refine WO.min2 rfl rfl rfl ?_
                                                    refine WO.p rfl rfl ?_
                                                    refine WO.nil ?_
                                                    have hok1 := hok.1
                                                    have hok2 := hok.2.1
                                                    have hok3 : a < w1 l i ∧ b < w2 l i ∧ s < 3 := hok.2.2
                                                    simp only at hok1 hok2
                                                    refine W.region ?_
                                                    refine WO.p rfl rfl (WO.loadA rfl rfl (Cells.own (Pick.tail (Pick.tail (Pick.head)))) rfl rfl (WO.p rfl rfl ?_))
                                                    refine WO.chg (satShut (Hs := CkP b3 b2 b6 mb (ckG1 F (i, a, b, s) g) (i, a, b, s) F) (.cons (by repeat (first | exact Pick.head | apply Pick.tail)) (.cons (by repeat (first | exact Pick.head | apply Pick.tail)) (.cons (by repeat (first | exact Pick.head | apply Pick.tail)) (.cons (by repeat (first | exact Pick.head | apply Pick.tail)) (Sub.refl _)))))) ?_
                                                    refine WO.callH (Hp := [pt q (.cells #[v, .int .i64 t, .int .i64 1, .int .i64 t, dv] 81 (0, 0)), sat (CkP b3 b2 b6 mb (ckG1 F (i, a, b, s) g) (i, a, b, s) F)]) rfl Try.call47 (.cons (by repeat (first | exact Pick.head | apply Pick.tail)) (.cons (by repeat (first | exact Pick.head | apply Pick.tail)) (Sub.refl _))) (fun L u hi hB2 => c_leads _ u (pt q (.cells #[v, .int .i64 t, .int .i64 1, .int .i64 t, dv] 81 (0, 0))) ⟨q, 0, none⟩ v l t 1 t dv i a b s 48 [.pointer (some ⟨b3, 0, none⟩), .pointer (some ⟨b2, 0, none⟩), .pointer (some ⟨b6, 0, none⟩)] (fun c => sat (CkP b3 b2 b6 mb (ckGN 1 t l F (i, a, b, s) (ckG1 F (i, a, b, s) g) c) (i, a, b, s) F)) hB2 (hS.agree hi.keepB) hR.sl hg hC hok1 hok2 hok3.1 hok3.2.1 hok3.2.2 Try.call48 (fun c u2 hi1 hc hB3 hk3 => c_chk1 _ u2 b3 b2 b6 mb (ckGN 1 t l F (i, a, b, s) (ckG1 F (i, a, b, s) g) c) (stp 1 t s (dif l i a b c)) (i, a, b, s) F (i + 1) b c (sg s (dif l i a b c)) hB3 (hbd _) (costK_bd hg hC hok hi1 hc))) rfl ?_
                                                    rintro _ _ ⟨_, rfl, rfl⟩
                                                    refine WO.chg (satOpen (Hs := CkP b3 b2 b6 mb (ckGN 1 t l F (i, a, b, s) (ckG1 F (i, a, b, s) g) (lw l i)) (i, a, b, s) F) (by repeat (first | exact Pick.head | apply Pick.tail))) ?_
                                                    refine WO.nil ?_
                                                    refine W.region ?_
                                                    refine WO.ar rfl rfl rfl (by (first | (unfold in64; omega) | (unfold in64; omega))) rfl (WO.p rfl rfl ?_)
                                                    refine WO.nil ?_
                                                    refine' ⟨j2 + 1, _, _, _, ?hp, ?hmu, ⟨rfl, rfl, rfl, rfl, rfl, rfl, rfl, rfl, rfl, trivial⟩, ?hS⟩
                                                    case hS => repeat (first | exact Sub.nil | refine Sub.cons (by repeat (first | exact Pick.head | apply Pick.tail)) ?_)
                                                    case hp => exact ⟨by omega, hgs.symm, by rw [hbs]; first | exact (if_pos (show i + 1 = l.length by omega)).symm | exact (if_neg (show ¬ i + 1 = l.length by omega)).symm⟩
                                                    case hmu => omega)
                                               · first
                                                 | (exfalso; omega)
                                                 | (refine W.skip ?_
                                                    have hok1 := hok.1
                                                    have hok2 := hok.2.1
                                                    have hok3 : a < w1 l i ∧ b < w2 l i ∧ s < 3 := hok.2.2
                                                    simp only at hok1 hok2
                                                    refine W.region ?_
                                                    refine WO.p rfl rfl (WO.loadA rfl rfl (Cells.own (Pick.tail (Pick.tail (Pick.head)))) rfl rfl (WO.p rfl rfl ?_))
                                                    refine WO.chg (satShut (Hs := CkP b3 b2 b6 mb (ckG1 F (i, a, b, s) g) (i, a, b, s) F) (.cons (by repeat (first | exact Pick.head | apply Pick.tail)) (.cons (by repeat (first | exact Pick.head | apply Pick.tail)) (.cons (by repeat (first | exact Pick.head | apply Pick.tail)) (.cons (by repeat (first | exact Pick.head | apply Pick.tail)) (Sub.refl _)))))) ?_
                                                    refine WO.callH (Hp := [pt q (.cells #[v, .int .i64 t, .int .i64 1, .int .i64 t, dv] 81 (0, 0)), sat (CkP b3 b2 b6 mb (ckG1 F (i, a, b, s) g) (i, a, b, s) F)]) rfl Try.call47 (.cons (by repeat (first | exact Pick.head | apply Pick.tail)) (.cons (by repeat (first | exact Pick.head | apply Pick.tail)) (Sub.refl _))) (fun L u hi hB2 => c_leads _ u (pt q (.cells #[v, .int .i64 t, .int .i64 1, .int .i64 t, dv] 81 (0, 0))) ⟨q, 0, none⟩ v l t 1 t dv i a b s 48 [.pointer (some ⟨b3, 0, none⟩), .pointer (some ⟨b2, 0, none⟩), .pointer (some ⟨b6, 0, none⟩)] (fun c => sat (CkP b3 b2 b6 mb (ckGN 1 t l F (i, a, b, s) (ckG1 F (i, a, b, s) g) c) (i, a, b, s) F)) hB2 (hS.agree hi.keepB) hR.sl hg hC hok1 hok2 hok3.1 hok3.2.1 hok3.2.2 Try.call48 (fun c u2 hi1 hc hB3 hk3 => c_chk1 _ u2 b3 b2 b6 mb (ckGN 1 t l F (i, a, b, s) (ckG1 F (i, a, b, s) g) c) (stp 1 t s (dif l i a b c)) (i, a, b, s) F (i + 1) b c (sg s (dif l i a b c)) hB3 (hbd _) (costK_bd hg hC hok hi1 hc))) rfl ?_
                                                    rintro _ _ ⟨_, rfl, rfl⟩
                                                    refine WO.chg (satOpen (Hs := CkP b3 b2 b6 mb (ckGN 1 t l F (i, a, b, s) (ckG1 F (i, a, b, s) g) (lw l i)) (i, a, b, s) F) (by repeat (first | exact Pick.head | apply Pick.tail))) ?_
                                                    refine WO.nil ?_
                                                    refine W.region ?_
                                                    refine WO.ar rfl rfl rfl (by (first | (unfold in64; omega) | (unfold in64; omega))) rfl (WO.p rfl rfl ?_)
                                                    refine WO.nil ?_
                                                    refine' ⟨j2 + 1, _, _, _, ?hp, ?hmu, ⟨rfl, rfl, rfl, rfl, rfl, rfl, rfl, rfl, rfl, trivial⟩, ?hS⟩
                                                    case hS => repeat (first | exact Sub.nil | refine Sub.cons (by repeat (first | exact Pick.head | apply Pick.tail)) ?_)
                                                    case hp => exact ⟨by omega, hgs.symm, by rw [hbs]; first | exact (if_pos (show i + 1 = l.length by omega)).symm | exact (if_neg (show ¬ i + 1 = l.length by omega)).symm⟩
                                                    case hmu => omega))
                                          · first
                                            | (exfalso; omega)
                                            | (refine WO.no rfl rfl (WO.no rfl rfl (WO.no rfl rfl (WO.p rfl rfl (WO.store1 rfl rfl rfl (by first | rfl | assumption) (Pick.tail (Pick.tail (Pick.tail (Pick.tail (Pick.head))))) rfl ?_))))
                                               refine WO.nil ?_
                                               refine W.seq ?_
                                               refine W.seq ?_
                                               have hgg1 : ∀ z, z = bl (ckG1 F (i, a, b, s) g = true) → [Value.bool z] = [Value.bool (bl (ckG1 F (i, a, b, s) g = true))] := fun z h => by rw [h]
                                               refine W.chg (ptEq (b := b3) (cs' := [.bool (bl (ckG1 F (i, a, b, s) g = true))]) (by repeat (first | exact Pick.head | apply Pick.tail)) (by first | exact hgg1 _ (ckA ⟨show i = 1 by omega, show s = 0 by omega⟩ (by assumption)) | exact hgg1 _ (ckA' ⟨show i = 1 by omega, show s = 0 by omega⟩ (by assumption)) | exact hgg1 _ (ckC (fun h => by have h1 : i = 1 := h.1; have h2 : s = 0 := h.2; omega)))) ?_
                                               refine W.drawD 9 [.r 0 [], .b 1 [], .r 2 [], .r 3 [], .r 4 [], .r 5 [], .r 6 [], .b 7 [], .r 8 []] [] (A0 := []) (Sub.refl _) (by kernel_rfl) ?_ ?_
                                               · exact (ALok.r (ALok.b (ALok.r (ALok.r (ALok.r (ALok.r (ALok.r (ALok.b (ALok.r ALok.nil)))))))))
                                               refine' DT.r rfl rfl rfl ?hq ?_
                                               case hq =>
                                                 refine WO.field0 rfl rfl rfl ?_
                                                 exact WO.nil ⟨rfl, rfl⟩
                                               refine' DT.b rfl rfl rfl ?hq ?_
                                               case hq =>
                                                 refine WO.load rfl rfl (Cell.own (Pick.tail (Pick.tail (Pick.head))) rfl) rfl ?_
                                                 exact WO.nil ⟨rfl, rfl⟩
                                               refine' DT.r rfl rfl rfl ?hq ?_
                                               case hq =>
                                                 refine WO.ar rfl rfl rfl (by (first | (unfold in64; omega) | (unfold in64; omega))) rfl ?_
                                                 exact WO.nil ⟨rfl, rfl⟩
                                               refine' DT.r rfl rfl rfl ?hq ?_
                                               case hq =>
                                                 refine WO.p rfl rfl ?_
                                                 exact WO.nil ⟨rfl, rfl⟩
                                               refine' DT.r rfl rfl rfl ?hq ?_
                                               case hq =>
                                                 refine WO.p rfl rfl ?_
                                                 exact WO.nil ⟨rfl, rfl⟩
                                               refine' DT.r rfl rfl rfl ?hq ?_
                                               case hq =>
                                                 refine WO.field0 rfl rfl rfl ?_
                                                 exact WO.nil ⟨rfl, rfl⟩
                                               refine' DT.r rfl rfl rfl ?hq ?_
                                               case hq =>
                                                 refine WO.field0 rfl rfl rfl ?_
                                                 exact WO.nil ⟨rfl, rfl⟩
                                               refine' DT.b rfl rfl rfl ?hq ?_
                                               case hq =>
                                                 refine WO.load rfl rfl (Cell.own (Pick.tail (Pick.tail (Pick.tail (Pick.head)))) rfl) rfl ?_
                                                 exact WO.nil ⟨rfl, rfl⟩
                                               refine' DT.r rfl rfl rfl ?hq ?_
                                               case hq =>
                                                 refine' WO.len (n := _) rfl rfl ?hs rfl ?_
                                                 case hs => (first | exact hR.sl)
                                                 exact WO.nil ⟨rfl, rfl⟩
                                               refine DT.nil [_, _, _, _, _, _, _, _] rfl ?_
                                               refine WO.p rfl rfl ?_
                                               refine WO.nil ?_
                                               refine W.cond_bl rfl (fun c10 => ?_) (fun c10 => ?_)
                                               · first
                                                 | (exfalso; omega)
                                                 | (refine W.region ?_
                                                    refine WO.p rfl rfl (WO.load rfl rfl (Cell.own (Pick.tail (Pick.tail (Pick.tail (Pick.tail (Pick.head))))) rfl) rfl (WO.loadA rfl rfl (Cells.own (Pick.tail (Pick.tail (Pick.head)))) rfl rfl ?_))
                                                    refine WO.mapGet (k := (i, a, b, s)) rfl rfl rfl rfl (by repeat (first | exact Pick.head | apply Pick.tail)) rfl ?_
                                                    refine WO.min2 rfl rfl rfl ?_
                                                    refine WO.p rfl rfl ?_
                                                    refine WO.nil ?_
                                                    have hok1 := hok.1
                                                    have hok2 := hok.2.1
                                                    have hok3 : a < w1 l i ∧ b < w2 l i ∧ s < 3 := hok.2.2
                                                    simp only at hok1 hok2
                                                    refine W.region ?_
                                                    refine WO.p rfl rfl (WO.loadA rfl rfl (Cells.own (Pick.tail (Pick.tail (Pick.head)))) rfl rfl (WO.p rfl rfl ?_))
                                                    refine WO.chg (satShut (Hs := CkP b3 b2 b6 mb (ckG1 F (i, a, b, s) g) (i, a, b, s) F) (.cons (by repeat (first | exact Pick.head | apply Pick.tail)) (.cons (by repeat (first | exact Pick.head | apply Pick.tail)) (.cons (by repeat (first | exact Pick.head | apply Pick.tail)) (.cons (by repeat (first | exact Pick.head | apply Pick.tail)) (Sub.refl _)))))) ?_
                                                    refine WO.callH (Hp := [pt q (.cells #[v, .int .i64 t, .int .i64 1, .int .i64 t, dv] 81 (0, 0)), sat (CkP b3 b2 b6 mb (ckG1 F (i, a, b, s) g) (i, a, b, s) F)]) rfl Try.call47 (.cons (by repeat (first | exact Pick.head | apply Pick.tail)) (.cons (by repeat (first | exact Pick.head | apply Pick.tail)) (Sub.refl _))) (fun L u hi hB2 => c_leads _ u (pt q (.cells #[v, .int .i64 t, .int .i64 1, .int .i64 t, dv] 81 (0, 0))) ⟨q, 0, none⟩ v l t 1 t dv i a b s 48 [.pointer (some ⟨b3, 0, none⟩), .pointer (some ⟨b2, 0, none⟩), .pointer (some ⟨b6, 0, none⟩)] (fun c => sat (CkP b3 b2 b6 mb (ckGN 1 t l F (i, a, b, s) (ckG1 F (i, a, b, s) g) c) (i, a, b, s) F)) hB2 (hS.agree hi.keepB) hR.sl hg hC hok1 hok2 hok3.1 hok3.2.1 hok3.2.2 Try.call48 (fun c u2 hi1 hc hB3 hk3 => c_chk1 _ u2 b3 b2 b6 mb (ckGN 1 t l F (i, a, b, s) (ckG1 F (i, a, b, s) g) c) (stp 1 t s (dif l i a b c)) (i, a, b, s) F (i + 1) b c (sg s (dif l i a b c)) hB3 (hbd _) (costK_bd hg hC hok hi1 hc))) rfl ?_
                                                    rintro _ _ ⟨_, rfl, rfl⟩
                                                    refine WO.chg (satOpen (Hs := CkP b3 b2 b6 mb (ckGN 1 t l F (i, a, b, s) (ckG1 F (i, a, b, s) g) (lw l i)) (i, a, b, s) F) (by repeat (first | exact Pick.head | apply Pick.tail))) ?_
                                                    refine WO.nil ?_
                                                    refine W.region ?_
                                                    refine WO.ar rfl rfl rfl (by (first | (unfold in64; omega) | (unfold in64; omega))) rfl (WO.p rfl rfl ?_)
                                                    refine WO.nil ?_
                                                    refine' ⟨j2 + 1, _, _, _, ?hp, ?hmu, ⟨rfl, rfl, rfl, rfl, rfl, rfl, rfl, rfl, rfl, trivial⟩, ?hS⟩
                                                    case hS => repeat (first | exact Sub.nil | refine Sub.cons (by repeat (first | exact Pick.head | apply Pick.tail)) ?_)
                                                    case hp => exact ⟨by omega, hgs.symm, by rw [hbs]; first | exact (if_pos (show i + 1 = l.length by omega)).symm | exact (if_neg (show ¬ i + 1 = l.length by omega)).symm⟩
                                                    case hmu => omega)
                                               · first
                                                 | (exfalso; omega)
                                                 | (refine W.skip ?_
                                                    have hok1 := hok.1
                                                    have hok2 := hok.2.1
                                                    have hok3 : a < w1 l i ∧ b < w2 l i ∧ s < 3 := hok.2.2
                                                    simp only at hok1 hok2
                                                    refine W.region ?_
                                                    refine WO.p rfl rfl (WO.loadA rfl rfl (Cells.own (Pick.tail (Pick.tail (Pick.head)))) rfl rfl (WO.p rfl rfl ?_))
                                                    refine WO.chg (satShut (Hs := CkP b3 b2 b6 mb (ckG1 F (i, a, b, s) g) (i, a, b, s) F) (.cons (by repeat (first | exact Pick.head | apply Pick.tail)) (.cons (by repeat (first | exact Pick.head | apply Pick.tail)) (.cons (by repeat (first | exact Pick.head | apply Pick.tail)) (.cons (by repeat (first | exact Pick.head | apply Pick.tail)) (Sub.refl _)))))) ?_
                                                    refine WO.callH (Hp := [pt q (.cells #[v, .int .i64 t, .int .i64 1, .int .i64 t, dv] 81 (0, 0)), sat (CkP b3 b2 b6 mb (ckG1 F (i, a, b, s) g) (i, a, b, s) F)]) rfl Try.call47 (.cons (by repeat (first | exact Pick.head | apply Pick.tail)) (.cons (by repeat (first | exact Pick.head | apply Pick.tail)) (Sub.refl _))) (fun L u hi hB2 => c_leads _ u (pt q (.cells #[v, .int .i64 t, .int .i64 1, .int .i64 t, dv] 81 (0, 0))) ⟨q, 0, none⟩ v l t 1 t dv i a b s 48 [.pointer (some ⟨b3, 0, none⟩), .pointer (some ⟨b2, 0, none⟩), .pointer (some ⟨b6, 0, none⟩)] (fun c => sat (CkP b3 b2 b6 mb (ckGN 1 t l F (i, a, b, s) (ckG1 F (i, a, b, s) g) c) (i, a, b, s) F)) hB2 (hS.agree hi.keepB) hR.sl hg hC hok1 hok2 hok3.1 hok3.2.1 hok3.2.2 Try.call48 (fun c u2 hi1 hc hB3 hk3 => c_chk1 _ u2 b3 b2 b6 mb (ckGN 1 t l F (i, a, b, s) (ckG1 F (i, a, b, s) g) c) (stp 1 t s (dif l i a b c)) (i, a, b, s) F (i + 1) b c (sg s (dif l i a b c)) hB3 (hbd _) (costK_bd hg hC hok hi1 hc))) rfl ?_
                                                    rintro _ _ ⟨_, rfl, rfl⟩
                                                    refine WO.chg (satOpen (Hs := CkP b3 b2 b6 mb (ckGN 1 t l F (i, a, b, s) (ckG1 F (i, a, b, s) g) (lw l i)) (i, a, b, s) F) (by repeat (first | exact Pick.head | apply Pick.tail))) ?_
                                                    refine WO.nil ?_
                                                    refine W.region ?_
                                                    refine WO.ar rfl rfl rfl (by (first | (unfold in64; omega) | (unfold in64; omega))) rfl (WO.p rfl rfl ?_)
                                                    refine WO.nil ?_
                                                    refine' ⟨j2 + 1, _, _, _, ?hp, ?hmu, ⟨rfl, rfl, rfl, rfl, rfl, rfl, rfl, rfl, rfl, trivial⟩, ?hS⟩
                                                    case hS => repeat (first | exact Sub.nil | refine Sub.cons (by repeat (first | exact Pick.head | apply Pick.tail)) ?_)
                                                    case hp => exact ⟨by omega, hgs.symm, by rw [hbs]; first | exact (if_pos (show i + 1 = l.length by omega)).symm | exact (if_neg (show ¬ i + 1 = l.length by omega)).symm⟩
                                                    case hmu => omega)))
                                     · first
                                       | (exfalso; omega)
                                       | (refine W.skip ?_
                                          refine W.seq ?_
                                          refine W.seq ?_
                                          have hgg1 : ∀ z, z = bl (ckG1 F (i, a, b, s) g = true) → [Value.bool z] = [Value.bool (bl (ckG1 F (i, a, b, s) g = true))] := fun z h => by rw [h]
                                          refine W.chg (ptEq (b := b3) (cs' := [.bool (bl (ckG1 F (i, a, b, s) g = true))]) (by repeat (first | exact Pick.head | apply Pick.tail)) (by first | exact hgg1 _ (ckA ⟨show i = 1 by omega, show s = 0 by omega⟩ (by assumption)) | exact hgg1 _ (ckA' ⟨show i = 1 by omega, show s = 0 by omega⟩ (by assumption)) | exact hgg1 _ (ckC (fun h => by have h1 : i = 1 := h.1; have h2 : s = 0 := h.2; omega)))) ?_
                                          refine W.drawD 9 [.r 0 [], .b 1 [], .r 2 [], .r 3 [], .r 4 [], .r 5 [], .r 6 [], .b 7 [], .r 8 []] [] (A0 := []) (Sub.refl _) (by kernel_rfl) ?_ ?_
                                          · exact (ALok.r (ALok.b (ALok.r (ALok.r (ALok.r (ALok.r (ALok.r (ALok.b (ALok.r ALok.nil)))))))))
                                          refine' DT.r rfl rfl rfl ?hq ?_
                                          case hq =>
                                            refine WO.field0 rfl rfl rfl ?_
                                            exact WO.nil ⟨rfl, rfl⟩
                                          refine' DT.b rfl rfl rfl ?hq ?_
                                          case hq =>
                                            refine WO.load rfl rfl (Cell.own (Pick.tail (Pick.head)) rfl) rfl ?_
                                            exact WO.nil ⟨rfl, rfl⟩
                                          refine' DT.r rfl rfl rfl ?hq ?_
                                          case hq =>
                                            refine WO.ar rfl rfl rfl (by (first | (unfold in64; omega) | (unfold in64; omega))) rfl ?_
                                            exact WO.nil ⟨rfl, rfl⟩
                                          refine' DT.r rfl rfl rfl ?hq ?_
                                          case hq =>
                                            refine WO.p rfl rfl ?_
                                            exact WO.nil ⟨rfl, rfl⟩
                                          refine' DT.r rfl rfl rfl ?hq ?_
                                          case hq =>
                                            refine WO.p rfl rfl ?_
                                            exact WO.nil ⟨rfl, rfl⟩
                                          refine' DT.r rfl rfl rfl ?hq ?_
                                          case hq =>
                                            refine WO.field0 rfl rfl rfl ?_
                                            exact WO.nil ⟨rfl, rfl⟩
                                          refine' DT.r rfl rfl rfl ?hq ?_
                                          case hq =>
                                            refine WO.field0 rfl rfl rfl ?_
                                            exact WO.nil ⟨rfl, rfl⟩
                                          refine' DT.b rfl rfl rfl ?hq ?_
                                          case hq =>
                                            refine WO.load rfl rfl (Cell.own (Pick.tail (Pick.tail (Pick.head))) rfl) rfl ?_
                                            exact WO.nil ⟨rfl, rfl⟩
                                          refine' DT.r rfl rfl rfl ?hq ?_
                                          case hq =>
                                            refine' WO.len (n := _) rfl rfl ?hs rfl ?_
                                            case hs => (first | exact hR.sl)
                                            exact WO.nil ⟨rfl, rfl⟩
                                          refine DT.nil [_, _, _, _, _, _, _, _] rfl ?_
                                          refine WO.p rfl rfl ?_
                                          refine WO.nil ?_
                                          refine W.cond_bl rfl (fun c9 => ?_) (fun c9 => ?_)
                                          · first
                                            | (exfalso; omega)
                                            | (refine W.region ?_
                                               refine WO.p rfl rfl (WO.load rfl rfl (Cell.own (Pick.tail (Pick.tail (Pick.tail (Pick.head)))) rfl) rfl (WO.loadA rfl rfl (Cells.own (Pick.tail (Pick.head))) rfl rfl ?_))
                                               refine WO.mapGet (k := (i, a, b, s)) rfl rfl rfl rfl (by repeat (first | exact Pick.head | apply Pick.tail)) rfl ?_
                                               refine WO.min2 rfl rfl rfl ?_
                                               refine WO.p rfl rfl ?_
                                               refine WO.nil ?_
                                               have hok1 := hok.1
                                               have hok2 := hok.2.1
                                               have hok3 : a < w1 l i ∧ b < w2 l i ∧ s < 3 := hok.2.2
                                               simp only at hok1 hok2
                                               refine W.region ?_
                                               refine WO.p rfl rfl (WO.loadA rfl rfl (Cells.own (Pick.tail (Pick.head))) rfl rfl (WO.p rfl rfl ?_))
                                               refine WO.chg (satShut (Hs := CkP b3 b2 b6 mb (ckG1 F (i, a, b, s) g) (i, a, b, s) F) (.cons (by repeat (first | exact Pick.head | apply Pick.tail)) (.cons (by repeat (first | exact Pick.head | apply Pick.tail)) (.cons (by repeat (first | exact Pick.head | apply Pick.tail)) (.cons (by repeat (first | exact Pick.head | apply Pick.tail)) (Sub.refl _)))))) ?_
                                               refine WO.callH (Hp := [pt q (.cells #[v, .int .i64 t, .int .i64 1, .int .i64 t, dv] 81 (0, 0)), sat (CkP b3 b2 b6 mb (ckG1 F (i, a, b, s) g) (i, a, b, s) F)]) rfl Try.call47 (.cons (by repeat (first | exact Pick.head | apply Pick.tail)) (.cons (by repeat (first | exact Pick.head | apply Pick.tail)) (Sub.refl _))) (fun L u hi hB2 => c_leads _ u (pt q (.cells #[v, .int .i64 t, .int .i64 1, .int .i64 t, dv] 81 (0, 0))) ⟨q, 0, none⟩ v l t 1 t dv i a b s 48 [.pointer (some ⟨b3, 0, none⟩), .pointer (some ⟨b2, 0, none⟩), .pointer (some ⟨b6, 0, none⟩)] (fun c => sat (CkP b3 b2 b6 mb (ckGN 1 t l F (i, a, b, s) (ckG1 F (i, a, b, s) g) c) (i, a, b, s) F)) hB2 (hS.agree hi.keepB) hR.sl hg hC hok1 hok2 hok3.1 hok3.2.1 hok3.2.2 Try.call48 (fun c u2 hi1 hc hB3 hk3 => c_chk1 _ u2 b3 b2 b6 mb (ckGN 1 t l F (i, a, b, s) (ckG1 F (i, a, b, s) g) c) (stp 1 t s (dif l i a b c)) (i, a, b, s) F (i + 1) b c (sg s (dif l i a b c)) hB3 (hbd _) (costK_bd hg hC hok hi1 hc))) rfl ?_
                                               rintro _ _ ⟨_, rfl, rfl⟩
                                               refine WO.chg (satOpen (Hs := CkP b3 b2 b6 mb (ckGN 1 t l F (i, a, b, s) (ckG1 F (i, a, b, s) g) (lw l i)) (i, a, b, s) F) (by repeat (first | exact Pick.head | apply Pick.tail))) ?_
                                               refine WO.nil ?_
                                               refine W.region ?_
                                               refine WO.ar rfl rfl rfl (by (first | (unfold in64; omega) | (unfold in64; omega))) rfl (WO.p rfl rfl ?_)
                                               refine WO.nil ?_
                                               refine' ⟨j2 + 1, _, _, _, ?hp, ?hmu, ⟨rfl, rfl, rfl, rfl, rfl, rfl, rfl, rfl, rfl, trivial⟩, ?hS⟩
                                               case hS => repeat (first | exact Sub.nil | refine Sub.cons (by repeat (first | exact Pick.head | apply Pick.tail)) ?_)
                                               case hp => exact ⟨by omega, hgs.symm, by rw [hbs]; first | exact (if_pos (show i + 1 = l.length by omega)).symm | exact (if_neg (show ¬ i + 1 = l.length by omega)).symm⟩
                                               case hmu => omega)
                                          · first
                                            | (exfalso; omega)
                                            | (refine W.skip ?_
                                               have hok1 := hok.1
                                               have hok2 := hok.2.1
                                               have hok3 : a < w1 l i ∧ b < w2 l i ∧ s < 3 := hok.2.2
                                               simp only at hok1 hok2
                                               refine W.region ?_
                                               refine WO.p rfl rfl (WO.loadA rfl rfl (Cells.own (Pick.tail (Pick.head))) rfl rfl (WO.p rfl rfl ?_))
                                               refine WO.chg (satShut (Hs := CkP b3 b2 b6 mb (ckG1 F (i, a, b, s) g) (i, a, b, s) F) (.cons (by repeat (first | exact Pick.head | apply Pick.tail)) (.cons (by repeat (first | exact Pick.head | apply Pick.tail)) (.cons (by repeat (first | exact Pick.head | apply Pick.tail)) (.cons (by repeat (first | exact Pick.head | apply Pick.tail)) (Sub.refl _)))))) ?_
                                               refine WO.callH (Hp := [pt q (.cells #[v, .int .i64 t, .int .i64 1, .int .i64 t, dv] 81 (0, 0)), sat (CkP b3 b2 b6 mb (ckG1 F (i, a, b, s) g) (i, a, b, s) F)]) rfl Try.call47 (.cons (by repeat (first | exact Pick.head | apply Pick.tail)) (.cons (by repeat (first | exact Pick.head | apply Pick.tail)) (Sub.refl _))) (fun L u hi hB2 => c_leads _ u (pt q (.cells #[v, .int .i64 t, .int .i64 1, .int .i64 t, dv] 81 (0, 0))) ⟨q, 0, none⟩ v l t 1 t dv i a b s 48 [.pointer (some ⟨b3, 0, none⟩), .pointer (some ⟨b2, 0, none⟩), .pointer (some ⟨b6, 0, none⟩)] (fun c => sat (CkP b3 b2 b6 mb (ckGN 1 t l F (i, a, b, s) (ckG1 F (i, a, b, s) g) c) (i, a, b, s) F)) hB2 (hS.agree hi.keepB) hR.sl hg hC hok1 hok2 hok3.1 hok3.2.1 hok3.2.2 Try.call48 (fun c u2 hi1 hc hB3 hk3 => c_chk1 _ u2 b3 b2 b6 mb (ckGN 1 t l F (i, a, b, s) (ckG1 F (i, a, b, s) g) c) (stp 1 t s (dif l i a b c)) (i, a, b, s) F (i + 1) b c (sg s (dif l i a b c)) hB3 (hbd _) (costK_bd hg hC hok hi1 hc))) rfl ?_
                                               rintro _ _ ⟨_, rfl, rfl⟩
                                               refine WO.chg (satOpen (Hs := CkP b3 b2 b6 mb (ckGN 1 t l F (i, a, b, s) (ckG1 F (i, a, b, s) g) (lw l i)) (i, a, b, s) F) (by repeat (first | exact Pick.head | apply Pick.tail))) ?_
                                               refine WO.nil ?_
                                               refine W.region ?_
                                               refine WO.ar rfl rfl rfl (by (first | (unfold in64; omega) | (unfold in64; omega))) rfl (WO.p rfl rfl ?_)
                                               refine WO.nil ?_
                                               refine' ⟨j2 + 1, _, _, _, ?hp, ?hmu, ⟨rfl, rfl, rfl, rfl, rfl, rfl, rfl, rfl, rfl, trivial⟩, ?hS⟩
                                               case hS => repeat (first | exact Sub.nil | refine Sub.cons (by repeat (first | exact Pick.head | apply Pick.tail)) ?_)
                                               case hp => exact ⟨by omega, hgs.symm, by rw [hbs]; first | exact (if_pos (show i + 1 = l.length by omega)).symm | exact (if_neg (show ¬ i + 1 = l.length by omega)).symm⟩
                                               case hmu => omega)))
                                · first
                                  | (exfalso; omega)
                                  | (refine WO.no rfl rfl (WO.no rfl rfl (WO.no rfl rfl (WO.no rfl rfl (WO.p rfl rfl ?_))))
                                     refine WO.nil ?_
                                     refine W.cond_f rfl ?_
                                     refine W.skip ?_
                                     refine W.seq ?_
                                     refine W.seq ?_
                                     have hgg1 : ∀ z, z = bl (ckG1 F (i, a, b, s) g = true) → [Value.bool z] = [Value.bool (bl (ckG1 F (i, a, b, s) g = true))] := fun z h => by rw [h]
                                     refine W.chg (ptEq (b := b3) (cs' := [.bool (bl (ckG1 F (i, a, b, s) g = true))]) (by repeat (first | exact Pick.head | apply Pick.tail)) (by first | exact hgg1 _ (ckA ⟨show i = 1 by omega, show s = 0 by omega⟩ (by assumption)) | exact hgg1 _ (ckA' ⟨show i = 1 by omega, show s = 0 by omega⟩ (by assumption)) | exact hgg1 _ (ckC (fun h => by have h1 : i = 1 := h.1; have h2 : s = 0 := h.2; omega)))) ?_
                                     refine W.drawD 9 [.r 0 [], .b 1 [], .r 2 [], .r 3 [], .r 4 [], .r 5 [], .r 6 [], .b 7 [], .r 8 []] [] (A0 := []) (Sub.refl _) (by kernel_rfl) ?_ ?_
                                     · exact (ALok.r (ALok.b (ALok.r (ALok.r (ALok.r (ALok.r (ALok.r (ALok.b (ALok.r ALok.nil)))))))))
                                     refine' DT.r rfl rfl rfl ?hq ?_
                                     case hq =>
                                       refine WO.field0 rfl rfl rfl ?_
                                       exact WO.nil ⟨rfl, rfl⟩
                                     refine' DT.b rfl rfl rfl ?hq ?_
                                     case hq =>
                                       refine WO.load rfl rfl (Cell.own (Pick.tail (Pick.head)) rfl) rfl ?_
                                       exact WO.nil ⟨rfl, rfl⟩
                                     refine' DT.r rfl rfl rfl ?hq ?_
                                     case hq =>
                                       refine WO.ar rfl rfl rfl (by (first | (unfold in64; omega) | (unfold in64; omega))) rfl ?_
                                       exact WO.nil ⟨rfl, rfl⟩
                                     refine' DT.r rfl rfl rfl ?hq ?_
                                     case hq =>
                                       refine WO.p rfl rfl ?_
                                       exact WO.nil ⟨rfl, rfl⟩
                                     refine' DT.r rfl rfl rfl ?hq ?_
                                     case hq =>
                                       refine WO.p rfl rfl ?_
                                       exact WO.nil ⟨rfl, rfl⟩
                                     refine' DT.r rfl rfl rfl ?hq ?_
                                     case hq =>
                                       refine WO.field0 rfl rfl rfl ?_
                                       exact WO.nil ⟨rfl, rfl⟩
                                     refine' DT.r rfl rfl rfl ?hq ?_
                                     case hq =>
                                       refine WO.field0 rfl rfl rfl ?_
                                       exact WO.nil ⟨rfl, rfl⟩
                                     refine' DT.b rfl rfl rfl ?hq ?_
                                     case hq =>
                                       refine WO.load rfl rfl (Cell.own (Pick.tail (Pick.tail (Pick.head))) rfl) rfl ?_
                                       exact WO.nil ⟨rfl, rfl⟩
                                     refine' DT.r rfl rfl rfl ?hq ?_
                                     case hq =>
                                       refine' WO.len (n := _) rfl rfl ?hs rfl ?_
                                       case hs => (first | exact hR.sl)
                                       exact WO.nil ⟨rfl, rfl⟩
                                     refine DT.nil [_, _, _, _, _, _, _, _] rfl ?_
                                     refine WO.p rfl rfl ?_
                                     refine WO.nil ?_
                                     refine W.cond_bl rfl (fun c8 => ?_) (fun c8 => ?_)
                                     · first
                                       | (exfalso; omega)
                                       | (refine W.region ?_
                                          refine WO.p rfl rfl (WO.load rfl rfl (Cell.own (Pick.tail (Pick.tail (Pick.tail (Pick.head)))) rfl) rfl (WO.loadA rfl rfl (Cells.own (Pick.tail (Pick.head))) rfl rfl ?_))
                                          refine WO.mapGet (k := (i, a, b, s)) rfl rfl rfl rfl (by repeat (first | exact Pick.head | apply Pick.tail)) rfl ?_
                                          refine WO.min2 rfl rfl rfl ?_
                                          refine WO.p rfl rfl ?_
                                          refine WO.nil ?_
                                          have hok1 := hok.1
                                          have hok2 := hok.2.1
                                          have hok3 : a < w1 l i ∧ b < w2 l i ∧ s < 3 := hok.2.2
                                          simp only at hok1 hok2
                                          refine W.region ?_
                                          refine WO.p rfl rfl (WO.loadA rfl rfl (Cells.own (Pick.tail (Pick.head))) rfl rfl (WO.p rfl rfl ?_))
                                          refine WO.chg (satShut (Hs := CkP b3 b2 b6 mb (ckG1 F (i, a, b, s) g) (i, a, b, s) F) (.cons (by repeat (first | exact Pick.head | apply Pick.tail)) (.cons (by repeat (first | exact Pick.head | apply Pick.tail)) (.cons (by repeat (first | exact Pick.head | apply Pick.tail)) (.cons (by repeat (first | exact Pick.head | apply Pick.tail)) (Sub.refl _)))))) ?_
                                          refine WO.callH (Hp := [pt q (.cells #[v, .int .i64 t, .int .i64 1, .int .i64 t, dv] 81 (0, 0)), sat (CkP b3 b2 b6 mb (ckG1 F (i, a, b, s) g) (i, a, b, s) F)]) rfl Try.call47 (.cons (by repeat (first | exact Pick.head | apply Pick.tail)) (.cons (by repeat (first | exact Pick.head | apply Pick.tail)) (Sub.refl _))) (fun L u hi hB2 => c_leads _ u (pt q (.cells #[v, .int .i64 t, .int .i64 1, .int .i64 t, dv] 81 (0, 0))) ⟨q, 0, none⟩ v l t 1 t dv i a b s 48 [.pointer (some ⟨b3, 0, none⟩), .pointer (some ⟨b2, 0, none⟩), .pointer (some ⟨b6, 0, none⟩)] (fun c => sat (CkP b3 b2 b6 mb (ckGN 1 t l F (i, a, b, s) (ckG1 F (i, a, b, s) g) c) (i, a, b, s) F)) hB2 (hS.agree hi.keepB) hR.sl hg hC hok1 hok2 hok3.1 hok3.2.1 hok3.2.2 Try.call48 (fun c u2 hi1 hc hB3 hk3 => c_chk1 _ u2 b3 b2 b6 mb (ckGN 1 t l F (i, a, b, s) (ckG1 F (i, a, b, s) g) c) (stp 1 t s (dif l i a b c)) (i, a, b, s) F (i + 1) b c (sg s (dif l i a b c)) hB3 (hbd _) (costK_bd hg hC hok hi1 hc))) rfl ?_
                                          rintro _ _ ⟨_, rfl, rfl⟩
                                          refine WO.chg (satOpen (Hs := CkP b3 b2 b6 mb (ckGN 1 t l F (i, a, b, s) (ckG1 F (i, a, b, s) g) (lw l i)) (i, a, b, s) F) (by repeat (first | exact Pick.head | apply Pick.tail))) ?_
                                          refine WO.nil ?_
                                          refine W.region ?_
                                          refine WO.ar rfl rfl rfl (by (first | (unfold in64; omega) | (unfold in64; omega))) rfl (WO.p rfl rfl ?_)
                                          refine WO.nil ?_
                                          refine' ⟨j2 + 1, _, _, _, ?hp, ?hmu, ⟨rfl, rfl, rfl, rfl, rfl, rfl, rfl, rfl, rfl, trivial⟩, ?hS⟩
                                          case hS => repeat (first | exact Sub.nil | refine Sub.cons (by repeat (first | exact Pick.head | apply Pick.tail)) ?_)
                                          case hp => exact ⟨by omega, hgs.symm, by rw [hbs]; first | exact (if_pos (show i + 1 = l.length by omega)).symm | exact (if_neg (show ¬ i + 1 = l.length by omega)).symm⟩
                                          case hmu => omega)
                                     · first
                                       | (exfalso; omega)
                                       | (refine W.skip ?_
                                          have hok1 := hok.1
                                          have hok2 := hok.2.1
                                          have hok3 : a < w1 l i ∧ b < w2 l i ∧ s < 3 := hok.2.2
                                          simp only at hok1 hok2
                                          refine W.region ?_
                                          refine WO.p rfl rfl (WO.loadA rfl rfl (Cells.own (Pick.tail (Pick.head))) rfl rfl (WO.p rfl rfl ?_))
                                          refine WO.chg (satShut (Hs := CkP b3 b2 b6 mb (ckG1 F (i, a, b, s) g) (i, a, b, s) F) (.cons (by repeat (first | exact Pick.head | apply Pick.tail)) (.cons (by repeat (first | exact Pick.head | apply Pick.tail)) (.cons (by repeat (first | exact Pick.head | apply Pick.tail)) (.cons (by repeat (first | exact Pick.head | apply Pick.tail)) (Sub.refl _)))))) ?_
                                          refine WO.callH (Hp := [pt q (.cells #[v, .int .i64 t, .int .i64 1, .int .i64 t, dv] 81 (0, 0)), sat (CkP b3 b2 b6 mb (ckG1 F (i, a, b, s) g) (i, a, b, s) F)]) rfl Try.call47 (.cons (by repeat (first | exact Pick.head | apply Pick.tail)) (.cons (by repeat (first | exact Pick.head | apply Pick.tail)) (Sub.refl _))) (fun L u hi hB2 => c_leads _ u (pt q (.cells #[v, .int .i64 t, .int .i64 1, .int .i64 t, dv] 81 (0, 0))) ⟨q, 0, none⟩ v l t 1 t dv i a b s 48 [.pointer (some ⟨b3, 0, none⟩), .pointer (some ⟨b2, 0, none⟩), .pointer (some ⟨b6, 0, none⟩)] (fun c => sat (CkP b3 b2 b6 mb (ckGN 1 t l F (i, a, b, s) (ckG1 F (i, a, b, s) g) c) (i, a, b, s) F)) hB2 (hS.agree hi.keepB) hR.sl hg hC hok1 hok2 hok3.1 hok3.2.1 hok3.2.2 Try.call48 (fun c u2 hi1 hc hB3 hk3 => c_chk1 _ u2 b3 b2 b6 mb (ckGN 1 t l F (i, a, b, s) (ckG1 F (i, a, b, s) g) c) (stp 1 t s (dif l i a b c)) (i, a, b, s) F (i + 1) b c (sg s (dif l i a b c)) hB3 (hbd _) (costK_bd hg hC hok hi1 hc))) rfl ?_
                                          rintro _ _ ⟨_, rfl, rfl⟩
                                          refine WO.chg (satOpen (Hs := CkP b3 b2 b6 mb (ckGN 1 t l F (i, a, b, s) (ckG1 F (i, a, b, s) g) (lw l i)) (i, a, b, s) F) (by repeat (first | exact Pick.head | apply Pick.tail))) ?_
                                          refine WO.nil ?_
                                          refine W.region ?_
                                          refine WO.ar rfl rfl rfl (by (first | (unfold in64; omega) | (unfold in64; omega))) rfl (WO.p rfl rfl ?_)
                                          refine WO.nil ?_
                                          refine' ⟨j2 + 1, _, _, _, ?hp, ?hmu, ⟨rfl, rfl, rfl, rfl, rfl, rfl, rfl, rfl, rfl, trivial⟩, ?hS⟩
                                          case hS => repeat (first | exact Sub.nil | refine Sub.cons (by repeat (first | exact Pick.head | apply Pick.tail)) ?_)
                                          case hp => exact ⟨by omega, hgs.symm, by rw [hbs]; first | exact (if_pos (show i + 1 = l.length by omega)).symm | exact (if_neg (show ¬ i + 1 = l.length by omega)).symm⟩
                                          case hmu => omega)))
                           · first
                             | (exfalso; omega)
                             | (refine W.exit (blk_same ?_)
                                refine W.seq ?_
                                obtain rfl : j2 = (allL l).length := by omega
                                refine W.sreg ?_
                                refine WO.load rfl rfl (Cell.own (Pick.tail (Pick.tail (Pick.head))) rfl) rfl (WO.p rfl rfl ?_)
                                refine WO.nil ?_
                                refine W.cond_nbl rfl (fun c7 => ?_) (fun c7 => ?_)
                                · first
                                  | (exfalso; omega)
                                  | (refine W.sreg ?_
                                     refine WO.p rfl rfl (WO.p rfl rfl ?_)
                                     refine WO.nil ?_
                                     refine W.ret ?_
                                     first | (obtain ⟨e1, e2⟩ := lk0 (labs := labs) c1; rw [e1, e2]; exact fin.ret (Res.two rfl (RV.tmp rfl) (RV.tmp rfl)) rfl) | (obtain ⟨e1, e2⟩ := lk1 (l := l) (t := t) (labs := labs) (by omega) (by omega); rw [e1, e2]; exact fin.ret (Res.two rfl (RV.tmp rfl) (RV.tmp rfl)) rfl) | (obtain ⟨e1, e2⟩ := lk2 (l := l) (t := t) (labs := labs) (by omega) (by omega) (by assumption); rw [e1, e2]; exact fin.ret (Res.two rfl (RV.tmp rfl) (RV.tmp rfl)) rfl) | (obtain ⟨e1, e2⟩ := lk3 (l := l) (t := t) (labs := labs) (by omega) (by omega) (by assumption) (by omega); rw [e1, e2]; exact fin.ret (Res.two rfl (RV.tmp rfl) (RV.tmp rfl)) rfl) | (obtain ⟨e1, e2⟩ := lk4 hc0 hc2 c3 hc4 (hgg ▸ (by assumption)); rw [e1, e2, ← hbb]; exact fin.ret (Res.two rfl (RV.tmp rfl) (RV.tmp rfl)) rfl) | (obtain ⟨e1, e2⟩ := lk5 hc0 hc2 c3 hc4 (hgg ▸ (by assumption)); rw [e1, e2]; exact fin.ret (Res.two rfl (RV.tmp rfl) (RV.tmp rfl)) rfl))
                                · first
                                  | (exfalso; omega)
                                  | (refine W.skip ?_
                                     refine W.sreg ?_
                                     refine WO.p rfl rfl (WO.p rfl rfl (WO.p rfl rfl ?_))
                                     refine WO.nil ?_
                                     refine W.ret ?_
                                     first | (obtain ⟨e1, e2⟩ := lk0 (labs := labs) c1; rw [e1, e2]; exact fin.ret (Res.two rfl (RV.tmp rfl) (RV.tmp rfl)) rfl) | (obtain ⟨e1, e2⟩ := lk1 (l := l) (t := t) (labs := labs) (by omega) (by omega); rw [e1, e2]; exact fin.ret (Res.two rfl (RV.tmp rfl) (RV.tmp rfl)) rfl) | (obtain ⟨e1, e2⟩ := lk2 (l := l) (t := t) (labs := labs) (by omega) (by omega) (by assumption); rw [e1, e2]; exact fin.ret (Res.two rfl (RV.tmp rfl) (RV.tmp rfl)) rfl) | (obtain ⟨e1, e2⟩ := lk3 (l := l) (t := t) (labs := labs) (by omega) (by omega) (by assumption) (by omega); rw [e1, e2]; exact fin.ret (Res.two rfl (RV.tmp rfl) (RV.tmp rfl)) rfl) | (obtain ⟨e1, e2⟩ := lk4 hc0 hc2 c3 hc4 (hgg ▸ (by assumption)); rw [e1, e2, ← hbb]; exact fin.ret (Res.two rfl (RV.tmp rfl) (RV.tmp rfl)) rfl) | (obtain ⟨e1, e2⟩ := lk5 hc0 hc2 c3 hc4 (hgg ▸ (by assumption)); rw [e1, e2]; exact fin.ret (Res.two rfl (RV.tmp rfl) (RV.tmp rfl)) rfl))))))))
end Go.Proofs.Ytpecakgebhmnfaa
namespace Go.Proofs.Ytpecakgebhmnfaa
open Go Go.TH
attribute [local irreducible] W WO pt
set_option maxRecDepth 10000
set_option maxHeartbeats 1000000
abbrev Rs := Nat × Int × Int × Nat
def encRs (k : Rs) : List Value := [.int .i64 (k.1 : Int), .int .i64 k.2.1, .int .i64 k.2.2.1, .int .i64 (k.2.2.2 : Int)]
theorem encRs_ok : EncOk encRs 4 := ⟨fun _ => rfl, fun x u hu => by simp [encRs] at hu; rcases hu with rfl | rfl | rfl | rfl <;> rfl, by omega⟩
/-- a state with its offsets -/
def rsK (l : List (Int × Int)) (k : Sk) : Rs := (k.1, (l.getD (k.1 - 1) (0, 0)).1 + k.2.1, (l.getD k.1 (0, 0)).1 + k.2.2.1, k.2.2.2)
def allR (l : List (Int × Int)) : List Rs := (allL l).map (rsK l)
theorem allR_len (l : List (Int × Int)) : (allR l).length = (allL l).length := by simp [allR]
theorem allR_get {l : List (Int × Int)} {j : Nat} {k : Sk} (h : (allL l)[j]? = some k) : (allR l)[j]? = some (rsK l k) := by unfold allR; rw [List.getElem?_map, h]; rfl
theorem RdF.hiZ {C : Cx Try.prog} {H : List HP} {v : Value} {l : List (Int × Int)} (h : RdF encP 2 C.B C.w0 v l) {i j : Nat} (hi : i < l.length) (hj : j = i) : Cell C H (prt (elt v j 2) 1) (.int .i64 (l.getD i (0, 0)).2) := by
  subst hj
  exact h.cellAt hi (0, 0) rfl
end Go.Proofs.Ytpecakgebhmnfaa
namespace Go.Proofs.Ytpecakgebhmnfaa
open Go Go.TH
attribute [local irreducible] W WO pt
set_option maxRecDepth 10000
set_option maxHeartbeats 1000000
def ldD (p q : Rs) : Int := p.2.1 - 2 * p.2.2.1 + q.2.2.1
def ldR (t : Int) (p q : Rs) : Option Int := if q.1 ≠ p.1 + 1 ∨ q.2.1 ≠ p.2.2.1 then none else if q.2.2.2 ≠ sg p.2.2.2 (ldD p q) then none else some (stp 1 t p.2.2.2 (ldD p q))
theorem ld_none1 {t : Int} {p q : Rs} (h : q.1 ≠ p.1 + 1 ∨ q.2.1 ≠ p.2.2.1) : ldR t p q = none := if_pos h
theorem ld_none2 {t : Int} {p q : Rs} {z : Nat} (h : ¬ (q.1 ≠ p.1 + 1 ∨ q.2.1 ≠ p.2.2.1)) (hz : sg p.2.2.2 (ldD p q) = z) (h2 : q.2.2.2 ≠ z) : ldR t p q = none := by
  unfold ldR; rw [if_neg h, hz, if_pos h2]
theorem ld_some {t : Int} {p q : Rs} {z c : Nat} (h : ¬ (q.1 ≠ p.1 + 1 ∨ q.2.1 ≠ p.2.2.1)) (hz : sg p.2.2.2 (ldD p q) = z) (h2 : ¬ q.2.2.2 ≠ z) (hc : chg p.2.2.2 (ldD p q) = c) : ldR t p q = some (ab (ldD p q) + t * (c : Int)) := by
  unfold ldR; rw [if_neg h, hz, if_neg h2]
  unfold stp; rw [hc, Int.one_mul]
theorem chg_1 {s : Nat} {d : Int} {z : Nat} (hz : sg s d = z) (h : s ≠ 0 ∧ z ≠ s) : chg s d = 1 := by unfold chg; rw [hz, if_pos h]
theorem chg_0 {s : Nat} {d : Int} {z : Nat} (hz : sg s d = z) (h : ¬ (s ≠ 0 ∧ z ≠ s)) : chg s d = 0 := by unfold chg; rw [hz, if_neg h]
theorem sg_nz {s : Nat} {d : Int} (h : s ≠ 0) : sg s d ≠ 0 := by unfold sg; split; omega; split <;> omega
end Go.Proofs.Ytpecakgebhmnfaa
namespace Go.Proofs.Ytpecakgebhmnfaa
open Go Go.TH
attribute [local irreducible] W WO pt
theorem pw_stK (l : List (Int × Int)) (i : Nat) : (stK l i).Pairwise (fun a b => a ≠ b ∧ a.1 ≤ b.1) := by
  rw [List.pairwise_iff_getElem]
  intro p q hp hq hpq
  have gp := List.getElem?_eq_getElem hp
  have gq := List.getElem?_eq_getElem hq
  refine ⟨fun e => ?_, ?_⟩
  · unfold stK at gp gq
    rw [List.getElem?_map] at gp gq
    cases xp : (stL l i)[p]? with
    | none => rw [xp] at gp; simp at gp
    | some x =>
      cases xq : (stL l i)[q]? with
      | none => rw [xq] at gq; simp at gq
      | some y =>
        rw [xp] at gp
        rw [xq] at gq
        have ep := stL_some xp
        have eq := stL_some xq
        have h1 := Option.some.inj gp
        have h2 := Option.some.inj gq
        have h3 : (i, x.1, x.2.1, x.2.2) = (i, y.1, y.2.1, y.2.2) := h1.trans (by unfold stK at e; rw [e]; exact h2.symm)
        injection h3 with _ h3
        injection h3 with e1 h3
        injection h3 with e2 e3
        have a1 := ep.2.2.2
        have a2 := eq.2.2.2
        rw [e1, e2, e3] at a1
        omega
  · have m1 := (mem_stK.1 (List.getElem_mem hp)).1
    have m2 := (mem_stK.1 (List.getElem_mem hq)).1
    omega
theorem pw_allTo (l : List (Int × Int)) : ∀ i, (allTo l i).Pairwise (fun a b => a ≠ b ∧ a.1 ≤ b.1)
  | 0 => by unfold allTo; exact List.Pairwise.nil
  | 1 => by unfold allTo; exact List.Pairwise.nil
  | i + 2 => by
    unfold allTo
    rw [List.pairwise_append]
    refine ⟨pw_allTo l (i + 1), pw_stK l (i + 1), fun a ha b hb => ?_⟩
    have h1 := (mem_allTo.1 ha).2.1
    have h2 := (mem_stK.1 hb).1
    exact ⟨fun e => by subst e; omega, by omega⟩
theorem all_lt {l : List (Int × Int)} {i j : Nat} {k k' : Sk} (h1 : (allL l)[i]? = some k) (h2 : (allL l)[j]? = some k') (h : i < j) : k ≠ k' ∧ k.1 ≤ k'.1 := by
  have hp := pw_allTo l l.length
  rw [List.pairwise_iff_getElem] at hp
  obtain ⟨x1, y1⟩ := List.getElem?_eq_some_iff.1 h1
  obtain ⟨x2, y2⟩ := List.getElem?_eq_some_iff.1 h2
  have := hp i j x1 x2 h
  unfold allL at y1 y2
  rw [y1, y2] at this
  exact this
theorem all_inj {l : List (Int × Int)} {i j : Nat} {k : Sk} (h1 : (allL l)[i]? = some k) (h2 : (allL l)[j]? = some k) : i = j := by
  rcases Nat.lt_trichotomy i j with h | h | h
  · exact absurd rfl (all_lt h1 h2 h).1
  · exact h
  · exact absurd rfl (all_lt h2 h1 h).1
theorem all_mono {l : List (Int × Int)} {i j : Nat} {k k' : Sk} (h1 : (allL l)[i]? = some k) (h2 : (allL l)[j]? = some k') (h : i ≤ j) : k.1 ≤ k'.1 := by
  rcases Nat.lt_or_ge i j with g | g
  · exact (all_lt h1 h2 g).2
  · obtain rfl : i = j := by omega
    rw [h1] at h2; cases h2; exact Nat.le_refl _
theorem all_lt_of {l : List (Int × Int)} {i j : Nat} {k k' : Sk} (h1 : (allL l)[i]? = some k) (h2 : (allL l)[j]? = some k') (h : k.1 < k'.1) : i < j := by
  rcases Nat.lt_or_ge i j with g | g
  · exact g
  · have := all_mono h2 h1 g; omega
theorem toK_ok {l : List (Int × Int)} (hg : OkS l) {k : Sk} (hk : OkK l k) {c : Nat} (hc : c < lw l k.1) : OkK l (toK l k c) := by
  have h1 := lw_lt hk.2.1 hc
  unfold toK OkK
  refine ⟨by simp, h1.1, ?_, h1.2, sg_lt hk.2.2.2.2⟩
  have := hk.2.2.2.1
  unfold w1
  unfold w2 at this
  simpa using this
theorem ldD_to {l : List (Int × Int)} {k k' : Sk} (h : k'.1 = k.1 + 1) : ldD (rsK l k) (rsK l k') = dif l k.1 k.2.1 k.2.2.1 k'.2.2.1 := by
  unfold ldD rsK dif
  rw [h]
theorem ld_iff {l : List (Int × Int)} (hg : OkS l) {t : Int} {k k' : Sk} (hk : OkK l k) (hk' : OkK l k') {z : Int} : ldR t (rsK l k) (rsK l k') = some z ↔ ∃ c, c < lw l k.1 ∧ k' = toK l k c ∧ z = costK 1 t l k c := by
  constructor
  · intro h
    unfold ldR at h
    split at h
    · cases h
    · rename_i h1
      split at h
      · cases h
      · rename_i h2
        have e1 : k'.1 = k.1 + 1 := by
          rcases Nat.decEq k'.1 (k.1 + 1) with g | g
          · exact absurd (.inl g) h1
          · exact g
        have e2 : (rsK l k').2.1 = (rsK l k).2.2.1 := by
          rcases Decidable.em ((rsK l k').2.1 = (rsK l k).2.2.1) with g | g
          · exact g
          · exact absurd (.inr g) h1
        have e3 : k'.2.1 = k.2.2.1 := by
          unfold rsK at e2
          simp only [e1, Nat.add_sub_cancel] at e2
          omega
        have hd := ldD_to (l := l) e1
        have e4 : k'.2.2.2 = sg k.2.2.2 (dif l k.1 k.2.1 k.2.2.1 k'.2.2.1) := by
          rw [← hd]
          rcases Nat.decEq k'.2.2.2 (sg k.2.2.2 (ldD (rsK l k) (rsK l k'))) with g | g
          · exact absurd g h2
          · exact g
        have hn : ¬ k.1 + 1 = l.length := by have := hk'.2.1; omega
        refine ⟨k'.2.2.1, ?_, ?_, ?_⟩
        · rw [lw_other hn]
          have := hk'.2.2.2.1
          rwa [e1] at this
        · unfold toK
          rw [← e4, ← e3, ← e1]
        · have := Option.some.inj h
          rw [← this, hd]; rfl
  · rintro ⟨c, hc, rfl, rfl⟩
    have hd := ldD_to (l := l) (k := k) (k' := toK l k c) rfl
    unfold ldR
    rw [if_neg, if_neg]
    · rw [hd]; rfl
    · rw [hd]
      exact fun h => h rfl
    · rintro (h | h)
      · exact h rfl
      · refine h ?_
        unfold rsK toK
        simp
theorem toK_inj {l : List (Int × Int)} {k : Sk} {c c' : Nat} (h : toK l k c = toK l k c') : c = c' := by
  unfold toK at h
  injection h with _ h
  injection h with _ h
  injection h with h _
end Go.Proofs.Ytpecakgebhmnfaa
namespace Go.Proofs.Ytpecakgebhmnfaa
open Go Go.TH
attribute [local irreducible] W WO pt
set_option maxRecDepth 10000
set_option maxHeartbeats 1000000
def kAt (l : List (Int × Int)) (i : Nat) : Sk := (allL l).getD i (0, 0, 0, 0)
theorem kAt_get {l : List (Int × Int)} {i : Nat} (h : i < (allL l).length) : (allL l)[i]? = some (kAt l i) := by
  unfold kAt; rw [List.getD_eq_getElem?_getD, List.getElem?_eq_getElem h]; rfl
theorem kAt_ok {l : List (Int × Int)} {i : Nat} (h : i < (allL l).length) : OkK l (kAt l i) := mem_all.1 (List.mem_of_getElem? (kAt_get h))
theorem kAt_bd {l : List (Int × Int)} (hg : OkS l) {k : Sk} (h : OkK l k) : (-2000000 ≤ (rsK l k).2.1 ∧ (rsK l k).2.1 ≤ 2000000) ∧ (-2000000 ≤ (rsK l k).2.2.1 ∧ (rsK l k).2.2.1 ≤ 2000000) := by
  have h0 := h.2.1
  have h1 := hg _ (getD_mem (i := k.1 - 1) (by omega) (0, 0))
  have h2 := hg _ (getD_mem (i := k.1) (by omega) (0, 0))
  have hw := w_le hg h.2.1
  have h3 := h.2.2.1
  have h4 := h.2.2.2.1
  unfold OkG at h1 h2
  unfold rsK
  simp only
  omega
section
variable {C : Cx Try.prog} {H : List HP} {v : Value} {l : List (Int × Int)} {j : Nat}
theorem OwR.cells (sb : Sub H [OwE encRs 87 4 v (allR l)]) (hj : j < (allL l).length) : Cells C H (elt v j 4) (encRs (rsK l (kAt l j))) := by
  cases sb with | cons p _ =>
  have h := OwE.cells (C := C) encRs_ok p (i := j) (by rw [allR_len]; exact hj) (0, 0, 0, 0)
  rw [List.getD_eq_getElem?_getD, allR_get (kAt_get hj)] at h
  exact h
theorem OwR.c0 (sb : Sub H [OwE encRs 87 4 v (allR l)]) (hj : j < (allL l).length) : Cell C H (elt v j 4) (.int .i64 ((kAt l j).1 : Int)) := by
  cases sb with | cons p _ =>
  refine OwE.cell0 (C := C) encRs_ok p (i := j) (by rw [allR_len]; exact hj) (0, 0, 0, 0) ?_
  rw [List.getD_eq_getElem?_getD, allR_get (kAt_get hj)]
  rfl
theorem OwR.c3 (sb : Sub H [OwE encRs 87 4 v (allR l)]) (hj : j < (allL l).length) : Cell C H (prt (elt v j 4) 3) (.int .i64 ((kAt l j).2.2.2 : Int)) := by
  cases sb with | cons p _ =>
  refine OwE.cellAt (C := C) encRs_ok p (i := j) (by rw [allR_len]; exact hj) (0, 0, 0, 0) ?_
  rw [List.getD_eq_getElem?_getD, allR_get (kAt_get hj)]
  rfl
end
theorem bl_isSome {x : Option Int} : bl (x.isSome = true) = x.isSome := by rw [bl_eq]; simp
def ldAt (l : List (Int × Int)) (t : Int) (i K : Nat) : Option Int := ldR t (rsK l (kAt l i)) (rsK l (kAt l K))
def rS (l : List (Int × Int)) (t : Int) (i K : Nat) (out : List Int) : List Int := if (ldAt l t i K).isSome = true ∧ out.getD i 0 < 1099511627776 then out.set K (min (out.getD K 0) (out.getD i 0 + (ldAt l t i K).getD 0)) else out
def rN (l : List (Int × Int)) (t : Int) (i : Nat) (out : List Int) : Nat → List Int
  | 0 => out
  | d + 1 => rS l t i (i + 1 + d) (rN l t i out d)
def iniK (k : Sk) : Int := if k.1 = 1 ∧ k.2.2.2 = 0 then 0 else 1099511627776
def iniL (l : List (Int × Int)) : List Int := (allL l).map iniK
def refTo (l : List (Int × Int)) (t : Int) : Nat → List Int
  | 0 => iniL l
  | i + 1 => rN l t i (refTo l t i) ((allL l).length - (i + 1))
def rlL (l : List (Int × Int)) (t : Int) : List Int := refTo l t (allL l).length
def BdL (n : Nat) (out : List Int) : Prop := out.length = n ∧ ∀ j, 0 ≤ out.getD j 0 ∧ out.getD j 0 ≤ 1099511627776
theorem getD_set {out : List Int} {K j : Nat} {x : Int} (hK : K < out.length) : (out.set K x).getD j 0 = if j = K then x else out.getD j 0 := by
  rw [List.getD_eq_getElem?_getD, List.getElem?_set]
  by_cases e : K = j
  · subst e; rw [if_pos rfl, if_pos hK, if_pos rfl]; rfl
  · rw [if_neg e, if_neg (fun h => e h.symm), List.getD_eq_getElem?_getD]
theorem BdL.set {n : Nat} {out : List Int} (h : BdL n out) {K : Nat} {x : Int} (hK : K < n) (hx : 0 ≤ x ∧ x ≤ 1099511627776) : BdL n (out.set K x) := by
  refine ⟨by rw [List.length_set]; exact h.1, fun j => ?_⟩
  rw [getD_set (by rw [h.1]; exact hK)]
  split
  · exact hx
  · exact h.2 j
theorem ldAt_bd {l : List (Int × Int)} (hg : OkS l) {t : Int} (hC : OkC 1 t) {i K : Nat} (hi : i < (allL l).length) (hK : K < (allL l).length) : 0 ≤ (ldAt l t i K).getD 0 ∧ (ldAt l t i K).getD 0 ≤ 6000000 := by
  cases h : ldAt l t i K with
  | none => simp
  | some z =>
    obtain ⟨c, hc, e, rfl⟩ := (ld_iff hg (kAt_ok hi) (kAt_ok hK)).1 h
    have h1 := lw_lt (kAt_ok hi).2.1 hc
    exact costK_bd hg hC (kAt_ok hi) h1.1 h1.2
theorem BdL.step {l : List (Int × Int)} (hg : OkS l) {t : Int} (hC : OkC 1 t) {i K : Nat} (hi : i < (allL l).length) (hK : K < (allL l).length) {out : List Int} (h : BdL (allL l).length out) : BdL (allL l).length (rS l t i K out) := by
  unfold rS
  split
  · have h1 := h.2 i
    have h2 := h.2 K
    have h3 := ldAt_bd hg hC hi hK
    exact h.set hK (by omega)
  · exact h
theorem BdL.n {l : List (Int × Int)} (hg : OkS l) {t : Int} (hC : OkC 1 t) {i : Nat} (hi : i < (allL l).length) {out : List Int} (h : BdL (allL l).length out) : ∀ {d : Nat}, i + 1 + d ≤ (allL l).length → BdL (allL l).length (rN l t i out d)
  | 0, _ => h
  | d + 1, hd => (BdL.n hg hC hi h (d := d) (by omega)).step hg hC hi (by omega)
theorem iniL_len (l : List (Int × Int)) : (iniL l).length = (allL l).length := by simp [iniL]
theorem iniL_get {l : List (Int × Int)} {j : Nat} (h : j < (allL l).length) : (iniL l).getD j 0 = iniK (kAt l j) := by
  unfold iniL
  rw [List.getD_eq_getElem?_getD, List.getElem?_map, kAt_get h]; rfl
theorem iniK_bd (k : Sk) : 0 ≤ iniK k ∧ iniK k ≤ 1099511627776 := by unfold iniK; split <;> omega
theorem iniL_bd (l : List (Int × Int)) : BdL (allL l).length (iniL l) := ⟨iniL_len l, fun j => by
  rcases Nat.lt_or_ge j (allL l).length with h | h
  · rw [iniL_get h]; exact iniK_bd _
  · rw [List.getD_eq_getElem?_getD, List.getElem?_eq_none (by rw [iniL_len]; exact h)]; simp⟩
theorem refTo_bd {l : List (Int × Int)} (hg : OkS l) {t : Int} (hC : OkC 1 t) : ∀ {i : Nat}, i ≤ (allL l).length → BdL (allL l).length (refTo l t i)
  | 0, _ => iniL_bd l
  | i + 1, h => BdL.n hg hC (by omega) (refTo_bd hg hC (i := i) (by omega)) (by omega)
theorem rN_stop {l : List (Int × Int)} {t : Int} {i : Nat} {out : List Int} {d : Nat} (hi : i < (allL l).length) (hd : i + 1 + d ≤ (allL l).length) (hs : i + 1 + d < (allL l).length → ¬ (kAt l (i + 1 + d)).1 ≤ (kAt l i).1 + 1) : ∀ e, i + 1 + d + e ≤ (allL l).length → rN l t i out (d + e) = rN l t i out d
  | 0, _ => rfl
  | e + 1, h => by
    have ih := rN_stop (t := t) (out := out) hi hd hs e (by omega)
    show rS l t i (i + 1 + (d + e)) (rN l t i out (d + e)) = _
    rw [ih]
    unfold rS
    refine if_neg fun x => ?_
    have h1 := hs (by omega)
    have h2 := all_mono (kAt_get (l := l) (i := i + 1 + d) (by omega)) (kAt_get (l := l) (i := i + 1 + (d + e)) (by omega)) (by omega)
    have h3 : ldAt l t i (i + 1 + (d + e)) = none := ld_none1 (.inl (by show (kAt l _).1 ≠ (kAt l i).1 + 1; omega))
    rw [h3] at x
    cases x.1
theorem refTo_succ {l : List (Int × Int)} {t : Int} {i d : Nat} (hi : i < (allL l).length) (hd : i + 1 + d ≤ (allL l).length) (hs : i + 1 + d < (allL l).length → ¬ (kAt l (i + 1 + d)).1 ≤ (kAt l i).1 + 1) : rN l t i (refTo l t i) d = refTo l t (i + 1) := by
  have := rN_stop (t := t) (out := refTo l t i) hi hd hs ((allL l).length - (i + 1 + d)) (by omega)
  rw [← this]
  show _ = rN l t i (refTo l t i) ((allL l).length - (i + 1))
  rw [show d + ((allL l).length - (i + 1 + d)) = (allL l).length - (i + 1) by omega]
theorem list_eqD {xs ys : List Int} (hl : xs.length = ys.length) (h : ∀ j, j < xs.length → xs.getD j 0 = ys.getD j 0) : xs = ys := by
  refine List.ext_getElem hl fun j h1 h2 => ?_
  have := h j h1
  rw [List.getD_eq_getElem?_getD, List.getD_eq_getElem?_getD, List.getElem?_eq_getElem h1, List.getElem?_eq_getElem h2] at this
  exact this
end Go.Proofs.Ytpecakgebhmnfaa
namespace Go.Proofs.Ytpecakgebhmnfaa
open Go Go.TH
attribute [local irreducible] W WO pt
set_option maxRecDepth 10000
set_option maxHeartbeats 1000000
theorem kAt_inj {l : List (Int × Int)} {i j : Nat} (hi : i < (allL l).length) (hj : j < (allL l).length) (h : kAt l i = kAt l j) : i = j :=
  all_inj (kAt_get hi) (by rw [h]; exact kAt_get hj)
theorem kAt_ex {l : List (Int × Int)} {k : Sk} (h : OkK l k) : ∃ i, i < (allL l).length ∧ kAt l i = k := by
  obtain ⟨i, hi⟩ := List.getElem?_of_mem (mem_all.2 h)
  have h1 := (List.getElem?_eq_some_iff.1 hi).1
  refine ⟨i, h1, ?_⟩
  have := kAt_get h1
  rw [hi] at this
  exact (Option.some.inj this).symm
theorem labs_get {labs : List Int} {i : Nat} (h : i < labs.length) : labs[i]? = some (labs.getD i 0) := by
  rw [List.getD_eq_getElem?_getD, List.getElem?_eq_getElem h]; rfl
theorem mk_at {l : List (Int × Int)} {labs : List Int} (hl : labs.length = (allL l).length) {i : Nat} : ∀ {j : Nat}, i < j → j ≤ (allL l).length → mkTo l labs j (kAt l i) = some (labs.getD i 0)
  | 0, h, _ => absurd h (Nat.not_lt_zero i)
  | j + 1, h, h2 => by
    rw [mkTo_succ (kAt_get (l := l) (i := j) (by omega)) (labs_get (by omega))]
    unfold updM
    by_cases e : i = j
    · subst e; rw [if_pos rfl]
    · rw [if_neg (fun h3 => e (kAt_inj (by omega) (by omega) h3))]
      exact mk_at hl (by omega) (by omega)
theorem ckGN_iff {B T : Int} {l : List (Int × Int)} {f : Sk → Option Int} {k : Sk} {g : Bool} : ∀ {m : Nat}, ckGN B T l f k g m = true ↔ g = true ∧ ∀ c, c < m → (f (toK l k c)).getD 0 ≤ (f k).getD 0 + costK B T l k c
  | 0 => ⟨fun h => ⟨h, fun c hc => absurd hc (Nat.not_lt_zero c)⟩, fun h => h.1⟩
  | m + 1 => by
    unfold ckGN
    rw [Bool.and_eq_true, ckGN_iff, decide_eq_true_eq]
    constructor
    · rintro ⟨⟨h1, h2⟩, h3⟩
      refine ⟨h1, fun c hc => ?_⟩
      rcases Nat.lt_or_ge c m with g | g
      · exact h2 c g
      · obtain rfl : c = m := by omega
        exact h3
    · rintro ⟨h1, h2⟩
      exact ⟨⟨h1, fun c hc => h2 c (by omega)⟩, h2 m (by omega)⟩
theorem ckG1_iff {f : Sk → Option Int} {k : Sk} {g : Bool} : ckG1 f k g = true ↔ g = true ∧ (k.1 = 1 ∧ k.2.2.2 = 0 → (f k).getD 0 = 0) := by
  unfold ckG1
  split
  · rename_i h
    rw [Bool.and_eq_true, decide_eq_true_eq]
    exact ⟨fun x => ⟨x.1, fun _ => x.2⟩, fun x => ⟨x.1, x.2 h⟩⟩
  · rename_i h
    exact ⟨fun x => ⟨x, fun y => absurd y h⟩, fun x => x.1⟩
/-- what is asked of a state's label -/
def GdK (B T : Int) (l : List (Int × Int)) (f : Sk → Option Int) (k : Sk) : Prop := (k.1 = 1 ∧ k.2.2.2 = 0 → (f k).getD 0 = 0) ∧ ∀ c, c < lw l k.1 → (f (toK l k c)).getD 0 ≤ (f k).getD 0 + costK B T l k c
theorem ckG_iff {B T : Int} {l : List (Int × Int)} {f : Sk → Option Int} : ∀ {j : Nat}, j ≤ (allL l).length → (ckG B T l f j = true ↔ ∀ i, i < j → GdK B T l f (kAt l i))
  | 0, _ => ⟨fun _ i hi => absurd hi (Nat.not_lt_zero i), fun _ => rfl⟩
  | j + 1, h => by
    rw [ckG_succ (kAt_get (l := l) (i := j) (by omega)), ckGN_iff, ckG1_iff, ckG_iff (j := j) (by omega)]
    constructor
    · rintro ⟨⟨h1, h2⟩, h3⟩ i hi
      rcases Nat.lt_or_ge i j with g | g
      · exact h1 i g
      · obtain rfl : i = j := by omega
        exact ⟨h2, h3⟩
    · intro h1
      exact ⟨⟨fun i hi => h1 i (by omega), (h1 j (by omega)).1⟩, (h1 j (by omega)).2⟩
/-- the same, by places -/
def GdA (l : List (Int × Int)) (t : Int) (labs : List Int) (i : Nat) : Prop := ((kAt l i).1 = 1 ∧ (kAt l i).2.2.2 = 0 → labs.getD i 0 = 0) ∧ ∀ K, i < K → K < (allL l).length → (ldAt l t i K).isSome = true → labs.getD K 0 ≤ labs.getD i 0 + (ldAt l t i K).getD 0
theorem gd_iff {l : List (Int × Int)} (hg : OkS l) {t : Int} {labs : List Int} (hl : labs.length = (allL l).length) {i : Nat} (hi : i < (allL l).length) : GdK 1 t l (mkTo l labs (allL l).length) (kAt l i) ↔ GdA l t labs i := by
  have hok := kAt_ok hi
  have hv := mk_at hl hi (Nat.le_refl _)
  unfold GdK GdA
  rw [hv]
  constructor
  · rintro ⟨h1, h2⟩
    refine ⟨h1, fun K hK hK2 hs => ?_⟩
    obtain ⟨z, hz⟩ := Option.isSome_iff_exists.1 hs
    obtain ⟨c, hc, e, rfl⟩ := (ld_iff hg hok (kAt_ok hK2)).1 hz
    have := h2 c hc
    rw [← e, mk_at hl hK2 (Nat.le_refl _)] at this
    rw [hz]; exact this
  · rintro ⟨h1, h2⟩
    refine ⟨h1, fun c hc => ?_⟩
    obtain ⟨K, hK, e⟩ := kAt_ex (toK_ok hg hok hc)
    have hlt : i < K := all_lt_of (kAt_get hi) (kAt_get hK) (by rw [e]; show (kAt l i).1 < (kAt l i).1 + 1; omega)
    have hz : ldAt l t i K = some (costK 1 t l (kAt l i) c) := (ld_iff hg hok (kAt_ok hK)).2 ⟨c, hc, e, rfl⟩
    have := h2 K hlt hK (by rw [hz]; rfl)
    rw [hz] at this
    rw [← e, mk_at hl hK (Nat.le_refl _)]
    exact this
theorem good_iff {l : List (Int × Int)} (hg : OkS l) {t : Int} {labs : List Int} (hl : labs.length = (allL l).length) : ckG 1 t l (mkTo l labs (allL l).length) (allL l).length = true ↔ ∀ i, i < (allL l).length → GdA l t labs i := by
  rw [ckG_iff (Nat.le_refl _)]
  exact ⟨fun h i hi => (gd_iff hg hl hi).1 (h i hi), fun h i hi => (gd_iff hg hl hi).2 (h i hi)⟩
theorem ckB_at {l : List (Int × Int)} {labs : List Int} (hl : labs.length = (allL l).length) {j : Nat} (hj : j < (allL l).length) : ckB l (mkTo l labs (allL l).length) (j + 1) = if (kAt l j).1 + 1 = l.length then min (ckB l (mkTo l labs (allL l).length) j) (labs.getD j 0) else ckB l (mkTo l labs (allL l).length) j := by
  rw [ckB_succ (kAt_get hj), mk_at hl hj (Nat.le_refl _)]; rfl
/-- what is known of the bound on the way -/
def BnI (l : List (Int × Int)) (labs : List Int) (j : Nat) (bnd : Int) (fnd : Bool) : Prop :=
  (fnd = true → 0 < j ∧ bnd = ckB l (mkTo l labs (allL l).length) j) ∧ (fnd = false → bnd = 0 ∧ ckB l (mkTo l labs (allL l).length) j = 1099511627776 ∧ ∀ i, i < j → (kAt l i).1 + 1 ≠ l.length)
section
variable {l : List (Int × Int)} {labs : List Int} {j : Nat} {bnd : Int} {fnd : Bool}
theorem BnI.zero : BnI l labs 0 0 false := ⟨fun h => by (cases h), fun _ => ⟨rfl, rfl, fun i hi => absurd hi (Nat.not_lt_zero i)⟩⟩
theorem BnI.skip (hl : labs.length = (allL l).length) (hj : j < (allL l).length) (h : BnI l labs j bnd fnd) (hn : ¬ (kAt l j).1 + 1 = l.length) : BnI l labs (j + 1) bnd fnd := by
  have e := ckB_at hl hj
  rw [if_neg hn] at e
  refine ⟨fun hf => ⟨by omega, by rw [e]; exact (h.1 hf).2⟩, fun hf => ⟨(h.2 hf).1, by rw [e]; exact (h.2 hf).2.1, fun i hi => ?_⟩⟩
  rcases Nat.lt_or_ge i j with g | g
  · exact (h.2 hf).2.2 i g
  · obtain rfl : i = j := by omega
    exact hn
theorem BnI.take (hl : labs.length = (allL l).length) (hb : ∀ x ∈ labs, 0 ≤ x ∧ x ≤ 1099511627776) (hj : j < (allL l).length) (h : BnI l labs j bnd fnd) (hn : (kAt l j).1 + 1 = l.length) (hc : fnd = false ∨ labs.getD j 0 < bnd) : BnI l labs (j + 1) (labs.getD j 0) true := by
  have e := ckB_at hl hj
  rw [if_pos hn] at e
  have hx := hb _ (List.mem_of_getElem? (labs_get (i := j) (by omega)))
  refine ⟨fun _ => ⟨by omega, ?_⟩, fun hf => by (cases hf)⟩
  rw [e]
  cases hf : fnd with
  | false => have := (h.2 hf).2.1; omega
  | true =>
    have := (h.1 hf).2
    rcases hc with hc | hc
    · rw [hf] at hc; cases hc
    · omega
theorem BnI.leave (hl : labs.length = (allL l).length) (hj : j < (allL l).length) (h : BnI l labs j bnd fnd) (hn : (kAt l j).1 + 1 = l.length) (hf : fnd = true) (hc : ¬ labs.getD j 0 < bnd) : BnI l labs (j + 1) bnd true := by
  have e := ckB_at hl hj
  rw [if_pos hn] at e
  refine ⟨fun _ => ⟨by omega, ?_⟩, fun hf => by (cases hf)⟩
  rw [e]
  have := (h.1 hf).2
  omega
theorem last_ex (hg : OkS l) (h : (allL l).length ≠ 0) : ∃ i, i < (allL l).length ∧ (kAt l i).1 + 1 = l.length := by
  have h0 := kAt_ok (l := l) (i := 0) (by omega)
  have hw := w_le hg (i := l.length - 1) (by have := h0.2.1; omega)
  have h2 := h0.1
  have h3 := h0.2.1
  obtain ⟨i, hi, e⟩ := kAt_ex (l := l) (k := (l.length - 1, 0, 0, 0)) ⟨by show 1 ≤ l.length - 1; omega, by show l.length - 1 < l.length; omega, by show 0 < w1 l (l.length - 1); omega, by show 0 < w2 l (l.length - 1); omega, by show 0 < 3; omega⟩
  exact ⟨i, hi, by rw [e]; show l.length - 1 + 1 = l.length; omega⟩
theorem BnI.fin (hg : OkS l) {t : Int} (hc : chkF l t = 0) (hl : labs.length = (allL l).length) (hb : ∀ x ∈ labs, 0 ≤ x ∧ x ≤ 1099511627776) (h : BnI l labs (allL l).length bnd fnd) (hG : ∀ i, i < (allL l).length → GdA l t labs i) : lkE l t labs = 0 ∧ lkV l t labs = bnd := by
  rcases Nat.eq_zero_or_pos (allL l).length with h0 | h0
  · obtain ⟨e1, e2⟩ := lk3 hc hl hb h0
    refine ⟨e1, ?_⟩
    rw [e2]
    cases hf : fnd with
    | false => exact (h.2 hf).1.symm
    | true => have := (h.1 hf).1; omega
  · obtain ⟨e1, e2⟩ := lk4 hc hl hb (by omega) ((good_iff hg hl).2 hG)
    refine ⟨e1, ?_⟩
    rw [e2]
    cases hf : fnd with
    | false =>
      obtain ⟨i, hi, e⟩ := last_ex hg (by omega)
      exact absurd e ((h.2 hf).2.2 i hi)
    | true => exact (h.1 hf).2.symm
theorem bad_lk (hg : OkS l) {t : Int} (hc : chkF l t = 0) (hl : labs.length = (allL l).length) (hb : ∀ x ∈ labs, 0 ≤ x ∧ x ≤ 1099511627776) {i : Nat} (hi : i < (allL l).length) (hG : ¬ GdA l t labs i) : lkE l t labs = 14 ∧ lkV l t labs = 0 :=
  lk5 hc hl hb (by omega) (fun h => hG ((good_iff hg hl).1 h i hi))
end
end Go.Proofs.Ytpecakgebhmnfaa
namespace Go.Proofs.Ytpecakgebhmnfaa
open Go Go.TH
attribute [local irreducible] W WO pt
def relaxV (o : Option Int) (z : Int) : Option Int := if o.isSome = true ∧ ¬ z < o.getD 0 then o else some z
theorem relax_same (f : Sk → Option Int) (k : Sk) (z : Int) : relax f k z k = relaxV (f k) z := by
  unfold relax relaxV
  split
  · rfl
  · unfold updM; rw [if_pos rfl]
theorem relax_other {f : Sk → Option Int} {k k' : Sk} {z : Int} (h : k' ≠ k) : relax f k z k' = f k' := by
  unfold relax
  split
  · rfl
  · unfold updM; rw [if_neg h]
theorem relN_miss {B T : Int} {l : List (Int × Int)} {k : Sk} {n : Int} {f : Sk → Option Int} {k' : Sk} : ∀ {m : Nat}, (∀ c, c < m → k' ≠ toK l k c) → relN B T l k n f m k' = f k'
  | 0, _ => rfl
  | m + 1, h => by
    unfold relN
    rw [relax_other (h m (by omega))]
    exact relN_miss fun c hc => h c (by omega)
theorem relN_hit {B T : Int} {l : List (Int × Int)} {k : Sk} {n : Int} {f : Sk → Option Int} {c : Nat} : ∀ {m : Nat}, c < m → relN B T l k n f m (toK l k c) = relaxV (f (toK l k c)) (n + costK B T l k c)
  | 0, h => absurd h (Nat.not_lt_zero c)
  | m + 1, h => by
    unfold relN
    by_cases e : c = m
    · subst e
      rw [relax_same, relN_miss (fun c' hc' h2 => by have := toK_inj h2; omega)]
    · rw [relax_other (fun h2 => e (toK_inj h2))]
      exact relN_hit (by omega)
theorem relaxV_some (o : Option Int) (z : Int) : ∃ m, relaxV o z = some m ∧ m ≤ z ∧ ∀ x, o = some x → m ≤ x := by
  unfold relaxV
  cases o with
  | none => exact ⟨z, by simp, Int.le_refl _, fun x h => by cases h⟩
  | some x =>
    by_cases h : z < x
    · exact ⟨z, by simp [h], Int.le_refl _, fun y e => by cases e; omega⟩
    · exact ⟨x, by simp [h], by omega, fun y e => by cases e; omega⟩
theorem relaxV_min {o : Option Int} {z : Int} (hz : z ≤ 1099511627776) : (relaxV o z).getD 1099511627776 = min (o.getD 1099511627776) z := by
  unfold relaxV
  cases o with
  | none => simp; omega
  | some x =>
    by_cases h : z < x
    · simp [h]; omega
    · simp [h]; omega
theorem relaxV_ge {o : Option Int} {z m x : Int} (h : relaxV o z = some m) (h1 : x ≤ z) (h2 : ∀ y, o = some y → x ≤ y) : x ≤ m := by
  unfold relaxV at h
  split at h
  · exact h2 m h
  · cases h; exact h1
def isStart (k : Sk) : Prop := k.1 = 1 ∧ k.2.2.2 = 0
instance (k : Sk) : Decidable (isStart k) := inferInstanceAs (Decidable (_ ∧ _))
theorem start_yes {f : Sk → Option Int} {k : Sk} (h : isStart k) : startF f k k = some 0 := by
  unfold startF; rw [if_pos (show k.1 = 1 ∧ k.2.2.2 = 0 from h)]; unfold updM; rw [if_pos rfl]
theorem start_no {f : Sk → Option Int} {k : Sk} (h : ¬ isStart k) : startF f k = f := if_neg h
theorem start_other {f : Sk → Option Int} {k k' : Sk} (h : k' ≠ k) : startF f k k' = f k' := by
  unfold startF
  split
  · unfold updM; rw [if_neg h]
  · rfl
theorem toK_spot (l : List (Int × Int)) (k : Sk) (c : Nat) : (toK l k c).1 = k.1 + 1 := rfl
theorem step_low {B T : Int} {l : List (Int × Int)} {f : Sk → Option Int} {k k' : Sk} (h : k'.1 ≤ k.1) : stepF B T l f k k' = startF f k k' := by
  unfold stepF
  split
  · exact relN_miss fun c _ e => by have := toK_spot l k c; rw [← e] at this; omega
  · rfl
/-- a label that is asked for -/
def vSt (f : Sk → Option Int) (k : Sk) : Int := if isStart k then 0 else (f k).getD 1099511627776
theorem vSt_start (f : Sk → Option Int) (k k' : Sk) : vSt (startF f k) k' = vSt f k' := by
  unfold vSt
  split
  · rfl
  · rename_i h
    by_cases e : k' = k
    · subst e; rw [start_no h]
    · rw [start_other e]
theorem rN_at {l : List (Int × Int)} {t : Int} {i : Nat} {out : List Int} (hl : out.length = (allL l).length) {j : Nat} : ∀ {d : Nat}, i + 1 + d ≤ (allL l).length → (rN l t i out d).length = out.length ∧ (rN l t i out d).getD j 0 = if (i < j ∧ j < i + 1 + d) ∧ (ldAt l t i j).isSome = true ∧ out.getD i 0 < 1099511627776 then min (out.getD j 0) (out.getD i 0 + (ldAt l t i j).getD 0) else out.getD j 0
  | 0, _ => ⟨rfl, by rw [if_neg (fun h => by omega)]; rfl⟩
  | d + 1, hd => by
    have ihj := rN_at (t := t) (i := i) hl (j := j) (d := d) (by omega)
    have ihi := rN_at (t := t) (i := i) hl (j := i) (d := d) (by omega)
    have ihK := rN_at (t := t) (i := i) hl (j := i + 1 + d) (d := d) (by omega)
    rw [if_neg (fun h => by omega)] at ihi
    rw [if_neg (fun h => by omega)] at ihK
    show (rS l t i (i + 1 + d) (rN l t i out d)).length = _ ∧ (rS l t i (i + 1 + d) (rN l t i out d)).getD j 0 = _
    unfold rS
    rw [ihi.2, ihK.2]
    by_cases hc : (ldAt l t i (i + 1 + d)).isSome = true ∧ out.getD i 0 < 1099511627776
    · rw [if_pos hc]
      refine ⟨by rw [List.length_set]; exact ihj.1, ?_⟩
      rw [getD_set (by rw [ihj.1]; omega)]
      by_cases e : j = i + 1 + d
      · subst e
        rw [if_pos rfl, if_pos ⟨⟨by omega, by omega⟩, hc⟩]
      · rw [if_neg e, ihj.2]
        by_cases h2 : (i < j ∧ j < i + 1 + d) ∧ (ldAt l t i j).isSome = true ∧ out.getD i 0 < 1099511627776
        · rw [if_pos h2, if_pos ⟨⟨h2.1.1, by omega⟩, h2.2⟩]
        · rw [if_neg h2, if_neg (fun h => h2 ⟨⟨h.1.1, by omega⟩, h.2⟩)]
    · rw [if_neg hc]
      refine ⟨ihj.1, ?_⟩
      rw [ihj.2]
      by_cases h2 : (i < j ∧ j < i + 1 + d) ∧ (ldAt l t i j).isSome = true ∧ out.getD i 0 < 1099511627776
      · rw [if_pos h2, if_pos ⟨⟨h2.1.1, by omega⟩, h2.2⟩]
      · rw [if_neg h2, if_neg (fun h => by
          by_cases e : j = i + 1 + d
          · subst e; exact hc h.2
          · exact h2 ⟨⟨h.1.1, by omega⟩, h.2⟩)]
theorem ref_inv {l : List (Int × Int)} {t : Int} (hg : OkS l) (h24 : l.length ≤ 24) (hC : OkC 1 t) : ∀ {i : Nat}, i ≤ (allL l).length → ∀ j, j < (allL l).length → (refTo l t i).getD j 0 = vSt (labTo 1 t l i) (kAt l j)
  | 0, _, j, hj => by
    show (iniL l).getD j 0 = _
    rw [iniL_get hj]
    unfold iniK vSt labTo
    by_cases h : isStart (kAt l j)
    · rw [if_pos h]; exact if_pos h
    · rw [if_neg h]; exact if_neg h
  | i + 1, hi, j, hj => by
    have ih := ref_inv hg h24 hC (i := i) (by omega)
    have hL := (refTo_bd hg hC (i := i) (by omega)).1
    show (rN l t i (refTo l t i) ((allL l).length - (i + 1))).getD j 0 = _
    rw [(rN_at hL (j := j) (by omega)).2, labTo_succ (kAt_get (l := l) (i := i) (by omega)), ih j hj, ih i (by omega)]
    have hbd := labTo_bd hg hC i
    have hk := kAt_ok (l := l) (i := i) (by omega)
    have hk' := kAt_ok (l := l) hj
    generalize hkk : kAt l i = k at hk
    have hF := hbd.start k
    have hv := vSt_start (labTo 1 t l i) k
    generalize hf1 : startF (labTo 1 t l i) k = f1 at hF hv
    rw [← hv, ← hv]
    unfold stepF
    rw [hf1]
    have hld : ldAt l t i j = ldR t (rsK l k) (rsK l (kAt l j)) := by unfold ldAt; rw [hkk]
    rw [hld]
    generalize hjj : kAt l j = k' at hk' ⊢
    cases hfk : f1 k with
    | none =>
      have hns : ¬ isStart k := fun h => by rw [← hf1, start_yes h] at hfk; cases hfk
      have e : vSt f1 k = 1099511627776 := by unfold vSt; rw [if_neg hns, hfk]; rfl
      rw [if_neg (fun h => by rw [e] at h; omega)]
      simp
    | some n =>
      have hn := hF _ _ hfk
      have hkb := hk.2.1
      have e : vSt f1 k = n := by
        unfold vSt
        by_cases h : isStart k
        · rw [if_pos h]; rw [← hf1, start_yes h] at hfk; exact Option.some.inj hfk
        · rw [if_neg h, hfk]; rfl
      rw [e]
      simp only [Option.isSome_some, Option.getD_some, if_true]
      cases hz : ldR t (rsK l k) (rsK l k') with
      | none =>
        rw [if_neg (fun h => by simp at h)]
        unfold vSt
        rw [relN_miss]
        intro c hc e2
        have := (ld_iff hg (t := t) hk hk').2 ⟨c, hc, e2, rfl⟩
        rw [hz] at this; cases this
      | some z =>
        obtain ⟨c, hc, e2, e3⟩ := (ld_iff hg hk hk').1 hz
        have hlt : i < j := all_lt_of (kAt_get (l := l) (i := i) (by omega)) (kAt_get hj) (by rw [hkk, hjj, e2, toK_spot]; omega)
        rw [if_pos ⟨⟨hlt, by omega⟩, rfl, by omega⟩]
        have hns : ¬ isStart k' := fun h => by have h1 := h.1; rw [e2, toK_spot] at h1; have := hk.1; omega
        have h3 := lw_lt hk.2.1 hc
        have h4 := costK_bd hg hC hk h3.1 h3.2
        unfold vSt
        rw [if_neg hns, if_neg hns]
        simp only [Option.getD_some]
        rw [e2, relN_hit hc, relaxV_min (by omega), ← e3]
theorem lab_eq {l : List (Int × Int)} {t : Int} (hg : OkS l) (h24 : l.length ≤ 24) (hC : OkC 1 t) : rlL l t = lbL l t ∨ chkF l t ≠ 0 := by
  by_cases hc : chkF l t = 0
  · refine .inl ?_
    have e : lbL l t = labL 1 t l := if_pos hc
    rw [e]
    have hlen : (rlL l t).length = (allL l).length := (refTo_bd hg hC (Nat.le_refl _)).1
    refine list_eqD (by rw [hlen]; simp [labL]) fun j hj => ?_
    rw [hlen] at hj
    have := ref_inv hg h24 hC (Nat.le_refl _) j hj
    unfold rlL
    rw [this]
    unfold labL
    rw [List.getD_eq_getElem?_getD, List.getElem?_map, kAt_get hj]
    unfold vSt
    split
    · rename_i hs
      show (0 : Int) = (labTo 1 t l (allL l).length (kAt l j)).getD 1099511627776
      have key : ∀ m, j < m → m ≤ (allL l).length → labTo 1 t l m (kAt l j) = some 0 := by
        intro m
        induction m with
        | zero => intro h; omega
        | succ m ihm =>
          intro h1 h2
          have hm := kAt_get (l := l) (i := m) (by omega)
          rw [labTo_succ hm]
          by_cases e2 : j = m
          · subst e2
            rw [step_low (Nat.le_refl _), start_yes hs]
          · have hmono := all_mono (kAt_get hj) hm (by omega)
            rw [step_low hmono, start_other (fun h => e2 (kAt_inj hj (by omega) h))]
            exact ihm (by omega) (by omega)
      rw [key _ hj (Nat.le_refl _)]; rfl
    · rfl
  · exact .inr hc
end Go.Proofs.Ytpecakgebhmnfaa
namespace Go.Proofs.Ytpecakgebhmnfaa
open Go Go.TH
attribute [local irreducible] W WO pt
/-- what is paid from a state on -/
def gK (t : Int) (l : List (Int × Int)) (k : Sk) : Int := gAt 1 t l k.1 k.2.1 k.2.2.1 k.2.2.2
theorem gK_last {t : Int} {l : List (Int × Int)} {k : Sk} (h : k.1 + 1 = l.length) : gK t l k = 0 := gAt_last (by omega)
theorem gK_le {t : Int} {l : List (Int × Int)} {k : Sk} (hk : OkK l k) {c : Nat} (hc : c < lw l k.1) : gK t l k ≤ costK 1 t l k c + gK t l (toK l k c) := by
  have h := lw_lt hk.2.1 hc
  unfold gK
  rw [gAt_succ h.1]
  have := (lst_spec (gOn 1 t l k.1 k.2.1 k.2.2.1 k.2.2.2) (wid (l.getD (k.1 + 1) (0, 0)) - 1)).2.2.1 c (by have := h.2; unfold w2 at this; omega)
  exact this
theorem gK_at {t : Int} {l : List (Int × Int)} (hg : OkS l) {k : Sk} (hk : OkK l k) (h : k.1 + 1 < l.length) : ∃ c, c < lw l k.1 ∧ gK t l k = costK 1 t l k c + gK t l (toK l k c) := by
  have hs := lst_spec (gOn 1 t l k.1 k.2.1 k.2.2.1 k.2.2.2) (wid (l.getD (k.1 + 1) (0, 0)) - 1)
  have hw := w_le hg h
  refine ⟨(lst (gOn 1 t l k.1 k.2.1 k.2.2.1 k.2.2.2) (wid (l.getD (k.1 + 1) (0, 0)) - 1)).1, ?_, ?_⟩
  · rw [lw_other (by omega)]
    have h1 := hs.1
    have h2 : w2 l (k.1 + 1) = wid (l.getD (k.1 + 1) (0, 0)) := rfl
    omega
  · unfold gK
    rw [gAt_succ h, hs.2.1]
    rfl
theorem best_start {t : Int} {l : List (Int × Int)} (hg : OkS l) (hl : 2 ≤ l.length) {k : Sk} (hk : OkK l k) (hs : isStart k) : bestC 1 t l ≤ gK t l k := by
  have e : bestC 1 t l = (kB 1 t l).2 := if_neg (by omega)
  rw [e]
  have hb := hk.2.2
  have h1 := hs.1
  have h2 := hs.2
  rw [h1] at hb
  have h3 := (lst_spec (fun k => gAt 1 t l 1 (k / w2 l 1) (k % w2 l 1) 0) (w1 l 1 * w2 l 1 - 1)).2.2.1 (k.2.1 * w2 l 1 + k.2.2.1) (by
    have := Nat.mul_le_mul_right (w2 l 1) (show k.2.1 + 1 ≤ w1 l 1 by omega)
    rw [Nat.add_mul, Nat.one_mul] at this
    omega)
  rw [show (k.2.1 * w2 l 1 + k.2.2.1) / w2 l 1 = k.2.1 by rw [Nat.mul_comm, Nat.mul_add_div (by omega), Nat.div_eq_of_lt (by omega)]; omega, show (k.2.1 * w2 l 1 + k.2.2.1) % w2 l 1 = k.2.2.1 by rw [Nat.mul_comm, Nat.mul_add_mod, Nat.mod_eq_of_lt (by omega)]] at h3
  unfold gK
  rw [h1, h2]
  exact h3
theorem best_at {t : Int} {l : List (Int × Int)} (hg : OkS l) (hl : 2 ≤ l.length) : ∃ k, OkK l k ∧ isStart k ∧ bestC 1 t l = gK t l k := by
  have e : bestC 1 t l = (kB 1 t l).2 := if_neg (by omega)
  have hk := kB_lt (B := 1) (T := t) hg hl
  have hs := (lst_spec (fun k => gAt 1 t l 1 (k / w2 l 1) (k % w2 l 1) 0) (w1 l 1 * w2 l 1 - 1)).2.1
  refine ⟨(1, (kB 1 t l).1 / w2 l 1, (kB 1 t l).1 % w2 l 1, 0), ⟨Nat.le_refl _, by show 1 < l.length; omega, ?_, ?_, by show 0 < 3; omega⟩, ⟨rfl, rfl⟩, ?_⟩
  · exact Nat.div_lt_of_lt_mul (by rw [Nat.mul_comm]; exact hk.1)
  · exact Nat.mod_lt _ (by omega)
  · rw [e]; exact hs
theorem best_bd {t : Int} {l : List (Int × Int)} (hg : OkS l) (h24 : l.length ≤ 24) (hC : OkC 1 t) : 0 ≤ bestC 1 t l ∧ bestC 1 t l ≤ 144000000 := by
  rcases Nat.lt_or_ge l.length 2 with h | h
  · by_cases h1 : l.length = 1
    · have e : bestC 1 t l = 0 := if_pos h1
      omega
    · have e : bestC 1 t l = (kB 1 t l).2 := if_neg h1
      have h0 : l = [] := List.eq_nil_of_length_eq_zero (by omega)
      subst h0
      have hs := lst_spec (fun k => gAt 1 t [] 1 (k / w2 [] 1) (k % w2 [] 1) 0) (w1 [] 1 * w2 [] 1 - 1)
      rw [e]
      have : (kB 1 t []).2 = 0 := by
        unfold kB
        rw [hs.2.1]
        exact gAt_last (by simp)
      omega
  · obtain ⟨k, hk, _, e⟩ := best_at (t := t) hg h
    rw [e]
    exact gAt_bd hC hg h24 hk.2.1 hk.2.2.1 hk.2.2.2.1
/-- no label is too small -/
def PoT (t : Int) (l : List (Int × Int)) (f : Sk → Option Int) : Prop := ∀ k n, OkK l k → f k = some n → bestC 1 t l ≤ n + gK t l k
theorem PoT.start {t : Int} {l : List (Int × Int)} (hg : OkS l) (hl : 2 ≤ l.length) {f : Sk → Option Int} (h : PoT t l f) (k : Sk) : PoT t l (startF f k) := by
  intro k' n hk e
  by_cases e2 : k' = k
  · subst e2
    by_cases hs : isStart k'
    · rw [start_yes hs] at e
      cases e
      have := best_start (t := t) hg hl hk hs
      omega
    · rw [start_no hs] at e; exact h _ _ hk e
  · rw [start_other e2] at e; exact h _ _ hk e
theorem PoT.relN {t : Int} {l : List (Int × Int)} {k : Sk} (hk : OkK l k) {n : Int} {f : Sk → Option Int} (h : PoT t l f) (hn : bestC 1 t l ≤ n + gK t l k) {m : Nat} (hm : m ≤ lw l k.1) : PoT t l (relN 1 t l k n f m) := by
  intro k' x hk' e
  by_cases hx : ∃ c, c < m ∧ k' = toK l k c
  · obtain ⟨c, hc, rfl⟩ := hx
    rw [relN_hit hc] at e
    have h1 := gK_le (t := t) hk (c := c) (by omega)
    have h2 := relaxV_ge (x := bestC 1 t l - gK t l (toK l k c)) e (by omega) (fun y hy => by have := h _ _ hk' hy; omega)
    omega
  · rw [relN_miss (fun c hc e2 => hx ⟨c, hc, e2⟩)] at e
    exact h _ _ hk' e
theorem PoT.step {t : Int} {l : List (Int × Int)} (hg : OkS l) (hl : 2 ≤ l.length) {f : Sk → Option Int} (h : PoT t l f) {k : Sk} (hk : OkK l k) : PoT t l (stepF 1 t l f k) := by
  have h1 := h.start hg hl k
  unfold stepF
  cases e : startF f k k with
  | none => simpa using h1
  | some n => simpa using h1.relN hk (h1 _ _ hk e) (Nat.le_refl _)
theorem labTo_pot {t : Int} {l : List (Int × Int)} (hg : OkS l) (hl : 2 ≤ l.length) : ∀ {j : Nat}, j ≤ (allL l).length → PoT t l (labTo 1 t l j)
  | 0, _ => fun k n _ e => by unfold labTo at e; simp at e
  | j + 1, h => by
    rw [labTo_succ (kAt_get (l := l) (i := j) (by omega))]
    exact (labTo_pot hg hl (j := j) (by omega)).step hg hl (kAt_ok (by omega))
/-- labels only become less -/
theorem step_le {t : Int} {l : List (Int × Int)} {f : Sk → Option Int} (hf : BdF f) {k k' : Sk} {x : Int} (h : f k' = some x) : ∃ y, stepF 1 t l f k k' = some y ∧ y ≤ x := by
  have h1 : ∃ y, startF f k k' = some y ∧ y ≤ x := by
    by_cases e : k' = k
    · subst e
      by_cases hs : isStart k'
      · exact ⟨0, start_yes hs, (hf _ _ h).1⟩
      · rw [start_no hs]; exact ⟨x, h, Int.le_refl _⟩
    · rw [start_other e]; exact ⟨x, h, Int.le_refl _⟩
  obtain ⟨y, hy, hyx⟩ := h1
  unfold stepF
  split
  · by_cases hx : ∃ c, c < lw l k.1 ∧ k' = toK l k c
    · obtain ⟨c, hc, rfl⟩ := hx
      rw [relN_hit hc]
      obtain ⟨m, e1, _, e3⟩ := relaxV_some (startF f k (toK l k c)) ((startF f k k).getD 0 + costK 1 t l k c)
      exact ⟨m, e1, by have := e3 _ hy; omega⟩
    · rw [relN_miss (fun c hc e2 => hx ⟨c, hc, e2⟩)]
      exact ⟨y, hy, hyx⟩
  · exact ⟨y, hy, hyx⟩
/-- what is known of the states that have been looked at -/
def DnI (t : Int) (l : List (Int × Int)) (f : Sk → Option Int) (j : Nat) : Prop := ∀ i, i < j → (isStart (kAt l i) → f (kAt l i) = some 0) ∧ ∀ n, f (kAt l i) = some n → ∀ c, c < lw l (kAt l i).1 → ∃ m, f (toK l (kAt l i) c) = some m ∧ m ≤ n + costK 1 t l (kAt l i) c
theorem labTo_done {t : Int} {l : List (Int × Int)} (hg : OkS l) (hC : OkC 1 t) : ∀ {j : Nat}, j ≤ (allL l).length → DnI t l (labTo 1 t l j) j
  | 0, _ => fun i hi => absurd hi (Nat.not_lt_zero i)
  | j + 1, h => by
    have ih := labTo_done hg hC (j := j) (by omega)
    have hbd := labTo_bd hg hC j
    have hj := kAt_get (l := l) (i := j) (by omega)
    rw [labTo_succ hj]
    generalize labTo 1 t l j = f at ih hbd
    intro i hi
    by_cases e : i = j
    · subst e
      rw [step_low (Nat.le_refl _)]
      refine ⟨fun hs => start_yes hs, fun n hn c hc => ?_⟩
      unfold stepF
      rw [hn]
      simp only [Option.isSome_some, Option.getD_some, if_true]
      rw [relN_hit hc]
      obtain ⟨m, e1, e2, _⟩ := relaxV_some (startF f (kAt l i) (toK l (kAt l i) c)) (n + costK 1 t l (kAt l i) c)
      exact ⟨m, e1, e2⟩
    · have hi2 := kAt_get (l := l) (i := i) (by omega)
      have hlt := all_lt hi2 hj (by omega)
      rw [step_low hlt.2, start_other hlt.1]
      refine ⟨(ih i (by omega)).1, fun n hn c hc => ?_⟩
      obtain ⟨m, e1, e2⟩ := (ih i (by omega)).2 n hn c hc
      obtain ⟨y, h1, h2⟩ := step_le (t := t) (l := l) hbd (k := kAt l j) e1
      exact ⟨y, h1, by omega⟩
theorem ckB_ge {l : List (Int × Int)} {f : Sk → Option Int} {x : Int} (h0 : x ≤ 1099511627776) (h : ∀ k, OkK l k → k.1 + 1 = l.length → x ≤ (f k).getD 0) : ∀ {j : Nat}, j ≤ (allL l).length → x ≤ ckB l f j
  | 0, _ => h0
  | j + 1, hj => by
    have ih := ckB_ge h0 h (j := j) (by omega)
    rw [ckB_succ (kAt_get (l := l) (i := j) (by omega))]
    split
    · rename_i hn
      have := h _ (kAt_ok (l := l) (i := j) (by omega)) hn
      omega
    · exact ih
theorem ckB_le {l : List (Int × Int)} {f : Sk → Option Int} {i : Nat} (hn : (kAt l i).1 + 1 = l.length) : ∀ {j : Nat}, i < j → j ≤ (allL l).length → ckB l f j ≤ (f (kAt l i)).getD 0
  | 0, h, _ => absurd h (Nat.not_lt_zero i)
  | j + 1, h, hj => by
    rw [ckB_succ (kAt_get (l := l) (i := j) (by omega))]
    by_cases e : i = j
    · subst e
      rw [if_pos hn]; omega
    · have ih := ckB_le (f := f) hn (j := j) (by omega) (by omega)
      split
      · omega
      · exact ih
/-- no right labels have a greater bound than the least cost -/
theorem good_pot {t : Int} {l : List (Int × Int)} (hg : OkS l) {f : Sk → Option Int} (h : ∀ i, i < (allL l).length → GdK 1 t l f (kAt l i)) : ∀ (m : Nat) (k : Sk), OkK l k → k.1 + 1 + m = l.length → ckB l f (allL l).length ≤ (f k).getD 0 + gK t l k
  | 0, k, hk, e => by
    obtain ⟨i, hi, rfl⟩ := kAt_ex hk
    have h1 := ckB_le (f := f) (i := i) (by omega) hi (Nat.le_refl _)
    rw [gK_last (by omega)]
    omega
  | m + 1, k, hk, e => by
    obtain ⟨c, hc, e2⟩ := gK_at (t := t) hg hk (by omega)
    have ih := good_pot hg h m (toK l k c) (toK_ok hg hk hc) (by rw [toK_spot]; omega)
    obtain ⟨i, hi, rfl⟩ := kAt_ex hk
    have := (h i hi).2 c hc
    omega
theorem good_le {t : Int} {l : List (Int × Int)} (hg : OkS l) (hl : 2 ≤ l.length) {f : Sk → Option Int} (h : ∀ i, i < (allL l).length → GdK 1 t l f (kAt l i)) : ckB l f (allL l).length ≤ bestC 1 t l := by
  obtain ⟨k, hk, hs, e⟩ := best_at (t := t) hg hl
  have h1 := good_pot hg h (l.length - (k.1 + 1)) k hk (by have := hk.2.1; omega)
  obtain ⟨i, hi, rfl⟩ := kAt_ex hk
  have h2 := (h i hi).1 hs
  omega
theorem allL_nil {l : List (Int × Int)} (h : l.length = 1) : (allL l).length = 0 := by unfold allL; rw [h]; rfl
theorem allL_pos {l : List (Int × Int)} (hg : OkS l) (h : 2 ≤ l.length) : 0 < (allL l).length := by
  have hw := w_le hg (i := 1) (by omega)
  obtain ⟨i, hi, _⟩ := kAt_ex (l := l) (k := (1, 0, 0, 0)) ⟨Nat.le_refl _, by show 1 < l.length; omega, by show 0 < w1 l 1; omega, by show 0 < w2 l 1; omega, by show 0 < 3; omega⟩
  omega
theorem lk_cases {l : List (Int × Int)} {t : Int} {labs : List Int} (h : lkE l t labs = 0) : chkF l t = 0 ∧ labs.length = (allL l).length ∧ (∀ x ∈ labs, 0 ≤ x ∧ x ≤ 1099511627776) ∧ ((allL l).length = 0 ∨ ckG 1 t l (mkTo l labs (allL l).length) (allL l).length = true) := by
  unfold lkE at h
  split at h
  · rename_i h1; exact absurd h h1
  · rename_i h1
    split at h
    · omega
    · rename_i h2
      split at h
      · omega
      · rename_i h3
        have h3' : ∀ x ∈ labs, 0 ≤ x ∧ x ≤ 1099511627776 := by
          rcases Decidable.em (∀ x ∈ labs, 0 ≤ x ∧ x ≤ 1099511627776) with g | g
          · exact g
          · exact absurd g h3
        refine ⟨by omega, by omega, h3', ?_⟩
        split at h
        · rename_i h4; exact .inl h4
        · split at h
          · rename_i h5; exact .inr h5
          · omega
theorem lk_le {l : List (Int × Int)} {t : Int} {labs : List Int} (h : lkE l t labs = 0) : lkV l t labs ≤ bestC 1 t l := by
  obtain ⟨h1, h2, h3, h4⟩ := lk_cases h
  have hcf := chkF0.1 h1
  rcases Nat.eq_or_lt_of_le hcf.1.1 with h5 | h5
  · have e1 := (lk3 h1 h2 h3 (allL_nil h5.symm)).2
    have e2 : bestC 1 t l = 0 := if_pos h5.symm
    omega
  · have hp := allL_pos hcf.2.2 h5
    rcases h4 with h4 | h4
    · omega
    · rw [(lk4 h1 h2 h3 (by omega) h4).2]
      exact good_le hcf.2.2 h5 ((ckG_iff (Nat.le_refl _)).1 h4)
/-- the labels that are made are right, and their bound is the least cost -/
theorem lb_good {l : List (Int × Int)} {t : Int} (hc : chkF l t = 0) : lkE l t (lbL l t) = 0 ∧ lkV l t (lbL l t) = bestC 1 t l := by
  have hcf := chkF0.1 hc
  have hg := hcf.2.2
  have hC : OkC 1 t := ⟨.inr rfl, hcf.2.1⟩
  have e : lbL l t = labL 1 t l := if_pos hc
  rw [e]
  have hl : (labL 1 t l).length = (allL l).length := by simp [labL]
  have hbd := labTo_bd hg hC (allL l).length
  have hgd : ∀ i, i < (allL l).length → (labL 1 t l).getD i 0 = (labTo 1 t l (allL l).length (kAt l i)).getD 1099511627776 := fun i hi => by
    unfold labL
    rw [List.getD_eq_getElem?_getD, List.getElem?_map, kAt_get hi]; rfl
  have hrg : ∀ k, OkK l k → 0 ≤ (labTo 1 t l (allL l).length k).getD 1099511627776 ∧ (labTo 1 t l (allL l).length k).getD 1099511627776 ≤ 1099511627776 := fun k hk => by
    cases e2 : labTo 1 t l (allL l).length k with
    | none => simp
    | some n =>
      have h1 := hbd _ _ e2
      have h2 := hk.2.1
      have h3 := hcf.1.2
      simp only [Option.getD_some]
      omega
  have hb : ∀ x ∈ labL 1 t l, 0 ≤ x ∧ x ≤ 1099511627776 := fun x hx => by
    unfold labL at hx
    obtain ⟨k, hk, rfl⟩ := List.mem_map.1 hx
    exact hrg k (mem_all.1 hk)
  rcases Nat.eq_or_lt_of_le hcf.1.1 with h5 | h5
  · obtain ⟨e1, e2⟩ := lk3 hc hl hb (allL_nil h5.symm)
    exact ⟨e1, by rw [e2]; exact (if_pos h5.symm).symm⟩
  · have hp := allL_pos hg h5
    have hmk : ∀ i, i < (allL l).length → mkTo l (labL 1 t l) (allL l).length (kAt l i) = some ((labTo 1 t l (allL l).length (kAt l i)).getD 1099511627776) := fun i hi => by
      rw [mk_at hl hi (Nat.le_refl _), hgd i hi]
    have hdn := labTo_done (t := t) hg hC (Nat.le_refl (allL l).length)
    have hG : ∀ i, i < (allL l).length → GdK 1 t l (mkTo l (labL 1 t l) (allL l).length) (kAt l i) := fun i hi => by
      have hok := kAt_ok hi
      unfold GdK
      rw [hmk i hi]
      refine ⟨fun hs => ?_, fun c hc => ?_⟩
      · rw [(hdn i hi).1 hs]; rfl
      · obtain ⟨K, hK, eK⟩ := kAt_ex (toK_ok hg hok hc)
        have h3 := lw_lt hok.2.1 hc
        have h4 := costK_bd hg hC hok h3.1 h3.2
        rw [← eK, hmk K hK]
        simp only [Option.getD_some]
        cases e2 : labTo 1 t l (allL l).length (kAt l i) with
        | none =>
          have := hrg _ (kAt_ok hK)
          simp only [Option.getD_none]
          omega
        | some n =>
          obtain ⟨m, e3, e4⟩ := (hdn i hi).2 n e2 c hc
          rw [← eK] at e3
          rw [e3]
          exact e4
    obtain ⟨e1, e2⟩ := lk4 hc hl hb (by omega) ((ckG_iff (Nat.le_refl _)).2 hG)
    refine ⟨e1, ?_⟩
    rw [e2]
    have h6 := good_le hg h5 hG
    have hbb := best_bd (t := t) hg hcf.1.2 hC
    have h7 := ckB_ge (l := l) (f := mkTo l (labL 1 t l) (allL l).length) (x := bestC 1 t l) (by omega) (fun k hk hn => by
      obtain ⟨i, hi, rfl⟩ := kAt_ex hk
      rw [hmk i hi]
      simp only [Option.getD_some]
      cases e2 : labTo 1 t l (allL l).length (kAt l i) with
      | none => simp only [Option.getD_none]; omega
      | some n =>
        have := labTo_pot (t := t) hg h5 (Nat.le_refl (allL l).length) _ _ hk e2
        rw [gK_last hn] at this
        simp only [Option.getD_some]
        omega) (Nat.le_refl (allL l).length)
    omega
end Go.Proofs.Ytpecakgebhmnfaa
