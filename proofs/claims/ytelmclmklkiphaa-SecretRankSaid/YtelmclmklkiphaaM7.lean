/-
  What is proved here: what can be made, by the document's answer. Conditions: none; each contract states its own.
  What is proved here: the document's errors. Conditions: none; each contract states its own.
  What is proved here: what the table of combinations says about the rows. Conditions: none; plain facts.
  What is proved here: ranks, in plain words. Conditions: none; plain facts.
  What is proved here: the rank. Conditions: none; each contract states its own.
  What is proved here: proofs. Conditions: none; each contract states its own.
  What is proved here: proofs. Conditions: none; each contract states its own.
  What is proved here: what stands at right angles to the rows. Conditions: none; plain facts.
  What is proved here: the iterator over twins. Conditions: none; each contract states its own.
  What is proved here: twins. Conditions: none; each contract states its own.
-/
import Derived.Test.YtelmclmklkiphaaM6
import Derived.Test.YtelmclmklkiphaaM5
import Derived.Test.YtelmclmklkiphaaM3
import Derived.Test.YtelmclmklkiphaaM4
set_option linter.unusedVariables false
set_option linter.unusedSimpArgs false
namespace Go.Proofs.Ytelmclmklkiphaa
open Go Go.TH
attribute [local irreducible] W WO pt
set_option maxRecDepth 10000
set_option maxHeartbeats 1000000
/-- whether a row can be made, as the document reckons it -/
def CanA (n : Nat) (rows : List (List Int)) (r : List Int) : Prop := fst (lessR n n (LsR n rows rows.length) (fnL r) (LsR n rows rows.length).length) n = n
instance (n : Nat) (rows : List (List Int)) (r : List Int) : Decidable (CanA n rows r) := by unfold CanA; infer_instance
theorem canA_D {n : Nat} {rows : List (List Int)} {r : List Int} (hok : OkB n rows) (hw : WiB 4 r) : CanA n rows r ↔ CanD n rows r := lsr_can hok hw
theorem ref_Can (w : World) (n : Nat) (v u : Value) (rv : List Value) (rows : List (List Int)) (r : List Int) (hB : RdR encI 1 w.heap.size w v rv rows) (hR : RdF encI 1 w.heap.size w u r) (hok : OkB n rows) (hl : (r.length : Int) = n) (hw : WiB 4 r) : Ret Try.prog 42 [bookV n v, u].toArray w (.bool (bl (CanA n rows r))) := by
  refine Ret.of mixed tyTab Try.func42 rfl rfl ?_
  replace hB : RdR encI 1 (fnCx mixed tyTab Try.f42.ntmps w).B (fnCx mixed tyTab Try.f42.ntmps w).w0 v rv rows := hB
  replace hR : RdF encI 1 (fnCx mixed tyTab Try.f42.ntmps w).B (fnCx mixed tyTab Try.f42.ntmps w).w0 u r := hR
  have h8 := hok.1
  have hn5 := hok.2.1
  have hbd := ls_bd hok
  have hls := hbd.ls rows.length (Nat.le_refl _)
  have hll := LsR_len (n := n) (rows := rows) rows.length
  have hlr := lsr_bd hok hw
  refine W.sreg ?_
  refine WO.boxA rfl rfl (fun b1 hb1 => ?_)
  refine WO.p rfl rfl ?_
  refine WO.nil ?_
  refine W.sreg ?_
  refine WO.fieldL rfl rfl rfl (WO.load rfl rfl (Cell.own Pick.head rfl) rfl (WO.field0 rfl rfl rfl (WO.load rfl rfl (Cell.own Pick.head rfl) rfl ?_)))
  refine WO.call rfl Try.call54 (fun L w' hi' => ref_Reduced w' n v rv rows (hB.later hi') hok hbd) rfl ?_
  rintro _ _ ⟨⟨lv, rvs, fv⟩, rfl, rfl⟩
  refine WO.p rfl rfl (WO.p rfl rfl (WO.p rfl rfl (WO.p rfl rfl (WO.p rfl rfl ?_))))
  refine WO.nil ?_
  refine W.seq ?_
  refine W.drawD 10 [.r 0 [], .r 1 [], .r 2 [], .b 3 [], .r 5 [], .b 6 [], .r 8 [], .b 9 [], .c 4 [], .f 7 []] [] (A0 := []) (Sub.refl _) (by kernel_rfl) ?_ ?_
  · exact (ALok.r (ALok.r (ALok.r (ALok.b (ALok.r (ALok.b (ALok.r (ALok.b (ALok.c (ALok.f ALok.nil))))))))))
  refine' DT.r rfl rfl rfl ?hq ?_
  case hq =>
    refine WO.p rfl rfl ?_
    exact WO.nil ⟨rfl, rfl⟩
  refine' DT.r rfl rfl rfl ?hq ?_
  case hq =>
    refine WO.p rfl rfl ?_
    exact WO.nil ⟨rfl, rfl⟩
  refine' DT.r rfl rfl rfl ?hq ?_
  case hq =>
    refine WO.field0 rfl rfl rfl ?_
    exact WO.nil ⟨rfl, rfl⟩
  refine' DT.b rfl rfl rfl ?hq ?_
  case hq =>
    refine WO.load rfl rfl (Cell.own (Pick.tail (Pick.tail (Pick.head))) rfl) rfl ?_
    exact WO.nil ⟨rfl, rfl⟩
  refine' DT.r rfl rfl rfl ?hq ?_
  case hq =>
    refine WO.field0 rfl rfl rfl ?_
    exact WO.nil ⟨rfl, rfl⟩
  refine' DT.b rfl rfl rfl ?hq ?_
  case hq =>
    refine WO.load rfl rfl (Cell.own (Pick.tail (Pick.tail (Pick.head))) rfl) rfl ?_
    exact WO.nil ⟨rfl, rfl⟩
  refine' DT.r rfl rfl rfl ?hq ?_
  case hq =>
    refine WO.field0 rfl rfl rfl ?_
    exact WO.nil ⟨rfl, rfl⟩
  refine' DT.b rfl rfl rfl ?hq ?_
  case hq =>
    refine WO.load rfl rfl (Cell.own (Pick.tail (Pick.tail (Pick.head))) rfl) rfl ?_
    exact WO.nil ⟨rfl, rfl⟩
  refine DT.c [_, _, _] rfl rfl rfl rfl ?_
  refine WO.call rfl Try.call56 (fun L w' hi' => ref_less w' lv u rvs n n (LsR n rows rows.length) (fnL r) (RdR.of_ow (e := 2) (e' := 25) (n := (LsR n rows rows.length).length) encI_ok (by repeat (first | exact Pick.head | apply Pick.tail)) (by repeat (first | exact Pick.head | apply Pick.tail)) hi') (by rw [lsF_fnL (by omega)]; exact hR.later hi') (by omega) (by omega) (Nat.le_refl _) (fun j hj => (hls j hj).2) hlr (fun j hj => (hls j hj).1) (by omega)) rfl ?_
  rintro xv _ ⟨_, rfl, rfl⟩
  refine WO.nil ⟨_, [_], rfl, rfl, (Keep.b (Keep.r (Keep.b (Keep.r (Keep.b (Keep.r (Keep.r (Keep.r Keep.nil)))))))), ?_⟩
  refine' DT.f [_, _, _, _] rfl rfl rfl rfl ?hq ?_
  case hq =>
    refine WO.callR (r := .int .i64 (fst (lessR n n (LsR n rows rows.length) (fnL r) (LsR n rows rows.length).length) n : Nat)) rfl Try.call55 (fun L w' hi' => by rw [← fst_ls (F := lessR n n (LsR n rows rows.length) (fnL r) (LsR n rows rows.length).length) (Nat.le_refl n)]; exact ref_first w' _ _ n (RdF.of_ow (e := 2) encI_ok (by repeat (first | exact Pick.head | apply Pick.tail)) hi') (by rw [lsF_len]; omega)) rfl ?_
    exact WO.nil ⟨rfl, rfl⟩
  refine DT.nil [_, _, _, _] rfl ?_
  refine WO.p rfl rfl (WO.p rfl rfl ?_)
  refine WO.nil ?_
  refine W.ret ?_
  refine fin.ret (Res.one rfl (RV.tmp rfl)) (congrArg Value.bool (bl_cg ?_))
  unfold CanA
  omega
end Go.Proofs.Ytelmclmklkiphaa
namespace Go.Proofs.Ytelmclmklkiphaa
open Go Go.TH
attribute [local irreducible] W WO pt
set_option maxRecDepth 10000
set_option maxHeartbeats 1000000
def proE (n : Int) (rows : List (List Int)) (r : List Int) : Int := if chkBR n rows r ≠ 0 then chkBR n rows r else if CanA n.toNat rows r then 0 else 5
def twiE (n : Int) (rows : List (List Int)) (r : List Int) : Int := if chkBR n rows r ≠ 0 then chkBR n rows r else if CanA n.toNat rows r then 21 else 0
theorem proE_1 {n : Int} {rows : List (List Int)} {r : List Int} (h : chkBR n rows r ≠ 0) : proE n rows r = chkBR n rows r := if_pos h
theorem proE_5 {n : Int} {rows : List (List Int)} {r : List Int} (h : chkBR n rows r = 0) (hc : ¬ CanA n.toNat rows r) : proE n rows r = 5 := by unfold proE; rw [if_neg (by omega), if_neg hc]
theorem proE_0 {n : Int} {rows : List (List Int)} {r : List Int} (h : chkBR n rows r = 0) (hc : CanA n.toNat rows r) : proE n rows r = 0 := by unfold proE; rw [if_neg (by omega), if_pos hc]
theorem twiE_1 {n : Int} {rows : List (List Int)} {r : List Int} (h : chkBR n rows r ≠ 0) : twiE n rows r = chkBR n rows r := if_pos h
theorem twiE_21 {n : Int} {rows : List (List Int)} {r : List Int} (h : chkBR n rows r = 0) (hc : CanA n.toNat rows r) : twiE n rows r = 21 := by unfold twiE; rw [if_neg (by omega), if_pos hc]
theorem twiE_0 {n : Int} {rows : List (List Int)} {r : List Int} (h : chkBR n rows r = 0) (hc : ¬ CanA n.toNat rows r) : twiE n rows r = 0 := by unfold twiE; rw [if_neg (by omega), if_neg hc]
theorem ref_CanI (w : World) (n : Int) (v u : Value) (rv : List Value) (rows : List (List Int)) (r : List Int) (hB : RdR encI 1 w.heap.size w v rv rows) (hR : RdF encI 1 w.heap.size w u r) (h : chkBR n rows r = 0) : Ret Try.prog 42 [bookV n v, u].toArray w (.bool (bl (CanA n.toNat rows r))) := by
  obtain ⟨hok, hl, hw⟩ := chkBR0.1 h
  have h1 := hok.2.1
  have e : ((n.toNat : Nat) : Int) = n := by omega
  have := ref_Can w n.toNat v u rv rows r hB hR (by rw [e]; exact hok) (by omega) hw
  rwa [e] at this
theorem ref_ProofError (w : World) (n : Int) (v u : Value) (rv : List Value) (rows : List (List Int)) (r : List Int) (hB : RdR encI 1 w.heap.size w v rv rows) (hR : RdF encI 1 w.heap.size w u r) : Ret Try.prog 15 [bookV n v, u].toArray w (.int .i64 (proE n rows r)) := by
  refine Ret.of mixed tyTab Try.func15 rfl rfl ?_
  replace hB : RdR encI 1 (fnCx mixed tyTab Try.f15.ntmps w).B (fnCx mixed tyTab Try.f15.ntmps w).w0 v rv rows := hB
  replace hR : RdF encI 1 (fnCx mixed tyTab Try.f15.ntmps w).B (fnCx mixed tyTab Try.f15.ntmps w).w0 u r := hR
  refine W.sreg ?_
  refine WO.boxA rfl rfl (fun b1 hb1 => ?_)
  refine WO.p rfl rfl ?_
  refine WO.nil ?_
  refine W.seq ?_
  refine W.sreg ?_
  refine WO.loadA rfl rfl (Cells.own Pick.head) rfl rfl (WO.p rfl rfl ?_)
  refine WO.callR rfl Try.call30 (fun L w' hi => ref_both w' n v u rv rows r (hB.later hi) (hR.later hi)) rfl ?_
  refine WO.p rfl rfl ?_
  refine WO.nil ?_
  refine W.cond_bl rfl (fun c1 => ?_) (fun c1 => ?_)
  · first
    | (exfalso; omega)
    | (refine W.sreg ?_
       refine WO.loadA rfl rfl (Cells.own Pick.head) rfl rfl (WO.p rfl rfl ?_)
       refine WO.callR rfl Try.call30 (fun L w' hi => ref_both w' n v u rv rows r (hB.later hi) (hR.later hi)) rfl ?_
       refine WO.p rfl rfl ?_
       refine WO.nil ?_
       refine W.ret ?_
       refine fin.ret (Res.one rfl (RV.tmp rfl)) (congrArg (Value.int .i64) ?_)
       first | exact (proE_1 (by omega)).symm | exact (proE_5 (by omega) (by assumption)).symm | exact (proE_0 (by omega) (by assumption)).symm)
  first
  | (exfalso; omega)
  | (refine W.skip ?_
     refine W.seq ?_
     refine W.sreg ?_
     refine WO.loadA rfl rfl (Cells.own Pick.head) rfl rfl (WO.p rfl rfl ?_)
     refine WO.callR rfl Try.call42 (fun L w' hi => ref_CanI w' n v u rv rows r (hB.later hi) (hR.later hi) (by omega)) rfl ?_
     refine WO.p rfl rfl ?_
     refine WO.nil ?_
     refine W.cond_nbl rfl (fun c2 => ?_) (fun c2 => ?_)
     · first
       | (exfalso; omega)
       | (refine W.sreg ?_
          refine WO.p rfl rfl ?_
          refine WO.nil ?_
          refine W.ret ?_
          refine fin.ret (Res.one rfl (RV.tmp rfl)) (congrArg (Value.int .i64) ?_)
          first | exact (proE_1 (by omega)).symm | exact (proE_5 (by omega) (by assumption)).symm | exact (proE_0 (by omega) (by assumption)).symm)
     first
     | (exfalso; omega)
     | (refine W.skip ?_
        refine W.sreg ?_
        refine WO.p rfl rfl ?_
        refine WO.nil ?_
        refine W.ret ?_
        refine fin.ret (Res.one rfl (RV.tmp rfl)) (congrArg (Value.int .i64) ?_)
        first | exact (proE_1 (by omega)).symm | exact (proE_5 (by omega) (by assumption)).symm | exact (proE_0 (by omega) (by assumption)).symm))
theorem ref_TwinError (w : World) (n : Int) (v u : Value) (rv : List Value) (rows : List (List Int)) (r : List Int) (hB : RdR encI 1 w.heap.size w v rv rows) (hR : RdF encI 1 w.heap.size w u r) : Ret Try.prog 16 [bookV n v, u].toArray w (.int .i64 (twiE n rows r)) := by
  refine Ret.of mixed tyTab Try.func16 rfl rfl ?_
  replace hB : RdR encI 1 (fnCx mixed tyTab Try.f16.ntmps w).B (fnCx mixed tyTab Try.f16.ntmps w).w0 v rv rows := hB
  replace hR : RdF encI 1 (fnCx mixed tyTab Try.f16.ntmps w).B (fnCx mixed tyTab Try.f16.ntmps w).w0 u r := hR
  refine W.sreg ?_
  refine WO.boxA rfl rfl (fun b1 hb1 => ?_)
  refine WO.p rfl rfl ?_
  refine WO.nil ?_
  refine W.seq ?_
  refine W.sreg ?_
  refine WO.loadA rfl rfl (Cells.own Pick.head) rfl rfl (WO.p rfl rfl ?_)
  refine WO.callR rfl Try.call30 (fun L w' hi => ref_both w' n v u rv rows r (hB.later hi) (hR.later hi)) rfl ?_
  refine WO.p rfl rfl ?_
  refine WO.nil ?_
  refine W.cond_bl rfl (fun c1 => ?_) (fun c1 => ?_)
  · first
    | (exfalso; omega)
    | (refine W.sreg ?_
       refine WO.loadA rfl rfl (Cells.own Pick.head) rfl rfl (WO.p rfl rfl ?_)
       refine WO.callR rfl Try.call30 (fun L w' hi => ref_both w' n v u rv rows r (hB.later hi) (hR.later hi)) rfl ?_
       refine WO.p rfl rfl ?_
       refine WO.nil ?_
       refine W.ret ?_
       refine fin.ret (Res.one rfl (RV.tmp rfl)) (congrArg (Value.int .i64) ?_)
       first | exact (twiE_1 (by omega)).symm | exact (twiE_21 (by omega) (by assumption)).symm | exact (twiE_0 (by omega) (by assumption)).symm)
  first
  | (exfalso; omega)
  | (refine W.skip ?_
     refine W.seq ?_
     refine W.sreg ?_
     refine WO.loadA rfl rfl (Cells.own Pick.head) rfl rfl (WO.p rfl rfl ?_)
     refine WO.callR rfl Try.call42 (fun L w' hi => ref_CanI w' n v u rv rows r (hB.later hi) (hR.later hi) (by omega)) rfl ?_
     refine WO.nil ?_
     refine W.cond_bl rfl (fun c2 => ?_) (fun c2 => ?_)
     · first
       | (exfalso; omega)
       | (refine W.sreg ?_
          refine WO.p rfl rfl ?_
          refine WO.nil ?_
          refine W.ret ?_
          refine fin.ret (Res.one rfl (RV.tmp rfl)) (congrArg (Value.int .i64) ?_)
          first | exact (twiE_1 (by omega)).symm | exact (twiE_21 (by omega) (by assumption)).symm | exact (twiE_0 (by omega) (by assumption)).symm)
     first
     | (exfalso; omega)
     | (refine W.skip ?_
        refine W.sreg ?_
        refine WO.p rfl rfl ?_
        refine WO.nil ?_
        refine W.ret ?_
        refine fin.ret (Res.one rfl (RV.tmp rfl)) (congrArg (Value.int .i64) ?_)
        first | exact (twiE_1 (by omega)).symm | exact (twiE_21 (by omega) (by assumption)).symm | exact (twiE_0 (by omega) (by assumption)).symm))
end Go.Proofs.Ytelmclmklkiphaa
namespace Go.Proofs.Ytelmclmklkiphaa
open Go Go.TH
set_option maxHeartbeats 1000000
theorem gcd_elim {N p : Nat} {l X : Nat → Int} (h : gcdF X N ≤ 1) : gcdF (elimF N l p X) N ≤ 1 := by
  by_cases g : X p = 0
  · rw [elimF_0 g]; exact h
  rw [elimF_1 g]; exact prim_gcd _ N
theorem gcd_less {N : Nat} {f : Nat → Option (Nat → Int)} {X : Nat → Int} (h : gcdF X N ≤ 1) : ∀ k, gcdF (lessN N f X k) N ≤ 1
  | 0 => h
  | k + 1 => by
    show gcdF (stpF N f (lessN N f X k) k) N ≤ 1
    cases e : f k with
    | none => rw [stpF_none (by rw [e]; decide)]; exact gcd_less h k
    | some l => rw [stpF_some e]; exact gcd_elim (gcd_less h k)
theorem gcd_row {l : List Int} {v : Int} {i : Nat} (hi : i ≤ 8) : gcdF (rowX l v i) 15 ≤ 1 := by
  have e : rowX l v i (6 + i) = 1 := by rw [rowX_6 (by omega), if_pos rfl]
  have := gcdF_of (X := rowX l v i) (n := 15) (k := 6 + i) (by omega)
  rw [e] at this
  exact Nat.le_of_dvd (by decide) this
theorem prim_zero {X : Nat → Int} {N k : Nat} (hk : k < N) (h : X k = 0) : primF X N k = 0 := by
  obtain ⟨t, ht, he⟩ := prim_ex X N
  have := he k hk
  rw [h] at this
  exact (Int.mul_eq_zero.1 this.symm).resolve_left ht
/-- the numbers in front of a place are 0, and the terms are least -/
theorem tab_lead (n : Nat) (rows : List (List Int)) (vals : List Int) : ∀ i, i ≤ 9 → ∀ p l, tabF n rows vals i p = some l → (∀ k, k < p → l k = 0) ∧ gcdF l 15 ≤ 1
  | 0, _, p, l, h => by cases h
  | i + 1, hi, p, l, h => by
    have ih := tab_lead n rows vals i (by omega)
    have hgX : gcdF (redX n rows vals i n) 15 ≤ 1 := gcd_less (gcd_row (by omega)) n
    rw [tabF_succ] at h
    generalize redX n rows vals i n = X at h hgX
    unfold tabS at h
    split at h
    · exact ih p l h
    rename_i hq
    obtain ⟨h1, h2, h3⟩ : fst X 5 < 5 ∧ X (fst X 5) ≠ 0 ∧ ∀ k, k < fst X 5 → X k = 0 := by
      rcases fst_spec X 5 with ⟨e, _⟩ | g
      · exact absurd e hq
      exact g
    unfold updM at h
    split at h
    · rename_i e
      injection h with h
      subst h e
      exact ⟨h3, hgX⟩
    rename_i hne
    unfold withF at h
    cases e : tabF n rows vals i p with
    | none => rw [e] at h; cases h
    | some l0 =>
      rw [e] at h
      have hl : elimF 15 X (fst X 5) l0 = l := by injection h
      subst hl
      have hh := ih p l0 e
      refine ⟨fun k hk => ?_, gcd_elim hh.2⟩
      by_cases g : l0 (fst X 5) = 0
      · rw [elimF_0 g]; exact hh.1 k hk
      have hlt : p < fst X 5 := by
        rcases Nat.lt_or_ge p (fst X 5) with q | q
        · exact q
        exact absurd (hh.1 (fst X 5) (by omega)) g
      rw [elimF_1 g]
      refine prim_zero (by omega) ?_
      unfold linX
      rw [hh.1 k hk, h3 k (by omega)]; omega
/-! ## Combinations by their places -/
theorem dotN_sum (a : Nat → Int) (g : Nat → Nat → Int) (z : Nat → Int) (n : Nat) : ∀ (P : List Nat), dotN (fun k => sumL P fun q => a q * g q k) z n = sumL P fun q => a q * dotN (g q) z n
  | [] => by
    have : ∀ n, dotN (fun _ => (0 : Int)) z n = 0 := fun n => by
      induction n with
      | zero => rfl
      | succ n ih => show dotN _ z n + 0 * z n = 0; rw [ih, Int.zero_mul]; rfl
    exact this n
  | q :: P => by
    show dotN (fun k => a q * g q k + sumL P fun q => a q * g q k) z n = a q * dotN (g q) z n + _
    rw [dotN_add (fun k => a q * g q k) (fun k => sumL P fun q => a q * g q k) z n, dotN_mul, dotN_sum a g z n P]
section
variable {N n m : Nat} {B : Nat → Nat → Int} {M R : Int} {I P : List Nat} {f : Nat → Option (Nat → Int)}
theorem St.cofs (hF : Fam N n B M R) (h : St N n B m I P f) (hm : m ≤ 8) : ∃ cq : Nat → Nat → Int, ∀ p ∈ P, Cof N B I P M p (cq p) :=
  ⟨fun p => if hp : p ∈ P then (h.cof hF hm hp).choose else fun _ => 0, fun p hp => by
    simp only [hp, dif_pos]
    exact (h.cof hF hm hp).choose_spec⟩
theorem cmb_sum (w : Nat → Int) (cq : Nat → Nat → Int) (k : Nat) : cmb B I (fun i => sumL P fun q => w q * cq q i) k = sumL P fun q => w q * cmb B I (cq q) k := by
  have e1 : cmb B I (fun i => sumL P fun q => w q * cq q i) k = sumL I fun i => sumL P fun q => w q * (cq q i * B i k) := sumL_cg fun i _ => by
    rw [Int.mul_comm, ← sumL_mul]
    exact sumL_cg fun q _ => by rw [Int.mul_comm, Int.mul_assoc]
  rw [e1, sumL_swap]
  exact sumL_cg fun q _ => sumL_mul _ _ _
theorem St.expand (h : St N n B m I P f) {cq : Nat → Nat → Int} (hc : ∀ p ∈ P, Cof N B I P M p (cq p)) (d : Nat → Int) (k : Nat) : det B P I * cmb B I d k = sumL P fun q => cmb B I d q * cmb B I (cq q) k := by
  have e := h.bs.ind (fun i => det B P I * d i + (-1) * sumL P fun q => cmb B I d q * cq q i) fun p hp => by
    rw [cmb_lin, cmb_sum]
    have e2 : (sumL P fun q => cmb B I d q * cmb B I (cq q) p) = cmb B I d p * det B P I := by
      rw [show (sumL P fun q => cmb B I d q * cmb B I (cq q) p) = sumL P fun q => (if q = p then 1 else 0) * (cmb B I d q * det B P I) from sumL_cg fun q hq => by
        by_cases g : q = p
        · rw [if_pos g, g, (hc p hp).at_, Int.one_mul]
        rw [if_neg g, (hc q hq).z p hp (fun e => g e.symm)]; omega, sumL_one (g := fun q => cmb B I d q * det B P I) h.bs.pN hp]
    rw [e2, Int.mul_comm (cmb B I d p)]; omega
  have e2 : cmb B I (fun i => det B P I * d i + (-1) * sumL P fun q => cmb B I d q * cq q i) k = 0 := sumL_zero fun i hi => by
    show (det B P I * d i + (-1) * sumL P fun q => cmb B I d q * cq q i) * B i k = 0
    rw [e i hi, Int.zero_mul]
  rw [cmb_lin, cmb_sum] at e2
  omega
/-- what is 0 at all lines of the table is 0 at all combinations -/
theorem St.func (hF : Fam N n B M R) (h : St N n B m I P f) (hm : m ≤ 8) (z d : Nat → Int) (hz : ∀ q ∈ P, cmb B I d q = 0 ∨ ∀ l, f q = some l → dotN l z n = 0) : dotN (cmb B I d) z n = 0 := by
  obtain ⟨cq, hc⟩ := h.cofs hF hm
  have hPN : ∀ q ∈ P, q < N := fun q hq => Nat.lt_of_lt_of_le (h.lt q hq) hF.nN
  refine (Int.mul_eq_zero.1 (?_ : det B P I * dotN (cmb B I d) z n = 0)).resolve_left h.bs.dne
  rw [← dotN_mul, show dotN (fun k => det B P I * cmb B I d k) z n = dotN (fun k => sumL P fun q => cmb B I d q * cmb B I (cq q) k) z n from dotN_cg (fun k _ => h.expand hc d k) (fun _ _ => rfl), dotN_sum]
  refine sumL_zero fun q hq => ?_
  rcases hz q hq with g | g
  · rw [g, Int.zero_mul]
  obtain ⟨l, hl⟩ := (h.dom q).2 hq
  have he := h.ent q l hl
  have e1 : l q * dotN (cmb B I (cq q)) z n = 0 := by
    rw [← dotN_mul, show dotN (fun k => l q * cmb B I (cq q) k) z n = dotN (fun k => det B P I * l k) z n from dotN_cg (fun k hk => he.ratio hPN h.bs hq (hc q hq) (by have := hF.nN; omega)) (fun _ _ => rfl), dotN_mul, g l hl, Int.mul_zero]
  rw [(Int.mul_eq_zero.1 e1).resolve_left he.ne, Int.mul_zero]
end
def dlt (p k : Nat) : Int := if k = p then 1 else 0
theorem dot_dlt (g : Nat → Int) (p : Nat) : ∀ n, dotN g (dlt p) n = if p < n then g p else 0
  | 0 => by rw [if_neg (by omega)]; rfl
  | n + 1 => by
    show dotN g (dlt p) n + g n * dlt p n = _
    rw [dot_dlt g p n]
    unfold dlt
    by_cases e : n = p
    · subst e; rw [if_neg (by omega), if_pos rfl, if_pos (by omega)]; omega
    rw [if_neg e]
    by_cases g : p < n
    · rw [if_pos g, if_pos (by omega)]; omega
    rw [if_neg g, if_neg (by omega)]; omega
end Go.Proofs.Ytelmclmklkiphaa
namespace Go.Proofs.Ytelmclmklkiphaa
open Go Go.TH
set_option maxHeartbeats 1000000
def zrL (m : Nat) : List Int := List.replicate m 0
theorem zrL_at (m i : Nat) : fnL (zrL m) i = 0 := by
  unfold fnL zrL
  rw [List.getD_eq_getElem?_getD, List.getElem?_replicate]
  split <;> rfl
theorem dot_0 (g : Nat → Int) : ∀ n, dotN g (fun _ => 0) n = 0
  | 0 => rfl
  | n + 1 => by show dotN g (fun _ => 0) n + g n * 0 = 0; rw [dot_0 g n]; simp
theorem zrL_hu (rows : List (List Int)) (m : Nat) : HuV rows (zrL m) fun _ => 0 := ⟨fun _ => ⟨by show (-10 : Int) ≤ 0; decide, by show (0 : Int) ≤ 10; decide⟩, fun i => by rw [zrL_at, dot_0]⟩
/-- the table that knows no values -/
def mkF (n : Nat) (rows : List (List Int)) : Nat → Option (Nat → Int) := tabF n rows (zrL rows.length) rows.length
def rkF (f : Nat → Option (Nat → Int)) : Nat := ((List.range 5).filter fun p => (f p).isSome).length
theorem rkF_cg {f g : Nat → Option (Nat → Int)} (h : ∀ p, p < 5 → (f p).isSome = (g p).isSome) : rkF f = rkF g := by
  unfold rkF
  congr 1
  exact List.filter_congr fun p hp => by rw [h p (by simpa using hp)]
theorem rkF_P {f : Nat → Option (Nat → Int)} {P : List Nat} (hn : P.Nodup) (h5 : ∀ p ∈ P, p < 5) (h : ∀ p, (∃ l, f p = some l) ↔ p ∈ P) : rkF f = P.length := by
  refine List.Perm.length_eq ((List.perm_ext_iff_of_nodup (List.nodup_range.filter _) hn).2 fun p => ?_)
  rw [List.mem_filter, List.mem_range, Option.isSome_iff_exists, h p]
  exact ⟨fun g => g.2, fun g => ⟨h5 p g, g⟩⟩
theorem filt5 (g : Nat → Bool) (q : Nat) (hq : q < 5) (hg : g q = false) : ((List.range 5).filter fun p => g p || decide (p = q)).length = ((List.range 5).filter g).length + 1 := by
  have e : List.range 5 = [0, 1, 2, 3, 4] := by decide
  rw [e]
  simp only [List.filter]
  match q, hq, hg with
  | 0, _, hg => simp [hg] <;> (cases g 1 <;> cases g 2 <;> cases g 3 <;> cases g 4 <;> rfl)
  | 1, _, hg => simp [hg] <;> (cases g 0 <;> cases g 2 <;> cases g 3 <;> cases g 4 <;> rfl)
  | 2, _, hg => simp [hg] <;> (cases g 0 <;> cases g 1 <;> cases g 3 <;> cases g 4 <;> rfl)
  | 3, _, hg => simp [hg] <;> (cases g 0 <;> cases g 1 <;> cases g 2 <;> cases g 4 <;> rfl)
  | 4, _, hg => simp [hg] <;> (cases g 0 <;> cases g 1 <;> cases g 2 <;> cases g 3 <;> rfl)
theorem nd_len : ∀ {l P : List Nat}, l.Nodup → (∀ x ∈ l, x ∈ P) → l.length ≤ P.length
  | [], _, _, _ => Nat.zero_le _
  | x :: l, P, hn, h => by
    rw [List.nodup_cons] at hn
    have hx := h x (by simp)
    have := nd_len (l := l) (P := P.erase x) hn.2 fun y hy => (List.mem_erase_of_ne (fun e : y = x => hn.1 (by rw [← e]; exact hy))).2 (h y (by simp [hy]))
    rw [List.length_erase_of_mem hx] at this
    have := List.length_pos_of_mem hx
    rw [List.length_cons]; omega
theorem nd_full {P : List Nat} {n : Nat} (hn : P.Nodup) (hl : ∀ p ∈ P, p < n) (he : P.length = n) {p : Nat} (hp : p < n) : p ∈ P := by
  refine Decidable.byContradiction fun g => ?_
  have := nodup_le (n := n) (P := p :: P) (List.nodup_cons.2 ⟨g, hn⟩) fun q hq => by
    rcases List.mem_cons.1 hq with e | e
    · omega
    exact hl q e
  rw [List.length_cons] at this
  omega
section
variable {n : Nat} {rows : List (List Int)} {r : List Int}
theorem OkB.rep (h : OkB n rows) : (((List.replicate n (0 : Int)).length : Nat) : Int) = n ∧ WiB 4 (List.replicate n (0 : Int)) := ⟨by simp, fun x hx => by rw [List.mem_replicate] at hx; omega⟩
/-- the state behind all rows -/
theorem mk_st (hok : OkB n rows) (hr : (r.length : Int) = n) (hw : WiB 4 r) : ∃ I P, St 15 n (famP rows (zrL rows.length) r) rows.length I P (mkF n rows) := tab_st hok (zrL_hu rows rows.length) hr hw rows.length (Nat.le_refl _)
theorem mk_fam (hok : OkB n rows) (hr : (r.length : Int) = n) (hw : WiB 4 r) : Fam 15 n (famP rows (zrL rows.length) r) 6144000 200 := fam_ok hok (zrL_hu rows rows.length) hr hw
theorem mk_lead (hok : OkB n rows) {p : Nat} {l : Nat → Int} (h : mkF n rows p = some l) : (∀ k, k < p → l k = 0) ∧ gcdF l 15 ≤ 1 := tab_lead n rows _ rows.length (by have := hok.1; omega) p l h
/-- a combination of the rows -/
def lcR (rows : List (List Int)) (c : Nat → Int) (k : Nat) : Int := cmb (Gr rows) (List.range rows.length) c k
theorem fam_range {vals : List Int} {c : Nat → Int} {k : Nat} (h8 : rows.length ≤ 8) (hk : k < 5) : cmb (famP rows vals r) (List.range rows.length) c k = lcR rows c k := sumL_cg fun i hi => by
  have : i < rows.length := by simpa using hi
  rw [fam_at hk, if_neg (by omega)]
/-- the places: where a combination can begin -/
theorem mk_place (hok : OkB n rows) (p : Nat) : (∃ l, mkF n rows p = some l) ↔ p < n ∧ ∃ c, (∀ k, k < p → lcR rows c k = 0) ∧ lcR rows c p ≠ 0 := by
  have hn := hok.2.1
  have h8 := hok.1
  obtain ⟨hr, hw⟩ := hok.rep
  obtain ⟨I, P, hst⟩ := mk_st hok hr hw
  have hF := mk_fam hok hr hw
  constructor
  · rintro ⟨l, hl⟩
    have hpP := (hst.dom p).1 ⟨l, hl⟩
    have hpn := hst.lt p hpP
    obtain ⟨a, c, ha, hc⟩ := (hst.ent p l hl).comb
    have e : ∀ k, k < 5 → a * l k = lcR rows (fun i => if i ∈ I then c i else 0) k := fun k hk => by
      rw [hc k (by omega), cmb_in hst.bs.iN hst.im, fam_range h8 hk]
    refine ⟨hpn, fun i => if i ∈ I then c i else 0, fun k hk => ?_, ?_⟩
    · rw [← e k (by omega), (mk_lead hok hl).1 k hk, Int.mul_zero]
    rw [← e p (by omega)]
    exact fun g => (Int.mul_eq_zero.1 g).elim ha (hst.ent p l hl).ne
  rintro ⟨hpn, c, h0, h1⟩
  refine (hst.dom p).2 (Decidable.byContradiction fun hpP => ?_)
  obtain ⟨t, d, ht, hd⟩ := hst.spanned rows.length (Nat.le_refl _) c
  have e : ∀ k, k < n → t * lcR rows c k = cmb (famP rows (zrL rows.length) (List.replicate n 0)) I d k := fun k hk => by rw [← hd k hk, fam_range h8 (by omega)]
  have h2 := hst.func hF h8 (dlt p) d fun q hq => by
    have hqn := hst.lt q hq
    by_cases g : q < p
    · left; rw [← e q hqn, h0 q g, Int.mul_zero]
    right
    intro l hl
    have hne : q ≠ p := fun e => hpP (e ▸ hq)
    rw [dot_dlt, if_pos hpn]
    exact (mk_lead hok hl).1 p (by omega)
  rw [dot_dlt, if_pos hpn, ← e p hpn] at h2
  exact (Int.mul_eq_zero.1 h2).elim ht h1
def rkR (n : Nat) (rows : List (List Int)) : Nat := rkF (mkF n rows)
theorem rk_le (hok : OkB n rows) : rkR n rows ≤ n ∧ rkR n rows ≤ rows.length := by
  have hn := hok.2.1
  obtain ⟨hr, hw⟩ := hok.rep
  obtain ⟨I, P, hst⟩ := mk_st hok hr hw
  have e : rkR n rows = P.length := rkF_P hst.bs.pN (fun p hp => by have := hst.lt p hp; omega) hst.dom
  rw [e]
  exact ⟨nodup_le hst.bs.pN hst.lt, by rw [← hst.bs.len]; exact nodup_le hst.bs.iN hst.im⟩
/-- combinations do not ask for the order of the rows -/
theorem lc_sub {rows2 : List (List Int)} (h : ∀ x ∈ rows, x ∈ rows2) (c : Nat → Int) : ∃ c2, ∀ k, lcR rows c k = lcR rows2 c2 k := by
  have : ∀ m, m ≤ rows.length → ∃ c2, ∀ k, cmb (Gr rows) (List.range m) c k = lcR rows2 c2 k := by
    intro m
    induction m with
    | zero => exact fun _ => ⟨fun _ => 0, fun k => by unfold lcR; rw [cmb_0]; rfl⟩
    | succ m ih =>
      intro hm
      obtain ⟨c2, h2⟩ := ih (by omega)
      obtain ⟨j, hj, hx⟩ := List.getElem_of_mem (h _ (getD_mem (l := rows) (i := m) (by omega) []))
      refine ⟨fun i => 1 * c2 i + c m * (if i = j then 1 else 0), fun k => ?_⟩
      have e1 : cmb (Gr rows2) (List.range rows2.length) (fun i => if i = j then 1 else 0) k = Gr rows m k := by
        unfold cmb
        rw [sumL_one (g := fun i => Gr rows2 i k) List.nodup_range (by simpa using hj)]
        show fnL (rows2.getD j []) k = fnL (rows.getD m []) k
        rw [List.getD_eq_getElem?_getD, List.getElem?_eq_getElem hj, ← hx]; rfl
      unfold lcR
      rw [cmb_lin, cmb_succ, e1, h2 k]
      unfold lcR
      omega
  exact this rows.length (Nat.le_refl _)
theorem rk_cg {rows2 : List (List Int)} (hok : OkB n rows) (hok2 : OkB n rows2) (h : ∀ x, x ∈ rows ↔ x ∈ rows2) : rkR n rows = rkR n rows2 := rkF_cg fun p _ => by
  have e : (∃ l, mkF n rows p = some l) ↔ ∃ l, mkF n rows2 p = some l := by
    rw [mk_place hok, mk_place hok2]
    constructor
    · rintro ⟨h1, c, h2, h3⟩
      obtain ⟨c2, e⟩ := lc_sub (fun x hx => (h x).1 hx) c
      exact ⟨h1, c2, fun k hk => by rw [← e k]; exact h2 k hk, by rw [← e p]; exact h3⟩
    rintro ⟨h1, c, h2, h3⟩
    obtain ⟨c2, e⟩ := lc_sub (fun x hx => (h x).2 hx) c
    exact ⟨h1, c2, fun k hk => by rw [← e k]; exact h2 k hk, by rw [← e p]; exact h3⟩
  have e2 : ((mkF n rows p).isSome = true) ↔ ((mkF n rows2 p).isSome = true) := by
    rw [Option.isSome_iff_exists, Option.isSome_iff_exists]; exact e
  exact Bool.eq_iff_iff.2 e2
/-- the rows of unit length -/
def uvL (n k : Nat) : List Int := (List.replicate n 0).set k 1
theorem uvL_at {k : Nat} (hk : k < n) (j : Nat) : fnL (uvL n k) j = dlt k j := by
  unfold fnL uvL dlt
  rw [List.getD_eq_getElem?_getD, List.getElem?_set]
  by_cases e : k = j
  · subst e; rw [if_pos rfl, if_pos rfl, if_pos (by simpa using hk)]; rfl
  rw [if_neg e, if_neg (fun g => e g.symm), List.getElem?_replicate]; split <;> rfl
theorem uvL_ok {k : Nat} : ((uvL n k).length : Int) = n ∧ WiB 4 (uvL n k) := by
  refine ⟨by simp [uvL], fun x hx => ?_⟩
  rcases List.mem_or_eq_of_mem_set hx with g | g
  · rw [List.mem_replicate] at g; omega
  omega
theorem rk_full (hok : OkB n rows) : rkR n rows = n ↔ ∀ k, k < n → CanD n rows (uvL n k) := by
  have hn := hok.2.1
  have h8 := hok.1
  obtain ⟨hr, hw⟩ := hok.rep
  obtain ⟨I, P, hst⟩ := mk_st hok hr hw
  have hF := mk_fam hok hr hw
  have e : rkR n rows = P.length := rkF_P hst.bs.pN (fun p hp => by have := hst.lt p hp; omega) hst.dom
  constructor
  · intro hfull k hk
    have hall : ∀ p, p < n → p ∈ P := fun p hp => nd_full hst.bs.pN hst.lt (by omega) hp
    obtain ⟨c, hc⟩ := hst.cof hF h8 (hall k hk)
    refine ⟨det (famP rows (zrL rows.length) (List.replicate n 0)) P I, fun i => if i ∈ I then c i else 0, hst.bs.dne, fun j hj => ?_⟩
    show _ = lcR rows _ j
    rw [uvL_at hk, ← fam_range (r := List.replicate n 0) (vals := zrL rows.length) h8 (by omega), ← cmb_in hst.bs.iN hst.im]
    unfold dlt
    by_cases g : j = k
    · rw [if_pos g, g, hc.at_, Int.mul_one]
    rw [if_neg g, hc.z j (hall j hj) g, Int.mul_zero]
  intro h
  have h1 : ∀ p, p < n → p ∈ P := fun p hp => by
    obtain ⟨t, c, ht, hc⟩ := h p hp
    refine (hst.dom p).1 ((mk_place hok p).2 ⟨hp, c, fun k hk => ?_, ?_⟩)
    · show cmb (Gr rows) (List.range rows.length) c k = 0
      rw [← hc k (by omega), uvL_at hp]
      unfold dlt
      rw [if_neg (by omega), Int.mul_zero]
    show cmb (Gr rows) (List.range rows.length) c p ≠ 0
    rw [← hc p hp, uvL_at hp]
    unfold dlt
    rw [if_pos rfl]; omega
  rw [e]
  have h2 := nodup_le hst.bs.pN hst.lt
  have h3 : (List.range n).length ≤ P.length := nd_len List.nodup_range fun p hp => h1 p (by simpa using hp)
  rw [List.length_range] at h3
  omega
/-! ## One row more -/
theorem tab_pre (vals vals2 : List Int) (x : List Int) (hv : ∀ i, fnL vals i = fnL vals2 i) : ∀ i, i ≤ rows.length → tabF n (rows ++ [x]) vals i = tabF n rows vals2 i
  | 0, _ => rfl
  | i + 1, hi => by
    have hg : (rows ++ [x]).getD i [] = rows.getD i [] := by
      rw [List.getD_eq_getElem?_getD, List.getElem?_append_left (by omega), List.getD_eq_getElem?_getD]
    rw [tabF_succ, tabF_succ]
    unfold redX
    rw [tab_pre vals vals2 x hv i (by omega), hg, hv i]
theorem rk_more (hok : OkB n rows) (h7 : rows.length < 8) (hr : (r.length : Int) = n) (hw : WiB 4 r) : OkB n (rows ++ [r]) ∧ (CanD n rows r → rkR n (rows ++ [r]) = rkR n rows) ∧ (¬ CanD n rows r → rkR n (rows ++ [r]) = rkR n rows + 1) := by
  have hn := hok.2.1
  have hok2 : OkB n (rows ++ [r]) := by
    refine ⟨by rw [List.length_append]; simp; omega, hok.2.1, fun x hx => ?_, fun x hx => ?_⟩
    · rcases List.mem_append.1 hx with g | g
      · exact hok.2.2.1 x g
      rw [List.mem_singleton.1 g]; exact hr
    rcases List.mem_append.1 hx with g | g
    · exact hok.2.2.2 x g
    rw [List.mem_singleton.1 g]; exact hw
  refine ⟨hok2, ?_⟩
  have hlen : (rows ++ [r]).length = rows.length + 1 := by simp
  have e0 : tabF n (rows ++ [r]) (zrL (rows ++ [r]).length) rows.length = mkF n rows := tab_pre _ _ r (fun i => by rw [zrL_at, zrL_at]) rows.length (Nat.le_refl _)
  obtain ⟨hr0, hw0⟩ := hok.rep
  have hv := zrL_hu (rows ++ [r]) (rows ++ [r]).length
  obtain ⟨I, P, hst⟩ := tab_st hok2 hv hr0 hw0 rows.length (by omega)
  have hF := fam_ok hok2 hv hr0 hw0
  obtain ⟨j, hj, hy⟩ := ray_less hF hst (by omega) (x := rows.length) (by omega) n (Nat.le_refl n)
  rw [famP_i (by omega)] at hy
  have hyX : Ray 15 (famP (rows ++ [r]) (zrL (rows ++ [r]).length) (List.replicate n 0)) I P 6144000 rows.length (fun q => q < n) j (redX n (rows ++ [r]) (zrL (rows ++ [r]).length) rows.length n) := hy
  have hcan := hyX.can hF hst hst.lt
  have hq : CanQ n (famP (rows ++ [r]) (zrL (rows ++ [r]).length) (List.replicate n 0)) rows.length rows.length ↔ CanD n rows r := by
    have e1 : ∀ k, k < n → famP (rows ++ [r]) (zrL (rows ++ [r]).length) (List.replicate n 0) rows.length k = fnL r k := fun k hk => by
      rw [fam_at (by omega), if_neg (by omega)]
      unfold Gr
      rw [List.getD_eq_getElem?_getD, List.getElem?_append_right (Nat.le_refl _)]
      simp
    have e2 : ∀ (c : Nat → Int) k, k < n → cmb (famP (rows ++ [r]) (zrL (rows ++ [r]).length) (List.replicate n 0)) (List.range rows.length) c k = cmb (Gr rows) (List.range rows.length) c k := fun c k hk => sumL_cg fun i hi => by
      have : i < rows.length := by simpa using hi
      rw [fam_at (by omega), if_neg (by omega)]
      unfold Gr
      rw [List.getD_eq_getElem?_getD, List.getElem?_append_left this, List.getD_eq_getElem?_getD]
    constructor
    · rintro ⟨t, c, ht, hc⟩
      exact ⟨t, c, ht, fun k hk => by rw [← e1 k hk, hc k hk, e2 c k hk]⟩
    rintro ⟨t, c, ht, hc⟩
    exact ⟨t, c, ht, fun k hk => by rw [e1 k hk, hc k hk, e2 c k hk]⟩
  rw [hq] at hcan
  have hmk : mkF n (rows ++ [r]) = tabS (mkF n rows) (redX n (rows ++ [r]) (zrL (rows ++ [r]).length) rows.length n) := by
    unfold mkF
    rw [show tabF n (rows ++ [r]) (zrL (rows ++ [r]).length) (rows ++ [r]).length = tabF n (rows ++ [r]) (zrL (rows ++ [r]).length) (rows.length + 1) by rw [hlen], tabF_succ, e0]
    rfl
  rw [e0] at hst
  have h5 : fst (redX n (rows ++ [r]) (zrL (rows ++ [r]).length) rows.length n) 5 = 5 ↔ CanD n rows r := by
    rw [← hcan]
    rcases fst_spec (redX n (rows ++ [r]) (zrL (rows ++ [r]).length) rows.length n) 5 with ⟨e, h0⟩ | ⟨h1, h2, _⟩
    · exact ⟨fun _ k hk => h0 k (by omega), fun _ => e⟩
    constructor
    · intro g; omega
    intro g
    exfalso
    refine h2 ?_
    by_cases q : fst (redX n (rows ++ [r]) (zrL (rows ++ [r]).length) rows.length n) 5 < n
    · exact g _ q
    exact less_zero hok2 hr0 hyX h1 (by omega)
  have hzero := hyX.zero (fun q hq => by have := hst.lt q hq; omega) hst.lt
  generalize redX n (rows ++ [r]) (zrL (rows ++ [r]).length) rows.length n = X at hmk h5 hzero
  refine ⟨fun hc => ?_, fun hc => ?_⟩
  · unfold rkR
    rw [hmk]
    unfold tabS
    rw [if_pos (h5.2 hc)]
  have hne : fst X 5 ≠ 5 := fun g => hc (h5.1 g)
  have hlt : fst X 5 < 5 := by have := fst_le X 5; omega
  have hX : X (fst X 5) ≠ 0 := by
    rcases fst_spec X 5 with ⟨e, _⟩ | ⟨_, h2, _⟩
    · omega
    exact h2
  have hnone : (mkF n rows (fst X 5)).isSome = false := by
    cases e : mkF n rows (fst X 5) with
    | none => rfl
    | some l => exact absurd (hzero _ ((hst.dom _).1 ⟨l, e⟩)) hX
  unfold rkR
  rw [hmk]
  unfold tabS
  rw [if_neg hne]
  have e3 : rkF (updM (withF X (fst X 5) (mkF n rows)) (fst X 5) X) = ((List.range 5).filter fun p => (mkF n rows p).isSome || decide (p = fst X 5)).length := by
    unfold rkF
    congr 1
    refine List.filter_congr fun p _ => ?_
    unfold updM withF
    by_cases g : p = fst X 5
    · rw [if_pos g]; simp [g]
    rw [if_neg g]; simp [g]
  rw [e3, filt5 _ _ hlt hnone]
  rfl
end
end Go.Proofs.Ytelmclmklkiphaa
namespace Go.Proofs.Ytelmclmklkiphaa
open Go Go.TH
attribute [local irreducible] W WO pt
set_option maxRecDepth 10000
set_option maxHeartbeats 1000000
def rkV (n : Int) (rows : List (List Int)) : Int := if chkB n rows = 0 then (rkR n.toNat rows : Nat) else 0
theorem rkV_1 {n : Int} {rows : List (List Int)} (h : chkB n rows ≠ 0) : rkV n rows = 0 := if_neg h
theorem rkV_0 {n : Int} {rows : List (List Int)} (h : chkB n rows = 0) : rkV n rows = (rkR n.toNat rows : Nat) := if_pos h
theorem keys_rk {f : Nat → Option (Nat → Int)} {ks : List KE} (hn : (ks.map (·.1)).Nodup) (h : ∀ k, lkE ks k = f k) (h5 : ∀ p l, f p = some l → p < 5) : rkF f = ks.length := by
  have hm : ∀ p, (∃ l, f p = some l) ↔ p ∈ ks.map (·.1) := fun p => by
    constructor
    · rintro ⟨l, hl⟩
      rw [← h p] at hl
      obtain ⟨s, hs⟩ := lkE_mem hl
      exact List.mem_map.2 ⟨_, hs, rfl⟩
    intro g
    obtain ⟨⟨a, X, s⟩, h1, h2⟩ := List.mem_map.1 g
    simp only at h2
    subst h2
    exact ⟨X, by rw [← h a]; exact lkE_of hn h1⟩
  rw [rkF_P hn (fun p hp => by obtain ⟨l, hl⟩ := (hm p).2 hp; exact h5 p l hl) hm, List.length_map]
theorem mk_5 {n : Nat} {rows : List (List Int)} (hok : OkB n rows) {p : Nat} {l : Nat → Int} (h : mkF n rows p = some l) : p < 5 := by
  have := ((mk_place hok p).1 ⟨l, h⟩).1
  have := hok.2.1
  omega
theorem c_newTableI (w : World) (n : Int) (v u : Value) (rv : List Value) (rows : List (List Int)) (hB : RdR encI 1 w.heap.size w v rv rows) (hV : RdF encI 1 w.heap.size w u (zrL rows.length)) (hok : OkB n rows) :
    Ct Try.prog 37 [bookV n v, u].toArray w fun r w' => ∃ Hq, (∃ t m : Nat, r = .tuple #[.pointer (some ⟨t, 0, none⟩), .bool (goodF n.toNat rows (zrL rows.length) rows.length)] ∧ Hq = [pt t (.cells #[.int .i64 n, .map (some m)] 80 (0, 0)), MapP m (mkF n.toNat rows)]) ∧ TH.Inv w [] Hq w' := by
  have h1 := hok.2.1
  have e : ((n.toNat : Nat) : Int) = n := by omega
  have hok' : OkB (n.toNat : Nat) rows := by rw [e]; exact hok
  have := c_newTable w n.toNat v u rv rows (zrL rows.length) hB hV (by simp [zrL]) hok' (tab_bd hok' (zrL_hu rows rows.length))
  rw [e] at this
  exact this.mono fun r w' ⟨Hq, ⟨⟨t, m⟩, h1, h2⟩, hi⟩ => ⟨Hq, ⟨t, m, h1, h2⟩, hi⟩
theorem c_Rank (w : World) (n : Int) (v : Value) (rv : List Value) (rows : List (List Int)) (hB : RdR encI 1 w.heap.size w v rv rows) : Ret Try.prog 22 [bookV n v].toArray w (.tuple #[.int .i64 (rkV n rows), .int .i64 (chkB n rows)]) := by
  refine Ret.of mixed tyTab Try.func22 rfl rfl ?_
  replace hB : RdR encI 1 (fnCx mixed tyTab Try.f22.ntmps w).B (fnCx mixed tyTab Try.f22.ntmps w).w0 v rv rows := hB
  have hoc := hB.sl.oc
  have hle := hB.sl.le
  refine W.sreg ?_
  refine WO.boxA rfl rfl (fun b1 hb1 => ?_)
  refine WO.p rfl rfl (WO.p rfl rfl ?_)
  refine WO.nil ?_
  refine W.seq ?_
  refine W.sreg ?_
  refine WO.loadA rfl rfl (Cells.own Pick.head) rfl rfl ?_
  refine WO.callR rfl Try.call45 (fun L w' hi => c_CheckBook w' n v rv rows (hB.later hi)) rfl ?_
  refine WO.p rfl rfl ?_
  refine WO.nil ?_
  refine W.sreg ?_
  refine WO.p rfl rfl (WO.p rfl rfl ?_)
  refine WO.nil ?_
  refine W.cond_bl rfl (fun c1 => ?_) (fun c1 => ?_)
  · first
    | (exfalso; omega)
    | (refine W.sreg ?_
       refine WO.p rfl rfl (WO.p rfl rfl (WO.p rfl rfl ?_))
       refine WO.nil ?_
       refine W.ret ?_
       refine fin.ret (Res.two rfl (RV.tmp rfl) (RV.tmp rfl)) ?_
       first | (rw [rkV_1 (by omega)]; done) | (rw [rkV_0 (by omega), hrk, show chkB n rows = 0 by omega]; done))
  first
  | (exfalso; omega)
  | (refine W.skip ?_
     refine W.seq ?_
     have hok := chkB0.1 (show chkB n rows = 0 by omega)
     have h8 := hok.1
     have hn5 := hok.2.1
     have hok' : OkB (n.toNat : Nat) rows := by rw [show ((n.toNat : Nat) : Int) = n by omega]; exact hok
     refine W.drawD 10 [.b 0 [], .r 1 [], .b 2 [], .r 3 [], .c 4 [], .c 5 [], .r 6 [], .r 7 [], .r 8 [], .r 9 []] [] (A0 := []) (Sub.refl _) (by kernel_rfl) ?_ ?_
     · exact (ALok.b (ALok.r (ALok.b (ALok.r (ALok.c (ALok.c (ALok.r (ALok.r (ALok.r (ALok.r ALok.nil))))))))))
     refine' DT.b rfl rfl rfl ?hq ?_
     case hq =>
       refine WO.loadA rfl rfl (Cells.own Pick.head) rfl rfl ?_
       exact WO.nil ⟨rfl, rfl⟩
     refine' DT.r rfl rfl rfl ?hq ?_
     case hq =>
       refine WO.fieldL rfl rfl rfl ?_
       exact WO.nil ⟨rfl, rfl⟩
     refine' DT.b rfl rfl rfl ?hq ?_
     case hq =>
       refine WO.load rfl rfl (Cell.own Pick.head rfl) rfl ?_
       exact WO.nil ⟨rfl, rfl⟩
     refine' DT.r rfl rfl rfl ?hq ?_
     case hq =>
       refine' WO.len (n := _) rfl rfl ?hs rfl ?_
       case hs => (first | exact hB.sl)
       exact WO.nil ⟨rfl, rfl⟩
     refine DT.c [_] rfl rfl rfl rfl ?_
     refine WO.makeI (n := rows.length) rfl rfl rfl rfl (by omega) (by omega) rfl (fun zb => ?_)
     refine WO.nil ⟨_, [_], rfl, rfl, (Keep.r (Keep.b (Keep.r (Keep.b Keep.nil)))), ?_⟩
     refine DT.c [_, _] rfl rfl rfl rfl ?_
     refine WO.call rfl Try.call37 (fun L w' hi' => c_newTableI w' n v _ rv rows (hB.later hi') (RdF.of_ow (e := 2) encI_ok (by repeat (first | exact Pick.head | apply Pick.tail)) hi') hok) rfl ?_
     rintro _ _ ⟨t1, m, rfl, rfl⟩
     refine WO.nil ⟨_, [_, _, _], rfl, rfl, (Keep.c (Keep.r (Keep.b (Keep.r (Keep.b Keep.nil))))), ?_⟩
     refine' DT.r rfl rfl rfl ?hq ?_
     case hq =>
       refine WO.p rfl rfl ?_
       exact WO.nil ⟨rfl, rfl⟩
     refine' DT.r rfl rfl rfl ?hq ?_
     case hq =>
       refine WO.p rfl rfl ?_
       exact WO.nil ⟨rfl, rfl⟩
     refine' DT.r rfl rfl rfl ?hq ?_
     case hq =>
       refine WO.p rfl rfl ?_
       exact WO.nil ⟨rfl, rfl⟩
     refine' DT.r rfl rfl rfl ?hq ?_
     case hq =>
       refine WO.p rfl rfl ?_
       exact WO.nil ⟨rfl, rfl⟩
     refine DT.nil [_, _, _, _] rfl ?_
     refine WO.p rfl rfl ?_
     refine WO.nil ?_
     refine W.sreg ?_
     refine WO.p rfl rfl (WO.p rfl rfl (WO.fieldL rfl rfl rfl (WO.load rfl rfl (Cell.own Pick.head rfl) rfl ?_)))
     refine WO.lenMR rfl (by repeat (first | exact Pick.head | apply Pick.tail)) rfl (fun ks hk1 hk2 => ?_)
     have hrk : rkR n.toNat rows = ks.length := keys_rk hk1 hk2 fun p l h => mk_5 hok' h
     refine WO.p rfl rfl (WO.p rfl rfl ?_)
     refine WO.nil ?_
     refine W.ret ?_
     refine fin.ret (Res.two rfl (RV.tmp rfl) (RV.tmp rfl)) ?_
     first | (rw [rkV_1 (by omega)]; done) | (rw [rkV_0 (by omega), hrk, show chkB n rows = 0 by omega]; done))
end Go.Proofs.Ytelmclmklkiphaa
namespace Go.Proofs.Ytelmclmklkiphaa
open Go Go.TH
attribute [local irreducible] W WO pt
set_option maxRecDepth 10000
set_option maxHeartbeats 1000000
section
variable {n : Nat} {rows : List (List Int)} {r : List Int}
/-- what is left of a row -/
def askZ (n : Nat) (rows : List (List Int)) (r : List Int) : Nat → Int := askF n rows (zrL rows.length) r n
/-- with its number of times made positive -/
def posZ (n : Nat) (rows : List (List Int)) (r : List Int) : Nat → Int := if askZ n rows r 14 < 0 then linX 0 (askZ n rows r) (-1) (askZ n rows r) else askZ n rows r
def byL (n : Nat) (rows : List (List Int)) (r : List Int) : List Int := lsF (fun i => -posZ n rows r (6 + i)) rows.length
theorem askZ_bd (hok : OkB n rows) (hr : (r.length : Int) = n) (hw : WiB 4 r) : BdF (mkF n rows) ∧ ∀ k, k ≤ n → BdV (lessN 15 (mkF n rows) (askX r) k) := ask_bd hok (zrL_hu rows rows.length) hr hw
theorem askZ_can (hok : OkB n rows) (hr : (r.length : Int) = n) (hw : WiB 4 r) : zr5 (askZ n rows r) ↔ CanA n rows r := (ask_can hok (zrL_hu rows rows.length) hr hw).trans (canA_D hok hw).symm
theorem posZ_lin (hok : OkB n rows) (hr : (r.length : Int) = n) (hw : WiB 4 r) (hc : CanA n rows r) : BdV (posZ n rows r) ∧ 0 < posZ n rows r 14 ∧ ∀ k, k < 5 → posZ n rows r 14 * fnL r k + cmb (Gr rows) (List.range rows.length) (fun i => posZ n rows r (6 + i)) k = 0 := by
  obtain ⟨h0, hl⟩ := ask_lin hok (zrL_hu rows rows.length) hr hw
  have hz := zr5_at ((askZ_can hok hr hw).2 hc)
  have hb := (askZ_bd hok hr hw).2 n (Nat.le_refl n)
  have hl' : ∀ k, k < 5 → askZ n rows r 14 * fnL r k + cmb (Gr rows) (List.range rows.length) (fun i => askZ n rows r (6 + i)) k = 0 := fun k hk => by
    have := hl k hk
    rw [show askF n rows (zrL rows.length) r n k = 0 from hz k hk] at this
    exact this.symm
  unfold posZ
  split
  · have e : ∀ k, linX 0 (askZ n rows r) (-1) (askZ n rows r) k = -askZ n rows r k := fun k => by unfold linX; omega
    refine ⟨fun k hk => ?_, ?_, fun k hk => ?_⟩
    · have : -268435456 ≤ askZ n rows r k ∧ askZ n rows r k ≤ 268435456 := hb k hk
      rw [e]; omega
    · rw [e]; omega
    have h1 := hl' k hk
    have h2 := cmb_lin (Gr rows) (List.range rows.length) (-1) 0 (fun i => askZ n rows r (6 + i)) (fun _ => 0) k
    rw [show (fun i => -1 * askZ n rows r (6 + i) + 0 * (fun _ => (0 : Int)) i) = fun i => linX 0 (askZ n rows r) (-1) (askZ n rows r) (6 + i) from funext fun i => by rw [e]; omega] at h2
    rw [h2, e, Int.neg_mul]
    omega
  have h14 : askZ n rows r 14 ≠ 0 := h0
  exact ⟨hb, by omega, hl'⟩
theorem byL_ok {n : Int} (h : chkBR n rows r = 0) (hc : CanA n.toNat rows r) : cpE n rows r (byL n.toNat rows r) (posZ n.toNat rows r 14) = 0 := by
  obtain ⟨hok, hl, hw⟩ := chkBR0.1 h
  have h1 := hok.2.1
  have h8 := hok.1
  have e : ((n.toNat : Nat) : Int) = n := by omega
  obtain ⟨hb, hp, hs⟩ := posZ_lin (n := n.toNat) (by rw [e]; exact hok) (by rw [e]; exact hl) hw hc
  have h14 := hb 14 (by omega)
  refine cpE0.2 ⟨h, by unfold byL; rw [lsF_len], fun x hx => ?_, by omega, fun k hk => ?_⟩
  · unfold byL lsF at hx
    obtain ⟨i, hi, rfl⟩ := List.mem_map.1 hx
    rw [List.mem_range] at hi
    have := hb (6 + i) (by omega)
    omega
  have h2 := hs k (by omega)
  refine rt_iff.2 ?_
  have e1 : dotN (colN rows k) (fnL (byL n.toNat rows r)) rows.length = -cmb (Gr rows) (List.range rows.length) (fun i => posZ n.toNat rows r (6 + i)) k := by
    rw [dotN_comm, show dotN (fnL (byL n.toNat rows r)) (colN rows k) rows.length = dotN (fun i => -1 * posZ n.toNat rows r (6 + i)) (colN rows k) rows.length from dotN_cg (fun i hi => by unfold byL; rw [fnL_lsF hi]; omega) (fun _ _ => rfl), dotN_mul]
    have e2 : ∀ m, dotN (fun i => posZ n.toNat rows r (6 + i)) (colN rows k) m = cmb (Gr rows) (List.range m) (fun i => posZ n.toNat rows r (6 + i)) k := fun m => by
      induction m with
      | zero => rfl
      | succ m ih =>
        rw [cmb_succ, ← ih]
        rfl
    rw [e2]; omega
  rw [e1]
  show _ = _ * fnL r k
  omega
end
end Go.Proofs.Ytelmclmklkiphaa
namespace Go.Proofs.Ytelmclmklkiphaa
open Go Go.TH
attribute [local irreducible] W WO pt
set_option maxRecDepth 10000
set_option maxHeartbeats 1000000
theorem c_newTableN (w : World) (n : Nat) (v u : Value) (rv : List Value) (rows : List (List Int)) (hB : RdR encI 1 w.heap.size w v rv rows) (hV : RdF encI 1 w.heap.size w u (zrL rows.length)) (hok : OkB n rows) :
    Ct Try.prog 37 [bookV n v, u].toArray w fun r w' => ∃ Hq, (∃ t m : Nat, r = .tuple #[.pointer (some ⟨t, 0, none⟩), .bool (goodF n rows (zrL rows.length) rows.length)] ∧ Hq = [pt t (.cells #[.int .i64 (n : Int), .map (some m)] 80 (0, 0)), MapP m (mkF n rows)]) ∧ TH.Inv w [] Hq w' :=
  (c_newTable w n v u rv rows (zrL rows.length) hB hV (by simp [zrL]) hok (tab_bd hok (zrL_hu rows rows.length))).mono fun r w' ⟨Hq, ⟨⟨t, m⟩, h1, h2⟩, hi⟩ => ⟨Hq, ⟨t, m, h1, h2⟩, hi⟩
/-- what Proof answers -/
def prfQ (n : Int) (rows : List (List Int)) (r : List Int) : List Int := if proE n rows r = 0 then byL n.toNat rows r else []
def prfT (n : Int) (rows : List (List Int)) (r : List Int) : Int := if proE n rows r = 0 then posZ n.toNat rows r 14 else 0
theorem prf_1 {n : Int} {rows : List (List Int)} {r : List Int} (h : proE n rows r ≠ 0) : prfQ n rows r = [] ∧ prfT n rows r = 0 := ⟨if_neg h, if_neg h⟩
theorem prf_0 {n : Int} {rows : List (List Int)} {r : List Int} (h : proE n rows r = 0) : prfQ n rows r = byL n.toNat rows r ∧ prfT n rows r = posZ n.toNat rows r 14 := ⟨if_pos h, if_pos h⟩
theorem posZ_neg {n : Nat} {rows : List (List Int)} {r : List Int} (h : askZ n rows r 14 < 0) : linX 0 (askZ n rows r) (-1) (askZ n rows r) = posZ n rows r := (if_pos h).symm
theorem posZ_nn {n : Nat} {rows : List (List Int)} {r : List Int} (h : ¬ askZ n rows r 14 < 0) : askZ n rows r = posZ n rows r := (if_neg h).symm
theorem lsF_snoc (F : Nat → Int) (i : Nat) : lsF F i ++ [F i] = lsF F (i + 1) := by unfold lsF; rw [List.range_succ, List.map_append]; rfl
theorem c_Proof (w : World) (n : Int) (v u : Value) (rv : List Value) (rows : List (List Int)) (r : List Int) (hB : RdR encI 1 w.heap.size w v rv rows) (hR : RdF encI 1 w.heap.size w u r) :
    Ct Try.prog 13 [bookV n v, u].toArray w fun a w' => ∃ Hq, (∃ x : Value, a = .tuple #[.agg #[x, .int .i64 (prfT n rows r)], .int .i64 (proE n rows r)] ∧ Hq = [OwE encI 2 1 x (prfQ n rows r)]) ∧ TH.Inv w [] Hq w' := by
  refine Ct.ofI (X := Value) (p := fun x a => a = .tuple #[.agg #[x, .int .i64 (prfT n rows r)], .int .i64 (proE n rows r)]) (Hx := fun x => [OwE encI 2 1 x (prfQ n rows r)]) mixed tyTab Try.func13 rfl rfl ?_
  replace hB : RdR encI 1 (fnCx mixed tyTab Try.f13.ntmps w).B (fnCx mixed tyTab Try.f13.ntmps w).w0 v rv rows := hB
  replace hR : RdF encI 1 (fnCx mixed tyTab Try.f13.ntmps w).B (fnCx mixed tyTab Try.f13.ntmps w).w0 u r := hR
  have hoc := hB.sl.oc
  have hle := hB.sl.le
  refine W.sreg ?_
  refine WO.boxA rfl rfl (fun b1 hb1 => ?_)
  refine WO.alloc rfl rfl rfl (fun b2 hb2 => ?_)
  refine WO.p rfl rfl ?_
  refine WO.nil ?_
  refine W.seq ?_
  refine W.sreg ?_
  refine WO.loadA rfl rfl (Cells.own (Pick.tail (Pick.head))) rfl rfl (WO.p rfl rfl ?_)
  refine WO.callR rfl Try.call28 (fun L w' hi => c_checkRow w' n v u rv rows r (hB.later hi) (hR.later hi)) rfl ?_
  refine WO.p rfl rfl ?_
  refine WO.nil ?_
  refine W.sreg ?_
  refine WO.p rfl rfl (WO.p rfl rfl ?_)
  refine WO.nil ?_
  refine W.cond_bl rfl (fun c1 => ?_) (fun c1 => ?_)
  · first
    | (exfalso; omega)
    | (refine W.chg (owNil (enc := encI) (e := 2) (sz := 1)) ?_
       obtain ⟨xv, hxv⟩ : ∃ x : Value, x = .slice none 0 0 := ⟨_, rfl⟩
       have hpe : proE n rows r = chkBR n rows r := proE_1 (by omega)
       obtain ⟨hq1, hq2⟩ := prf_1 (n := n) (rows := rows) (r := r) (by omega)
       refine W.sreg ?_
       refine' WO.build (cs := _) rfl rfl rfl ?hf rfl ?_
       case hf => (conv => lhs; simp [-List.getD_eq_getElem?_getD, fillL, vcl, wrl, TTab.pl?.lget']) <;> rfl
       refine WO.p rfl rfl (WO.storeA rfl rfl rfl rfl (Pick.tail (Pick.head)) rfl rfl (WO.p rfl rfl ?_))
       refine WO.nil ?_
       refine W.ret ?_
       exact fin.ret (Res.two rfl (RV.cell rfl rfl rfl (Cells.own (by repeat (first | exact Pick.head | apply Pick.tail)))) (RV.tmp rfl)) ⟨xv, by rw [hpe, hq2, hxv], by rw [hq1, hxv]; exact fun h hs => Sub.sat (by repeat (first | exact Sub.nil | refine Sub.cons (by repeat (first | exact Pick.head | apply Pick.tail)) ?_)) hs⟩)
  first
  | (exfalso; omega)
  | (refine W.skip ?_
     refine W.seq ?_
     obtain ⟨hok0, hrl, hrw⟩ := chkBR0.1 (show chkBR n rows r = 0 by omega)
     have h8 := hok0.1
     have hn5 := hok0.2.1
     obtain ⟨N, rfl⟩ : ∃ N : Nat, n = N := ⟨n.toNat, by omega⟩
     have hok : OkB N rows := hok0
     have hbd := askZ_bd hok hrl hrw
     have hcan := askZ_can hok hrl hrw
     refine W.drawD 10 [.b 0 [], .r 1 [], .b 2 [], .r 3 [], .c 4 [], .c 5 [], .r 6 [], .r 7 [], .r 8 [], .r 9 []] [] (A0 := []) (Sub.refl _) (by kernel_rfl) ?_ ?_
     · exact (ALok.b (ALok.r (ALok.b (ALok.r (ALok.c (ALok.c (ALok.r (ALok.r (ALok.r (ALok.r ALok.nil))))))))))
     refine' DT.b rfl rfl rfl ?hq ?_
     case hq =>
       refine WO.loadA rfl rfl (Cells.own (Pick.tail (Pick.head))) rfl rfl ?_
       exact WO.nil ⟨rfl, rfl⟩
     refine' DT.r rfl rfl rfl ?hq ?_
     case hq =>
       refine WO.fieldL rfl rfl rfl ?_
       exact WO.nil ⟨rfl, rfl⟩
     refine' DT.b rfl rfl rfl ?hq ?_
     case hq =>
       refine WO.load rfl rfl (Cell.own (Pick.tail (Pick.head)) rfl) rfl ?_
       exact WO.nil ⟨rfl, rfl⟩
     refine' DT.r rfl rfl rfl ?hq ?_
     case hq =>
       refine' WO.len (n := _) rfl rfl ?hs rfl ?_
       case hs => (first | exact hB.sl)
       exact WO.nil ⟨rfl, rfl⟩
     refine DT.c [_, _] rfl rfl rfl rfl ?_
     refine WO.makeI (n := rows.length) rfl rfl rfl rfl (by omega) (by omega) rfl (fun zb => ?_)
     refine WO.nil ⟨_, [_], rfl, rfl, (Keep.r (Keep.b (Keep.r (Keep.b Keep.nil)))), ?_⟩
     refine DT.c [_, _, _] rfl rfl rfl rfl ?_
     refine WO.call rfl Try.call37 (fun L w' hi' => c_newTableN w' N v _ rv rows (hB.later hi') (RdF.of_ow (e := 2) encI_ok (by repeat (first | exact Pick.head | apply Pick.tail)) hi') hok) rfl ?_
     rintro _ _ ⟨t1, m, rfl, rfl⟩
     refine WO.nil ⟨_, [_, _, _], rfl, rfl, (Keep.c (Keep.r (Keep.b (Keep.r (Keep.b Keep.nil))))), ?_⟩
     refine' DT.r rfl rfl rfl ?hq ?_
     case hq =>
       refine WO.p rfl rfl ?_
       exact WO.nil ⟨rfl, rfl⟩
     refine' DT.r rfl rfl rfl ?hq ?_
     case hq =>
       refine WO.p rfl rfl ?_
       exact WO.nil ⟨rfl, rfl⟩
     refine' DT.r rfl rfl rfl ?hq ?_
     case hq =>
       refine WO.p rfl rfl ?_
       exact WO.nil ⟨rfl, rfl⟩
     refine' DT.r rfl rfl rfl ?hq ?_
     case hq =>
       refine WO.p rfl rfl ?_
       exact WO.nil ⟨rfl, rfl⟩
     refine DT.nil [_, _, _, _, _] rfl ?_
     refine WO.p rfl rfl ?_
     refine WO.nil ?_
     refine W.sreg ?_
     refine WO.p rfl rfl (WO.p rfl rfl ?_)
     refine WO.callR (r := madeV (askX r)) rfl Try.call39 (fun L w' hi' => c_asked w' u r (hR.later hi') (by omega) (by omega)) rfl ?_
     refine WO.callR (r := madeV (askZ N rows r)) rfl Try.call38 (fun L w' hi' => c_less w' ⟨t1, 0, none⟩ N m (mkF N rows) (askX r) (RdC.own (by repeat (first | exact Pick.head | apply Pick.tail)) hi') (RdM.own (by repeat (first | exact Pick.head | apply Pick.tail)) hi') (by omega) hbd.1 hbd.2) rfl ?_
     refine WO.alloc rfl rfl rfl (fun b3 hb3 => ?_)
     refine WO.storeA rfl rfl rfl rfl Pick.head rfl rfl ?_
     refine WO.nil ?_
     refine W.seq ?_
     refine W.sreg ?_
     refine WO.field0 rfl rfl rfl (WO.field0 rfl rfl rfl (WO.loadA rfl rfl (Cells.ownAt (n := 5) Pick.head rfl) rfl rfl ?_))
     refine' WO.build (cs := _) rfl rfl rfl ?hf rfl ?_
     case hf => (conv => lhs; simp [-List.getD_eq_getElem?_getD, fillL, vcl, wrl, TTab.pl?.lget']) <;> rfl
     refine WO.eqT rfl rfl (neq57 (askZ N rows r)) rfl ?_
     refine WO.nil ?_
     refine W.cond_bl rfl (fun c2 => ?_) (fun c2 => ?_)
     · first
       | (exfalso; omega)
       | (have hnc : ¬ CanA N rows r := fun g => absurd (hcan.2 g) (by assumption)
          have hpe : proE N rows r = 5 := proE_5 (by omega) (by rw [Int.toNat_natCast]; exact hnc)
          obtain ⟨hq1, hq2⟩ := prf_1 (n := (N : Int)) (rows := rows) (r := r) (by omega)
          refine W.chg (owNil (enc := encI) (e := 2) (sz := 1)) ?_
          obtain ⟨xv, hxv⟩ : ∃ x : Value, x = .slice none 0 0 := ⟨_, rfl⟩
          refine W.sreg ?_
          refine' WO.build (cs := _) rfl rfl rfl ?hf rfl ?_
          case hf => (conv => lhs; simp [-List.getD_eq_getElem?_getD, fillL, vcl, wrl, TTab.pl?.lget']) <;> rfl
          refine WO.storeA rfl rfl rfl rfl (Pick.tail (Pick.tail (Pick.tail (Pick.tail (Pick.tail (Pick.head)))))) rfl rfl (WO.p rfl rfl ?_)
          refine WO.nil ?_
          refine W.ret ?_
          exact fin.ret (Res.two rfl (RV.cell rfl rfl rfl (Cells.own (by repeat (first | exact Pick.head | apply Pick.tail)))) (RV.tmp rfl)) ⟨xv, by rw [hpe, hq2, hxv], by rw [hq1, hxv]; exact fun h hs => Sub.sat (by repeat (first | exact Sub.nil | refine Sub.cons (by repeat (first | exact Pick.head | apply Pick.tail)) ?_)) hs⟩)
     first
     | (exfalso; omega)
     | (refine W.skip ?_
        refine W.seq ?_
        have hca : CanA N rows r := hcan.1 (Decidable.not_not.1 (by assumption))
        have hpz := posZ_lin hok hrl hrw hca
        refine W.sreg ?_
        refine WO.fieldL rfl rfl rfl (WO.load rfl rfl (Cell.own Pick.head rfl) rfl (WO.p rfl rfl ?_))
        refine WO.nil ?_
        refine W.cond_bl rfl (fun c3 => ?_) (fun c3 => ?_)
        · first
          | (exfalso; omega)
          | (refine W.region ?_
             refine WO.loadA rfl rfl (Cells.own Pick.head) rfl rfl (WO.loadA rfl rfl (Cells.own Pick.head) rfl rfl ?_)
             refine WO.callR rfl Try.call40 (fun L w' hi => c_plus w' (askZ N rows r) (askZ N rows r) _ _ (hbd.2 N (Nat.le_refl N)) (hbd.2 N (Nat.le_refl N)) (by omega) (by omega)) rfl ?_
             refine WO.storeA rfl rfl rfl rfl Pick.head rfl rfl ?_
             refine WO.nil ?_
             first | rw [posZ_neg (n := N) (rows := rows) (r := r) (by assumption)] | rw [posZ_nn (n := N) (rows := rows) (r := r) (by assumption)]
             refine W.sreg ?_
             refine WO.fieldL rfl rfl rfl (WO.load rfl rfl (Cell.own Pick.head rfl) rfl ?_)
             refine' WO.build (cs := _) rfl rfl rfl ?hf rfl ?_
             case hf => (conv => lhs; simp [-List.getD_eq_getElem?_getD, fillL, vcl, wrl, TTab.pl?.lget']) <;> rfl
             refine WO.alloc rfl rfl rfl (fun b4 hb4 => ?_)
             refine WO.storeA rfl rfl rfl rfl Pick.head rfl rfl ?_
             refine WO.nil ?_
             refine W.seq ?_
             refine W.sreg ?_
             refine WO.fieldL rfl rfl rfl (WO.load rfl rfl (Cell.own (Pick.tail (Pick.tail (Pick.tail (Pick.tail (Pick.tail (Pick.tail (Pick.head))))))) rfl) rfl ?_)
             refine' WO.len (n := _) rfl rfl ?hs rfl ?_
             case hs => (first | exact hB.sl)
             refine WO.p rfl rfl ?_
             refine WO.nil ?_
             refine W.block ?_
             refine W.chg (owNil (enc := encI) (e := 2) (sz := 1)) ?_
             refine W.loop2 (fun (i : Nat) (y : Value) => i ≤ rows.length)
               (fun (i : Nat) (y : Value) => [(2, .pointer (some ⟨b1, 0, none⟩)), (4, .pointer (some ⟨b2, 0, none⟩)), (9, .pointer (some ⟨b3, 0, none⟩)), (10, .pointer (some ⟨b4, 0, none⟩)), (49, .int .i64 (rows.length : Int)), (50, .int .i64 (i : Int))])
               (fun (i : Nat) (y : Value) => [pt b1 (.cells #[.int .i64 (N : Int), v] 24 (0, 0)), pt b2 (.cells #[.slice none 0 0, .int .i64 0] 27 (0, 0)), pt b3 (.cells (m15 (posZ N rows r)).toArray 71 (0, 0)), pt b4 (.cells #[y, .int .i64 (posZ N rows r 14)] 27 (0, 0)), OwE encI 2 1 y (lsF (fun i => -posZ N rows r (6 + i)) i)])
               (fun (i : Nat) (y : Value) => rows.length - i) 0 (.slice none 0 0)
               (by omega) ⟨rfl, rfl, rfl, rfl, rfl, rfl, trivial⟩ (by repeat (first | exact Sub.nil | refine Sub.cons (by repeat (first | exact Pick.head | apply Pick.tail)) ?_)) ?_
             rintro i y hi
             refine W.sreg ?_
             refine WO.p rfl rfl ?_
             refine WO.nil ?_
             refine W.seq ?_
             refine W.cond_bl rfl (fun c4 => ?_) (fun c4 => ?_)
             · first
               | (exfalso; omega)
               | (refine W.skip ?_
                  refine W.seq ?_
                  refine W.block ?_
                  refine W.sreg ?_
                  refine WO.p rfl rfl (WO.p rfl rfl ?_)
                  refine WO.nil ?_
                  have hpb := hpz.1 (6 + i) (by omega)
                  refine W.drawD 8 [.r 0 [], .b 1 [], .r 2 [], .r 3 [], .r 4 [], .b 5 [], .r 6 [], .c 7 []] [] (A0 := [_]) (H0 := [_, _, _, _]) (.cons (Pick.tail (Pick.tail (Pick.tail (Pick.tail .head)))) (.cons .head (.cons .head (.cons .head (.cons .head .nil))))) (by kernel_rfl) ?_ ?_
                  · exact (ALok.r (ALok.b (ALok.r (ALok.r (ALok.r (ALok.b (ALok.r (ALok.c ALok.nil))))))))
                  refine' DT.r rfl rfl rfl ?hq ?_
                  case hq =>
                    refine WO.field0 rfl rfl rfl ?_
                    exact WO.nil ⟨rfl, rfl⟩
                  refine' DT.b rfl rfl rfl ?hq ?_
                  case hq =>
                    refine WO.load rfl rfl (Cell.own (Pick.tail (Pick.tail (Pick.tail (Pick.head)))) rfl) rfl ?_
                    exact WO.nil ⟨rfl, rfl⟩
                  refine' DT.r rfl rfl rfl ?hq ?_
                  case hq =>
                    refine WO.p rfl rfl ?_
                    exact WO.nil ⟨rfl, rfl⟩
                  refine' DT.r rfl rfl rfl ?hq ?_
                  case hq =>
                    refine WO.fieldL rfl rfl rfl ?_
                    exact WO.nil ⟨rfl, rfl⟩
                  refine' DT.r rfl rfl rfl ?hq ?_
                  case hq =>
                    refine WO.indexArrE (i := i) (o' := 6 + i) rfl rfl rfl rfl (by omega) (by omega) rfl ?_
                    exact WO.nil ⟨rfl, rfl⟩
                  refine' DT.b rfl rfl rfl ?hq ?_
                  case hq =>
                    refine' WO.load (v := _) rfl rfl ?hc rfl ?_
                    case hc => (first | (refine Cell.own (by repeat (first | exact Pick.head | apply Pick.tail)) ?_; exact m15_get (X := posZ N rows r) (k := 6 + i) (by omega)))
                    exact WO.nil ⟨rfl, rfl⟩
                  refine' DT.r rfl rfl rfl ?hq ?_
                  case hq =>
                    refine WO.neg rfl (by (first | (unfold in64; omega) | (unfold in64; omega))) rfl ?_
                    exact WO.nil ⟨rfl, rfl⟩
                  refine DT.c [_, _, _, _, _] rfl rfl rfl rfl ?_
                  refine' WO.buildSl (cs := _) rfl rfl rfl rfl ?hf rfl rfl ?hl rfl (fun v5 => ?_)
                  case hf => (conv => lhs; simp [-List.getD_eq_getElem?_getD, fillL, vcl, wrl, TTab.pl?.lget']) <;> rfl
                  case hl => rfl
                  refine WO.nil ⟨_, [_, _], rfl, rfl, (Keep.r (Keep.b (Keep.r (Keep.r (Keep.r (Keep.b (Keep.r Keep.nil))))))), ?_⟩
                  refine DT.nil [_, _, _, _, _, _] rfl ?_
                  refine' WO.appendE (enc := encI) (m := 1) (xs := lsF (fun i => -posZ N rows r (6 + i)) i) (ys := [-posZ N rows r (6 + i)]) encI_ok rfl rfl rfl rfl rfl (by repeat (first | exact Pick.head | apply Pick.tail)) (isSl_lit (by omega) (fun _ => ⟨_, _, rfl⟩)) (by omega) rfl (OwC.cells .head) (by rw [lsF_len]; omega) (by rw [lsF_len]; omega) rfl (fun g c => ?_)
                  rw [lsF_snoc (fun i => -posZ N rows r (6 + i)) i]
                  refine WO.field0 rfl rfl rfl (WO.store1 rfl rfl rfl (by first | rfl | assumption) (Pick.tail (Pick.tail (Pick.tail (Pick.tail (Pick.tail (Pick.head)))))) rfl ?_)
                  refine WO.nil ?_
                  refine W.region ?_
                  refine WO.ar rfl rfl rfl (by (first | (unfold in64; omega) | (unfold in64; omega))) rfl (WO.p rfl rfl ?_)
                  refine WO.nil ?_
                  refine' ⟨i + 1, _, ?hp, ?hmu, ⟨rfl, rfl, rfl, rfl, rfl, rfl, trivial⟩, ?hS⟩
                  case hS => repeat (first | exact Sub.nil | refine Sub.cons (by repeat (first | exact Pick.head | apply Pick.tail)) ?_)
                  case hp => omega
                  case hmu => omega)
             first
             | (exfalso; omega)
             | (refine W.exit (blk_same ?_)
                obtain rfl : i = rows.length := by omega
                refine W.fact (OwE.form (enc := encI) (e := 2) (sz := 1) (v := y) (by repeat (first | exact Pick.head | apply Pick.tail))) (fun hy => ?_)
                obtain ⟨ya, yc, rfl⟩ := hy
                have hpe : proE N rows r = 0 := proE_0 (by omega) (by rw [Int.toNat_natCast]; exact hca)
                obtain ⟨hq1, hq2⟩ := prf_0 (n := (N : Int)) (rows := rows) (r := r) hpe
                rw [Int.toNat_natCast] at hq1 hq2
                obtain ⟨xv, hxv⟩ : ∃ x : Value, x = .slice ya (lsF (fun i => -posZ N rows r (6 + i)) rows.length).length yc := ⟨_, rfl⟩
                refine W.sreg ?_
                refine WO.loadA rfl rfl (Cells.own (Pick.tail (Pick.tail (Pick.tail (Pick.head))))) rfl rfl (WO.storeA rfl rfl rfl rfl (Pick.tail (Pick.head)) rfl rfl (WO.p rfl rfl ?_))
                refine WO.nil ?_
                refine W.ret ?_
                exact fin.ret (Res.two rfl (RV.cell rfl rfl rfl (Cells.own (by repeat (first | exact Pick.head | apply Pick.tail)))) (RV.tmp rfl)) ⟨xv, by rw [hpe, hq2, hxv], by rw [hq1, hxv]; exact fun h hs => Sub.sat (by repeat (first | exact Sub.nil | refine Sub.cons (by repeat (first | exact Pick.head | apply Pick.tail)) ?_)) hs⟩))
        first
        | (exfalso; omega)
        | (refine W.skip ?_
           first | rw [posZ_neg (n := N) (rows := rows) (r := r) (by assumption)] | rw [posZ_nn (n := N) (rows := rows) (r := r) (by assumption)]
           refine W.sreg ?_
           refine WO.fieldL rfl rfl rfl (WO.load rfl rfl (Cell.own Pick.head rfl) rfl ?_)
           refine' WO.build (cs := _) rfl rfl rfl ?hf rfl ?_
           case hf => (conv => lhs; simp [-List.getD_eq_getElem?_getD, fillL, vcl, wrl, TTab.pl?.lget']) <;> rfl
           refine WO.alloc rfl rfl rfl (fun b4 hb4 => ?_)
           refine WO.storeA rfl rfl rfl rfl Pick.head rfl rfl ?_
           refine WO.nil ?_
           refine W.seq ?_
           refine W.sreg ?_
           refine WO.fieldL rfl rfl rfl (WO.load rfl rfl (Cell.own (Pick.tail (Pick.tail (Pick.tail (Pick.tail (Pick.tail (Pick.tail (Pick.head))))))) rfl) rfl ?_)
           refine' WO.len (n := _) rfl rfl ?hs rfl ?_
           case hs => (first | exact hB.sl)
           refine WO.p rfl rfl ?_
           refine WO.nil ?_
           refine W.block ?_
           refine W.chg (owNil (enc := encI) (e := 2) (sz := 1)) ?_
           refine W.loop2 (fun (i : Nat) (y : Value) => i ≤ rows.length)
             (fun (i : Nat) (y : Value) => [(2, .pointer (some ⟨b1, 0, none⟩)), (4, .pointer (some ⟨b2, 0, none⟩)), (9, .pointer (some ⟨b3, 0, none⟩)), (10, .pointer (some ⟨b4, 0, none⟩)), (49, .int .i64 (rows.length : Int)), (50, .int .i64 (i : Int))])
             (fun (i : Nat) (y : Value) => [pt b1 (.cells #[.int .i64 (N : Int), v] 24 (0, 0)), pt b2 (.cells #[.slice none 0 0, .int .i64 0] 27 (0, 0)), pt b3 (.cells (m15 (posZ N rows r)).toArray 71 (0, 0)), pt b4 (.cells #[y, .int .i64 (posZ N rows r 14)] 27 (0, 0)), OwE encI 2 1 y (lsF (fun i => -posZ N rows r (6 + i)) i)])
             (fun (i : Nat) (y : Value) => rows.length - i) 0 (.slice none 0 0)
             (by omega) ⟨rfl, rfl, rfl, rfl, rfl, rfl, trivial⟩ (by repeat (first | exact Sub.nil | refine Sub.cons (by repeat (first | exact Pick.head | apply Pick.tail)) ?_)) ?_
           rintro i y hi
           refine W.sreg ?_
           refine WO.p rfl rfl ?_
           refine WO.nil ?_
           refine W.seq ?_
           refine W.cond_bl rfl (fun c4 => ?_) (fun c4 => ?_)
           · first
             | (exfalso; omega)
             | (refine W.skip ?_
                refine W.seq ?_
                refine W.block ?_
                refine W.sreg ?_
                refine WO.p rfl rfl (WO.p rfl rfl ?_)
                refine WO.nil ?_
                have hpb := hpz.1 (6 + i) (by omega)
                refine W.drawD 8 [.r 0 [], .b 1 [], .r 2 [], .r 3 [], .r 4 [], .b 5 [], .r 6 [], .c 7 []] [] (A0 := [_]) (H0 := [_, _, _, _]) (.cons (Pick.tail (Pick.tail (Pick.tail (Pick.tail .head)))) (.cons .head (.cons .head (.cons .head (.cons .head .nil))))) (by kernel_rfl) ?_ ?_
                · exact (ALok.r (ALok.b (ALok.r (ALok.r (ALok.r (ALok.b (ALok.r (ALok.c ALok.nil))))))))
                refine' DT.r rfl rfl rfl ?hq ?_
                case hq =>
                  refine WO.field0 rfl rfl rfl ?_
                  exact WO.nil ⟨rfl, rfl⟩
                refine' DT.b rfl rfl rfl ?hq ?_
                case hq =>
                  refine WO.load rfl rfl (Cell.own (Pick.tail (Pick.tail (Pick.tail (Pick.head)))) rfl) rfl ?_
                  exact WO.nil ⟨rfl, rfl⟩
                refine' DT.r rfl rfl rfl ?hq ?_
                case hq =>
                  refine WO.p rfl rfl ?_
                  exact WO.nil ⟨rfl, rfl⟩
                refine' DT.r rfl rfl rfl ?hq ?_
                case hq =>
                  refine WO.fieldL rfl rfl rfl ?_
                  exact WO.nil ⟨rfl, rfl⟩
                refine' DT.r rfl rfl rfl ?hq ?_
                case hq =>
                  refine WO.indexArrE (i := i) (o' := 6 + i) rfl rfl rfl rfl (by omega) (by omega) rfl ?_
                  exact WO.nil ⟨rfl, rfl⟩
                refine' DT.b rfl rfl rfl ?hq ?_
                case hq =>
                  refine' WO.load (v := _) rfl rfl ?hc rfl ?_
                  case hc => (first | (refine Cell.own (by repeat (first | exact Pick.head | apply Pick.tail)) ?_; exact m15_get (X := posZ N rows r) (k := 6 + i) (by omega)))
                  exact WO.nil ⟨rfl, rfl⟩
                refine' DT.r rfl rfl rfl ?hq ?_
                case hq =>
                  refine WO.neg rfl (by (first | (unfold in64; omega) | (unfold in64; omega))) rfl ?_
                  exact WO.nil ⟨rfl, rfl⟩
                refine DT.c [_, _, _, _, _] rfl rfl rfl rfl ?_
                refine' WO.buildSl (cs := _) rfl rfl rfl rfl ?hf rfl rfl ?hl rfl (fun v5 => ?_)
                case hf => (conv => lhs; simp [-List.getD_eq_getElem?_getD, fillL, vcl, wrl, TTab.pl?.lget']) <;> rfl
                case hl => rfl
                refine WO.nil ⟨_, [_, _], rfl, rfl, (Keep.r (Keep.b (Keep.r (Keep.r (Keep.r (Keep.b (Keep.r Keep.nil))))))), ?_⟩
                refine DT.nil [_, _, _, _, _, _] rfl ?_
                refine' WO.appendE (enc := encI) (m := 1) (xs := lsF (fun i => -posZ N rows r (6 + i)) i) (ys := [-posZ N rows r (6 + i)]) encI_ok rfl rfl rfl rfl rfl (by repeat (first | exact Pick.head | apply Pick.tail)) (isSl_lit (by omega) (fun _ => ⟨_, _, rfl⟩)) (by omega) rfl (OwC.cells .head) (by rw [lsF_len]; omega) (by rw [lsF_len]; omega) rfl (fun g c => ?_)
                rw [lsF_snoc (fun i => -posZ N rows r (6 + i)) i]
                refine WO.field0 rfl rfl rfl (WO.store1 rfl rfl rfl (by first | rfl | assumption) (Pick.tail (Pick.tail (Pick.tail (Pick.tail (Pick.tail (Pick.head)))))) rfl ?_)
                refine WO.nil ?_
                refine W.region ?_
                refine WO.ar rfl rfl rfl (by (first | (unfold in64; omega) | (unfold in64; omega))) rfl (WO.p rfl rfl ?_)
                refine WO.nil ?_
                refine' ⟨i + 1, _, ?hp, ?hmu, ⟨rfl, rfl, rfl, rfl, rfl, rfl, trivial⟩, ?hS⟩
                case hS => repeat (first | exact Sub.nil | refine Sub.cons (by repeat (first | exact Pick.head | apply Pick.tail)) ?_)
                case hp => omega
                case hmu => omega)
           first
           | (exfalso; omega)
           | (refine W.exit (blk_same ?_)
              obtain rfl : i = rows.length := by omega
              refine W.fact (OwE.form (enc := encI) (e := 2) (sz := 1) (v := y) (by repeat (first | exact Pick.head | apply Pick.tail))) (fun hy => ?_)
              obtain ⟨ya, yc, rfl⟩ := hy
              have hpe : proE N rows r = 0 := proE_0 (by omega) (by rw [Int.toNat_natCast]; exact hca)
              obtain ⟨hq1, hq2⟩ := prf_0 (n := (N : Int)) (rows := rows) (r := r) hpe
              rw [Int.toNat_natCast] at hq1 hq2
              obtain ⟨xv, hxv⟩ : ∃ x : Value, x = .slice ya (lsF (fun i => -posZ N rows r (6 + i)) rows.length).length yc := ⟨_, rfl⟩
              refine W.sreg ?_
              refine WO.loadA rfl rfl (Cells.own (Pick.tail (Pick.tail (Pick.tail (Pick.head))))) rfl rfl (WO.storeA rfl rfl rfl rfl (Pick.tail (Pick.head)) rfl rfl (WO.p rfl rfl ?_))
              refine WO.nil ?_
              refine W.ret ?_
              exact fin.ret (Res.two rfl (RV.cell rfl rfl rfl (Cells.own (by repeat (first | exact Pick.head | apply Pick.tail)))) (RV.tmp rfl)) ⟨xv, by rw [hpe, hq2, hxv], by rw [hq1, hxv]; exact fun h hs => Sub.sat (by repeat (first | exact Sub.nil | refine Sub.cons (by repeat (first | exact Pick.head | apply Pick.tail)) ?_)) hs⟩))))
end Go.Proofs.Ytelmclmklkiphaa
namespace Go.Proofs.Ytelmclmklkiphaa
open Go Go.TH
set_option maxHeartbeats 1000000
structure TabK (n : Nat) (f : Nat → Option (Nat → Int)) (D : Int) : Prop where
  d0 : D ≠ 0
  dB : -122880 ≤ D ∧ D ≤ 122880
  n5 : n ≤ 5
  lt : ∀ p l, f p = some l → p < n
  ne : ∀ p l, f p = some l → l p ≠ 0
  dv : ∀ p l, f p = some l → l p ∣ D
  bd : ∀ p l, f p = some l → ∀ k, k < 15 → -6144000 ≤ l k ∧ l k ≤ 6144000
  led : ∀ p l, f p = some l → fst l 5 = p
  crs : ∀ p l q l', f p = some l → f q = some l' → q ≠ p → l q = 0
theorem mk_key {n : Nat} {rows : List (List Int)} (hok : OkB n rows) : ∃ D, TabK n (mkF n rows) D := by
  have hn := hok.2.1
  have h8 := hok.1
  obtain ⟨hr, hw⟩ := hok.rep
  obtain ⟨I, P, hst⟩ := mk_st hok hr hw
  have hF := mk_fam hok hr hw
  have hPN : ∀ q ∈ P, q < 15 := fun q hq => by have := hst.lt q hq; omega
  have hpP : ∀ p l, mkF n rows p = some l → p ∈ P := fun p l hl => (hst.dom p).1 ⟨l, hl⟩
  refine ⟨det (famP rows (zrL rows.length) (List.replicate n 0)) P I, hst.bs.dne, hst.D_bd hF h8, by omega, fun p l hl => hst.lt p (hpP p l hl), fun p l hl => (hst.ent p l hl).ne, fun p l hl => ?_, fun p l hl k hk => ?_, fun p l hl => ?_, fun p l q l' hl hl' hne => ?_⟩
  · obtain ⟨c, hc⟩ := hst.cof hF h8 (hpP p l hl)
    exact (hst.ent p l hl).dvd hPN hst.bs (hpP p l hl) hc (mk_lead hok hl).2
  · obtain ⟨c, hc⟩ := hst.cof hF h8 (hpP p l hl)
    exact (hst.ent p l hl).bd hPN hst.bs (hpP p l hl) hc hF.M4 hk
  · exact fst_hit (by have := hst.lt p (hpP p l hl); omega) (mk_lead hok hl).1 (hst.ent p l hl).ne
  exact (hst.ent p l hl).z q (hpP q l' hl') hne
/-! ## The whole number -/
def stW (w x : Int) : Int := (w.tdiv (Nat.gcd w.natAbs x.natAbs : Nat)) * x
theorem stW_in {w x D : Int} (hD : D ≠ 0) (hw : w ≠ 0) (hx : x ≠ 0) (h1 : w ∣ D) (h2 : x ∣ D) : stW w x ≠ 0 ∧ stW w x ∣ D ∧ w ∣ stW w x ∧ x ∣ stW w x := by
  have hg : 0 < Nat.gcd w.natAbs x.natAbs := Nat.gcd_pos_of_pos_left _ (by omega)
  have hgw : ((Nat.gcd w.natAbs x.natAbs : Nat) : Int) ∣ w := cast_dvd (Nat.gcd_dvd_left _ _)
  have hgx : ((Nat.gcd w.natAbs x.natAbs : Nat) : Int) ∣ x := cast_dvd (Nat.gcd_dvd_right _ _)
  have e1 : ((Nat.gcd w.natAbs x.natAbs : Nat) : Int) * w.tdiv (Nat.gcd w.natAbs x.natAbs : Nat) = w := Int.mul_tdiv_cancel' hgw
  have e2 : ((Nat.gcd w.natAbs x.natAbs : Nat) : Int) * x.tdiv (Nat.gcd w.natAbs x.natAbs : Nat) = x := Int.mul_tdiv_cancel' hgx
  have e3 : stW w x = w * x.tdiv (Nat.gcd w.natAbs x.natAbs : Nat) := by
    unfold stW
    refine cancel (a := ((Nat.gcd w.natAbs x.natAbs : Nat) : Int)) (by omega) ?_
    rw [← Int.mul_assoc, e1, Int.mul_comm w (x.tdiv _), ← Int.mul_assoc, e2, Int.mul_comm]
  refine ⟨fun e => ?_, ?_, ⟨_, e3⟩, ⟨w.tdiv (Nat.gcd w.natAbs x.natAbs : Nat), by unfold stW; rw [Int.mul_comm]⟩⟩
  · unfold stW at e
    rcases Int.mul_eq_zero.1 e with g | g
    · rw [g, Int.mul_zero] at e1; exact hw e1.symm
    exact hx g
  have h3 : (Nat.lcm w.natAbs x.natAbs) ∣ D.natAbs := Nat.lcm_dvd (Int.natAbs_dvd_natAbs.2 h1) (Int.natAbs_dvd_natAbs.2 h2)
  have h4 : (stW w x).natAbs = Nat.lcm w.natAbs x.natAbs := by
    have q1 := congrArg Int.natAbs e1
    rw [Int.natAbs_mul, Int.natAbs_natCast] at q1
    unfold stW
    rw [Int.natAbs_mul]
    refine Nat.eq_of_mul_eq_mul_left hg ?_
    rw [Nat.gcd_mul_lcm, ← Nat.mul_assoc, q1]
  exact Int.natAbs_dvd_natAbs.1 (by rw [h4]; exact h3)
theorem dvd_in {w D : Int} (hD : D ≠ 0) (hB : -122880 ≤ D ∧ D ≤ 122880) (h : w ∣ D) : -122880 ≤ w ∧ w ≤ 122880 := by
  have h1 := Nat.le_of_dvd (by omega) (Int.natAbs_dvd_natAbs.2 h)
  omega
/-- a number that all those of S divide -/
structure WhP (f : Nat → Option (Nat → Int)) (D : Int) (S : Nat → Prop) (w : Int) : Prop where
  ne : w ≠ 0
  dv : w ∣ D
  all : ∀ p l, f p = some l → S p → l p ∣ w
theorem WhP.one (f : Nat → Option (Nat → Int)) (D : Int) {S : Nat → Prop} (h : ∀ p l, f p = some l → ¬ S p) : WhP f D S 1 := ⟨by decide, Int.one_dvd D, fun p l hl hs => absurd hs (h p l hl)⟩
theorem WhP.step {n : Nat} {f : Nat → Option (Nat → Int)} {D : Int} {S S' : Nat → Prop} {w : Int} {p : Nat} {l : Nat → Int} (hK : TabK n f D) (h : WhP f D S w) (hp : f p = some l) (hS : ∀ q, S' q → S q ∨ q = p) : WhP f D S' (stW w (l p)) := by
  obtain ⟨h1, h2, h3, h4⟩ := stW_in hK.d0 h.ne (hK.ne p l hp) h.dv (hK.dv p l hp)
  refine ⟨h1, h2, fun q l' hq hs => ?_⟩
  rcases hS q hs with g | g
  · exact Int.dvd_trans (h.all q l' hq g) h3
  subst g
  rw [hp] at hq
  injection hq with hq
  subst hq
  exact h4
/-- the twin of a free place -/
structure TwZ (n : Nat) (f : Nat → Option (Nat → Int)) (a : Nat) (z : Nat → Int) : Prop where
  lt : a < n
  fr : f a = none
  ne : z a ≠ 0
  bd : -122880 ≤ z a ∧ z a ≤ 122880
  dv : ∀ p l, f p = some l → l p ∣ z a
  at_ : ∀ p l, f p = some l → z p = -(l a) * (z a).tdiv (l p)
  z0 : ∀ k, k ≠ a → f k = none → z k = 0
theorem dlt_1 (p : Nat) {n : Nat} (h : p < n) : dotN (dlt p) (fun _ => 1) n = 1 := by rw [dotN_comm, dot_dlt, if_pos h]
theorem dotN_ext {g h g' h' : Nat → Int} : ∀ {n : Nat}, (∀ k, k < n → g k * h k = g' k * h' k) → dotN g h n = dotN g' h' n
  | 0, _ => rfl
  | n + 1, e => by
    show dotN g h n + g n * h n = dotN g' h' n + g' n * h' n
    rw [dotN_ext fun k hk => e k (by omega), e n (by omega)]
section
variable {n : Nat} {f : Nat → Option (Nat → Int)} {D : Int} {a : Nat} {z : Nat → Int}
theorem TwZ.orth (hK : TabK n f D) (hz : TwZ n f a z) {p : Nat} {l : Nat → Int} (hl : f p = some l) : dotN l z n = 0 := by
  have hpa : p ≠ a := fun e => by have := hz.fr; rw [← e, hl] at this; cases this
  have hpn := hK.lt p l hl
  have e1 : l p * z p = -(l a * z a) := by
    have := Int.mul_tdiv_cancel' (hz.dv p l hl)
    rw [hz.at_ p l hl]
    have e : l p * (-(l a) * (z a).tdiv (l p)) = -(l a) * (l p * (z a).tdiv (l p)) := by
      rw [← Int.mul_assoc, ← Int.mul_assoc, Int.mul_comm (l p)]
    rw [e, this, Int.neg_mul]
  rw [show dotN l z n = dotN (fun k => (l p * z p) * dlt p k + (l a * z a) * dlt a k) (fun _ => 1) n from dotN_ext fun k hk => by
    unfold dlt
    by_cases g1 : k = p
    · subst g1; rw [if_pos rfl, if_neg hpa]; omega
    by_cases g2 : k = a
    · subst g2; rw [if_neg (fun e => hpa e.symm), if_pos rfl]; omega
    rw [if_neg g1, if_neg g2]
    cases e : f k with
    | none => rw [hz.z0 k g2 e]; omega
    | some l' => rw [hK.crs p l k l' hl e g1]; omega, dotN_add (fun k => (l p * z p) * dlt p k) (fun k => (l a * z a) * dlt a k), dotN_mul, dotN_mul, dlt_1 p hpn, dlt_1 a hz.lt, e1]
  omega
theorem TwZ.dot (hz : TwZ n f a z) {X : Nat → Int} (hX : ∀ p l, f p = some l → X p = 0) : dotN X z n = X a * z a := by
  rw [show dotN X z n = dotN (fun k => (X a * z a) * dlt a k) (fun _ => 1) n from dotN_ext fun k hk => by
    unfold dlt
    by_cases g2 : k = a
    · subst g2; rw [if_pos rfl]; omega
    rw [if_neg g2]
    cases e : f k with
    | none => rw [hz.z0 k g2 e]; omega
    | some l' => rw [hX k l' e]; omega, dotN_mul, dlt_1 a hz.lt]
  omega
theorem TwZ.big (hK : TabK n f D) (hz : TwZ n f a z) (k : Nat) : k < 15 → -1099511627776 ≤ z k ∧ z k ≤ 1099511627776 := fun hk => by
  have hb := hz.bd
  by_cases g : k = a
  · rw [g]; omega
  cases e : f k with
  | none => rw [hz.z0 k g e]; omega
  | some l =>
    have h1 := hK.bd k l e a (by have := hz.lt; have := hK.n5; omega)
    have h2 : -122880 ≤ (z a).tdiv (l k) ∧ (z a).tdiv (l k) ≤ 122880 := by
      have q := Int.mul_tdiv_cancel' (hz.dv k l e)
      exact le_mul (hK.ne k l e) (by rw [q]; exact hb)
    have h3 := mul_bd (a := -(l a)) (A := 6144000) (by omega) h2
    rw [hz.at_ k l e]
    omega
end
section
variable {n : Nat} {rows : List (List Int)} {r : List Int} {a : Nat} {z : Nat → Int}
theorem row_orth (hok : OkB n rows) (hz : ∀ p l, mkF n rows p = some l → dotN l z n = 0) {i : Nat} (hi : i < rows.length) : dotN (Gr rows i) z n = 0 := by
  have hn := hok.2.1
  have h8 := hok.1
  obtain ⟨hr, hw⟩ := hok.rep
  obtain ⟨I, P, hst⟩ := mk_st hok hr hw
  have hF := mk_fam hok hr hw
  obtain ⟨t, c, ht, hc⟩ := hst.sp i hi
  have h1 := hst.func hF h8 z c fun q _ => .inr fun l hl => hz q l hl
  refine (Int.mul_eq_zero.1 (?_ : t * dotN (Gr rows i) z n = 0)).resolve_left ht
  rw [← dotN_mul, ← h1]
  exact dotN_cg (fun k hk => by rw [← hc k hk, fam_at (by omega), if_neg (by omega)]) fun _ _ => rfl
theorem ask_piv (hok : OkB n rows) (hr : (r.length : Int) = n) (hw : WiB 4 r) : (∀ p l, mkF n rows p = some l → askZ n rows r p = 0) ∧ (∀ k, n ≤ k → k < 5 → askZ n rows r k = 0) ∧ ∀ z, (∀ p l, mkF n rows p = some l → dotN l z n = 0) → (dotN (fnL r) z n ≠ 0 ↔ dotN (askZ n rows r) z n ≠ 0) := by
  have hn := hok.2.1
  have h8 := hok.1
  obtain ⟨I, P, hst⟩ := mk_st hok hr hw
  have hF := mk_fam hok hr hw
  obtain ⟨j, hj, hy⟩ := ray_less hF hst h8 (x := 8) (by omega) n (Nat.le_refl n)
  rw [famP_8] at hy
  have hyX : Ray 15 (famP rows (zrL rows.length) r) I P 6144000 8 (fun q => q < n) j (askZ n rows r) := hy
  refine ⟨fun p l hl => hyX.zero (fun q hq => by have := hst.lt q hq; omega) hst.lt p ((hst.dom p).1 ⟨l, hl⟩), fun k hk h5 => less_zero hok hr hyX h5 hk, fun z hz => ?_⟩
  obtain ⟨⟨A, b, u, h1, h2, h3, _⟩, _⟩ := hyX
  have h4 := hst.func hF h8 z u fun q _ => .inr fun l hl => hz q l hl
  have e : A * dotN (askZ n rows r) z n = b * (det (famP rows (zrL rows.length) r) P I * dotN (fnL r) z n) := by
    rw [← dotN_mul, show dotN (fun k => A * askZ n rows r k) z n = dotN (fun k => (b * det (famP rows (zrL rows.length) r) P I) * fnL r k + b * cmb (famP rows (zrL rows.length) r) I u k) z n from dotN_cg (fun k hk => by rw [h3 k (by omega), fam_at (by omega), if_pos rfl, Int.mul_add, Int.mul_assoc]) fun _ _ => rfl, dotN_add (fun k => (b * det (famP rows (zrL rows.length) r) P I) * fnL r k) (fun k => b * cmb (famP rows (zrL rows.length) r) I u k), dotN_mul, dotN_mul, h4, Int.mul_zero, Int.add_zero, Int.mul_assoc]
  constructor
  · intro g q
    rw [q, Int.mul_zero] at e
    rcases Int.mul_eq_zero.1 e.symm with w | w
    · exact h2 w
    exact (Int.mul_eq_zero.1 w).elim hst.bs.dne g
  intro g q
  rw [q, Int.mul_zero, Int.mul_zero] at e
  exact (Int.mul_eq_zero.1 e).elim h1 g
theorem tw_dot (hok : OkB n rows) (hr : (r.length : Int) = n) (hw : WiB 4 r) (hz : TwZ n (mkF n rows) a z) : dotN (fnL r) z n ≠ 0 ↔ askZ n rows r a ≠ 0 := by
  obtain ⟨D, hK⟩ := mk_key hok
  obtain ⟨h1, _, h3⟩ := ask_piv hok hr hw
  rw [h3 z fun p l hl => hz.orth hK hl, hz.dot h1]
  constructor
  · intro g q; exact g (by rw [q, Int.zero_mul])
  intro g q; exact (Int.mul_eq_zero.1 q).elim g hz.ne
theorem dotL_ls {l : List Int} : dotL l (lsF z n) = dotN (fnL l) z n := by
  unfold dotL
  rw [lsF_len]
  exact dotN_cg (fun _ _ => rfl) fun k hk => fnL_lsF hk
theorem tw_right {n : Int} (h : chkBR n rows r = 0) (hz : TwZ n.toNat (mkF n.toNat rows) a z) (ha : askZ n.toNat rows r a ≠ 0) : ctwE n rows r (lsF z n.toNat) = 0 := by
  obtain ⟨hok, hl, hw⟩ := chkBR0.1 h
  have h1 := hok.2.1
  have e : ((n.toNat : Nat) : Int) = n := by omega
  have hok' : OkB (n.toNat : Nat) rows := by rw [e]; exact hok
  obtain ⟨D, hK⟩ := mk_key hok'
  refine ctwE0.2 ⟨h, by rw [lsF_len]; exact e, fun x hx => ?_, fun b hb => ?_, ?_⟩
  · unfold lsF at hx
    obtain ⟨i, hi, rfl⟩ := List.mem_map.1 hx
    rw [List.mem_range] at hi
    exact hz.big hK i (by omega)
  · rw [dotL_ls]
    obtain ⟨i, hi, rfl⟩ := List.getElem_of_mem hb
    have := row_orth hok' (z := z) (fun p l hl => hz.orth hK hl) hi
    unfold Gr at this
    rw [List.getD_eq_getElem?_getD, List.getElem?_eq_getElem hi] at this
    exact this
  rw [dotL_ls]
  exact (tw_dot hok' (by rw [e]; exact hl) hw hz).2 ha
/-- the free places -/
def frees (n : Nat) (f : Nat → Option (Nat → Int)) (i : Nat) : List Nat := (List.range i).filter fun k => (f k).isNone
theorem frees_none {f : Nat → Option (Nat → Int)} {i : Nat} (h : f i = none) : frees n f (i + 1) = frees n f i ++ [i] := by unfold frees; rw [List.range_succ, List.filter_append]; simp [h]
theorem frees_some {f : Nat → Option (Nat → Int)} {i : Nat} (h : (f i).isSome = true) : frees n f (i + 1) = frees n f i := by
  unfold frees; rw [List.range_succ, List.filter_append]
  cases e : f i with
  | none => rw [e] at h; cases h
  | some l => simp [e]
theorem frees_pre {f : Nat → Option (Nat → Int)} {i j : Nat} (h : i ≤ j) : ∃ t, frees n f j = frees n f i ++ t := by
  induction j with
  | zero => exact ⟨[], by rw [show i = 0 by omega]; simp⟩
  | succ j ih =>
    by_cases e : i = j + 1
    · subst e; exact ⟨[], by simp⟩
    obtain ⟨t, ht⟩ := ih (by omega)
    cases q : f j with
    | none => exact ⟨t ++ [j], by rw [frees_none q, ht, List.append_assoc]⟩
    | some l => exact ⟨t, by rw [frees_some (by rw [q]; rfl), ht]⟩
theorem frees_get {f : Nat → Option (Nat → Int)} {i : Nat} (h : i < n) (hf : f i = none) : (frees n f n)[(frees n f i).length]? = some i := by
  obtain ⟨t, ht⟩ := frees_pre (n := n) (f := f) (show i + 1 ≤ n from h)
  rw [ht, frees_none hf, List.append_assoc, List.getElem?_append_right (Nat.le_refl _), Nat.sub_self]
  rfl
theorem frees_mem {f : Nat → Option (Nat → Int)} {i k : Nat} : k ∈ frees n f i ↔ k < i ∧ f k = none := by
  unfold frees
  rw [List.mem_filter, List.mem_range]
  simp
theorem can_free (hok : OkB n rows) (hr : (r.length : Int) = n) (hw : WiB 4 r) : CanA n rows r ↔ ∀ k ∈ frees n (mkF n rows) n, askZ n rows r k = 0 := by
  have hn := hok.2.1
  rw [← askZ_can hok hr hw]
  obtain ⟨h1, h2, _⟩ := ask_piv hok hr hw
  constructor
  · intro h k hk
    have := (frees_mem.1 hk).1
    exact zr5_at h k (by omega)
  intro h
  have : ∀ k, k < 5 → askZ n rows r k = 0 := fun k hk => by
    by_cases g : k < n
    · cases e : mkF n rows k with
      | none => exact h k (frees_mem.2 ⟨g, e⟩)
      | some l => exact h1 k l e
    exact h2 k (by omega) hk
  exact ⟨this 0 (by omega), this 1 (by omega), this 2 (by omega), this 3 (by omega), this 4 (by omega)⟩
end
end Go.Proofs.Ytelmclmklkiphaa
namespace Go.Proofs.Ytelmclmklkiphaa
open Go Go.TH
attribute [local irreducible] W WO pt
set_option maxRecDepth 10000
set_option maxHeartbeats 1000000
section
variable {C : Cx Try.prog} {E : Env} {H H' H2 : List HP}
variable {ops : Array Oper} {K : KP} {rest : List Oper} {d : Nat} {ty : TypeId} {pos : String} {af : Array Edge} {x y z : Operand} {T : TypeId}
theorem WO.mapGet2O {m k : Nat} {f : Nat → Option (Nat → Int)} {zi : Int} (hm : ev E x = some (.map (some m))) (hk : ev E y = some (.int .i64 zi)) (hz : zi = (k : Int)) (p : Pick (MapP m f) H H') (hN : Nat.blt d C.N = true)
    (h : WO C ops rest K ((d, .tuple #[madeV ((f k).getD fun _ => 0), .bool (bl ((f k).isSome = true))]) :: E) H) : WO C ops (⟨some d, .lookup 78 x y true, ty, pos, af, none⟩ :: rest) K E H := by
  subst hz
  refine WO.pure _ (by simp) (fun L a w hfr hi => ?_) hN h
  obtain ⟨ks, clk, h1, h2, hi'⟩ := MapP.open p hi
  have hl := (hi'.look .head).1
  have hr := run_get (k := k) w h1 hl
  rw [h2 k] at hr
  simp [execOp, hfr.eval hm, hfr.eval hk, hr, bl_eq]
end
/-- the piece of a twin -/
def TwG (n : Nat) (f : Nat → Option (Nat → Int)) (a : Nat) (v : Value) : HP := fun h => ∃ z, TwZ n f a z ∧ OwE encI 2 1 v (lsF z n) h
theorem TwG.of {n a : Nat} {f : Nat → Option (Nat → Int)} {v : Value} {z : Nat → Int} (hz : TwZ n f a z) {H H' : List HP} (p : Pick (OwE encI 2 1 v (lsF z n)) H H') : ∀ h, sat H h → sat (TwG n f a v :: H') h := fun h hs => by
  obtain ⟨h1, h2, s, q, hr⟩ := sat_perm p.perm hs
  exact ⟨h1, h2, s, ⟨z, hz, q⟩, hr⟩
theorem rep_ls (n : Nat) : List.replicate n (0 : Int) = lsF (fun _ => 0) n := by unfold lsF; rw [List.map_const', List.length_range]
theorem gcd2_ls (w x : Int) : gcdF (fnL [w, x]) [w, x].length = Nat.gcd w.natAbs x.natAbs := by
  show Nat.gcd (Nat.gcd 0 w.natAbs) x.natAbs = _
  rw [Nat.gcd_zero_left]
/-- those that have been handed out -/
def Sn (ks : List KE) (seen : Array Nat) (q : Nat) : Prop := ∀ e ∈ lft ks seen, e.1 ≠ q
theorem Sn.push {ks : List KE} {clk : Nat} (hr : Reg ks clk) {seen : Array Nat} {e : KE} (he : e ∈ lft ks seen) {q : Nat} (h : Sn ks (seen.push e.2.2) q) : Sn ks seen q ∨ q = e.1 := by
  by_cases g : q = e.1
  · exact .inr g
  refine .inl fun t ht => ?_
  by_cases g2 : t.2.2 = e.2.2
  · have := same_born hr (lft_mem ht).1 (lft_mem he).1 g2
    rw [this]; exact fun e' => g e'.symm
  refine h t ?_
  unfold lft at ht ⊢
  rw [List.mem_filter] at ht ⊢
  refine ⟨ht.1, ?_⟩
  have h2 := ht.2
  rw [has_push]
  simp at h2 ⊢
  exact ⟨h2, g2⟩
theorem Sn.none {ks : List KE} {clk : Nat} {f : Nat → Option (Nat → Int)} (hlk : ∀ k, lkE ks k = f k) {p : Nat} {l : Nat → Int} (hp : f p = some l) : ¬ Sn ks #[] p := fun h => by
  rw [← hlk p] at hp
  obtain ⟨s, hs⟩ := lkE_mem hp
  refine h (p, l, s) ?_ rfl
  unfold lft
  rw [List.mem_filter]
  exact ⟨hs, by simp⟩
theorem Sn.all {ks : List KE} {seen : Array Nat} (h0 : lft ks seen = []) (q : Nat) : Sn ks seen q := fun e he => by rw [h0] at he; cases he
theorem key_of {ks : List KE} {clk : Nat} {f : Nat → Option (Nat → Int)} {seen : Array Nat} (hr : Reg ks clk) (hlk : ∀ k, lkE ks k = f k) {e : KE} (he : e ∈ lft ks seen) : f e.1 = some e.2.1 := by
  rw [← hlk]
  exact lkE_of (s := e.2.2) hr.kn (lft_mem he).1
/-- a twin half made -/
structure ZP (f : Nat → Option (Nat → Int)) (S : Nat → Prop) (a : Nat) (wh : Int) (z : Nat → Int) : Prop where
  at_ : z a = wh
  key : ∀ p l, f p = some l → S p → z p = -(l a) * wh.tdiv (l p)
  z0 : ∀ k, k ≠ a → f k = none → z k = 0
theorem ZP.start {f : Nat → Option (Nat → Int)} {S : Nat → Prop} {a : Nat} {wh : Int} (hS : ∀ p l, f p = some l → ¬ S p) : ZP f S a wh (updV (fun _ => 0) a wh) :=
  ⟨by unfold updV; rw [if_pos rfl], fun p l hp hs => absurd hs (hS p l hp), fun k hk _ => by unfold updV; rw [if_neg hk]⟩
theorem ZP.step {f : Nat → Option (Nat → Int)} {S S' : Nat → Prop} {a p : Nat} {wh : Int} {z l : Nat → Int} (h : ZP f S a wh z) (hf : f a = none) (hp : f p = some l) (hS : ∀ q, S' q → S q ∨ q = p) : ZP f S' a wh (updV z p (-(l a) * wh.tdiv (l p))) := by
  have hpa : a ≠ p := fun e => by rw [e, hp] at hf; cases hf
  refine ⟨by unfold updV; rw [if_neg hpa]; exact h.at_, fun q l' hq hs => ?_, fun k hk hn => ?_⟩
  · unfold updV
    by_cases g : q = p
    · subst g; rw [hp] at hq; injection hq with hq; subst hq; rw [if_pos rfl]
    rw [if_neg g]; exact h.key q l' hq ((hS q hs).resolve_right g)
  unfold updV
  rw [if_neg (fun e => by rw [e, hp] at hn; cases hn)]; exact h.z0 k hk hn
theorem c_twins (w : World) (bt : Nat) : Ct Try.prog 41 [.pointer (some ⟨bt, 0, none⟩)].toArray w fun v w' => ∃ Hq, (∃ b, v = .func (.func 53) #[] #[.pointer (some ⟨b, 0, none⟩)] ∧ Hq = [pt b (.cells #[.pointer (some ⟨bt, 0, none⟩)] 64 (0, 0))]) ∧ TH.Inv w [] Hq w' := by
  refine Ct.of mixed tyTab Try.func41 rfl rfl ?_
  refine W.sreg ?_
  refine WO.box1 rfl (by first | rfl | assumption) rfl (fun b1 hb1 => ?_)
  refine WO.p rfl rfl ?_
  refine WO.nil ?_
  refine W.sreg ?_
  refine WO.p rfl rfl (WO.p rfl rfl ?_)
  refine WO.nil ?_
  refine W.ret ?_
  exact fin.ret (Res.one rfl (RV.tmp rfl)) ⟨b1, rfl, rfl⟩
theorem c_twins1 (B : Nat) (wr : World) (n : Nat) (f : Nat → Option (Nat → Int)) (D : Int) (hK : TabK n f D) (last : Nat) (l : Nat) (Hc : Nat → List HP) (hy : ∀ k x v, (frees n f n)[k]? = some x → k ≤ last → YieldB Try.prog B wr l #[v] (bl (k < last)) (TwG n f x v :: Hc k) (Hc (k + 1))) (bx bt m : Nat) (w : World) (M' : List Nat) (hB : B ≤ w.heap.size) (hk : ∀ k, k < B → w.heap[k]? = wr.heap[k]?) (hM : ∀ b ∈ M', B ≤ b)
    (hi : TH.Inv w M' (TbP bx bt n m f ++ Hc 0) w) :
    Ct Try.prog 53 ([.func (.yield l) #[] #[], .pointer (some ⟨bx, 0, none⟩)] : List Value).toArray w fun _ w' => TH.Inv w M' (TbP bx bt n m f ++ Hc (min (frees n f n).length (last + 1))) w' := by
  have hn5 := hK.n5
  refine Iter.of mixed tyTab hB hM Try.func53 rfl rfl hi ?_
  refine W.sreg ?_
  refine WO.load rfl rfl (Cell.own Pick.head rfl) rfl (WO.p rfl rfl (WO.field0 rfl rfl rfl (WO.load rfl rfl (Cell.own (Pick.tail (Pick.head)) rfl) rfl (WO.p rfl rfl ?_))))
  refine WO.nil ?_
  refine W.block ?_
  rw [show Hc 0 = Hc (frees n f 0).length from rfl]
  refine W.loop (fun (i : Nat) => i ≤ n ∧ (frees n f i).length ≤ last)
    (fun (i : Nat) => [(0, .func (.yield l) #[] #[]), (1, .pointer (some ⟨bx, 0, none⟩)), (17, .int .i64 (n : Int)), (18, .int .i64 (i : Int))])
    (fun (i : Nat) => [pt bx (.cells #[.pointer (some ⟨bt, 0, none⟩)] 64 (0, 0)), pt bt (.cells #[.int .i64 (n : Int), .map (some m)] 80 (0, 0)), MapP m f, sat (Hc (frees n f i).length)])
    (fun (i : Nat) => n - i) 0
    (by exact ⟨by omega, Nat.zero_le _⟩) ⟨rfl, rfl, rfl, rfl, trivial⟩ (by repeat (first | exact Sub.nil | refine Sub.cons (by repeat (first | exact Pick.head | apply Pick.tail)) ?_)) ?_
  rintro i ⟨hi, hil⟩
  refine W.sreg ?_
  refine WO.p rfl rfl ?_
  refine WO.nil ?_
  refine W.seq ?_
  refine W.cond_bl rfl (fun c1 => ?_) (fun c1 => ?_)
  · first
    | (exfalso; omega)
    | (refine W.skip ?_
       refine W.seq ?_
       refine W.block ?_
       refine W.sreg ?_
       refine WO.p rfl rfl (WO.p rfl rfl ?_)
       refine WO.nil ?_
       refine W.seq ?_
       refine W.sreg ?_
       refine WO.load rfl rfl (Cell.own Pick.head rfl) rfl (WO.p rfl rfl (WO.fieldL rfl rfl rfl (WO.load rfl rfl (Cell.own (Pick.tail (Pick.head)) rfl) rfl (WO.p rfl rfl ?_))))
       refine WO.mapGet2O (k := i) rfl rfl rfl (by repeat (first | exact Pick.head | apply Pick.tail)) rfl ?_
       refine WO.p rfl rfl (WO.p rfl rfl (WO.p rfl rfl ?_))
       refine WO.alloc rfl rfl rfl (fun b1 hb1 => ?_)
       refine WO.storeA rfl rfl rfl rfl Pick.head rfl rfl (WO.p rfl rfl ?_)
       refine WO.nil ?_
       refine W.sreg ?_
       refine WO.p rfl rfl ?_
       refine WO.nil ?_
       refine W.cond_bl rfl (fun c2 => ?_) (fun c2 => ?_)
       · first
         | (exfalso; omega)
         | (refine W.exit (blk_same ?_)
            first | (have hfs : frees n f (i + 1) = frees n f i := frees_some (by assumption); rw [← hfs]; have hnx : (frees n f (i + 1)).length ≤ last := (by rw [hfs]; exact hil)) | (have hfs : (frees n f (i + 1)).length = (frees n f i).length + 1 := (by rw [frees_none hfi]; simp); rw [← hfs]; have hnx : (frees n f (i + 1)).length ≤ last := (by omega))
            refine W.region ?_
            refine WO.ar rfl rfl rfl (by (first | (unfold in64; omega) | (unfold in64; omega))) rfl (WO.p rfl rfl ?_)
            refine WO.nil ?_
            refine' ⟨i + 1, ?hp, ?hmu, ⟨rfl, rfl, rfl, rfl, trivial⟩, ?hS⟩
            case hS => repeat (first | exact Sub.nil | refine Sub.cons (by repeat (first | exact Pick.head | apply Pick.tail)) ?_)
            case hp => exact ⟨by omega, hnx⟩
            case hmu => omega)
       first
       | (exfalso; omega)
       | (refine W.skip ?_
          have hfi : f i = none := by cases e : f i with
          | none => rfl
          | some l => exact absurd (by rw [e]; rfl) (show ¬ (f i).isSome = true by assumption)
          refine W.sreg ?_
          refine WO.p rfl rfl ?_
          refine WO.nil ?_
          refine W.seq ?_
          refine W.chgE (MapP.openE (by repeat (first | exact Pick.head | apply Pick.tail))) ?_
          rintro ⟨ks, clk⟩ ⟨hreg, hlk⟩
          dsimp only at hreg hlk ⊢
          refine W.sreg ?_
          refine WO.load rfl rfl (Cell.own (Pick.tail (Pick.tail (Pick.head))) rfl) rfl (WO.p rfl rfl (WO.fieldL rfl rfl rfl (WO.load rfl rfl (Cell.own (Pick.tail (Pick.tail (Pick.tail (Pick.head)))) rfl) rfl ?_)))
          refine WO.rangeM (clk := clk) rfl (by repeat (first | exact Pick.head | apply Pick.tail)) rfl (fun r => ?_)
          refine WO.nil ?_
          refine W.block ?_
          refine W.loop2 (fun (seen : Array Nat) (wh : Int) => WhP f D (Sn ks seen) wh)
            (fun (seen : Array Nat) (wh : Int) => [(0, .func (.yield l) #[] #[]), (1, .pointer (some ⟨bx, 0, none⟩)), (3, .int .i64 (i : Int)), (6, .int .i64 wh), (17, .int .i64 (n : Int)), (18, .int .i64 (i : Int)), (35, .pointer (some ⟨r, 0, none⟩))])
            (fun (seen : Array Nat) (wh : Int) => [pt bx (.cells #[.pointer (some ⟨bt, 0, none⟩)] 64 (0, 0)), pt bt (.cells #[.int .i64 (n : Int), .map (some m)] 80 (0, 0)), pt m (.map (ents ks) clk), pt r (itO m clk seen), sat (Hc (frees n f i).length)])
            (fun (seen : Array Nat) (wh : Int) => (lft ks seen).length) #[] 1
            (by exact WhP.one f D fun p l hp => Sn.none (clk := clk) hlk hp) ⟨rfl, rfl, rfl, rfl, rfl, rfl, rfl, trivial⟩ (by repeat (first | exact Sub.nil | refine Sub.cons (by repeat (first | exact Pick.head | apply Pick.tail)) ?_)) ?_
          rintro seen wh hwh
          refine W.sreg ?_
          refine WO.nextM (ks := ks) rfl (by repeat (first | exact Pick.head | apply Pick.tail)) (by repeat (first | exact Pick.head | apply Pick.tail)) hreg rfl (fun o hox => ?_)
          refine WO.extractN rfl rfl ?_
          refine WO.nil ?_
          refine W.seq ?_
          refine W.cond_bl rfl (fun c3 => ?_) (fun c3 => ?_)
          · first
            | (exfalso; omega)
            | (refine W.skip ?_
               refine W.block ?_
               obtain ⟨e, rfl⟩ := Option.isSome_iff_exists.1 (show o.isSome = true by assumption)
               have hke := key_of hreg hlk hox
               have hkn := hK.lt _ _ hke
               have hpl : placeV e.2.1 = (e.1 : Int) := by unfold placeV; rw [hK.led _ _ hke, if_neg (by omega)]
               refine W.sreg ?_
               refine WO.entryM (e := e) (ks := ks) rfl (by repeat (first | exact Pick.head | apply Pick.tail)) (by repeat (first | exact Pick.head | apply Pick.tail)) hreg (lft_mem hox).1 rfl ?_
               refine WO.p rfl rfl ?_
               refine WO.alloc rfl rfl rfl (fun b2 hb2 => ?_)
               refine WO.storeA rfl rfl rfl rfl Pick.head rfl rfl ?_
               refine WO.nil ?_
               refine W.sreg ?_
               refine WO.field0 rfl rfl rfl (WO.field0 rfl rfl rfl (WO.loadA rfl rfl (Cells.ownAt (n := 5) Pick.head rfl) rfl rfl (WO.p rfl rfl ?_)))
               refine WO.nil ?_
               refine W.block ?_
               refine W.loop2 (fun (j : Nat) (w2 : Int) => j ≤ 5 ∧ w2 = (if j ≤ e.1 then wh else stW wh (e.2.1 e.1)))
                 (fun (j : Nat) (w2 : Int) => [(0, .func (.yield l) #[] #[]), (1, .pointer (some ⟨bx, 0, none⟩)), (3, .int .i64 (i : Int)), (6, .int .i64 w2), (8, .pointer (some ⟨b2, 0, none⟩)), (17, .int .i64 (n : Int)), (18, .int .i64 (i : Int)), (35, .pointer (some ⟨r, 0, none⟩)), (42, .agg (r5 e.2.1).toArray), (43, .int .i64 (j : Int))])
                 (fun (j : Nat) (w2 : Int) => [pt bx (.cells #[.pointer (some ⟨bt, 0, none⟩)] 64 (0, 0)), pt bt (.cells #[.int .i64 (n : Int), .map (some m)] 80 (0, 0)), pt m (.map (ents ks) clk), pt r (itO m clk (seen.push e.2.2)), pt b2 (.cells (m15 e.2.1).toArray 71 (0, 0)), sat (Hc (frees n f i).length)])
                 (fun (j : Nat) (w2 : Int) => 5 - j) 0 wh
                 (by exact ⟨by omega, (if_pos (Nat.zero_le _)).symm⟩) ⟨rfl, rfl, rfl, rfl, rfl, rfl, rfl, rfl, rfl, rfl, trivial⟩ (by repeat (first | exact Sub.nil | refine Sub.cons (by repeat (first | exact Pick.head | apply Pick.tail)) ?_)) ?_
               rintro j w2 ⟨hj, hw2⟩
               refine W.sreg ?_
               refine WO.p rfl rfl ?_
               refine WO.nil ?_
               refine W.seq ?_
               refine W.cond_bl rfl (fun c4 => ?_) (fun c4 => ?_)
               · first
                 | (exfalso; omega)
                 | (refine W.skip ?_
                    refine W.seq ?_
                    refine W.block ?_
                    refine W.sreg ?_
                    refine WO.p rfl rfl ?_
                    refine WO.indexV (vs := r5 e.2.1) (i := j) rfl rfl rfl rfl (by omega) (r5_get (by omega)) rfl ?_
                    refine WO.p rfl rfl (WO.p rfl rfl ?_)
                    refine WO.nil ?_
                    refine W.sreg ?_
                    refine WO.p rfl rfl (WO.p rfl rfl (WO.p rfl rfl ?_))
                    refine WO.guard_bl rfl rfl (fun c5 => ?_) (fun c5 => ?_)
                    · first
                      | (exfalso; omega)
                      | (refine WO.pg rfl rfl rfl (WO.go' rfl (WO.loadA rfl rfl (Cells.own (Pick.tail (Pick.tail (Pick.tail (Pick.tail (Pick.head)))))) rfl rfl (WO.go' rfl ?_)))
                         refine WO.callR rfl Try.call52 (fun L w' hi' => c_place w' e.2.1) rfl ?_
                         rw [hpl]
                         refine WO.pg rfl rfl rfl (WO.p rfl rfl ?_)
                         refine WO.nil ?_
                         refine W.cond_bl rfl (fun c6 => ?_) (fun c6 => ?_)
                         · first
                           | (exfalso; omega)
                           | (have hje : j = e.1 := by omega
                              have hww : w2 = wh := by rw [hw2, if_pos (by omega)]
                              have hjx : e.2.1 j = e.2.1 e.1 := by rw [hje]
                              rw [hww, hjx]
                              have hst := stW_in hK.d0 hwh.ne (hK.ne _ _ hke) hwh.dv (hK.dv _ _ hke)
                              have hwB := dvd_in hK.d0 hK.dB hwh.dv
                              have hxB := dvd_in hK.d0 hK.dB (hK.dv _ _ hke)
                              have hsB := dvd_in hK.d0 hK.dB hst.2.1
                              have hsi : in64 (stW wh (e.2.1 e.1)) := by unfold in64; omega
                              have hg0 : ((Nat.gcd wh.natAbs (e.2.1 e.1).natAbs : Nat) : Int) ≠ 0 := by have := Nat.gcd_pos_of_pos_left (e.2.1 e.1).natAbs (show 0 < wh.natAbs by have := hwh.ne; omega); omega
                              have hqi : in64 (wh.tdiv (Nat.gcd wh.natAbs (e.2.1 e.1).natAbs : Nat)) := by have q := le_mul (M := 122880) hg0 (by rw [Int.mul_tdiv_cancel' (cast_dvd (Nat.gcd_dvd_left _ _))]; exact hwB); unfold in64; omega
                              have hnjh : stW wh (e.2.1 e.1) = if j + 1 ≤ e.1 then wh else stW wh (e.2.1 e.1) := (if_neg (by omega)).symm
                              refine W.region ?_
                              refine WO.p rfl rfl (WO.p rfl rfl (WO.p rfl rfl ?_))
                              refine' WO.buildSl (cs := _) rfl rfl rfl rfl ?hf rfl rfl ?hl rfl (fun v3 => ?_)
                              case hf => (conv => lhs; simp [-List.getD_eq_getElem?_getD, fillL, vcl, wrl, TTab.pl?.lget']) <;> rfl
                              case hl => rfl
                              refine WO.callR (r := .int .i64 (Nat.gcd wh.natAbs (e.2.1 e.1).natAbs : Nat)) rfl Try.call46 (fun L w' hi' => by rw [← gcd2_ls]; exact c_common w' _ [wh, e.2.1 e.1] 122880 (RdF.of_ow (e := 2) (xs := [wh, e.2.1 e.1]) encI_ok (by repeat (first | exact Pick.head | apply Pick.tail)) hi') (by omega) (fun k hk => by match k, hk with | 0, _ => (show wh.natAbs ≤ 122880; omega) | 1, _ => (show (e.2.1 e.1).natAbs ≤ 122880; omega))) rfl ?_
                              refine WO.quo rfl rfl hg0 hqi rfl ?_
                              refine WO.p rfl rfl (WO.ar rfl rfl rfl (by (first | exact hsi)) rfl (WO.p rfl rfl ?_))
                              refine WO.nil ?_
                              first | (have hnj := hnjh) | (have hje : j ≠ e.1 := (by first | omega | (intro q; exact hK.ne _ _ hke (by rw [← q]; exact Decidable.not_not.1 (by assumption)))); have hnj : w2 = if j + 1 ≤ e.1 then wh else stW wh (e.2.1 e.1) := (by rw [hw2]; by_cases q : j ≤ e.1; (rw [if_pos q, if_pos (by omega)]); (rw [if_neg q, if_neg (by omega)])))
                              refine W.region ?_
                              refine WO.ar rfl rfl rfl (by (first | (unfold in64; omega) | (unfold in64; omega))) rfl (WO.p rfl rfl ?_)
                              refine WO.nil ?_
                              refine' ⟨j + 1, _, ?hp, ?hmu, ⟨rfl, rfl, rfl, rfl, rfl, rfl, rfl, rfl, rfl, rfl, trivial⟩, ?hS⟩
                              case hS => repeat (first | exact Sub.nil | refine Sub.cons (by repeat (first | exact Pick.head | apply Pick.tail)) ?_)
                              case hp => exact ⟨by omega, hnj⟩
                              case hmu => omega)
                         first
                         | (exfalso; omega)
                         | (refine W.skip ?_
                            first | (have hnj := hnjh) | (have hje : j ≠ e.1 := (by first | omega | (intro q; exact hK.ne _ _ hke (by rw [← q]; exact Decidable.not_not.1 (by assumption)))); have hnj : w2 = if j + 1 ≤ e.1 then wh else stW wh (e.2.1 e.1) := (by rw [hw2]; by_cases q : j ≤ e.1; (rw [if_pos q, if_pos (by omega)]); (rw [if_neg q, if_neg (by omega)])))
                            refine W.region ?_
                            refine WO.ar rfl rfl rfl (by (first | (unfold in64; omega) | (unfold in64; omega))) rfl (WO.p rfl rfl ?_)
                            refine WO.nil ?_
                            refine' ⟨j + 1, _, ?hp, ?hmu, ⟨rfl, rfl, rfl, rfl, rfl, rfl, rfl, rfl, rfl, rfl, trivial⟩, ?hS⟩
                            case hS => repeat (first | exact Sub.nil | refine Sub.cons (by repeat (first | exact Pick.head | apply Pick.tail)) ?_)
                            case hp => exact ⟨by omega, hnj⟩
                            case hmu => omega))
                    first
                    | (exfalso; omega)
                    | (refine WO.no rfl rfl (WO.no rfl rfl (WO.no rfl rfl (WO.no rfl rfl (WO.p rfl rfl ?_))))
                       refine WO.nil ?_
                       refine W.cond_f rfl ?_
                       refine W.skip ?_
                       first | (have hnj := hnjh) | (have hje : j ≠ e.1 := (by first | omega | (intro q; exact hK.ne _ _ hke (by rw [← q]; exact Decidable.not_not.1 (by assumption)))); have hnj : w2 = if j + 1 ≤ e.1 then wh else stW wh (e.2.1 e.1) := (by rw [hw2]; by_cases q : j ≤ e.1; (rw [if_pos q, if_pos (by omega)]); (rw [if_neg q, if_neg (by omega)])))
                       refine W.region ?_
                       refine WO.ar rfl rfl rfl (by (first | (unfold in64; omega) | (unfold in64; omega))) rfl (WO.p rfl rfl ?_)
                       refine WO.nil ?_
                       refine' ⟨j + 1, _, ?hp, ?hmu, ⟨rfl, rfl, rfl, rfl, rfl, rfl, rfl, rfl, rfl, rfl, trivial⟩, ?hS⟩
                       case hS => repeat (first | exact Sub.nil | refine Sub.cons (by repeat (first | exact Pick.head | apply Pick.tail)) ?_)
                       case hp => exact ⟨by omega, hnj⟩
                       case hmu => omega))
               first
               | (exfalso; omega)
               | (refine W.exit (blk_same ?_)
                  refine' ⟨seen.push e.2.2, _, ?hp, ?hmu, ⟨rfl, rfl, rfl, rfl, rfl, rfl, rfl, trivial⟩, ?hS⟩
                  case hS => repeat (first | exact Sub.nil | refine Sub.cons (by repeat (first | exact Pick.head | apply Pick.tail)) ?_)
                  case hp => (rw [hw2, if_neg (by omega)]; exact hwh.step hK hke fun q hq => Sn.push hreg hox hq)
                  case hmu => exact lft_less hreg hox))
          first
          | (exfalso; omega)
          | (refine W.exit (blk_same ?_)
             have hl0 := lft_none hox (by assumption)
             have hall : ∀ p l, f p = some l → l p ∣ wh := fun p l hp => hwh.all p l hp (Sn.all hl0 p)
             have hwB := dvd_in hK.d0 hK.dB hwh.dv
             refine W.chg (MapP.shutE hreg hlk (by repeat (first | exact Pick.head | apply Pick.tail))) ?_
             refine W.sreg ?_
             refine WO.load rfl rfl (Cell.own (Pick.tail (Pick.tail (Pick.head))) rfl) rfl (WO.p rfl rfl (WO.field0 rfl rfl rfl (WO.load rfl rfl (Cell.own (Pick.tail (Pick.tail (Pick.tail (Pick.head)))) rfl) rfl ?_)))
             refine WO.makeI (n := n) rfl rfl rfl rfl (by omega) (by omega) rfl (fun zb => ?_)
             rw [rep_ls]
             refine WO.p rfl rfl ?_
             refine WO.nil ?_
             refine W.sreg ?_
             refine WO.p rfl rfl (WO.p rfl rfl (WO.p rfl rfl ?_))
             refine' WO.indexAddr (n := _) (i := _) rfl rfl rfl ?hs ?h1 rfl ?_
             case hs => (first | exact isSl_lit (n := n) (by omega) (fun _ => ⟨_, _, rfl⟩))
             case h1 => (first | omega | (simp; omega))
             refine WO.storeE (n := wh) (i := i) encI_ok rfl rfl rfl rfl (by repeat (first | exact Pick.head | apply Pick.tail)) (by rw [lsF_len]; omega) ?_
             rw [lsF_set]
             refine WO.nil ?_
             refine W.seq ?_
             refine W.chgE (MapP.openE (by repeat (first | exact Pick.head | apply Pick.tail))) ?_
             rintro ⟨ks2, clk2⟩ ⟨hreg2, hlk2⟩
             dsimp only at hreg2 hlk2 ⊢
             refine W.sreg ?_
             refine WO.load rfl rfl (Cell.own (Pick.tail (Pick.tail (Pick.tail (Pick.head)))) rfl) rfl (WO.p rfl rfl (WO.fieldL rfl rfl rfl (WO.load rfl rfl (Cell.own (Pick.tail (Pick.tail (Pick.tail (Pick.tail (Pick.head))))) rfl) rfl ?_)))
             refine WO.rangeM (clk := clk2) rfl (by repeat (first | exact Pick.head | apply Pick.tail)) rfl (fun r2 => ?_)
             refine WO.nil ?_
             refine W.block ?_
             refine W.loop2 (fun (seen2 : Array Nat) (z : (Nat → Int)) => ZP f (Sn ks2 seen2) i wh z)
               (fun (seen2 : Array Nat) (z : (Nat → Int)) => [(0, .func (.yield l) #[] #[]), (1, .pointer (some ⟨bx, 0, none⟩)), (3, .int .i64 (i : Int)), (6, .int .i64 wh), (11, .slice (some ⟨zb, 0, none⟩) n n), (17, .int .i64 (n : Int)), (18, .int .i64 (i : Int)), (77, .pointer (some ⟨r2, 0, none⟩))])
               (fun (seen2 : Array Nat) (z : (Nat → Int)) => [pt bx (.cells #[.pointer (some ⟨bt, 0, none⟩)] 64 (0, 0)), pt bt (.cells #[.int .i64 (n : Int), .map (some m)] 80 (0, 0)), pt m (.map (ents ks2) clk2), pt r2 (itO m clk2 seen2), OwE encI 2 1 (.slice (some ⟨zb, 0, none⟩) n n) (lsF z n), sat (Hc (frees n f i).length)])
               (fun (seen2 : Array Nat) (z : (Nat → Int)) => (lft ks2 seen2).length) #[] (updV (fun _ => 0) i wh)
               (by exact ZP.start fun p l hp => Sn.none (clk := clk2) hlk2 hp) ⟨rfl, rfl, rfl, rfl, rfl, rfl, rfl, rfl, trivial⟩ (by repeat (first | exact Sub.nil | refine Sub.cons (by repeat (first | exact Pick.head | apply Pick.tail)) ?_)) ?_
             rintro seen2 z hzp
             refine W.sreg ?_
             refine WO.nextM (ks := ks2) rfl (by repeat (first | exact Pick.head | apply Pick.tail)) (by repeat (first | exact Pick.head | apply Pick.tail)) hreg2 rfl (fun o2 hox2 => ?_)
             refine WO.extractN rfl rfl ?_
             refine WO.nil ?_
             refine W.seq ?_
             refine W.cond_bl rfl (fun c4 => ?_) (fun c4 => ?_)
             · first
               | (exfalso; omega)
               | (refine W.skip ?_
                  refine W.block ?_
                  obtain ⟨e2, rfl⟩ := Option.isSome_iff_exists.1 (show o2.isSome = true by assumption)
                  have hke2 := key_of hreg2 hlk2 hox2
                  have hkn2 := hK.lt _ _ hke2
                  have hb2 := hK.bd _ _ hke2 i (by omega)
                  have hne2 := hK.ne _ _ hke2
                  have hq2 : -122880 ≤ wh.tdiv (e2.2.1 e2.1) ∧ wh.tdiv (e2.2.1 e2.1) ≤ 122880 := le_mul hne2 (by rw [Int.mul_tdiv_cancel' (hall _ _ hke2)]; exact hwB)
                  have hm2 := mul_bd (a := -(e2.2.1 i)) (A := 6144000) (by omega) hq2
                  refine W.sreg ?_
                  refine WO.entryM (e := e2) (ks := ks2) rfl (by repeat (first | exact Pick.head | apply Pick.tail)) (by repeat (first | exact Pick.head | apply Pick.tail)) hreg2 (lft_mem hox2).1 rfl ?_
                  refine WO.p rfl rfl (WO.p rfl rfl ?_)
                  refine WO.alloc rfl rfl rfl (fun b2 hb2 => ?_)
                  refine WO.p rfl rfl (WO.storeA rfl rfl rfl rfl Pick.head rfl rfl ?_)
                  refine WO.nil ?_
                  refine W.drawD 16 [.r 0 [], .r 1 [], .r 2 [], .r 3 [], .r 4 [], .r 5 [], .b 6 [], .r 7 [], .r 8 [], .r 9 [], .r 10 [], .r 11 [], .r 12 [], .b 13 [], .r 14 [], .r 15 []] [] (A0 := [_]) (H0 := [_, _, _, _, _, _]) (.cons (Pick.tail (Pick.tail (Pick.tail (Pick.tail (Pick.tail .head))))) (.cons .head (.cons .head (.cons .head (.cons .head (.cons .head (.cons .head .nil))))))) (by kernel_rfl) ?_ ?_
                  · exact (ALok.r (ALok.r (ALok.r (ALok.r (ALok.r (ALok.r (ALok.b (ALok.r (ALok.r (ALok.r (ALok.r (ALok.r (ALok.r (ALok.b (ALok.r (ALok.r ALok.nil))))))))))))))))
                  refine' DT.r rfl rfl rfl ?hq ?_
                  case hq =>
                    refine WO.p rfl rfl ?_
                    exact WO.nil ⟨rfl, rfl⟩
                  refine' DT.r rfl rfl rfl ?hq ?_
                  case hq =>
                    refine WO.p rfl rfl ?_
                    exact WO.nil ⟨rfl, rfl⟩
                  refine' DT.r rfl rfl rfl ?hq ?_
                  case hq =>
                    refine WO.p rfl rfl ?_
                    exact WO.nil ⟨rfl, rfl⟩
                  refine' DT.r rfl rfl rfl ?hq ?_
                  case hq =>
                    refine WO.field0 rfl rfl rfl ?_
                    exact WO.nil ⟨rfl, rfl⟩
                  refine' DT.r rfl rfl rfl ?hq ?_
                  case hq =>
                    refine WO.field0 rfl rfl rfl ?_
                    exact WO.nil ⟨rfl, rfl⟩
                  refine' DT.r rfl rfl rfl ?hq ?_
                  case hq =>
                    refine WO.indexArrE (i := i) (o' := i) rfl rfl rfl rfl (by omega) (by omega) rfl ?_
                    exact WO.nil ⟨rfl, rfl⟩
                  refine' DT.b rfl rfl rfl ?hq ?_
                  case hq =>
                    refine' WO.load (v := _) rfl rfl ?hc rfl ?_
                    case hc => (first | (refine Cell.own (cs := m15 e2.2.1) (by repeat (first | exact Pick.head | apply Pick.tail)) ?_; exact m15_get (k := i) (by omega)))
                    exact WO.nil ⟨rfl, rfl⟩
                  refine' DT.r rfl rfl rfl ?hq ?_
                  case hq =>
                    refine WO.neg rfl (by (first | (unfold in64; omega) | (unfold in64; omega))) rfl ?_
                    exact WO.nil ⟨rfl, rfl⟩
                  refine' DT.r rfl rfl rfl ?hq ?_
                  case hq =>
                    refine WO.p rfl rfl ?_
                    exact WO.nil ⟨rfl, rfl⟩
                  refine' DT.r rfl rfl rfl ?hq ?_
                  case hq =>
                    refine WO.p rfl rfl ?_
                    exact WO.nil ⟨rfl, rfl⟩
                  refine' DT.r rfl rfl rfl ?hq ?_
                  case hq =>
                    refine WO.field0 rfl rfl rfl ?_
                    exact WO.nil ⟨rfl, rfl⟩
                  refine' DT.r rfl rfl rfl ?hq ?_
                  case hq =>
                    refine WO.field0 rfl rfl rfl ?_
                    exact WO.nil ⟨rfl, rfl⟩
                  refine' DT.r rfl rfl rfl ?hq ?_
                  case hq =>
                    refine WO.indexArrE (i := e2.1) (o' := e2.1) rfl rfl rfl rfl (by omega) (by omega) rfl ?_
                    exact WO.nil ⟨rfl, rfl⟩
                  refine' DT.b rfl rfl rfl ?hq ?_
                  case hq =>
                    refine' WO.load (v := _) rfl rfl ?hc rfl ?_
                    case hc => (first | (refine Cell.own (cs := m15 e2.2.1) (by repeat (first | exact Pick.head | apply Pick.tail)) ?_; exact m15_get (k := e2.1) (by omega)))
                    exact WO.nil ⟨rfl, rfl⟩
                  refine' DT.r rfl rfl rfl ?hq ?_
                  case hq =>
                    refine WO.quo rfl rfl hne2 (by unfold in64; omega) rfl ?_
                    exact WO.nil ⟨rfl, rfl⟩
                  refine' DT.r rfl rfl rfl ?hq ?_
                  case hq =>
                    refine WO.ar rfl rfl rfl (by (first | (unfold in64; omega) | (unfold in64; omega))) rfl ?_
                    exact WO.nil ⟨rfl, rfl⟩
                  refine DT.nil [_, _, _, _, _, _, _] rfl ?_
                  refine' WO.indexAddr (n := _) (i := _) rfl rfl rfl ?hs ?h1 rfl ?_
                  case hs => (first | exact isSl_lit (n := n) (by omega) (fun _ => ⟨_, _, rfl⟩))
                  case h1 => (first | omega | (simp; omega))
                  refine WO.storeE (n := -(e2.2.1 i) * wh.tdiv (e2.2.1 e2.1)) (i := e2.1) encI_ok rfl rfl rfl rfl (by repeat (first | exact Pick.head | apply Pick.tail)) (by rw [lsF_len]; omega) ?_
                  rw [lsF_set]
                  refine WO.nil ?_
                  refine' ⟨seen2.push e2.2.2, _, ?hp, ?hmu, ⟨rfl, rfl, rfl, rfl, rfl, rfl, rfl, rfl, trivial⟩, ?hS⟩
                  case hS => repeat (first | exact Sub.nil | refine Sub.cons (by repeat (first | exact Pick.head | apply Pick.tail)) ?_)
                  case hp => exact hzp.step hfi hke2 fun q hq => Sn.push hreg2 hox2 hq
                  case hmu => exact lft_less hreg2 hox2)
             first
             | (exfalso; omega)
             | (refine W.exit (blk_same ?_)
                have hl2 := lft_none hox2 (by assumption)
                have hTw : TwZ n f i z := ⟨by omega, hfi, by rw [hzp.at_]; exact hwh.ne, by rw [hzp.at_]; exact hwB, fun p l hp => by rw [hzp.at_]; exact hall p l hp, fun p l hp => by rw [hzp.key p l hp (Sn.all hl2 p), hzp.at_], hzp.z0⟩
                have hget := (List.getElem?_eq_some_iff.1 (frees_get (n := n) (f := f) (i := i) (by omega) hfi)).1
                refine W.chg (MapP.shutE hreg2 hlk2 (by repeat (first | exact Pick.head | apply Pick.tail))) ?_
                refine W.chg (TwG.of hTw (by repeat (first | exact Pick.head | apply Pick.tail))) ?_
                refine W.sreg ?_
                refine WO.p rfl rfl (WO.p rfl rfl ?_)
                refine WO.yieldB (go := bl ((frees n f i).length < last)) rfl rfl (by repeat (first | exact Pick.head | apply Pick.tail)) (by repeat (first | exact Pick.head | apply Pick.tail)) (((hy _ _ _ (frees_get (by omega) hfi) (by omega)).one).agree hk) rfl ?_
                refine WO.p rfl rfl ?_
                refine WO.nil ?_
                refine W.cond_nbl rfl (fun c5 => ?_) (fun c5 => ?_)
                · first
                  | (exfalso; omega)
                  | (refine W.ret ?_
                     refine fin.ret (Res.none rfl) ?_
                     rw [show min (frees n f n).length (last + 1) = (frees n f i).length + 1 by omega]
                     repeat (first | exact Sub.nil | refine Sub.cons (by repeat (first | exact Pick.head | apply Pick.tail)) ?_))
                first
                | (exfalso; omega)
                | (refine W.skip ?_
                   first | (have hfs : frees n f (i + 1) = frees n f i := frees_some (by assumption); rw [← hfs]; have hnx : (frees n f (i + 1)).length ≤ last := (by rw [hfs]; exact hil)) | (have hfs : (frees n f (i + 1)).length = (frees n f i).length + 1 := (by rw [frees_none hfi]; simp); rw [← hfs]; have hnx : (frees n f (i + 1)).length ≤ last := (by omega))
                   refine W.region ?_
                   refine WO.ar rfl rfl rfl (by (first | (unfold in64; omega) | (unfold in64; omega))) rfl (WO.p rfl rfl ?_)
                   refine WO.nil ?_
                   refine' ⟨i + 1, ?hp, ?hmu, ⟨rfl, rfl, rfl, rfl, trivial⟩, ?hS⟩
                   case hS => repeat (first | exact Sub.nil | refine Sub.cons (by repeat (first | exact Pick.head | apply Pick.tail)) ?_)
                   case hp => exact ⟨by omega, hnx⟩
                   case hmu => omega)))))
  first
  | (exfalso; omega)
  | (refine W.exit (blk_same ?_)
     obtain rfl : n = i := by omega
     refine fin.normal (Res.none rfl) ?_
     rw [show min (frees n f n).length (last + 1) = (frees n f n).length by omega]
     repeat (first | exact Sub.nil | refine Sub.cons (by repeat (first | exact Pick.head | apply Pick.tail)) ?_))
end Go.Proofs.Ytelmclmklkiphaa
namespace Go.Proofs.Ytelmclmklkiphaa
open Go Go.TH
attribute [local irreducible] W WO pt
set_option maxRecDepth 10000
set_option maxHeartbeats 1000000
/-- the first free place that serves -/
def hitT (n : Nat) (rows : List (List Int)) (r : List Int) : Nat := (frees n (mkF n rows) n).findIdx fun a => decide (askZ n rows r a ≠ 0)
section
variable {n : Nat} {rows : List (List Int)} {r : List Int}
theorem hitT_ne {k a : Nat} (h : (frees n (mkF n rows) n)[k]? = some a) (hk : k ≤ hitT n rows r) (ha : ¬ askZ n rows r a ≠ 0) : k < hitT n rows r := by
  obtain ⟨h1, h2⟩ := List.getElem?_eq_some_iff.1 h
  refine Nat.lt_of_le_of_ne hk fun e => ?_
  have := List.findIdx_getElem (xs := frees n (mkF n rows) n) (p := fun a => decide (askZ n rows r a ≠ 0)) (w := by show hitT n rows r < _; omega)
  rw [decide_eq_true_eq] at this
  refine ha ?_
  rw [← h2]
  have e2 : (frees n (mkF n rows) n)[k] = (frees n (mkF n rows) n)[hitT n rows r]'(by omega) := by congr 1
  rw [e2]; exact this
theorem hitT_eq {k a : Nat} (h : (frees n (mkF n rows) n)[k]? = some a) (hk : k ≤ hitT n rows r) (ha : askZ n rows r a ≠ 0) : k = hitT n rows r := by
  obtain ⟨h1, h2⟩ := List.getElem?_eq_some_iff.1 h
  refine Nat.le_antisymm hk (Nat.le_of_not_lt fun g => ?_)
  have := List.not_of_lt_findIdx (xs := frees n (mkF n rows) n) (p := fun a => decide (askZ n rows r a ≠ 0)) g
  rw [h2] at this
  simp at this
  exact ha this
theorem hitT_no (hok : OkB n rows) (hr : (r.length : Int) = n) (hw : WiB 4 r) (h : (frees n (mkF n rows) n).length ≤ hitT n rows r) : CanA n rows r := by
  refine (can_free hok hr hw).2 fun k hk => Decidable.byContradiction fun g => ?_
  have : hitT n rows r < (frees n (mkF n rows) n).length := List.findIdx_lt_length_of_exists ⟨k, hk, by simpa using g⟩
  omega
theorem hitT_yes (hok : OkB n rows) (hr : (r.length : Int) = n) (hw : WiB 4 r) (h : hitT n rows r < (frees n (mkF n rows) n).length) : ¬ CanA n rows r := fun g => by
  have h1 := (can_free hok hr hw).1 g
  have := List.findIdx_getElem (xs := frees n (mkF n rows) n) (p := fun a => decide (askZ n rows r a ≠ 0)) (w := h)
  rw [decide_eq_true_eq] at this
  exact this (h1 _ (List.getElem_mem _))
theorem hitT_ask (h : hitT n rows r < (frees n (mkF n rows) n).length) : askZ n rows r ((frees n (mkF n rows) n).getD (hitT n rows r) 0) ≠ 0 := by
  have := List.findIdx_getElem (xs := frees n (mkF n rows) n) (p := fun a => decide (askZ n rows r a ≠ 0)) (w := h)
  rw [decide_eq_true_eq] at this
  rw [List.getD_eq_getElem?_getD, List.getElem?_eq_getElem h]
  exact this
end
theorem TwG.openE {n a : Nat} {f : Nat → Option (Nat → Int)} {v : Value} {H H' : List HP} (p : Pick (TwG n f a v) H H') : ∀ h, sat H h → ∃ z, TwZ n f a z ∧ sat (OwE encI 2 1 v (lsF z n) :: H') h := fun h hs => by
  obtain ⟨h1, h2, s, ⟨z, hz, q⟩, hr⟩ := sat_perm p.perm hs
  exact ⟨z, hz, h1, h2, s, q, hr⟩
/-- the results, while nothing is found, or with a twin -/
def TwR (b3 b4 n : Nat) (f : Nat → Option (Nat → Int)) : Option Nat → HP
  | none => sat [pt b3 (.cells #[.slice none 0 0] 25 (0, 0)), pt b4 (.cells #[.int .i64 0] 30 (0, 0))]
  | some a => fun h => ∃ v z, TwZ n f a z ∧ sat [pt b3 (.cells #[v] 25 (0, 0)), pt b4 (.cells #[.int .i64 0] 30 (0, 0)), OwE encI 2 1 v (lsF z n)] h
section
variable {b3 b4 n : Nat} {f : Nat → Option (Nat → Int)}
theorem twR_none {H H' : List HP} (p : Pick (pt b3 (.cells #[.slice none 0 0] 25 (0, 0))) H H') {H2 : List HP} (q : Pick (pt b4 (.cells #[.int .i64 0] 30 (0, 0))) H' H2) : ∀ h, sat H h → sat (TwR b3 b4 n f none :: H2) h := fun h hs =>
  sat_one (Hs := [_, _]) h (Sub.sat (.cons p (.cons q (Sub.refl _))) hs)
theorem twR_open {H H' : List HP} (p : Pick (TwR b3 b4 n f none) H H') : ∀ h, sat H h → sat (pt b3 (.cells #[.slice none 0 0] 25 (0, 0)) :: pt b4 (.cells #[.int .i64 0] 30 (0, 0)) :: H') h := fun h hs =>
  sat_many (Hs := [_, _]) h (p.sat hs)
theorem twR_some {a : Nat} {H H' : List HP} (p : Pick (TwR b3 b4 n f (some a)) H H') : ∀ h, sat H h → ∃ x : Value × (Nat → Int), TwZ n f a x.2 ∧ sat (pt b3 (.cells #[x.1] 25 (0, 0)) :: pt b4 (.cells #[.int .i64 0] 30 (0, 0)) :: OwE encI 2 1 x.1 (lsF x.2 n) :: H') h := fun h hs => by
  obtain ⟨h1, h2, s, ⟨v, z, hz, hp⟩, hr⟩ := p.sat hs
  exact ⟨(v, z), hz, sat_join (H1 := [_, _, _]) s hp hr⟩
theorem twR_pack {a : Nat} {v : Value} {z : Nat → Int} (hz : TwZ n f a z) {H Hr : List HP} (s : Sub H (pt b3 (.cells #[v] 25 (0, 0)) :: pt b4 (.cells #[.int .i64 0] 30 (0, 0)) :: OwE encI 2 1 v (lsF z n) :: Hr)) : ∀ h, sat H h → sat (TwR b3 b4 n f (some a) :: Hr) h := fun h hs => by
  obtain ⟨h1, h2, s2, hp, hr⟩ := sat_app (H1 := [_, _, _]) (s.sat hs)
  exact ⟨h1, h2, s2, ⟨v, z, hz, hp⟩, hr⟩
end
theorem c_Twin (w : World) (n : Int) (v u : Value) (rv : List Value) (rows : List (List Int)) (r : List Int) (hB : RdR encI 1 w.heap.size w v rv rows) (hR : RdF encI 1 w.heap.size w u r) :
    Ct Try.prog 14 [bookV n v, u].toArray w fun a w' => ∃ Hq, (∃ x : Value × List Int, (a = .tuple #[x.1, .int .i64 (twiE n rows r)] ∧ (twiE n rows r ≠ 0 → x.2 = []) ∧ (twiE n rows r = 0 → ctwE n rows r x.2 = 0)) ∧ Hq = [OwE encI 2 1 x.1 x.2]) ∧ TH.Inv w [] Hq w' := by
  refine Ct.ofI (X := Value × List Int) (p := fun x a => a = .tuple #[x.1, .int .i64 (twiE n rows r)] ∧ (twiE n rows r ≠ 0 → x.2 = []) ∧ (twiE n rows r = 0 → ctwE n rows r x.2 = 0)) (Hx := fun x => [OwE encI 2 1 x.1 x.2]) mixed tyTab Try.func14 rfl rfl ?_
  replace hB : RdR encI 1 (fnCx mixed tyTab Try.f14.ntmps w).B (fnCx mixed tyTab Try.f14.ntmps w).w0 v rv rows := hB
  replace hR : RdF encI 1 (fnCx mixed tyTab Try.f14.ntmps w).B (fnCx mixed tyTab Try.f14.ntmps w).w0 u r := hR
  have hoc := hB.sl.oc
  have hle := hB.sl.le
  have hou := hR.sl.oc
  refine W.sreg ?_
  refine WO.boxA rfl rfl (fun b1 hb1 => ?_)
  refine WO.box1 rfl (by first | rfl | assumption) rfl (fun b2 hb2 => ?_)
  refine WO.alloc rfl rfl rfl (fun b3 hb3 => ?_)
  refine WO.alloc rfl rfl rfl (fun b4 hb4 => ?_)
  refine WO.nil ?_
  refine W.seq ?_
  refine W.sreg ?_
  refine WO.loadA rfl rfl (Cells.own (Pick.tail (Pick.tail (Pick.tail (Pick.head))))) rfl rfl (WO.load rfl rfl (Cell.own (Pick.tail (Pick.tail (Pick.head))) rfl) rfl ?_)
  refine WO.callR rfl Try.call28 (fun L w' hi => c_checkRow w' n v u rv rows r (hB.later hi) (hR.later hi)) rfl ?_
  refine WO.p rfl rfl ?_
  refine WO.nil ?_
  refine W.sreg ?_
  refine WO.p rfl rfl (WO.p rfl rfl ?_)
  refine WO.nil ?_
  refine W.cond_bl rfl (fun c1 => ?_) (fun c1 => ?_)
  · first
    | (exfalso; omega)
    | (have hpe : twiE n rows r = chkBR n rows r := twiE_1 (by omega)
       have htw : twiE n rows r ≠ 0 := by omega
       refine W.chg (owNil (enc := encI) (e := 2) (sz := 1)) ?_
       refine W.sreg ?_
       refine WO.p rfl rfl (WO.store1 rfl rfl rfl (by first | rfl | assumption) (Pick.tail (Pick.tail (Pick.head))) rfl (WO.store1 rfl rfl rfl (by first | rfl | assumption) (Pick.tail (Pick.tail (Pick.head))) rfl ?_))
       refine WO.nil ?_
       refine W.ret ?_
       refine fin.ret (Res.two rfl (RV.cell1 rfl rfl (Cell.own (by repeat (first | exact Pick.head | apply Pick.tail)) rfl)) (RV.cell1 rfl rfl (Cell.own (by repeat (first | exact Pick.head | apply Pick.tail)) rfl))) ?_
       exact ⟨(.slice none 0 0, []), ⟨by rw [hpe], fun _ => rfl, fun g => absurd g htw⟩, fun h hs => Sub.sat (by repeat (first | exact Sub.nil | refine Sub.cons (by repeat (first | exact Pick.head | apply Pick.tail)) ?_)) hs⟩)
  first
  | (exfalso; omega)
  | (refine W.skip ?_
     refine W.seq ?_
     obtain ⟨hok0, hrl, hrw⟩ := chkBR0.1 (show chkBR n rows r = 0 by omega)
     have h8 := hok0.1
     have hn5 := hok0.2.1
     obtain ⟨N, rfl⟩ : ∃ N : Nat, n = N := ⟨n.toNat, by omega⟩
     have hok : OkB N rows := hok0
     obtain ⟨D, hK⟩ := mk_key hok
     refine W.drawD 10 [.b 0 [], .r 1 [], .b 2 [], .r 3 [], .c 4 [], .c 5 [], .r 6 [], .r 7 [], .r 8 [], .r 9 []] [] (A0 := []) (Sub.refl _) (by kernel_rfl) ?_ ?_
     · exact (ALok.b (ALok.r (ALok.b (ALok.r (ALok.c (ALok.c (ALok.r (ALok.r (ALok.r (ALok.r ALok.nil))))))))))
     refine' DT.b rfl rfl rfl ?hq ?_
     case hq =>
       refine WO.loadA rfl rfl (Cells.own (Pick.tail (Pick.tail (Pick.tail (Pick.head))))) rfl rfl ?_
       exact WO.nil ⟨rfl, rfl⟩
     refine' DT.r rfl rfl rfl ?hq ?_
     case hq =>
       refine WO.fieldL rfl rfl rfl ?_
       exact WO.nil ⟨rfl, rfl⟩
     refine' DT.b rfl rfl rfl ?hq ?_
     case hq =>
       refine WO.load rfl rfl (Cell.own (Pick.tail (Pick.tail (Pick.tail (Pick.head)))) rfl) rfl ?_
       exact WO.nil ⟨rfl, rfl⟩
     refine' DT.r rfl rfl rfl ?hq ?_
     case hq =>
       refine' WO.len (n := _) rfl rfl ?hs rfl ?_
       case hs => (first | exact hB.sl)
       exact WO.nil ⟨rfl, rfl⟩
     refine DT.c [_, _, _, _] rfl rfl rfl rfl ?_
     refine WO.makeI (n := rows.length) rfl rfl rfl rfl (by omega) (by omega) rfl (fun zb => ?_)
     refine WO.nil ⟨_, [_], rfl, rfl, (Keep.r (Keep.b (Keep.r (Keep.b Keep.nil)))), ?_⟩
     refine DT.c [_, _, _, _, _] rfl rfl rfl rfl ?_
     refine WO.call rfl Try.call37 (fun L w' hi' => c_newTableN w' N v _ rv rows (hB.later hi') (RdF.of_ow (e := 2) encI_ok (by repeat (first | exact Pick.head | apply Pick.tail)) hi') hok) rfl ?_
     rintro _ _ ⟨t1, m, rfl, rfl⟩
     refine WO.nil ⟨_, [_, _, _], rfl, rfl, (Keep.c (Keep.r (Keep.b (Keep.r (Keep.b Keep.nil))))), ?_⟩
     refine' DT.r rfl rfl rfl ?hq ?_
     case hq =>
       refine WO.p rfl rfl ?_
       exact WO.nil ⟨rfl, rfl⟩
     refine' DT.r rfl rfl rfl ?hq ?_
     case hq =>
       refine WO.p rfl rfl ?_
       exact WO.nil ⟨rfl, rfl⟩
     refine' DT.r rfl rfl rfl ?hq ?_
     case hq =>
       refine WO.p rfl rfl ?_
       exact WO.nil ⟨rfl, rfl⟩
     refine' DT.r rfl rfl rfl ?hq ?_
     case hq =>
       refine WO.p rfl rfl ?_
       exact WO.nil ⟨rfl, rfl⟩
     refine DT.nil [_, _, _, _, _, _, _] rfl ?_
     refine WO.p rfl rfl ?_
     refine WO.nil ?_
     refine W.seq ?_
     refine W.sreg ?_
     refine WO.p rfl rfl ?_
     refine WO.call rfl Try.call41 (fun L w' hi' => c_twins w' t1) rfl ?_
     rintro _ _ ⟨bx, rfl, rfl⟩
     refine WO.nil ?_
     refine W.block ?_
     refine W.chg (twR_none (b3 := b3) (b4 := b4) (n := N) (f := mkF N rows) (by repeat (first | exact Pick.head | apply Pick.tail)) (by repeat (first | exact Pick.head | apply Pick.tail))) ?_
     refine W.rangeFuncB (Jmp.ret) [pt bx (.cells #[.pointer (some ⟨t1, 0, none⟩)] 64 (0, 0)), pt t1 (.cells #[.int .i64 (N : Int), .map (some m)] 80 (0, 0)), MapP m (mkF N rows)] (fun t => [TwR b3 b4 N (mkF N rows) (if t ≤ hitT N rows r then none else some ((frees N (mkF N rows) N).getD (hitT N rows r) 0)), pt b1 (.cells #[.int .i64 (N : Int), v] 24 (0, 0)), pt b2 (.cells #[u] 25 (0, 0))]) (frees N (mkF N rows) N) (TwG N (mkF N rows)) (hitT N rows r) rfl rfl rfl Try.call53 (by repeat (first | exact Sub.nil | refine Sub.cons (by repeat (first | exact Pick.head | apply Pick.tail)) ?_)) ?_ ?_ ?_ ?_
     · intro ll Hc hy w1 M1 hB1 hk1 hM1 hi1
       exact c_twins1 _ _ N (mkF N rows) D hK _ ll Hc hy bx t1 m w1 M1 hB1 hk1 hM1 hi1
     · intro ll w1 M1 hB1 hM1 hk1 t a v1 hx hle1
       refine W.chgE (TwG.openE .head) ?_
       rintro z hz
       have hR1 : RdF encI 1 (rdCx (fnCx mixed tyTab Try.f14.ntmps w) ll w1 M1 hB1 hM1).B (rdCx (fnCx mixed tyTab Try.f14.ntmps w) ll w1 M1 hB1 hM1).w0 u r := hR.agree hk1
       have hda := tw_dot hok hrl hrw hz
       rw [if_pos hle1]
       refine W.region ?_
       refine WO.p rfl rfl ?_
       refine WO.nil ?_
       refine W.block ?_
       refine W.sreg ?_
       refine WO.load rfl rfl (Cell.own (Pick.tail (Pick.tail (Pick.tail (Pick.head)))) rfl) rfl ?_
       refine WO.callR rfl Try.call32 (fun L w' hi' => c_newRow w' u r (hR1.later hi') (by omega) (by omega)) rfl ?_
       refine WO.p rfl rfl ?_
       refine WO.callR (r := .int .i64 (dotL r (lsF z N))) rfl Try.call33 (fun L w' hi' => c_sum w' (fnL r) _ (lsF z N) (RdF.of_ow (e := 2) encI_ok (by repeat (first | exact Pick.head | apply Pick.tail)) hi') (by rw [lsF_len]; omega) (fun i _ => fnL_in hrw i) (fun x hx => by unfold lsF at hx; obtain ⟨i, hi, rfl⟩ := List.mem_map.1 hx; rw [List.mem_range] at hi; exact hz.big hK i (by omega))) rfl ?_
       refine WO.p rfl rfl ?_
       refine WO.nil ?_
       refine W.cond_bl rfl (fun c2 => ?_) (fun c2 => ?_)
       · first
         | (exfalso; omega)
         | (refine W.fact (OwE.form (enc := encI) (e := 2) (sz := 1) (v := v1) (xs := lsF z N) (by repeat (first | exact Pick.head | apply Pick.tail))) (fun hvf => ?_)
            obtain ⟨va, vc, rfl⟩ := hvf
            refine W.chg (twR_open (b3 := b3) (b4 := b4) (by repeat (first | exact Pick.head | apply Pick.tail))) ?_
            refine W.sreg ?_
            refine WO.p rfl rfl (WO.store1 rfl rfl rfl (by first | rfl | assumption) Pick.head rfl (WO.store1 rfl rfl rfl (by first | rfl | assumption) (Pick.tail (Pick.head)) rfl ?_))
            refine WO.nil ?_
            refine W.ret ?_
            have htt := hitT_eq hx hle1 (hda.1 (by rw [← dotL_ls]; assumption))
            refine endR.stop (bl_f.2 (by omega)) rfl ?_
            rw [if_neg (show ¬ t + 1 ≤ hitT N rows r by omega), ← htt, show (frees N (mkF N rows) N).getD t 0 = a by rw [List.getD_eq_getElem?_getD, hx]; rfl]
            exact twR_pack (v := .slice va (lsF z N).length vc) hz (by repeat (first | exact Sub.nil | refine Sub.cons (by repeat (first | exact Pick.head | apply Pick.tail)) ?_)))
       first
       | (exfalso; omega)
       | (refine W.skip ?_
          have hlt := hitT_ne hx hle1 (fun q => absurd (hda.2 q) (by rw [← dotL_ls]; assumption))
          refine endR.go (bl_t.2 hlt) ?_
          rw [if_pos (show t + 1 ≤ hitT N rows r from hlt)]
          exact fun h hs => Sub.sat (by repeat (first | exact Sub.nil | refine Sub.cons (by repeat (first | exact Pick.head | apply Pick.tail)) ?_)) hs)
     · intro hAll
       rw [if_pos hAll]
       have hca : CanA N rows r := hitT_no hok hrl hrw hAll
       have hpe : twiE N rows r = 21 := twiE_21 (by omega) (by rw [Int.toNat_natCast]; exact hca)
       have htw : twiE N rows r ≠ 0 := by omega
       refine W.chg (twR_open (b3 := b3) (b4 := b4) (by repeat (first | exact Pick.head | apply Pick.tail))) ?_
       refine W.chg (owNil (enc := encI) (e := 2) (sz := 1)) ?_
       refine W.sreg ?_
       refine WO.store1 rfl rfl rfl (by first | rfl | assumption) (Pick.tail (Pick.head)) rfl (WO.store1 rfl rfl rfl (by first | rfl | assumption) (Pick.tail (Pick.tail (Pick.head))) rfl ?_)
       refine WO.nil ?_
       refine W.ret ?_
       refine fin.ret (Res.two rfl (RV.cell1 rfl rfl (Cell.own (by repeat (first | exact Pick.head | apply Pick.tail)) rfl)) (RV.cell1 rfl rfl (Cell.own (by repeat (first | exact Pick.head | apply Pick.tail)) rfl))) ?_
       exact ⟨(.slice none 0 0, []), ⟨by rw [hpe], fun _ => rfl, fun g => absurd g htw⟩, fun h hs => Sub.sat (by repeat (first | exact Sub.nil | refine Sub.cons (by repeat (first | exact Pick.head | apply Pick.tail)) ?_)) hs⟩
     intro hStop
     rw [if_neg (show ¬ hitT N rows r + 1 ≤ hitT N rows r by omega)]
     have hnc : ¬ CanA N rows r := hitT_yes hok hrl hrw hStop
     have hpe : twiE N rows r = 0 := twiE_0 (by omega) (by rw [Int.toNat_natCast]; exact hnc)
     have hxx : (frees N (mkF N rows) N)[hitT N rows r]? = some ((frees N (mkF N rows) N).getD (hitT N rows r) 0) := getD_some hStop 0
     refine W.chgE (twR_some (b3 := b3) (b4 := b4) (a := (frees N (mkF N rows) N).getD (hitT N rows r) 0) (by repeat (first | exact Pick.head | apply Pick.tail))) ?_
     rintro ⟨zv, z⟩ hz
     dsimp only at hz ⊢
     refine W.ret ?_
     refine fin.ret (Res.two rfl (RV.cell1 rfl rfl (Cell.own (by repeat (first | exact Pick.head | apply Pick.tail)) rfl)) (RV.cell1 rfl rfl (Cell.own (by repeat (first | exact Pick.head | apply Pick.tail)) rfl))) ?_
     refine ⟨(zv, lsF z N), ⟨by rw [hpe], fun g => absurd hpe g, fun _ => tw_right (n := (N : Int)) (a := (frees N (mkF N rows) N).getD (hitT N rows r) 0) (by omega) (by rw [Int.toNat_natCast]; exact hz) (by rw [Int.toNat_natCast]; exact hitT_ask hStop)⟩, fun h hs => Sub.sat (by repeat (first | exact Sub.nil | refine Sub.cons (by repeat (first | exact Pick.head | apply Pick.tail)) ?_)) hs⟩)
end Go.Proofs.Ytelmclmklkiphaa
