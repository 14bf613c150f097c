/-
  What is proved here: the program's tests of hulls. Conditions: none; each contract states its own.
-/
import Derived.Test.YtgihklgpehfbpaaB14
namespace Go.Proofs.Ytgihklgpehfbpaa
open Go Go.TH
attribute [local irreducible] W WO pt
set_option maxRecDepth 10000
set_option maxHeartbeats 1000000
theorem btw_one (w : World) (lo hi x : Int) (C : Cx Try.prog) {L H : List HP} {b : Nat} (hi' : Inv C.w0 C.M (L ++ OwC 2 1 (.slice (some ⟨b, 0, none⟩) 1 1) 1 [.int .i64 x] :: H) w) : Ret Try.prog 46 [.int .i64 lo, .int .i64 hi, .slice (some ⟨b, 0, none⟩) 1 1].toArray w (.bool (bl (lo ≤ x ∧ x ≤ hi))) := by
  rw [← btw1]
  exact c_between w lo hi _ [x] (RdF.of_ow (C := C) (enc := encI) (e := 2) encI_ok (H := OwE encI 2 1 (.slice (some ⟨b, 0, none⟩) 1 1) [x] :: H) .head hi') (by simp)
theorem btw_two (w : World) (lo hi x y : Int) (C : Cx Try.prog) {L H : List HP} {b : Nat} (hi' : Inv C.w0 C.M (L ++ OwC 2 1 (.slice (some ⟨b, 0, none⟩) 2 2) 2 [.int .i64 x, .int .i64 y] :: H) w) : Ret Try.prog 46 [.int .i64 lo, .int .i64 hi, .slice (some ⟨b, 0, none⟩) 2 2].toArray w (.bool (bl (lo ≤ x ∧ x ≤ hi ∧ lo ≤ y ∧ y ≤ hi))) := by
  rw [← btw2]
  exact c_between w lo hi _ [x, y] (RdF.of_ow (C := C) (enc := encI) (e := 2) encI_ok (H := OwE encI 2 1 (.slice (some ⟨b, 0, none⟩) 2 2) [x, y] :: H) .head hi') (by simp)
theorem all_succ_iff {α : Type} {p : α → Prop} {l : List α} {i : Nat} (h : i < l.length) (z : α) : (∀ x ∈ l.take (i + 1), p x) ↔ (∀ x ∈ l.take i, p x) ∧ p (l.getD i z) := by
  rw [take_succ_getD h z]
  constructor
  · intro h1; exact ⟨fun x hx => h1 x (by simp [hx]), h1 _ (by simp)⟩
  · rintro ⟨h1, h2⟩ x hx
    rcases List.mem_append.1 hx with hx | hx
    · exact h1 x hx
    · rw [List.mem_singleton.1 hx]; exact h2
section
variable {G : Prop} {g g' q : Bool} {l : List (Int × Int)} {k : Nat} {m m' : Int}
theorem okStep (h : k < l.length) (hg' : g' = true ↔ G ∧ ∀ x ∈ l.take k, okR x = true) (hq : q = true ↔ g' = true ∧ okR (l.getD k (0, 0)) = true) : q = true ↔ G ∧ ∀ x ∈ l.take (k + 1), okR x = true := by
  rw [all_succ_iff h (0, 0), hq, hg', and_assoc]
theorem q1 {X : Prop} (h : g' = false) : false = true ↔ g' = true ∧ X := by simp [h]
theorem q2 {r : Int × Int} (h : ¬ (0 ≤ r.1 ∧ r.1 ≤ 500 ∧ 0 ≤ r.2 ∧ r.2 ≤ 500)) : false = true ↔ g' = true ∧ okR r = true := by
  simp only [okR, decide_eq_true_eq, Bool.false_eq_true, false_iff]
  rintro ⟨_, h2⟩
  omega
theorem q3 {r : Int × Int} (hg : g' = true) (h : 0 ≤ r.1 ∧ r.1 ≤ 500 ∧ 0 ≤ r.2 ∧ r.2 ≤ 500) : bl (0 ≤ r.2 - r.1 ∧ r.2 - r.1 ≤ 20) = true ↔ g' = true ∧ okR r = true := by
  simp only [okR, decide_eq_true_eq, bl_t, hg, true_and]
  omega
theorem posStep {Q : Prop} (h : k < l.length) (h0 : 0 ≤ m') (hm : 0 < m' ↔ Q ∨ ∃ x ∈ l.take k, posR x = true) : 0 < max m' (l.getD k (0, 0)).1 ↔ Q ∨ ∃ x ∈ l.take (k + 1), posR x = true := by
  rw [ex_succ h (0, 0), ← or_assoc, ← hm]
  simp only [posR, decide_eq_true_eq]
  omega
theorem rowStep {G : Prop} {rows : List (List (Int × Int))} {i : Nat} {j : Nat} (h : i < rows.length) (hj : (rows.getD i []).length ≤ j) (hg : g = true ↔ G ∧ ∀ r ∈ rows.take i, ∀ x ∈ r, okR x = true) (hg' : g' = true ↔ g = true ∧ ∀ x ∈ (rows.getD i []).take j, okR x = true) : g' = true ↔ G ∧ ∀ r ∈ rows.take (i + 1), ∀ x ∈ r, okR x = true := by
  rw [all_succ_iff h [], hg', hg, List.take_of_length_le hj, and_assoc]
theorem rowStepM {rows : List (List (Int × Int))} {i : Nat} {j : Nat} (h : i < rows.length) (hj : (rows.getD i []).length ≤ j) (hm : 0 < m ↔ ∃ r ∈ rows.take i, ∃ x ∈ r, posR x = true) (hm' : 0 < m' ↔ 0 < m ∨ ∃ x ∈ (rows.getD i []).take j, posR x = true) : 0 < m' ↔ ∃ r ∈ rows.take (i + 1), ∃ x ∈ r, posR x = true := by
  rw [ex_succ h [], hm', hm, List.take_of_length_le hj]
end
section
variable {sp st m : Int} {rows : List (List (Int × Int))} {g : Bool} {i : Nat}
theorem lenI {n : Nat} (h : ∀ r ∈ rows, (r.length : Int) = n) : ∀ r ∈ rows, r.length = n := fun r hr => by have := h r hr; omega
theorem fin2 (h : ¬ (rows.length < 2 ∨ 10 < rows.length ∨ (rows.getD 0 []).length < 2 ∨ 6 < (rows.getD 0 []).length)) (h1 : ∀ r ∈ rows, r.length = (rows.getD 0 []).length) (hi : rows.length ≤ i)
    (hg : g = true ↔ (1 ≤ sp ∧ sp ≤ 1000 ∧ 1 ≤ st ∧ st ≤ 100) ∧ ∀ r ∈ rows.take i, ∀ x ∈ r, okR x = true) (h0 : 0 ≤ m) (hm : 0 < m ↔ ∃ r ∈ rows.take i, ∃ x ∈ r, posR x = true) (hc : (!g) = true ∨ m = 0) : 2 = chkHull sp st rows := by
  rw [List.take_of_length_le hi] at hg hm
  rw [chkHull, if_neg h, if_neg (fun x => x h1)]
  split
  · rfl
  split
  · rfl
  split
  · rfl
  rename_i a b c
  exfalso
  rcases hc with hc | hc
  · have : g = true := hg.2 ⟨by omega, Decidable.not_not.1 b⟩
    simp [this] at hc
  · have := hm.2 (Decidable.not_not.1 c); omega
theorem fin0 (h : ¬ (rows.length < 2 ∨ 10 < rows.length ∨ (rows.getD 0 []).length < 2 ∨ 6 < (rows.getD 0 []).length)) (h1 : ∀ r ∈ rows, r.length = (rows.getD 0 []).length) (hi : rows.length ≤ i)
    (hg : g = true ↔ (1 ≤ sp ∧ sp ≤ 1000 ∧ 1 ≤ st ∧ st ≤ 100) ∧ ∀ r ∈ rows.take i, ∀ x ∈ r, okR x = true) (h0 : 0 ≤ m) (hm : 0 < m ↔ ∃ r ∈ rows.take i, ∃ x ∈ r, posR x = true) (hc : (!g) = false) (hc' : ¬ m = 0) : 0 = chkHull sp st rows := by
  rw [List.take_of_length_le hi] at hg hm
  have hg' := hg.1 (by simpa using hc)
  exact ck0 h h1 (by omega) hg'.2 (hm.1 (by omega))
end
theorem c_CheckHull (w : World) (sp st : Int) (o : Value) (rv : List Value) (rows : List (List (Int × Int))) (hR : RdR encP 2 w.heap.size w o rv rows) :
    Ret Try.prog 18 [.agg #[.int .i64 sp, .int .i64 st, o]].toArray w (.int .i64 (chkHull sp st rows)) := by
  refine Ret.of mixed tyTab Try.func18 rfl rfl ?_
  replace hR : RdR encP 2 (fnCx mixed tyTab Try.f18.ntmps w).B (fnCx mixed tyTab Try.f18.ntmps w).w0 o rv rows := hR
  have hle := hR.sl.le
  refine W.sreg ?_
  refine WO.boxA rfl rfl (fun b1 hb1 => ?_)
  refine WO.p rfl rfl ?_
  refine WO.nil ?_
  refine W.seq ?_
  refine W.sreg ?_
  refine WO.fieldL rfl rfl rfl (WO.load rfl rfl (Cell.own Pick.head rfl) rfl ?_)
  refine' WO.len (n := _) rfl rfl ?hs rfl ?_
  case hs => (first | exact hR.sl | (refine (hR.row _ ?_).sl; omega))
  refine WO.p rfl rfl (WO.p rfl rfl ?_)
  refine WO.guard_bl rfl rfl (fun c1 => ?_) (fun c1 => ?_)
  · first
    | (exfalso; omega)
    | (refine WO.no rfl rfl (WO.no rfl rfl (WO.no rfl rfl (WO.no rfl rfl (WO.p rfl rfl ?_))))
       refine WO.nil ?_
       refine W.cond_t rfl ?_
       refine W.sreg ?_
       refine WO.p rfl rfl ?_
       refine WO.nil ?_
       refine W.ret ?_
       refine fin.ret (Res.one rfl (RV.tmp rfl)) ?_
       refine congrArg (Value.int .i64) ?_
       first | exact ck6 (by omega) | exact ck15 (by omega) (fun h => absurd (fun r hr => by have := h r hr; omega) (by assumption)) | exact fin2 (by omega) (lenI (Classical.not_not.1 (by assumption))) (by omega) hg hm0 hm (.inl (by assumption)) | exact fin2 (by omega) (lenI (Classical.not_not.1 (by assumption))) (by omega) hg hm0 hm (.inr (by assumption)) | exact fin0 (by omega) (lenI (Classical.not_not.1 (by assumption))) (by omega) hg hm0 hm (by assumption) (by assumption))
  · first
    | (exfalso; omega)
    | (refine WO.go' rfl (WO.fieldL rfl rfl rfl (WO.go' rfl (WO.load rfl rfl (Cell.own Pick.head rfl) rfl (WO.go' rfl ?_))))
       refine' WO.len (n := _) rfl rfl ?hs rfl ?_
       case hs => (first | exact hR.sl | (refine (hR.row _ ?_).sl; omega))
       refine WO.pg rfl rfl rfl (WO.p rfl rfl ?_)
       refine WO.nil ?_
       refine W.cond_bl rfl (fun c2 => ?_) (fun c2 => ?_)
       · first
         | (exfalso; omega)
         | (refine W.sreg ?_
            refine WO.p rfl rfl ?_
            refine WO.nil ?_
            refine W.ret ?_
            refine fin.ret (Res.one rfl (RV.tmp rfl)) ?_
            refine congrArg (Value.int .i64) ?_
            first | exact ck6 (by omega) | exact ck15 (by omega) (fun h => absurd (fun r hr => by have := h r hr; omega) (by assumption)) | exact fin2 (by omega) (lenI (Classical.not_not.1 (by assumption))) (by omega) hg hm0 hm (.inl (by assumption)) | exact fin2 (by omega) (lenI (Classical.not_not.1 (by assumption))) (by omega) hg hm0 hm (.inr (by assumption)) | exact fin0 (by omega) (lenI (Classical.not_not.1 (by assumption))) (by omega) hg hm0 hm (by assumption) (by assumption))
       · first
         | (exfalso; omega)
         | (refine W.skip ?_
            refine W.sreg ?_
            refine WO.fieldL rfl rfl rfl (WO.load rfl rfl (Cell.own Pick.head rfl) rfl ?_)
            refine' WO.indexAddr (n := _) (i := 0) rfl rfl rfl ?hs ?h1 rfl ?_
            case hs => (first | exact hR.sl | (refine (hR.row _ ?_).sl; omega))
            case h1 => (first | omega | (simp; omega))
            refine' WO.load (v := _) rfl rfl ?hc rfl ?_
            case hc => (first | (refine hR.cellV ?_; omega))
            refine' WO.len (n := _) rfl rfl ?hs rfl ?_
            case hs => (first | exact hR.sl | (refine (hR.row _ ?_).sl; omega))
            refine WO.alloc rfl rfl rfl (fun b2 hb2 => ?_)
            refine WO.store1 rfl rfl rfl (by first | rfl | assumption) Pick.head rfl ?_
            refine WO.nil ?_
            refine W.seq ?_
            refine W.sreg ?_
            refine WO.load rfl rfl (Cell.own Pick.head rfl) rfl (WO.p rfl rfl (WO.p rfl rfl ?_))
            refine WO.guard_bl rfl rfl (fun c3 => ?_) (fun c3 => ?_)
            · first
              | (exfalso; omega)
              | (refine WO.no rfl rfl (WO.no rfl rfl (WO.p rfl rfl ?_))
                 refine WO.nil ?_
                 refine W.cond_t rfl ?_
                 refine W.sreg ?_
                 refine WO.p rfl rfl ?_
                 refine WO.nil ?_
                 refine W.ret ?_
                 refine fin.ret (Res.one rfl (RV.tmp rfl)) ?_
                 refine congrArg (Value.int .i64) ?_
                 first | exact ck6 (by omega) | exact ck15 (by omega) (fun h => absurd (fun r hr => by have := h r hr; omega) (by assumption)) | exact fin2 (by omega) (lenI (Classical.not_not.1 (by assumption))) (by omega) hg hm0 hm (.inl (by assumption)) | exact fin2 (by omega) (lenI (Classical.not_not.1 (by assumption))) (by omega) hg hm0 hm (.inr (by assumption)) | exact fin0 (by omega) (lenI (Classical.not_not.1 (by assumption))) (by omega) hg hm0 hm (by assumption) (by assumption))
            · first
              | (exfalso; omega)
              | (refine WO.go' rfl (WO.load rfl rfl (Cell.own Pick.head rfl) rfl (WO.pg rfl rfl rfl (WO.p rfl rfl ?_)))
                 refine WO.nil ?_
                 refine W.cond_bl rfl (fun c4 => ?_) (fun c4 => ?_)
                 · first
                   | (exfalso; omega)
                   | (refine W.sreg ?_
                      refine WO.p rfl rfl ?_
                      refine WO.nil ?_
                      refine W.ret ?_
                      refine fin.ret (Res.one rfl (RV.tmp rfl)) ?_
                      refine congrArg (Value.int .i64) ?_
                      first | exact ck6 (by omega) | exact ck15 (by omega) (fun h => absurd (fun r hr => by have := h r hr; omega) (by assumption)) | exact fin2 (by omega) (lenI (Classical.not_not.1 (by assumption))) (by omega) hg hm0 hm (.inl (by assumption)) | exact fin2 (by omega) (lenI (Classical.not_not.1 (by assumption))) (by omega) hg hm0 hm (.inr (by assumption)) | exact fin0 (by omega) (lenI (Classical.not_not.1 (by assumption))) (by omega) hg hm0 hm (by assumption) (by assumption))
                 · first
                   | (exfalso; omega)
                   | (refine W.skip ?_
                      refine W.seq ?_
                      refine W.sreg ?_
                      refine WO.fieldL rfl rfl rfl (WO.load rfl rfl (Cell.own (Pick.tail (Pick.head)) rfl) rfl (WO.p rfl rfl ?_))
                      refine WO.callR rfl Try.call44 (fun L w hi => c_ContainsFunc w o rv rows _ ((rows.getD 0 []).length : Int) (hR.later hi) (Cap.of .head rfl hi)) rfl ?_
                      refine WO.nil ?_
                      refine W.cond_bl rfl (fun c5 => ?_) (fun c5 => ?_)
                      · first
                        | (exfalso; omega)
                        | (refine W.sreg ?_
                           refine WO.p rfl rfl ?_
                           refine WO.nil ?_
                           refine W.ret ?_
                           refine fin.ret (Res.one rfl (RV.tmp rfl)) ?_
                           refine congrArg (Value.int .i64) ?_
                           first | exact ck6 (by omega) | exact ck15 (by omega) (fun h => absurd (fun r hr => by have := h r hr; omega) (by assumption)) | exact fin2 (by omega) (lenI (Classical.not_not.1 (by assumption))) (by omega) hg hm0 hm (.inl (by assumption)) | exact fin2 (by omega) (lenI (Classical.not_not.1 (by assumption))) (by omega) hg hm0 hm (.inr (by assumption)) | exact fin0 (by omega) (lenI (Classical.not_not.1 (by assumption))) (by omega) hg hm0 hm (by assumption) (by assumption))
                      · first
                        | (exfalso; omega)
                        | (refine W.skip ?_
                           refine W.sreg ?_
                           refine WO.field0 rfl rfl rfl (WO.load rfl rfl (Cell.own (Pick.tail (Pick.head)) rfl) rfl ?_)
                           refine' WO.buildSl (cs := _) rfl rfl rfl rfl ?hf rfl rfl ?hl rfl (fun v3 => ?_)
                           case hf => (conv => lhs; simp [-List.getD_eq_getElem?_getD, fillL, vcl, wrl, TTab.pl?.lget']) <;> rfl
                           case hl => rfl
                           refine WO.callR rfl Try.call46 (fun L w hi => btw_one w _ _ sp _ hi) rfl ?_
                           refine WO.p rfl rfl ?_
                           refine WO.guard_bl rfl rfl (fun c6 => ?_) (fun c6 => ?_)
                           · first
                             | (exfalso; omega)
                             | (refine WO.go' rfl (WO.fieldL rfl rfl rfl (WO.go' rfl (WO.load rfl rfl (Cell.own (Pick.tail (Pick.tail (Pick.head))) rfl) rfl (WO.go' rfl ?_))))
                                refine' WO.buildSl (cs := _) rfl rfl rfl rfl ?hf rfl rfl ?hl rfl (fun v4 => ?_)
                                case hf => (conv => lhs; simp [-List.getD_eq_getElem?_getD, fillL, vcl, wrl, TTab.pl?.lget']) <;> rfl
                                case hl => rfl
                                refine WO.go' rfl ?_
                                refine WO.callR rfl Try.call46 (fun L w hi => btw_one w _ _ st _ hi) rfl ?_
                                refine WO.p rfl rfl (WO.p rfl rfl ?_)
                                refine WO.nil ?_
                                refine W.sreg ?_
                                refine WO.p rfl rfl ?_
                                refine WO.nil ?_
                                refine W.seq ?_
                                refine W.sreg ?_
                                refine WO.fieldL rfl rfl rfl (WO.load rfl rfl (Cell.own (Pick.tail (Pick.tail (Pick.tail (Pick.head)))) rfl) rfl ?_)
                                refine' WO.len (n := _) rfl rfl ?hs rfl ?_
                                case hs => (first | exact hR.sl | (refine (hR.row _ ?_).sl; omega))
                                refine WO.p rfl rfl ?_
                                refine WO.nil ?_
                                refine W.block ?_
                                refine W.loop3 (fun (i : Nat) (g : Bool) (m : Int) => i ≤ rows.length ∧ (g = true ↔ (1 ≤ sp ∧ sp ≤ 1000 ∧ 1 ≤ st ∧ st ≤ 100) ∧ ∀ r ∈ rows.take i, ∀ x ∈ r, okR x = true) ∧ 0 ≤ m ∧ (0 < m ↔ ∃ r ∈ rows.take i, ∃ x ∈ r, posR x = true))
                                  (fun (i : Nat) (g : Bool) (m : Int) => [(48, .int .i64 (i : Int)), (47, .int .i64 (rows.length : Int)), (46, o), (4, .bool g), (5, .int .i64 m)])
                                  (fun (i : Nat) (g : Bool) (m : Int) => [])
                                  (fun (i : Nat) (g : Bool) (m : Int) => rows.length - i) 0 _ 0
                                  (by exact ⟨by omega, by simp [bl_t]; omega, by omega, by simp⟩) ⟨rfl, rfl, rfl, rfl, rfl, trivial⟩ (by repeat (first | exact Sub.nil | refine Sub.cons (by repeat (first | exact Pick.head | apply Pick.tail)) ?_)) ?_
                                rintro i g m ⟨hi, hg, hm0, hm⟩
                                refine W.sreg ?_
                                refine WO.p rfl rfl ?_
                                refine WO.nil ?_
                                refine W.seq ?_
                                refine W.cond_bl rfl (fun c7 => ?_) (fun c7 => ?_)
                                · first
                                  | (exfalso; omega)
                                  | (refine W.skip ?_
                                     refine W.seq ?_
                                     refine W.block ?_
                                     refine W.sreg ?_
                                     refine' WO.indexAddr (n := _) (i := _) rfl rfl rfl ?hs ?h1 rfl ?_
                                     case hs => (first | exact hR.sl | (refine (hR.row _ ?_).sl; omega))
                                     case h1 => (first | omega | (simp; omega))
                                     refine' WO.load (v := _) rfl rfl ?hc rfl ?_
                                     case hc => (first | (refine hR.cellV ?_; omega))
                                     refine WO.p rfl rfl ?_
                                     refine WO.nil ?_
                                     refine W.sreg ?_
                                     refine WO.p rfl rfl ?_
                                     refine' WO.len (n := _) rfl rfl ?hs rfl ?_
                                     case hs => (first | exact hR.sl | (refine (hR.row _ ?_).sl; omega))
                                     refine WO.p rfl rfl ?_
                                     refine WO.nil ?_
                                     refine W.block ?_
                                     refine W.loop3 (fun (k : Nat) (g' : Bool) (m' : Int) => k ≤ (rows.getD i []).length ∧ (g' = true ↔ g = true ∧ ∀ x ∈ (rows.getD i []).take k, okR x = true) ∧ 0 ≤ m' ∧ (0 < m' ↔ 0 < m ∨ ∃ x ∈ (rows.getD i []).take k, posR x = true))
                                       (fun (k : Nat) (g' : Bool) (m' : Int) => [(48, .int .i64 (i : Int)), (47, .int .i64 (rows.length : Int)), (46, o), (54, .int .i64 (k : Int)), (53, .int .i64 ((rows.getD i []).length : Int)), (52, rv.getD i undef), (4, .bool g'), (5, .int .i64 m')])
                                       (fun (k : Nat) (g' : Bool) (m' : Int) => [])
                                       (fun (k : Nat) (g' : Bool) (m' : Int) => (rows.getD i []).length - k) 0 g m
                                       (by exact ⟨by omega, by simp, by omega, by simp⟩) ⟨rfl, rfl, rfl, rfl, rfl, rfl, rfl, rfl, trivial⟩ (by repeat (first | exact Sub.nil | refine Sub.cons (by repeat (first | exact Pick.head | apply Pick.tail)) ?_)) ?_
                                     rintro k g' m' ⟨hk, hg', hm0', hm'⟩
                                     have hlk := (hR.row i (by omega)).sl.le
                                     refine W.sreg ?_
                                     refine WO.p rfl rfl ?_
                                     refine WO.nil ?_
                                     refine W.seq ?_
                                     refine W.cond_bl rfl (fun c8 => ?_) (fun c8 => ?_)
                                     · first
                                       | (exfalso; omega)
                                       | (refine W.skip ?_
                                          refine W.seq ?_
                                          refine W.block ?_
                                          refine W.sreg ?_
                                          refine' WO.indexAddr (n := _) (i := _) rfl rfl rfl ?hs ?h1 rfl ?_
                                          case hs => (first | exact hR.sl | (refine (hR.row _ ?_).sl; omega))
                                          case h1 => (first | omega | (simp; omega))
                                          refine' WO.loadA (vs := _) rfl rfl ?hc ?hl rfl ?_
                                          case hc => (first | (refine (hR.row _ ?_).cells ?_ (0, 0) <;> omega))
                                          case hl => rfl
                                          refine WO.alloc rfl rfl rfl (fun b5 hb5 => ?_)
                                          refine WO.storeA rfl rfl rfl rfl Pick.head rfl rfl ?_
                                          refine WO.nil ?_
                                          refine W.sreg ?_
                                          refine WO.p rfl rfl (WO.p rfl rfl ?_)
                                          refine WO.guard_b rfl rfl (fun c9 => ?_) (fun c9 => ?_)
                                          · first
                                            | (exfalso; omega)
                                            | (refine WO.go' rfl (WO.field0 rfl rfl rfl (WO.go' rfl (WO.load rfl rfl (Cell.own Pick.head rfl) rfl (WO.go' rfl (WO.fieldL rfl rfl rfl (WO.go' rfl (WO.load rfl rfl (Cell.own Pick.head rfl) rfl (WO.go' rfl ?_))))))))
                                               refine' WO.buildSl (cs := _) rfl rfl rfl rfl ?hf rfl rfl ?hl rfl (fun v6 => ?_)
                                               case hf => (conv => lhs; simp [-List.getD_eq_getElem?_getD, fillL, vcl, wrl, TTab.pl?.lget']) <;> rfl
                                               case hl => rfl
                                               refine WO.go' rfl ?_
                                               refine WO.callR rfl Try.call46 (fun L w hi => btw_two w _ _ _ _ _ hi) rfl ?_
                                               refine WO.p rfl rfl (WO.p rfl rfl ?_)
                                               refine WO.guard_bl rfl rfl (fun c10 => ?_) (fun c10 => ?_)
                                               · first
                                                 | (exfalso; omega)
                                                 | (refine WO.go' rfl (WO.fieldL rfl rfl rfl (WO.go' rfl (WO.load rfl rfl (Cell.own (Pick.tail (Pick.head)) rfl) rfl (WO.go' rfl (WO.field0 rfl rfl rfl (WO.go' rfl (WO.load rfl rfl (Cell.own (Pick.tail (Pick.head)) rfl) rfl (WO.go' rfl (WO.ar rfl rfl rfl (by (first | (unfold in64; omega))) rfl (WO.go' rfl ?_))))))))))
                                                    refine' WO.buildSl (cs := _) rfl rfl rfl rfl ?hf rfl rfl ?hl rfl (fun v7 => ?_)
                                                    case hf => (conv => lhs; simp [-List.getD_eq_getElem?_getD, fillL, vcl, wrl, TTab.pl?.lget']) <;> rfl
                                                    case hl => rfl
                                                    refine WO.go' rfl ?_
                                                    refine WO.callR rfl Try.call46 (fun L w hi => btw_one w _ _ _ _ hi) rfl ?_
                                                    refine WO.p rfl rfl (WO.p rfl rfl ?_)
                                                    refine WO.nil ?_
                                                    refine W.region ?_
                                                    refine WO.p rfl rfl (WO.field0 rfl rfl rfl (WO.load rfl rfl (Cell.own (Pick.tail (Pick.tail (Pick.head))) rfl) rfl ?_))
                                                    refine WO.max2 rfl rfl rfl ?_
                                                    refine WO.p rfl rfl ?_
                                                    refine WO.nil ?_
                                                    refine W.region ?_
                                                    refine WO.ar rfl rfl rfl (by (first | (unfold in64; omega))) rfl (WO.p rfl rfl ?_)
                                                    refine WO.nil ?_
                                                    refine' ⟨k + 1, _, _, ?hp, ?hmu, ⟨rfl, rfl, rfl, rfl, rfl, rfl, rfl, rfl, trivial⟩, ?hS⟩
                                                    case hS => repeat (first | exact Sub.nil | refine Sub.cons (by repeat (first | exact Pick.head | apply Pick.tail)) ?_)
                                                    case hp => exact ⟨by omega, okStep (by omega) hg' (by first | exact q1 (by assumption) | exact q2 (by assumption) | exact q3 (by assumption) (by assumption)), by omega, posStep (by omega) hm0' hm'⟩
                                                    case hmu => omega)
                                               · first
                                                 | (exfalso; omega)
                                                 | (refine WO.no rfl rfl (WO.no rfl rfl (WO.no rfl rfl (WO.no rfl rfl (WO.no rfl rfl (WO.no rfl rfl (WO.no rfl rfl (WO.p rfl rfl (WO.p rfl rfl ?_))))))))
                                                    refine WO.nil ?_
                                                    refine W.region ?_
                                                    refine WO.p rfl rfl (WO.field0 rfl rfl rfl (WO.load rfl rfl (Cell.own (Pick.tail (Pick.head)) rfl) rfl ?_))
                                                    refine WO.max2 rfl rfl rfl ?_
                                                    refine WO.p rfl rfl ?_
                                                    refine WO.nil ?_
                                                    refine W.region ?_
                                                    refine WO.ar rfl rfl rfl (by (first | (unfold in64; omega))) rfl (WO.p rfl rfl ?_)
                                                    refine WO.nil ?_
                                                    refine' ⟨k + 1, _, _, ?hp, ?hmu, ⟨rfl, rfl, rfl, rfl, rfl, rfl, rfl, rfl, trivial⟩, ?hS⟩
                                                    case hS => repeat (first | exact Sub.nil | refine Sub.cons (by repeat (first | exact Pick.head | apply Pick.tail)) ?_)
                                                    case hp => exact ⟨by omega, okStep (by omega) hg' (by first | exact q1 (by assumption) | exact q2 (by assumption) | exact q3 (by assumption) (by assumption)), by omega, posStep (by omega) hm0' hm'⟩
                                                    case hmu => omega))
                                          · first
                                            | (exfalso; omega)
                                            | (refine WO.no rfl rfl (WO.no rfl rfl (WO.no rfl rfl (WO.no rfl rfl (WO.no rfl rfl (WO.no rfl rfl (WO.p rfl rfl (WO.p rfl rfl (WO.no rfl rfl (WO.no rfl rfl (WO.no rfl rfl (WO.no rfl rfl ?_)))))))))))
                                               refine WO.no rfl rfl (WO.no rfl rfl (WO.no rfl rfl (WO.p rfl rfl (WO.p rfl rfl ?_))))
                                               refine WO.nil ?_
                                               refine W.region ?_
                                               refine WO.p rfl rfl (WO.field0 rfl rfl rfl (WO.load rfl rfl (Cell.own Pick.head rfl) rfl ?_))
                                               refine WO.max2 rfl rfl rfl ?_
                                               refine WO.p rfl rfl ?_
                                               refine WO.nil ?_
                                               refine W.region ?_
                                               refine WO.ar rfl rfl rfl (by (first | (unfold in64; omega))) rfl (WO.p rfl rfl ?_)
                                               refine WO.nil ?_
                                               refine' ⟨k + 1, _, _, ?hp, ?hmu, ⟨rfl, rfl, rfl, rfl, rfl, rfl, rfl, rfl, trivial⟩, ?hS⟩
                                               case hS => repeat (first | exact Sub.nil | refine Sub.cons (by repeat (first | exact Pick.head | apply Pick.tail)) ?_)
                                               case hp => exact ⟨by omega, okStep (by omega) hg' (by first | exact q1 (by assumption) | exact q2 (by assumption) | exact q3 (by assumption) (by assumption)), by omega, posStep (by omega) hm0' hm'⟩
                                               case hmu => omega))
                                     · first
                                       | (exfalso; omega)
                                       | (refine W.exit (blk_same ?_)
                                          refine W.region ?_
                                          refine WO.ar rfl rfl rfl (by (first | (unfold in64; omega))) rfl (WO.p rfl rfl ?_)
                                          refine WO.nil ?_
                                          refine' ⟨i + 1, _, _, ?hp, ?hmu, ⟨rfl, rfl, rfl, rfl, rfl, trivial⟩, ?hS⟩
                                          case hS => repeat (first | exact Sub.nil | refine Sub.cons (by repeat (first | exact Pick.head | apply Pick.tail)) ?_)
                                          case hp => exact ⟨by omega, rowStep (by omega) (by omega) hg hg', by omega, rowStepM (by omega) (by omega) hm hm'⟩
                                          case hmu => omega))
                                · first
                                  | (exfalso; omega)
                                  | (refine W.exit (blk_same ?_)
                                     refine W.seq ?_
                                     refine W.sreg ?_
                                     refine WO.p rfl rfl (WO.p rfl rfl (WO.p rfl rfl ?_))
                                     refine WO.guard_b rfl rfl (fun c11 => ?_) (fun c11 => ?_)
                                     · first
                                       | (exfalso; omega)
                                       | (refine WO.no rfl rfl (WO.no rfl rfl (WO.p rfl rfl ?_))
                                          refine WO.nil ?_
                                          refine W.cond_t rfl ?_
                                          refine W.sreg ?_
                                          refine WO.p rfl rfl ?_
                                          refine WO.nil ?_
                                          refine W.ret ?_
                                          refine fin.ret (Res.one rfl (RV.tmp rfl)) ?_
                                          refine congrArg (Value.int .i64) ?_
                                          first | exact ck6 (by omega) | exact ck15 (by omega) (fun h => absurd (fun r hr => by have := h r hr; omega) (by assumption)) | exact fin2 (by omega) (lenI (Classical.not_not.1 (by assumption))) (by omega) hg hm0 hm (.inl (by assumption)) | exact fin2 (by omega) (lenI (Classical.not_not.1 (by assumption))) (by omega) hg hm0 hm (.inr (by assumption)) | exact fin0 (by omega) (lenI (Classical.not_not.1 (by assumption))) (by omega) hg hm0 hm (by assumption) (by assumption))
                                     · first
                                       | (exfalso; omega)
                                       | (refine WO.pg rfl rfl rfl (WO.pg rfl rfl rfl (WO.p rfl rfl ?_))
                                          refine WO.nil ?_
                                          refine W.cond_bl rfl (fun c12 => ?_) (fun c12 => ?_)
                                          · first
                                            | (exfalso; omega)
                                            | (refine W.sreg ?_
                                               refine WO.p rfl rfl ?_
                                               refine WO.nil ?_
                                               refine W.ret ?_
                                               refine fin.ret (Res.one rfl (RV.tmp rfl)) ?_
                                               refine congrArg (Value.int .i64) ?_
                                               first | exact ck6 (by omega) | exact ck15 (by omega) (fun h => absurd (fun r hr => by have := h r hr; omega) (by assumption)) | exact fin2 (by omega) (lenI (Classical.not_not.1 (by assumption))) (by omega) hg hm0 hm (.inl (by assumption)) | exact fin2 (by omega) (lenI (Classical.not_not.1 (by assumption))) (by omega) hg hm0 hm (.inr (by assumption)) | exact fin0 (by omega) (lenI (Classical.not_not.1 (by assumption))) (by omega) hg hm0 hm (by assumption) (by assumption))
                                          · first
                                            | (exfalso; omega)
                                            | (refine W.skip ?_
                                               refine W.sreg ?_
                                               refine WO.p rfl rfl ?_
                                               refine WO.nil ?_
                                               refine W.ret ?_
                                               refine fin.ret (Res.one rfl (RV.tmp rfl)) ?_
                                               refine congrArg (Value.int .i64) ?_
                                               first | exact ck6 (by omega) | exact ck15 (by omega) (fun h => absurd (fun r hr => by have := h r hr; omega) (by assumption)) | exact fin2 (by omega) (lenI (Classical.not_not.1 (by assumption))) (by omega) hg hm0 hm (.inl (by assumption)) | exact fin2 (by omega) (lenI (Classical.not_not.1 (by assumption))) (by omega) hg hm0 hm (.inr (by assumption)) | exact fin0 (by omega) (lenI (Classical.not_not.1 (by assumption))) (by omega) hg hm0 hm (by assumption) (by assumption)))))
                           · first
                             | (exfalso; omega)
                             | (refine WO.no rfl rfl (WO.no rfl rfl (WO.no rfl rfl (WO.no rfl rfl (WO.p rfl rfl (WO.p rfl rfl ?_)))))
                                refine WO.nil ?_
                                refine W.sreg ?_
                                refine WO.p rfl rfl ?_
                                refine WO.nil ?_
                                refine W.seq ?_
                                refine W.sreg ?_
                                refine WO.fieldL rfl rfl rfl (WO.load rfl rfl (Cell.own (Pick.tail (Pick.tail (Pick.head))) rfl) rfl ?_)
                                refine' WO.len (n := _) rfl rfl ?hs rfl ?_
                                case hs => (first | exact hR.sl | (refine (hR.row _ ?_).sl; omega))
                                refine WO.p rfl rfl ?_
                                refine WO.nil ?_
                                refine W.block ?_
                                refine W.loop3 (fun (i : Nat) (g : Bool) (m : Int) => i ≤ rows.length ∧ (g = true ↔ (1 ≤ sp ∧ sp ≤ 1000 ∧ 1 ≤ st ∧ st ≤ 100) ∧ ∀ r ∈ rows.take i, ∀ x ∈ r, okR x = true) ∧ 0 ≤ m ∧ (0 < m ↔ ∃ r ∈ rows.take i, ∃ x ∈ r, posR x = true))
                                  (fun (i : Nat) (g : Bool) (m : Int) => [(48, .int .i64 (i : Int)), (47, .int .i64 (rows.length : Int)), (46, o), (4, .bool g), (5, .int .i64 m)])
                                  (fun (i : Nat) (g : Bool) (m : Int) => [])
                                  (fun (i : Nat) (g : Bool) (m : Int) => rows.length - i) 0 _ 0
                                  (by exact ⟨by omega, by simp [bl_t]; omega, by omega, by simp⟩) ⟨rfl, rfl, rfl, rfl, rfl, trivial⟩ (by repeat (first | exact Sub.nil | refine Sub.cons (by repeat (first | exact Pick.head | apply Pick.tail)) ?_)) ?_
                                rintro i g m ⟨hi, hg, hm0, hm⟩
                                refine W.sreg ?_
                                refine WO.p rfl rfl ?_
                                refine WO.nil ?_
                                refine W.seq ?_
                                refine W.cond_bl rfl (fun c13 => ?_) (fun c13 => ?_)
                                · first
                                  | (exfalso; omega)
                                  | (refine W.skip ?_
                                     refine W.seq ?_
                                     refine W.block ?_
                                     refine W.sreg ?_
                                     refine' WO.indexAddr (n := _) (i := _) rfl rfl rfl ?hs ?h1 rfl ?_
                                     case hs => (first | exact hR.sl | (refine (hR.row _ ?_).sl; omega))
                                     case h1 => (first | omega | (simp; omega))
                                     refine' WO.load (v := _) rfl rfl ?hc rfl ?_
                                     case hc => (first | (refine hR.cellV ?_; omega))
                                     refine WO.p rfl rfl ?_
                                     refine WO.nil ?_
                                     refine W.sreg ?_
                                     refine WO.p rfl rfl ?_
                                     refine' WO.len (n := _) rfl rfl ?hs rfl ?_
                                     case hs => (first | exact hR.sl | (refine (hR.row _ ?_).sl; omega))
                                     refine WO.p rfl rfl ?_
                                     refine WO.nil ?_
                                     refine W.block ?_
                                     refine W.loop3 (fun (k : Nat) (g' : Bool) (m' : Int) => k ≤ (rows.getD i []).length ∧ (g' = true ↔ g = true ∧ ∀ x ∈ (rows.getD i []).take k, okR x = true) ∧ 0 ≤ m' ∧ (0 < m' ↔ 0 < m ∨ ∃ x ∈ (rows.getD i []).take k, posR x = true))
                                       (fun (k : Nat) (g' : Bool) (m' : Int) => [(48, .int .i64 (i : Int)), (47, .int .i64 (rows.length : Int)), (46, o), (54, .int .i64 (k : Int)), (53, .int .i64 ((rows.getD i []).length : Int)), (52, rv.getD i undef), (4, .bool g'), (5, .int .i64 m')])
                                       (fun (k : Nat) (g' : Bool) (m' : Int) => [])
                                       (fun (k : Nat) (g' : Bool) (m' : Int) => (rows.getD i []).length - k) 0 g m
                                       (by exact ⟨by omega, by simp, by omega, by simp⟩) ⟨rfl, rfl, rfl, rfl, rfl, rfl, rfl, rfl, trivial⟩ (by repeat (first | exact Sub.nil | refine Sub.cons (by repeat (first | exact Pick.head | apply Pick.tail)) ?_)) ?_
                                     rintro k g' m' ⟨hk, hg', hm0', hm'⟩
                                     have hlk := (hR.row i (by omega)).sl.le
                                     refine W.sreg ?_
                                     refine WO.p rfl rfl ?_
                                     refine WO.nil ?_
                                     refine W.seq ?_
                                     refine W.cond_bl rfl (fun c14 => ?_) (fun c14 => ?_)
                                     · first
                                       | (exfalso; omega)
                                       | (refine W.skip ?_
                                          refine W.seq ?_
                                          refine W.block ?_
                                          refine W.sreg ?_
                                          refine' WO.indexAddr (n := _) (i := _) rfl rfl rfl ?hs ?h1 rfl ?_
                                          case hs => (first | exact hR.sl | (refine (hR.row _ ?_).sl; omega))
                                          case h1 => (first | omega | (simp; omega))
                                          refine' WO.loadA (vs := _) rfl rfl ?hc ?hl rfl ?_
                                          case hc => (first | (refine (hR.row _ ?_).cells ?_ (0, 0) <;> omega))
                                          case hl => rfl
                                          refine WO.alloc rfl rfl rfl (fun b8 hb8 => ?_)
                                          refine WO.storeA rfl rfl rfl rfl Pick.head rfl rfl ?_
                                          refine WO.nil ?_
                                          refine W.sreg ?_
                                          refine WO.p rfl rfl (WO.p rfl rfl ?_)
                                          refine WO.guard_b rfl rfl (fun c15 => ?_) (fun c15 => ?_)
                                          · first
                                            | (exfalso; omega)
                                            | (refine WO.go' rfl (WO.field0 rfl rfl rfl (WO.go' rfl (WO.load rfl rfl (Cell.own Pick.head rfl) rfl (WO.go' rfl (WO.fieldL rfl rfl rfl (WO.go' rfl (WO.load rfl rfl (Cell.own Pick.head rfl) rfl (WO.go' rfl ?_))))))))
                                               refine' WO.buildSl (cs := _) rfl rfl rfl rfl ?hf rfl rfl ?hl rfl (fun v9 => ?_)
                                               case hf => (conv => lhs; simp [-List.getD_eq_getElem?_getD, fillL, vcl, wrl, TTab.pl?.lget']) <;> rfl
                                               case hl => rfl
                                               refine WO.go' rfl ?_
                                               refine WO.callR rfl Try.call46 (fun L w hi => btw_two w _ _ _ _ _ hi) rfl ?_
                                               refine WO.p rfl rfl (WO.p rfl rfl ?_)
                                               refine WO.guard_bl rfl rfl (fun c16 => ?_) (fun c16 => ?_)
                                               · first
                                                 | (exfalso; omega)
                                                 | (refine WO.go' rfl (WO.fieldL rfl rfl rfl (WO.go' rfl (WO.load rfl rfl (Cell.own (Pick.tail (Pick.head)) rfl) rfl (WO.go' rfl (WO.field0 rfl rfl rfl (WO.go' rfl (WO.load rfl rfl (Cell.own (Pick.tail (Pick.head)) rfl) rfl (WO.go' rfl (WO.ar rfl rfl rfl (by (first | (unfold in64; omega))) rfl (WO.go' rfl ?_))))))))))
                                                    refine' WO.buildSl (cs := _) rfl rfl rfl rfl ?hf rfl rfl ?hl rfl (fun v10 => ?_)
                                                    case hf => (conv => lhs; simp [-List.getD_eq_getElem?_getD, fillL, vcl, wrl, TTab.pl?.lget']) <;> rfl
                                                    case hl => rfl
                                                    refine WO.go' rfl ?_
                                                    refine WO.callR rfl Try.call46 (fun L w hi => btw_one w _ _ _ _ hi) rfl ?_
                                                    refine WO.p rfl rfl (WO.p rfl rfl ?_)
                                                    refine WO.nil ?_
                                                    refine W.region ?_
                                                    refine WO.p rfl rfl (WO.field0 rfl rfl rfl (WO.load rfl rfl (Cell.own (Pick.tail (Pick.tail (Pick.head))) rfl) rfl ?_))
                                                    refine WO.max2 rfl rfl rfl ?_
                                                    refine WO.p rfl rfl ?_
                                                    refine WO.nil ?_
                                                    refine W.region ?_
                                                    refine WO.ar rfl rfl rfl (by (first | (unfold in64; omega))) rfl (WO.p rfl rfl ?_)
                                                    refine WO.nil ?_
                                                    refine' ⟨k + 1, _, _, ?hp, ?hmu, ⟨rfl, rfl, rfl, rfl, rfl, rfl, rfl, rfl, trivial⟩, ?hS⟩
                                                    case hS => repeat (first | exact Sub.nil | refine Sub.cons (by repeat (first | exact Pick.head | apply Pick.tail)) ?_)
                                                    case hp => exact ⟨by omega, okStep (by omega) hg' (by first | exact q1 (by assumption) | exact q2 (by assumption) | exact q3 (by assumption) (by assumption)), by omega, posStep (by omega) hm0' hm'⟩
                                                    case hmu => omega)
                                               · first
                                                 | (exfalso; omega)
                                                 | (refine WO.no rfl rfl (WO.no rfl rfl (WO.no rfl rfl (WO.no rfl rfl (WO.no rfl rfl (WO.no rfl rfl (WO.no rfl rfl (WO.p rfl rfl (WO.p rfl rfl ?_))))))))
                                                    refine WO.nil ?_
                                                    refine W.region ?_
                                                    refine WO.p rfl rfl (WO.field0 rfl rfl rfl (WO.load rfl rfl (Cell.own (Pick.tail (Pick.head)) rfl) rfl ?_))
                                                    refine WO.max2 rfl rfl rfl ?_
                                                    refine WO.p rfl rfl ?_
                                                    refine WO.nil ?_
                                                    refine W.region ?_
                                                    refine WO.ar rfl rfl rfl (by (first | (unfold in64; omega))) rfl (WO.p rfl rfl ?_)
                                                    refine WO.nil ?_
                                                    refine' ⟨k + 1, _, _, ?hp, ?hmu, ⟨rfl, rfl, rfl, rfl, rfl, rfl, rfl, rfl, trivial⟩, ?hS⟩
                                                    case hS => repeat (first | exact Sub.nil | refine Sub.cons (by repeat (first | exact Pick.head | apply Pick.tail)) ?_)
                                                    case hp => exact ⟨by omega, okStep (by omega) hg' (by first | exact q1 (by assumption) | exact q2 (by assumption) | exact q3 (by assumption) (by assumption)), by omega, posStep (by omega) hm0' hm'⟩
                                                    case hmu => omega))
                                          · first
                                            | (exfalso; omega)
                                            | (refine WO.no rfl rfl (WO.no rfl rfl (WO.no rfl rfl (WO.no rfl rfl (WO.no rfl rfl (WO.no rfl rfl (WO.p rfl rfl (WO.p rfl rfl (WO.no rfl rfl (WO.no rfl rfl (WO.no rfl rfl (WO.no rfl rfl ?_)))))))))))
                                               refine WO.no rfl rfl (WO.no rfl rfl (WO.no rfl rfl (WO.p rfl rfl (WO.p rfl rfl ?_))))
                                               refine WO.nil ?_
                                               refine W.region ?_
                                               refine WO.p rfl rfl (WO.field0 rfl rfl rfl (WO.load rfl rfl (Cell.own Pick.head rfl) rfl ?_))
                                               refine WO.max2 rfl rfl rfl ?_
                                               refine WO.p rfl rfl ?_
                                               refine WO.nil ?_
                                               refine W.region ?_
                                               refine WO.ar rfl rfl rfl (by (first | (unfold in64; omega))) rfl (WO.p rfl rfl ?_)
                                               refine WO.nil ?_
                                               refine' ⟨k + 1, _, _, ?hp, ?hmu, ⟨rfl, rfl, rfl, rfl, rfl, rfl, rfl, rfl, trivial⟩, ?hS⟩
                                               case hS => repeat (first | exact Sub.nil | refine Sub.cons (by repeat (first | exact Pick.head | apply Pick.tail)) ?_)
                                               case hp => exact ⟨by omega, okStep (by omega) hg' (by first | exact q1 (by assumption) | exact q2 (by assumption) | exact q3 (by assumption) (by assumption)), by omega, posStep (by omega) hm0' hm'⟩
                                               case hmu => omega))
                                     · first
                                       | (exfalso; omega)
                                       | (refine W.exit (blk_same ?_)
                                          refine W.region ?_
                                          refine WO.ar rfl rfl rfl (by (first | (unfold in64; omega))) rfl (WO.p rfl rfl ?_)
                                          refine WO.nil ?_
                                          refine' ⟨i + 1, _, _, ?hp, ?hmu, ⟨rfl, rfl, rfl, rfl, rfl, trivial⟩, ?hS⟩
                                          case hS => repeat (first | exact Sub.nil | refine Sub.cons (by repeat (first | exact Pick.head | apply Pick.tail)) ?_)
                                          case hp => exact ⟨by omega, rowStep (by omega) (by omega) hg hg', by omega, rowStepM (by omega) (by omega) hm hm'⟩
                                          case hmu => omega))
                                · first
                                  | (exfalso; omega)
                                  | (refine W.exit (blk_same ?_)
                                     refine W.seq ?_
                                     refine W.sreg ?_
                                     refine WO.p rfl rfl (WO.p rfl rfl (WO.p rfl rfl ?_))
                                     refine WO.guard_b rfl rfl (fun c17 => ?_) (fun c17 => ?_)
                                     · first
                                       | (exfalso; omega)
                                       | (refine WO.no rfl rfl (WO.no rfl rfl (WO.p rfl rfl ?_))
                                          refine WO.nil ?_
                                          refine W.cond_t rfl ?_
                                          refine W.sreg ?_
                                          refine WO.p rfl rfl ?_
                                          refine WO.nil ?_
                                          refine W.ret ?_
                                          refine fin.ret (Res.one rfl (RV.tmp rfl)) ?_
                                          refine congrArg (Value.int .i64) ?_
                                          first | exact ck6 (by omega) | exact ck15 (by omega) (fun h => absurd (fun r hr => by have := h r hr; omega) (by assumption)) | exact fin2 (by omega) (lenI (Classical.not_not.1 (by assumption))) (by omega) hg hm0 hm (.inl (by assumption)) | exact fin2 (by omega) (lenI (Classical.not_not.1 (by assumption))) (by omega) hg hm0 hm (.inr (by assumption)) | exact fin0 (by omega) (lenI (Classical.not_not.1 (by assumption))) (by omega) hg hm0 hm (by assumption) (by assumption))
                                     · first
                                       | (exfalso; omega)
                                       | (refine WO.pg rfl rfl rfl (WO.pg rfl rfl rfl (WO.p rfl rfl ?_))
                                          refine WO.nil ?_
                                          refine W.cond_bl rfl (fun c18 => ?_) (fun c18 => ?_)
                                          · first
                                            | (exfalso; omega)
                                            | (refine W.sreg ?_
                                               refine WO.p rfl rfl ?_
                                               refine WO.nil ?_
                                               refine W.ret ?_
                                               refine fin.ret (Res.one rfl (RV.tmp rfl)) ?_
                                               refine congrArg (Value.int .i64) ?_
                                               first | exact ck6 (by omega) | exact ck15 (by omega) (fun h => absurd (fun r hr => by have := h r hr; omega) (by assumption)) | exact fin2 (by omega) (lenI (Classical.not_not.1 (by assumption))) (by omega) hg hm0 hm (.inl (by assumption)) | exact fin2 (by omega) (lenI (Classical.not_not.1 (by assumption))) (by omega) hg hm0 hm (.inr (by assumption)) | exact fin0 (by omega) (lenI (Classical.not_not.1 (by assumption))) (by omega) hg hm0 hm (by assumption) (by assumption))
                                          · first
                                            | (exfalso; omega)
                                            | (refine W.skip ?_
                                               refine W.sreg ?_
                                               refine WO.p rfl rfl ?_
                                               refine WO.nil ?_
                                               refine W.ret ?_
                                               refine fin.ret (Res.one rfl (RV.tmp rfl)) ?_
                                               refine congrArg (Value.int .i64) ?_
                                               first | exact ck6 (by omega) | exact ck15 (by omega) (fun h => absurd (fun r hr => by have := h r hr; omega) (by assumption)) | exact fin2 (by omega) (lenI (Classical.not_not.1 (by assumption))) (by omega) hg hm0 hm (.inl (by assumption)) | exact fin2 (by omega) (lenI (Classical.not_not.1 (by assumption))) (by omega) hg hm0 hm (.inr (by assumption)) | exact fin0 (by omega) (lenI (Classical.not_not.1 (by assumption))) (by omega) hg hm0 hm (by assumption) (by assumption))))))))))
end Go.Proofs.Ytgihklgpehfbpaa

