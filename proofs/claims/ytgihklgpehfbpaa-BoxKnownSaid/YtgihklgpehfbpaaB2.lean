/-
  test
-/
import Derived.Test.YtgihklgpehfbpaaTab
namespace Go.Proofs.Ytgihklgpehfbpaa
open Go Go.TH
attribute [local irreducible] W WO pt
def okR (r : Int × Int) : Bool := decide (0 ≤ r.1 ∧ r.1 ≤ r.2 ∧ r.2 ≤ 500 ∧ r.2 - r.1 ≤ 20)
def posR (r : Int × Int) : Bool := decide (0 < r.1)
def chkHull (sp st : Int) (rows : List (List (Int × Int))) : Int :=
  if rows.length < 2 ∨ 10 < rows.length ∨ (rows.getD 0 []).length < 2 ∨ 6 < (rows.getD 0 []).length then 6
  else if ¬ ∀ r ∈ rows, r.length = (rows.getD 0 []).length then 15
  else if sp < 1 ∨ 1000 < sp ∨ st < 1 ∨ 100 < st then 2
  else if ¬ ∀ r ∈ rows, ∀ x ∈ r, okR x = true then 2
  else if ¬ ∃ r ∈ rows, ∃ x ∈ r, posR x = true then 2
  else 0
set_option maxRecDepth 10000
section
variable {sp st : Int} {rows : List (List (Int × Int))}
theorem ck6 (h : rows.length < 2 ∨ 10 < rows.length ∨ (rows.getD 0 []).length < 2 ∨ 6 < (rows.getD 0 []).length) : 6 = chkHull sp st rows := by rw [chkHull, if_pos h]
theorem ck15 (h : ¬ (rows.length < 2 ∨ 10 < rows.length ∨ (rows.getD 0 []).length < 2 ∨ 6 < (rows.getD 0 []).length)) (h1 : ¬ ∀ r ∈ rows, r.length = (rows.getD 0 []).length) : 15 = chkHull sp st rows := by rw [chkHull, if_neg h, if_pos h1]
theorem ck2a (h : ¬ (rows.length < 2 ∨ 10 < rows.length ∨ (rows.getD 0 []).length < 2 ∨ 6 < (rows.getD 0 []).length)) (h1 : ∀ r ∈ rows, r.length = (rows.getD 0 []).length) (h2 : sp < 1 ∨ 1000 < sp ∨ st < 1 ∨ 100 < st) : 2 = chkHull sp st rows := by rw [chkHull, if_neg h, if_neg (fun x => x h1), if_pos h2]
theorem ck2b (h : ¬ (rows.length < 2 ∨ 10 < rows.length ∨ (rows.getD 0 []).length < 2 ∨ 6 < (rows.getD 0 []).length)) (h1 : ∀ r ∈ rows, r.length = (rows.getD 0 []).length) (h3 : ¬ ∀ r ∈ rows, ∀ x ∈ r, okR x = true) : 2 = chkHull sp st rows := by
  rw [chkHull, if_neg h, if_neg (fun x => x h1), if_pos h3, ite_self]
theorem ck2c (h : ¬ (rows.length < 2 ∨ 10 < rows.length ∨ (rows.getD 0 []).length < 2 ∨ 6 < (rows.getD 0 []).length)) (h1 : ∀ r ∈ rows, r.length = (rows.getD 0 []).length) (h4 : ¬ ∃ r ∈ rows, ∃ x ∈ r, posR x = true) : 2 = chkHull sp st rows := by
  rw [chkHull, if_neg h, if_neg (fun x => x h1), if_pos h4, ite_self, ite_self]
theorem ck0 (h : ¬ (rows.length < 2 ∨ 10 < rows.length ∨ (rows.getD 0 []).length < 2 ∨ 6 < (rows.getD 0 []).length)) (h1 : ∀ r ∈ rows, r.length = (rows.getD 0 []).length) (h2 : ¬ (sp < 1 ∨ 1000 < sp ∨ st < 1 ∨ 100 < st)) (h3 : ∀ r ∈ rows, ∀ x ∈ r, okR x = true) (h4 : ∃ r ∈ rows, ∃ x ∈ r, posR x = true) : 0 = chkHull sp st rows := by
  rw [chkHull, if_neg h, if_neg (fun x => x h1), if_neg h2, if_neg (fun x => x h3), if_neg (fun x => x h4)]
theorem not_ok {i k : Nat} (hi : i < rows.length) (hk : k < (rows.getD i []).length) (hn : ¬ okR ((rows.getD i []).getD k (0, 0)) = true) : ¬ ∀ r ∈ rows, ∀ x ∈ r, okR x = true :=
  fun h => hn (h _ (getD_mem hi []) _ (getD_mem hk (0, 0)))
end
theorem ref_checkHull (w : World) (sp st : Int) (o : Value) (rv : List Value) (rows : List (List (Int × Int))) (hR : RdR encP 2 w.heap.size w o rv rows) :
    Ret Try.prog 19 [.agg #[.int .i64 sp, .int .i64 st, o]].toArray w (.int .i64 (chkHull sp st rows)) := by
  refine Ret.of mixed tyTab Try.func19 rfl rfl ?_
  replace hR : RdR encP 2 (fnCx mixed tyTab Try.f19.ntmps w).B (fnCx mixed tyTab Try.f19.ntmps w).w0 o rv rows := hR
  have hle := hR.sl.le
  refine W.sreg ?_
  refine WO.boxA rfl rfl (fun b1 hb1 => ?_)
  refine WO.p rfl rfl ?_
  refine WO.nil ?_
  refine W.sreg ?_
  refine WO.fieldL rfl rfl rfl (WO.load rfl rfl (Cell.own Pick.head rfl) rfl ?_)
  refine' WO.len (n := _) rfl rfl ?hs rfl ?_
  case hs => (first | exact hR.sl | (refine (hR.row _ ?_).sl; omega))
  refine WO.p rfl rfl ?_
  refine WO.nil ?_
  refine W.seq ?_
  refine W.sreg ?_
  refine WO.p rfl rfl (WO.p rfl rfl (WO.p rfl rfl ?_))
  refine WO.guard_bl rfl rfl (fun c1 => ?_) (fun c1 => ?_)
  · first
    | (exfalso; omega)
    | (refine WO.no rfl rfl (WO.no rfl rfl (WO.p rfl rfl (WO.p rfl rfl (WO.no rfl rfl (WO.no rfl rfl (WO.no rfl rfl (WO.no rfl rfl (WO.no rfl rfl (WO.no rfl rfl (WO.p rfl rfl (WO.p rfl rfl ?_)))))))))))
       refine WO.no rfl rfl (WO.no rfl rfl (WO.no rfl rfl (WO.no rfl rfl (WO.no rfl rfl (WO.no rfl rfl (WO.p rfl rfl ?_))))))
       refine WO.nil ?_
       refine W.cond_t rfl ?_
       refine W.sreg ?_
       refine WO.p rfl rfl ?_
       refine WO.nil ?_
       refine W.ret ?_
       refine fin.ret (Res.one rfl (RV.tmp rfl)) ?_
       refine congrArg (Value.int .i64) ?_
       first | exact ck6 (by omega) | exact ck15 (by omega) (not_all_getD (p := fun r => r.length = (rows.getD 0 []).length) (i := i) (by omega) [] (fun h => by have h' : (rows.getD i []).length = (rows.getD 0 []).length := h; omega)) | exact ck2a (by omega) (all_len (by omega) hrows) (by omega) | exact ck2b (by omega) (all_len (by omega) hrows) (not_ok (i := i) (k := k) (by omega) (by omega) (by simp only [okR, decide_eq_true_eq]; omega)) | exact ck2c (by omega) (all_len (by omega) hrows) (by rw [← ex_len (i := i) (by omega), ← hs]; simp_all) | exact ck0 (by omega) (all_len (by omega) hrows) (by omega) (all_len (by omega) hok) (by rw [← ex_len (i := i) (by omega), ← hs]; simp_all))
  · first
    | (exfalso; omega)
    | (refine WO.pg rfl rfl rfl (WO.pg rfl rfl rfl (WO.p rfl rfl (WO.p rfl rfl ?_)))
       refine WO.guard_bl rfl rfl (fun c2 => ?_) (fun c2 => ?_)
       · first
         | (exfalso; omega)
         | (refine WO.no rfl rfl (WO.no rfl rfl (WO.no rfl rfl (WO.no rfl rfl (WO.no rfl rfl (WO.no rfl rfl (WO.p rfl rfl (WO.p rfl rfl (WO.no rfl rfl (WO.no rfl rfl (WO.no rfl rfl (WO.no rfl rfl ?_)))))))))))
            refine WO.no rfl rfl (WO.no rfl rfl (WO.p rfl rfl ?_))
            refine WO.nil ?_
            refine W.cond_t rfl ?_
            refine W.sreg ?_
            refine WO.p rfl rfl ?_
            refine WO.nil ?_
            refine W.ret ?_
            refine fin.ret (Res.one rfl (RV.tmp rfl)) ?_
            refine congrArg (Value.int .i64) ?_
            first | exact ck6 (by omega) | exact ck15 (by omega) (not_all_getD (p := fun r => r.length = (rows.getD 0 []).length) (i := i) (by omega) [] (fun h => by have h' : (rows.getD i []).length = (rows.getD 0 []).length := h; omega)) | exact ck2a (by omega) (all_len (by omega) hrows) (by omega) | exact ck2b (by omega) (all_len (by omega) hrows) (not_ok (i := i) (k := k) (by omega) (by omega) (by simp only [okR, decide_eq_true_eq]; omega)) | exact ck2c (by omega) (all_len (by omega) hrows) (by rw [← ex_len (i := i) (by omega), ← hs]; simp_all) | exact ck0 (by omega) (all_len (by omega) hrows) (by omega) (all_len (by omega) hok) (by rw [← ex_len (i := i) (by omega), ← hs]; simp_all))
       · first
         | (exfalso; omega)
         | (refine WO.go' rfl (WO.fieldL rfl rfl rfl (WO.go' rfl (WO.load rfl rfl (Cell.own Pick.head rfl) rfl (WO.go' rfl ?_))))
            refine' WO.indexAddr (n := _) (i := 0) rfl rfl rfl ?hs ?h1 rfl ?_
            case hs => (first | exact hR.sl | (refine (hR.row _ ?_).sl; omega))
            case h1 => (first | omega | (simp; omega))
            refine WO.go' rfl ?_
            refine' WO.load (v := _) rfl rfl ?hc rfl ?_
            case hc => (first | (refine hR.cellV ?_; omega) | (refine (hR.row _ ?_).cell0 ?_ (0, 0) ?_ <;> first | rfl | omega) | (refine (hR.row _ ?_).cellAt ?_ (0, 0) ?_ <;> first | rfl | omega))
            refine WO.go' rfl ?_
            refine' WO.len (n := _) rfl rfl ?hs rfl ?_
            case hs => (first | exact hR.sl | (refine (hR.row _ ?_).sl; omega))
            refine WO.pg rfl rfl rfl (WO.p rfl rfl (WO.p rfl rfl ?_))
            refine WO.guard_bl rfl rfl (fun c3 => ?_) (fun c3 => ?_)
            · first
              | (exfalso; omega)
              | (refine WO.no rfl rfl (WO.no rfl rfl (WO.no rfl rfl (WO.no rfl rfl (WO.no rfl rfl (WO.no rfl rfl (WO.p rfl rfl ?_))))))
                 refine WO.nil ?_
                 refine W.cond_t rfl ?_
                 refine W.sreg ?_
                 refine WO.p rfl rfl ?_
                 refine WO.nil ?_
                 refine W.ret ?_
                 refine fin.ret (Res.one rfl (RV.tmp rfl)) ?_
                 refine congrArg (Value.int .i64) ?_
                 first | exact ck6 (by omega) | exact ck15 (by omega) (not_all_getD (p := fun r => r.length = (rows.getD 0 []).length) (i := i) (by omega) [] (fun h => by have h' : (rows.getD i []).length = (rows.getD 0 []).length := h; omega)) | exact ck2a (by omega) (all_len (by omega) hrows) (by omega) | exact ck2b (by omega) (all_len (by omega) hrows) (not_ok (i := i) (k := k) (by omega) (by omega) (by simp only [okR, decide_eq_true_eq]; omega)) | exact ck2c (by omega) (all_len (by omega) hrows) (by rw [← ex_len (i := i) (by omega), ← hs]; simp_all) | exact ck0 (by omega) (all_len (by omega) hrows) (by omega) (all_len (by omega) hok) (by rw [← ex_len (i := i) (by omega), ← hs]; simp_all))
            · first
              | (exfalso; omega)
              | (refine WO.go' rfl (WO.fieldL rfl rfl rfl (WO.go' rfl (WO.load rfl rfl (Cell.own Pick.head rfl) rfl (WO.go' rfl ?_))))
                 refine' WO.indexAddr (n := _) (i := 0) rfl rfl rfl ?hs ?h1 rfl ?_
                 case hs => (first | exact hR.sl | (refine (hR.row _ ?_).sl; omega))
                 case h1 => (first | omega | (simp; omega))
                 refine WO.go' rfl ?_
                 refine' WO.load (v := _) rfl rfl ?hc rfl ?_
                 case hc => (first | (refine hR.cellV ?_; omega) | (refine (hR.row _ ?_).cell0 ?_ (0, 0) ?_ <;> first | rfl | omega) | (refine (hR.row _ ?_).cellAt ?_ (0, 0) ?_ <;> first | rfl | omega))
                 refine WO.go' rfl ?_
                 refine' WO.len (n := _) rfl rfl ?hs rfl ?_
                 case hs => (first | exact hR.sl | (refine (hR.row _ ?_).sl; omega))
                 refine WO.pg rfl rfl rfl (WO.p rfl rfl ?_)
                 refine WO.nil ?_
                 refine W.cond_bl rfl (fun c4 => ?_) (fun c4 => ?_)
                 · first
                   | (exfalso; omega)
                   | (refine W.sreg ?_
                      refine WO.p rfl rfl ?_
                      refine WO.nil ?_
                      refine W.ret ?_
                      refine fin.ret (Res.one rfl (RV.tmp rfl)) ?_
                      refine congrArg (Value.int .i64) ?_
                      first | exact ck6 (by omega) | exact ck15 (by omega) (not_all_getD (p := fun r => r.length = (rows.getD 0 []).length) (i := i) (by omega) [] (fun h => by have h' : (rows.getD i []).length = (rows.getD 0 []).length := h; omega)) | exact ck2a (by omega) (all_len (by omega) hrows) (by omega) | exact ck2b (by omega) (all_len (by omega) hrows) (not_ok (i := i) (k := k) (by omega) (by omega) (by simp only [okR, decide_eq_true_eq]; omega)) | exact ck2c (by omega) (all_len (by omega) hrows) (by rw [← ex_len (i := i) (by omega), ← hs]; simp_all) | exact ck0 (by omega) (all_len (by omega) hrows) (by omega) (all_len (by omega) hok) (by rw [← ex_len (i := i) (by omega), ← hs]; simp_all))
                 · first
                   | (exfalso; omega)
                   | (refine W.skip ?_
                      refine W.seq ?_
                      refine W.sreg ?_
                      refine WO.p rfl rfl ?_
                      refine WO.nil ?_
                      refine W.block ?_
                      refine W.loop (fun (i : Nat) => i ≤ rows.length ∧ ∀ r ∈ rows.take i, r.length = (rows.getD 0 []).length)
                        (fun (i : Nat) => [(4, .int .i64 (i : Int)), (3, .int .i64 rows.length), (1, .pointer (some ⟨b1, 0, none⟩))])
                        (fun (i : Nat) => [pt b1 (.cells #[.int .i64 sp, .int .i64 st, o] 24 (0, 0))])
                        (fun (i : Nat) => rows.length - i) 0
                        (by exact ⟨by omega, by simp⟩) ⟨rfl, rfl, rfl, trivial⟩ (by repeat (first | exact Sub.nil | refine Sub.cons (by repeat (first | exact Pick.head | apply Pick.tail)) ?_)) ?_
                      rintro i ⟨hi, hrows⟩
                      refine W.seq ?_
                      refine W.sreg ?_
                      refine WO.p rfl rfl (WO.p rfl rfl (WO.p rfl rfl ?_))
                      refine WO.nil ?_
                      refine W.cond_bl rfl (fun c5 => ?_) (fun c5 => ?_)
                      · first
                        | (exfalso; omega)
                        | (refine W.skip ?_
                           refine W.seq ?_
                           refine W.block ?_
                           refine W.seq ?_
                           refine W.drawD 11 [.r 0 [], .b 1 [], .r 2 [], .r 3 [], .b 4 [], .r 5 [], .r 6 [], .b 7 [], .r 8 [], .b 9 [], .r 10 []] [] (A0 := []) (Sub.refl _) (by kernel_rfl) ?_ ?_
                           · exact (ALok.r (ALok.b (ALok.r (ALok.r (ALok.b (ALok.r (ALok.r (ALok.b (ALok.r (ALok.b (ALok.r ALok.nil)))))))))))
                           refine' DT.r rfl rfl rfl ?hq ?_
                           case hq =>
                             refine WO.fieldL rfl rfl rfl ?_
                             exact WO.nil ⟨rfl, rfl⟩
                           refine' DT.b rfl rfl rfl ?hq ?_
                           case hq =>
                             refine WO.load rfl rfl (Cell.own Pick.head rfl) rfl ?_
                             exact WO.nil ⟨rfl, rfl⟩
                           refine' DT.r rfl rfl rfl ?hq ?_
                           case hq =>
                             refine WO.p rfl rfl ?_
                             exact WO.nil ⟨rfl, rfl⟩
                           refine' DT.r rfl rfl rfl ?hq ?_
                           case hq =>
                             refine' WO.indexAddr (n := _) (i := _) rfl rfl rfl ?hs ?h1 rfl ?_
                             case hs => (first | exact hR.sl | (refine (hR.row _ ?_).sl; omega))
                             case h1 => (first | omega | (simp; omega))
                             exact WO.nil ⟨rfl, rfl⟩
                           refine' DT.b rfl rfl rfl ?hq ?_
                           case hq =>
                             refine' WO.load (v := _) rfl rfl ?hc rfl ?_
                             case hc => (first | (refine hR.cellV ?_; omega) | (refine (hR.row _ ?_).cell0 ?_ (0, 0) ?_ <;> first | rfl | omega) | (refine (hR.row _ ?_).cellAt ?_ (0, 0) ?_ <;> first | rfl | omega))
                             exact WO.nil ⟨rfl, rfl⟩
                           refine' DT.r rfl rfl rfl ?hq ?_
                           case hq =>
                             refine' WO.len (n := _) rfl rfl ?hs rfl ?_
                             case hs => (first | exact hR.sl | (refine (hR.row _ ?_).sl; omega))
                             exact WO.nil ⟨rfl, rfl⟩
                           refine' DT.r rfl rfl rfl ?hq ?_
                           case hq =>
                             refine WO.fieldL rfl rfl rfl ?_
                             exact WO.nil ⟨rfl, rfl⟩
                           refine' DT.b rfl rfl rfl ?hq ?_
                           case hq =>
                             refine WO.load rfl rfl (Cell.own Pick.head rfl) rfl ?_
                             exact WO.nil ⟨rfl, rfl⟩
                           refine' DT.r rfl rfl rfl ?hq ?_
                           case hq =>
                             refine' WO.indexAddr (n := _) (i := 0) rfl rfl rfl ?hs ?h1 rfl ?_
                             case hs => (first | exact hR.sl | (refine (hR.row _ ?_).sl; omega))
                             case h1 => (first | omega | (simp; omega))
                             exact WO.nil ⟨rfl, rfl⟩
                           refine' DT.b rfl rfl rfl ?hq ?_
                           case hq =>
                             refine' WO.load (v := _) rfl rfl ?hc rfl ?_
                             case hc => (first | (refine hR.cellV ?_; omega) | (refine (hR.row _ ?_).cell0 ?_ (0, 0) ?_ <;> first | rfl | omega) | (refine (hR.row _ ?_).cellAt ?_ (0, 0) ?_ <;> first | rfl | omega))
                             exact WO.nil ⟨rfl, rfl⟩
                           refine' DT.r rfl rfl rfl ?hq ?_
                           case hq =>
                             refine' WO.len (n := _) rfl rfl ?hs rfl ?_
                             case hs => (first | exact hR.sl | (refine (hR.row _ ?_).sl; omega))
                             exact WO.nil ⟨rfl, rfl⟩
                           refine DT.nil [_] rfl ?_
                           refine WO.p rfl rfl ?_
                           refine WO.nil ?_
                           refine W.cond_bl rfl (fun c6 => ?_) (fun c6 => ?_)
                           · first
                             | (exfalso; omega)
                             | (refine W.sreg ?_
                                refine WO.p rfl rfl ?_
                                refine WO.nil ?_
                                refine W.ret ?_
                                refine fin.ret (Res.one rfl (RV.tmp rfl)) ?_
                                refine congrArg (Value.int .i64) ?_
                                first | exact ck6 (by omega) | exact ck15 (by omega) (not_all_getD (p := fun r => r.length = (rows.getD 0 []).length) (i := i) (by omega) [] (fun h => by have h' : (rows.getD i []).length = (rows.getD 0 []).length := h; omega)) | exact ck2a (by omega) (all_len (by omega) hrows) (by omega) | exact ck2b (by omega) (all_len (by omega) hrows) (not_ok (i := i) (k := k) (by omega) (by omega) (by simp only [okR, decide_eq_true_eq]; omega)) | exact ck2c (by omega) (all_len (by omega) hrows) (by rw [← ex_len (i := i) (by omega), ← hs]; simp_all) | exact ck0 (by omega) (all_len (by omega) hrows) (by omega) (all_len (by omega) hok) (by rw [← ex_len (i := i) (by omega), ← hs]; simp_all))
                           · first
                             | (exfalso; omega)
                             | (refine W.skip ?_
                                refine W.region ?_
                                refine WO.p rfl rfl (WO.ar rfl rfl rfl (by (first | (unfold in64; omega))) rfl (WO.p rfl rfl ?_))
                                refine WO.nil ?_
                                refine' ⟨i + 1, ?hp, ?hmu, ⟨rfl, rfl, rfl, trivial⟩, ?hS⟩
                                case hS => repeat (first | exact Sub.nil | refine Sub.cons (by repeat (first | exact Pick.head | apply Pick.tail)) ?_)
                                case hp => exact ⟨by omega, all_succ (by omega) [] hrows (by omega)⟩
                                case hmu => omega))
                      · first
                        | (exfalso; omega)
                        | (refine W.exit (blk_same ?_)
                           refine W.seq ?_
                           refine W.sreg ?_
                           refine WO.field0 rfl rfl rfl (WO.load rfl rfl (Cell.own Pick.head rfl) rfl (WO.p rfl rfl (WO.p rfl rfl ?_)))
                           refine WO.guard_bl rfl rfl (fun c7 => ?_) (fun c7 => ?_)
                           · first
                             | (exfalso; omega)
                             | (refine WO.no rfl rfl (WO.no rfl rfl (WO.no rfl rfl (WO.p rfl rfl (WO.p rfl rfl (WO.no rfl rfl (WO.no rfl rfl (WO.no rfl rfl (WO.p rfl rfl (WO.p rfl rfl (WO.no rfl rfl (WO.no rfl rfl ?_)))))))))))
                                refine WO.no rfl rfl (WO.p rfl rfl ?_)
                                refine WO.nil ?_
                                refine W.cond_t rfl ?_
                                refine W.sreg ?_
                                refine WO.p rfl rfl ?_
                                refine WO.nil ?_
                                refine W.ret ?_
                                refine fin.ret (Res.one rfl (RV.tmp rfl)) ?_
                                refine congrArg (Value.int .i64) ?_
                                first | exact ck6 (by omega) | exact ck15 (by omega) (not_all_getD (p := fun r => r.length = (rows.getD 0 []).length) (i := i) (by omega) [] (fun h => by have h' : (rows.getD i []).length = (rows.getD 0 []).length := h; omega)) | exact ck2a (by omega) (all_len (by omega) hrows) (by omega) | exact ck2b (by omega) (all_len (by omega) hrows) (not_ok (i := i) (k := k) (by omega) (by omega) (by simp only [okR, decide_eq_true_eq]; omega)) | exact ck2c (by omega) (all_len (by omega) hrows) (by rw [← ex_len (i := i) (by omega), ← hs]; simp_all) | exact ck0 (by omega) (all_len (by omega) hrows) (by omega) (all_len (by omega) hok) (by rw [← ex_len (i := i) (by omega), ← hs]; simp_all))
                           · first
                             | (exfalso; omega)
                             | (refine WO.go' rfl (WO.field0 rfl rfl rfl (WO.go' rfl (WO.load rfl rfl (Cell.own Pick.head rfl) rfl (WO.pg rfl rfl rfl (WO.p rfl rfl (WO.p rfl rfl ?_))))))
                                refine WO.guard_bl rfl rfl (fun c8 => ?_) (fun c8 => ?_)
                                · first
                                  | (exfalso; omega)
                                  | (refine WO.no rfl rfl (WO.no rfl rfl (WO.no rfl rfl (WO.p rfl rfl (WO.p rfl rfl (WO.no rfl rfl (WO.no rfl rfl (WO.no rfl rfl (WO.p rfl rfl ?_))))))))
                                     refine WO.nil ?_
                                     refine W.cond_t rfl ?_
                                     refine W.sreg ?_
                                     refine WO.p rfl rfl ?_
                                     refine WO.nil ?_
                                     refine W.ret ?_
                                     refine fin.ret (Res.one rfl (RV.tmp rfl)) ?_
                                     refine congrArg (Value.int .i64) ?_
                                     first | exact ck6 (by omega) | exact ck15 (by omega) (not_all_getD (p := fun r => r.length = (rows.getD 0 []).length) (i := i) (by omega) [] (fun h => by have h' : (rows.getD i []).length = (rows.getD 0 []).length := h; omega)) | exact ck2a (by omega) (all_len (by omega) hrows) (by omega) | exact ck2b (by omega) (all_len (by omega) hrows) (not_ok (i := i) (k := k) (by omega) (by omega) (by simp only [okR, decide_eq_true_eq]; omega)) | exact ck2c (by omega) (all_len (by omega) hrows) (by rw [← ex_len (i := i) (by omega), ← hs]; simp_all) | exact ck0 (by omega) (all_len (by omega) hrows) (by omega) (all_len (by omega) hok) (by rw [← ex_len (i := i) (by omega), ← hs]; simp_all))
                                · first
                                  | (exfalso; omega)
                                  | (refine WO.go' rfl (WO.fieldL rfl rfl rfl (WO.go' rfl (WO.load rfl rfl (Cell.own Pick.head rfl) rfl (WO.pg rfl rfl rfl (WO.p rfl rfl (WO.p rfl rfl ?_))))))
                                     refine WO.guard_bl rfl rfl (fun c9 => ?_) (fun c9 => ?_)
                                     · first
                                       | (exfalso; omega)
                                       | (refine WO.no rfl rfl (WO.no rfl rfl (WO.no rfl rfl (WO.p rfl rfl ?_)))
                                          refine WO.nil ?_
                                          refine W.cond_t rfl ?_
                                          refine W.sreg ?_
                                          refine WO.p rfl rfl ?_
                                          refine WO.nil ?_
                                          refine W.ret ?_
                                          refine fin.ret (Res.one rfl (RV.tmp rfl)) ?_
                                          refine congrArg (Value.int .i64) ?_
                                          first | exact ck6 (by omega) | exact ck15 (by omega) (not_all_getD (p := fun r => r.length = (rows.getD 0 []).length) (i := i) (by omega) [] (fun h => by have h' : (rows.getD i []).length = (rows.getD 0 []).length := h; omega)) | exact ck2a (by omega) (all_len (by omega) hrows) (by omega) | exact ck2b (by omega) (all_len (by omega) hrows) (not_ok (i := i) (k := k) (by omega) (by omega) (by simp only [okR, decide_eq_true_eq]; omega)) | exact ck2c (by omega) (all_len (by omega) hrows) (by rw [← ex_len (i := i) (by omega), ← hs]; simp_all) | exact ck0 (by omega) (all_len (by omega) hrows) (by omega) (all_len (by omega) hok) (by rw [← ex_len (i := i) (by omega), ← hs]; simp_all))
                                     · first
                                       | (exfalso; omega)
                                       | (refine WO.go' rfl (WO.fieldL rfl rfl rfl (WO.go' rfl (WO.load rfl rfl (Cell.own Pick.head rfl) rfl (WO.pg rfl rfl rfl (WO.p rfl rfl ?_)))))
                                          refine WO.nil ?_
                                          refine W.cond_bl rfl (fun c10 => ?_) (fun c10 => ?_)
                                          · first
                                            | (exfalso; omega)
                                            | (refine W.sreg ?_
                                               refine WO.p rfl rfl ?_
                                               refine WO.nil ?_
                                               refine W.ret ?_
                                               refine fin.ret (Res.one rfl (RV.tmp rfl)) ?_
                                               refine congrArg (Value.int .i64) ?_
                                               first | exact ck6 (by omega) | exact ck15 (by omega) (not_all_getD (p := fun r => r.length = (rows.getD 0 []).length) (i := i) (by omega) [] (fun h => by have h' : (rows.getD i []).length = (rows.getD 0 []).length := h; omega)) | exact ck2a (by omega) (all_len (by omega) hrows) (by omega) | exact ck2b (by omega) (all_len (by omega) hrows) (not_ok (i := i) (k := k) (by omega) (by omega) (by simp only [okR, decide_eq_true_eq]; omega)) | exact ck2c (by omega) (all_len (by omega) hrows) (by rw [← ex_len (i := i) (by omega), ← hs]; simp_all) | exact ck0 (by omega) (all_len (by omega) hrows) (by omega) (all_len (by omega) hok) (by rw [← ex_len (i := i) (by omega), ← hs]; simp_all))
                                          · first
                                            | (exfalso; omega)
                                            | (refine W.skip ?_
                                               refine W.sreg ?_
                                               refine WO.p rfl rfl ?_
                                               refine WO.nil ?_
                                               refine W.seq ?_
                                               refine W.sreg ?_
                                               refine WO.p rfl rfl ?_
                                               refine WO.nil ?_
                                               refine W.block ?_
                                               refine W.loop2 (fun (i : Nat) (s : Bool) => i ≤ rows.length ∧ (∀ r ∈ rows.take i, ∀ x ∈ r, okR x = true) ∧ (s = true ↔ ∃ r ∈ rows.take i, ∃ x ∈ r, posR x = true))
                                                 (fun (i : Nat) (s : Bool) => [(6, .int .i64 (i : Int)), (3, .int .i64 rows.length), (5, .bool s), (1, .pointer (some ⟨b1, 0, none⟩))])
                                                 (fun (i : Nat) (s : Bool) => [pt b1 (.cells #[.int .i64 sp, .int .i64 st, o] 24 (0, 0))])
                                                 (fun (i : Nat) (s : Bool) => rows.length - i) 0 false
                                                 (by exact ⟨by omega, by simp, by simp⟩) ⟨rfl, rfl, rfl, rfl, trivial⟩ (by repeat (first | exact Sub.nil | refine Sub.cons (by repeat (first | exact Pick.head | apply Pick.tail)) ?_)) ?_
                                               rintro i s ⟨hi, hok, hs⟩
                                               refine W.seq ?_
                                               refine W.sreg ?_
                                               refine WO.p rfl rfl (WO.p rfl rfl (WO.p rfl rfl ?_))
                                               refine WO.nil ?_
                                               refine W.cond_bl rfl (fun c11 => ?_) (fun c11 => ?_)
                                               · first
                                                 | (exfalso; omega)
                                                 | (refine W.skip ?_
                                                    refine W.seq ?_
                                                    refine W.block ?_
                                                    refine W.sreg ?_
                                                    refine WO.p rfl rfl ?_
                                                    refine WO.nil ?_
                                                    refine W.block ?_
                                                    refine W.loop2 (fun (k : Nat) (s : Bool) => k ≤ (rows.getD i []).length ∧ (∀ x ∈ (rows.getD i []).take k, okR x = true) ∧ (s = true ↔ (∃ r ∈ rows.take i, ∃ x ∈ r, posR x = true) ∨ ∃ x ∈ (rows.getD i []).take k, posR x = true))
                                                      (fun (k : Nat) (s : Bool) => [(6, .int .i64 (i : Int)), (7, .int .i64 (k : Int)), (3, .int .i64 rows.length), (5, .bool s), (1, .pointer (some ⟨b1, 0, none⟩))])
                                                      (fun (k : Nat) (s : Bool) => [pt b1 (.cells #[.int .i64 sp, .int .i64 st, o] 24 (0, 0))])
                                                      (fun (k : Nat) (s : Bool) => (rows.getD i []).length - k) 0 s
                                                      (by exact ⟨by omega, by simp, by simp [hs]⟩) ⟨rfl, rfl, rfl, rfl, rfl, trivial⟩ (by repeat (first | exact Sub.nil | refine Sub.cons (by repeat (first | exact Pick.head | apply Pick.tail)) ?_)) ?_
                                                    rintro k s ⟨hk, hok2, hs2⟩
                                                    have hlk := (hR.row i (by omega)).sl.le
                                                    refine W.seq ?_
                                                    refine W.sreg ?_
                                                    refine WO.p rfl rfl (WO.fieldL rfl rfl rfl (WO.load rfl rfl (Cell.own Pick.head rfl) rfl (WO.p rfl rfl ?_)))
                                                    refine' WO.indexAddr (n := _) (i := _) rfl rfl rfl ?hs ?h1 rfl ?_
                                                    case hs => (first | exact hR.sl | (refine (hR.row _ ?_).sl; omega))
                                                    case h1 => (first | omega | (simp; omega))
                                                    refine' WO.load (v := _) rfl rfl ?hc rfl ?_
                                                    case hc => (first | (refine hR.cellV ?_; omega) | (refine (hR.row _ ?_).cell0 ?_ (0, 0) ?_ <;> first | rfl | omega) | (refine (hR.row _ ?_).cellAt ?_ (0, 0) ?_ <;> first | rfl | omega))
                                                    refine' WO.len (n := _) rfl rfl ?hs rfl ?_
                                                    case hs => (first | exact hR.sl | (refine (hR.row _ ?_).sl; omega))
                                                    refine WO.p rfl rfl ?_
                                                    refine WO.nil ?_
                                                    refine W.cond_bl rfl (fun c12 => ?_) (fun c12 => ?_)
                                                    · first
                                                      | (exfalso; omega)
                                                      | (refine W.skip ?_
                                                         refine W.seq ?_
                                                         refine W.block ?_
                                                         refine W.sreg ?_
                                                         refine WO.fieldL rfl rfl rfl (WO.load rfl rfl (Cell.own Pick.head rfl) rfl (WO.p rfl rfl ?_))
                                                         refine' WO.indexAddr (n := _) (i := _) rfl rfl rfl ?hs ?h1 rfl ?_
                                                         case hs => (first | exact hR.sl | (refine (hR.row _ ?_).sl; omega))
                                                         case h1 => (first | omega | (simp; omega))
                                                         refine' WO.load (v := _) rfl rfl ?hc rfl ?_
                                                         case hc => (first | (refine hR.cellV ?_; omega) | (refine (hR.row _ ?_).cell0 ?_ (0, 0) ?_ <;> first | rfl | omega) | (refine (hR.row _ ?_).cellAt ?_ (0, 0) ?_ <;> first | rfl | omega))
                                                         refine WO.p rfl rfl ?_
                                                         refine' WO.indexAddr (n := _) (i := _) rfl rfl rfl ?hs ?h1 rfl ?_
                                                         case hs => (first | exact hR.sl | (refine (hR.row _ ?_).sl; omega))
                                                         case h1 => (first | omega | (simp; omega))
                                                         refine' WO.loadA (vs := _) rfl rfl ?hc ?hl rfl ?_
                                                         case hc => (first | (refine (hR.row _ ?_).cells ?_ (0, 0) <;> omega))
                                                         case hl => rfl
                                                         refine WO.alloc rfl rfl rfl (fun b2 hb2 => ?_)
                                                         refine WO.storeA rfl rfl rfl rfl Pick.head rfl rfl ?_
                                                         refine WO.nil ?_
                                                         refine W.seq ?_
                                                         refine W.sreg ?_
                                                         refine WO.field0 rfl rfl rfl (WO.load rfl rfl (Cell.own Pick.head rfl) rfl (WO.p rfl rfl (WO.p rfl rfl ?_)))
                                                         refine WO.guard_bl rfl rfl (fun c13 => ?_) (fun c13 => ?_)
                                                         · first
                                                           | (exfalso; omega)
                                                           | (refine WO.no rfl rfl (WO.no rfl rfl (WO.no rfl rfl (WO.no rfl rfl (WO.no rfl rfl (WO.p rfl rfl (WO.p rfl rfl (WO.no rfl rfl (WO.no rfl rfl (WO.no rfl rfl (WO.p rfl rfl (WO.p rfl rfl ?_)))))))))))
                                                              refine WO.no rfl rfl (WO.no rfl rfl (WO.no rfl rfl (WO.no rfl rfl (WO.no rfl rfl (WO.no rfl rfl (WO.p rfl rfl ?_))))))
                                                              refine WO.nil ?_
                                                              refine W.cond_t rfl ?_
                                                              refine W.sreg ?_
                                                              refine WO.p rfl rfl ?_
                                                              refine WO.nil ?_
                                                              refine W.ret ?_
                                                              refine fin.ret (Res.one rfl (RV.tmp rfl)) ?_
                                                              refine congrArg (Value.int .i64) ?_
                                                              first | exact ck6 (by omega) | exact ck15 (by omega) (not_all_getD (p := fun r => r.length = (rows.getD 0 []).length) (i := i) (by omega) [] (fun h => by have h' : (rows.getD i []).length = (rows.getD 0 []).length := h; omega)) | exact ck2a (by omega) (all_len (by omega) hrows) (by omega) | exact ck2b (by omega) (all_len (by omega) hrows) (not_ok (i := i) (k := k) (by omega) (by omega) (by simp only [okR, decide_eq_true_eq]; omega)) | exact ck2c (by omega) (all_len (by omega) hrows) (by rw [← ex_len (i := i) (by omega), ← hs]; simp_all) | exact ck0 (by omega) (all_len (by omega) hrows) (by omega) (all_len (by omega) hok) (by rw [← ex_len (i := i) (by omega), ← hs]; simp_all))
                                                         · first
                                                           | (exfalso; omega)
                                                           | (refine WO.go' rfl (WO.field0 rfl rfl rfl (WO.go' rfl (WO.load rfl rfl (Cell.own Pick.head rfl) rfl (WO.go' rfl (WO.fieldL rfl rfl rfl (WO.go' rfl (WO.load rfl rfl (Cell.own Pick.head rfl) rfl (WO.pg rfl rfl rfl (WO.p rfl rfl (WO.p rfl rfl ?_))))))))))
                                                              refine WO.guard_bl rfl rfl (fun c14 => ?_) (fun c14 => ?_)
                                                              · first
                                                                | (exfalso; omega)
                                                                | (refine WO.no rfl rfl (WO.no rfl rfl (WO.no rfl rfl (WO.p rfl rfl (WO.p rfl rfl (WO.no rfl rfl (WO.no rfl rfl (WO.no rfl rfl (WO.no rfl rfl (WO.no rfl rfl (WO.no rfl rfl (WO.p rfl rfl ?_)))))))))))
                                                                   refine WO.nil ?_
                                                                   refine W.cond_t rfl ?_
                                                                   refine W.sreg ?_
                                                                   refine WO.p rfl rfl ?_
                                                                   refine WO.nil ?_
                                                                   refine W.ret ?_
                                                                   refine fin.ret (Res.one rfl (RV.tmp rfl)) ?_
                                                                   refine congrArg (Value.int .i64) ?_
                                                                   first | exact ck6 (by omega) | exact ck15 (by omega) (not_all_getD (p := fun r => r.length = (rows.getD 0 []).length) (i := i) (by omega) [] (fun h => by have h' : (rows.getD i []).length = (rows.getD 0 []).length := h; omega)) | exact ck2a (by omega) (all_len (by omega) hrows) (by omega) | exact ck2b (by omega) (all_len (by omega) hrows) (not_ok (i := i) (k := k) (by omega) (by omega) (by simp only [okR, decide_eq_true_eq]; omega)) | exact ck2c (by omega) (all_len (by omega) hrows) (by rw [← ex_len (i := i) (by omega), ← hs]; simp_all) | exact ck0 (by omega) (all_len (by omega) hrows) (by omega) (all_len (by omega) hok) (by rw [← ex_len (i := i) (by omega), ← hs]; simp_all))
                                                              · first
                                                                | (exfalso; omega)
                                                                | (refine WO.go' rfl (WO.fieldL rfl rfl rfl (WO.go' rfl (WO.load rfl rfl (Cell.own Pick.head rfl) rfl (WO.pg rfl rfl rfl (WO.p rfl rfl (WO.p rfl rfl ?_))))))
                                                                   refine WO.guard_bl rfl rfl (fun c15 => ?_) (fun c15 => ?_)
                                                                   · first
                                                                     | (exfalso; omega)
                                                                     | (refine WO.no rfl rfl (WO.no rfl rfl (WO.no rfl rfl (WO.no rfl rfl (WO.no rfl rfl (WO.no rfl rfl (WO.p rfl rfl ?_))))))
                                                                        refine WO.nil ?_
                                                                        refine W.cond_t rfl ?_
                                                                        refine W.sreg ?_
                                                                        refine WO.p rfl rfl ?_
                                                                        refine WO.nil ?_
                                                                        refine W.ret ?_
                                                                        refine fin.ret (Res.one rfl (RV.tmp rfl)) ?_
                                                                        refine congrArg (Value.int .i64) ?_
                                                                        first | exact ck6 (by omega) | exact ck15 (by omega) (not_all_getD (p := fun r => r.length = (rows.getD 0 []).length) (i := i) (by omega) [] (fun h => by have h' : (rows.getD i []).length = (rows.getD 0 []).length := h; omega)) | exact ck2a (by omega) (all_len (by omega) hrows) (by omega) | exact ck2b (by omega) (all_len (by omega) hrows) (not_ok (i := i) (k := k) (by omega) (by omega) (by simp only [okR, decide_eq_true_eq]; omega)) | exact ck2c (by omega) (all_len (by omega) hrows) (by rw [← ex_len (i := i) (by omega), ← hs]; simp_all) | exact ck0 (by omega) (all_len (by omega) hrows) (by omega) (all_len (by omega) hok) (by rw [← ex_len (i := i) (by omega), ← hs]; simp_all))
                                                                   · first
                                                                     | (exfalso; omega)
                                                                     | (refine WO.go' rfl (WO.fieldL rfl rfl rfl (WO.go' rfl (WO.load rfl rfl (Cell.own Pick.head rfl) rfl (WO.go' rfl (WO.field0 rfl rfl rfl (WO.go' rfl (WO.load rfl rfl (Cell.own Pick.head rfl) rfl (WO.go' rfl (WO.ar rfl rfl rfl (by (first | (unfold in64; omega))) rfl (WO.pg rfl rfl rfl (WO.p rfl rfl ?_)))))))))))
                                                                        refine WO.nil ?_
                                                                        refine W.cond_bl rfl (fun c16 => ?_) (fun c16 => ?_)
                                                                        · first
                                                                          | (exfalso; omega)
                                                                          | (refine W.sreg ?_
                                                                             refine WO.p rfl rfl ?_
                                                                             refine WO.nil ?_
                                                                             refine W.ret ?_
                                                                             refine fin.ret (Res.one rfl (RV.tmp rfl)) ?_
                                                                             refine congrArg (Value.int .i64) ?_
                                                                             first | exact ck6 (by omega) | exact ck15 (by omega) (not_all_getD (p := fun r => r.length = (rows.getD 0 []).length) (i := i) (by omega) [] (fun h => by have h' : (rows.getD i []).length = (rows.getD 0 []).length := h; omega)) | exact ck2a (by omega) (all_len (by omega) hrows) (by omega) | exact ck2b (by omega) (all_len (by omega) hrows) (not_ok (i := i) (k := k) (by omega) (by omega) (by simp only [okR, decide_eq_true_eq]; omega)) | exact ck2c (by omega) (all_len (by omega) hrows) (by rw [← ex_len (i := i) (by omega), ← hs]; simp_all) | exact ck0 (by omega) (all_len (by omega) hrows) (by omega) (all_len (by omega) hok) (by rw [← ex_len (i := i) (by omega), ← hs]; simp_all))
                                                                        · first
                                                                          | (exfalso; omega)
                                                                          | (refine W.skip ?_
                                                                             refine W.region ?_
                                                                             refine WO.p rfl rfl (WO.p rfl rfl ?_)
                                                                             refine WO.guard_b rfl rfl (fun c17 => ?_) (fun c17 => ?_)
                                                                             · first
                                                                               | (exfalso; omega)
                                                                               | (refine WO.no rfl rfl (WO.no rfl rfl (WO.no rfl rfl (WO.p rfl rfl (WO.p rfl rfl ?_))))
                                                                                  refine WO.nil ?_
                                                                                  refine W.region ?_
                                                                                  refine WO.p rfl rfl (WO.ar rfl rfl rfl (by (first | (unfold in64; omega))) rfl (WO.p rfl rfl ?_))
                                                                                  refine WO.nil ?_
                                                                                  refine' ⟨k + 1, _, ?hp, ?hmu, ⟨rfl, rfl, rfl, rfl, rfl, trivial⟩, ?hS⟩
                                                                                  case hS => repeat (first | exact Sub.nil | refine Sub.cons (by repeat (first | exact Pick.head | apply Pick.tail)) ?_)
                                                                                  case hp => exact ⟨by omega, all_succ (by omega) (0, 0) hok2 (by simp only [okR, decide_eq_true_eq]; omega), by rw [ex_succ (by omega) (0, 0)]; first | (rw [← or_assoc, ← hs2]; simp_all [posR, bl_t]; done)⟩
                                                                                  case hmu => omega)
                                                                             · first
                                                                               | (exfalso; omega)
                                                                               | (refine WO.go' rfl (WO.field0 rfl rfl rfl (WO.go' rfl (WO.load rfl rfl (Cell.own Pick.head rfl) rfl (WO.pg rfl rfl rfl (WO.p rfl rfl (WO.p rfl rfl ?_))))))
                                                                                  refine WO.nil ?_
                                                                                  refine W.region ?_
                                                                                  refine WO.p rfl rfl (WO.ar rfl rfl rfl (by (first | (unfold in64; omega))) rfl (WO.p rfl rfl ?_))
                                                                                  refine WO.nil ?_
                                                                                  refine' ⟨k + 1, _, ?hp, ?hmu, ⟨rfl, rfl, rfl, rfl, rfl, trivial⟩, ?hS⟩
                                                                                  case hS => repeat (first | exact Sub.nil | refine Sub.cons (by repeat (first | exact Pick.head | apply Pick.tail)) ?_)
                                                                                  case hp => exact ⟨by omega, all_succ (by omega) (0, 0) hok2 (by simp only [okR, decide_eq_true_eq]; omega), by rw [ex_succ (by omega) (0, 0)]; first | (rw [← or_assoc, ← hs2]; simp_all [posR, bl_t]; done)⟩
                                                                                  case hmu => omega))))))
                                                    · first
                                                      | (exfalso; omega)
                                                      | (refine W.exit (blk_same ?_)
                                                         refine W.region ?_
                                                         refine WO.p rfl rfl (WO.ar rfl rfl rfl (by (first | (unfold in64; omega))) rfl (WO.p rfl rfl ?_))
                                                         refine WO.nil ?_
                                                         refine' ⟨i + 1, _, ?hp, ?hmu, ⟨rfl, rfl, rfl, rfl, trivial⟩, ?hS⟩
                                                         case hS => repeat (first | exact Sub.nil | refine Sub.cons (by repeat (first | exact Pick.head | apply Pick.tail)) ?_)
                                                         case hp => exact ⟨by omega, all_succ (by omega) [] hok (all_len (by omega) hok2), by rw [ex_succ (by omega) [], hs2, ex_len (l := rows.getD i []) (i := k) (by omega)]⟩
                                                         case hmu => omega))
                                               · first
                                                 | (exfalso; omega)
                                                 | (refine W.exit (blk_same ?_)
                                                    refine W.seq ?_
                                                    refine W.sreg ?_
                                                    refine WO.p rfl rfl (WO.p rfl rfl ?_)
                                                    refine WO.nil ?_
                                                    refine W.cond rfl (fun c18 => ?_) (fun c18 => ?_)
                                                    · first
                                                      | (exfalso; omega)
                                                      | (refine W.sreg ?_
                                                         refine WO.p rfl rfl ?_
                                                         refine WO.nil ?_
                                                         refine W.ret ?_
                                                         refine fin.ret (Res.one rfl (RV.tmp rfl)) ?_
                                                         refine congrArg (Value.int .i64) ?_
                                                         first | exact ck6 (by omega) | exact ck15 (by omega) (not_all_getD (p := fun r => r.length = (rows.getD 0 []).length) (i := i) (by omega) [] (fun h => by have h' : (rows.getD i []).length = (rows.getD 0 []).length := h; omega)) | exact ck2a (by omega) (all_len (by omega) hrows) (by omega) | exact ck2b (by omega) (all_len (by omega) hrows) (not_ok (i := i) (k := k) (by omega) (by omega) (by simp only [okR, decide_eq_true_eq]; omega)) | exact ck2c (by omega) (all_len (by omega) hrows) (by rw [← ex_len (i := i) (by omega), ← hs]; simp_all) | exact ck0 (by omega) (all_len (by omega) hrows) (by omega) (all_len (by omega) hok) (by rw [← ex_len (i := i) (by omega), ← hs]; simp_all))
                                                    · first
                                                      | (exfalso; omega)
                                                      | (refine W.skip ?_
                                                         refine W.sreg ?_
                                                         refine WO.p rfl rfl ?_
                                                         refine WO.nil ?_
                                                         refine W.ret ?_
                                                         refine fin.ret (Res.one rfl (RV.tmp rfl)) ?_
                                                         refine congrArg (Value.int .i64) ?_
                                                         first | exact ck6 (by omega) | exact ck15 (by omega) (not_all_getD (p := fun r => r.length = (rows.getD 0 []).length) (i := i) (by omega) [] (fun h => by have h' : (rows.getD i []).length = (rows.getD 0 []).length := h; omega)) | exact ck2a (by omega) (all_len (by omega) hrows) (by omega) | exact ck2b (by omega) (all_len (by omega) hrows) (not_ok (i := i) (k := k) (by omega) (by omega) (by simp only [okR, decide_eq_true_eq]; omega)) | exact ck2c (by omega) (all_len (by omega) hrows) (by rw [← ex_len (i := i) (by omega), ← hs]; simp_all) | exact ck0 (by omega) (all_len (by omega) hrows) (by omega) (all_len (by omega) hok) (by rw [← ex_len (i := i) (by omega), ← hs]; simp_all))))))))))))
end Go.Proofs.Ytgihklgpehfbpaa

