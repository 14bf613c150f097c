/-
  What is proved here: the reference's test of a bound. Conditions: none; each contract states its own.
-/
import Derived.Test.YtgihklgpehfbpaaB12
namespace Go.Proofs.Ytgihklgpehfbpaa
open Go Go.TH
attribute [local irreducible] W WO pt
set_option maxRecDepth 10000
/-- what CheckBound answers -/
def chkBound (sp st what num den : Int) (high : Bool) (rows : List (List (Int × Int))) : Int :=
  if chkHull sp st rows ≠ 0 then chkHull sp st rows else if what < 0 ∨ 2 < what then 3 else if isB (num, den) = false then 2
  else if (high = true ∧ 0 < partS what sp st num den high rows rows.length) ∨ (high = false ∧ partS what sp st num den high rows rows.length < 0) then 14 else 0
section
variable {sp st what num den : Int} {high : Bool} {rows : List (List (Int × Int))}
theorem cb1 (h : chkHull sp st rows ≠ 0) : chkHull sp st rows = chkBound sp st what num den high rows := by rw [chkBound, if_pos h]
theorem cb2 (h : ¬ chkHull sp st rows ≠ 0) (h1 : what < 0 ∨ 2 < what) : 3 = chkBound sp st what num den high rows := by rw [chkBound, if_neg h, if_pos h1]
theorem cb3 (h : ¬ chkHull sp st rows ≠ 0) (h1 : ¬ (what < 0 ∨ 2 < what)) (h2 : isB (num, den) = false) : 2 = chkBound sp st what num den high rows := by rw [chkBound, if_neg h, if_neg h1, if_pos h2]
theorem cb4 (h : ¬ chkHull sp st rows ≠ 0) (h1 : ¬ (what < 0 ∨ 2 < what)) (h2 : isB (num, den) = true) (h3 : (high = true ∧ 0 < partS what sp st num den high rows rows.length) ∨ (high = false ∧ partS what sp st num den high rows rows.length < 0)) : 14 = chkBound sp st what num den high rows := by
  rw [chkBound, if_neg h, if_neg h1, if_neg (by simp [h2]), if_pos h3]
theorem cb5 (h : ¬ chkHull sp st rows ≠ 0) (h1 : ¬ (what < 0 ∨ 2 < what)) (h2 : isB (num, den) = true) (h3 : ¬ ((high = true ∧ 0 < partS what sp st num den high rows rows.length) ∨ (high = false ∧ partS what sp st num den high rows rows.length < 0))) : 0 = chkBound sp st what num den high rows := by
  rw [chkBound, if_neg h, if_neg h1, if_neg (by simp [h2]), if_neg h3]
end
theorem ref_CheckBound (w : World) (sp st what num den : Int) (high : Bool) (o : Value) (rv : List Value) (rows : List (List (Int × Int))) (hR : RdR encP 2 w.heap.size w o rv rows) :
    Ret Try.prog 23 [.agg #[.int .i64 sp, .int .i64 st, o], .int .i64 what, .agg #[.int .i64 num, .int .i64 den], .bool high].toArray w (.int .i64 (chkBound sp st what num den high rows)) := by
  refine Ret.of mixed tyTab Try.func23 rfl rfl ?_
  replace hR : RdR encP 2 (fnCx mixed tyTab Try.f23.ntmps w).B (fnCx mixed tyTab Try.f23.ntmps w).w0 o rv rows := hR
  refine W.sreg ?_
  refine WO.boxA rfl rfl (fun b1 hb1 => ?_)
  refine WO.boxA rfl rfl (fun b2 hb2 => ?_)
  refine WO.p rfl rfl ?_
  refine WO.nil ?_
  refine W.seq ?_
  refine W.sreg ?_
  refine WO.loadA rfl rfl (Cells.own (Pick.tail (Pick.head))) rfl rfl ?_
  refine WO.callR (r := .int .i64 (chkHull sp st rows)) rfl Try.call19 (fun L w hi => ref_checkHull w sp st o rv rows (hR.later hi)) rfl ?_
  refine WO.p rfl rfl ?_
  refine WO.nil ?_
  refine W.cond_bl rfl (fun c1 => ?_) (fun c1 => ?_)
  · first
    | (exfalso; omega)
    | (refine W.sreg ?_
       refine WO.loadA rfl rfl (Cells.own (Pick.tail (Pick.head))) rfl rfl ?_
       refine WO.callR (r := .int .i64 (chkHull sp st rows)) rfl Try.call19 (fun L w hi => ref_checkHull w sp st o rv rows (hR.later hi)) rfl ?_
       refine WO.p rfl rfl ?_
       refine WO.nil ?_
       refine W.ret ?_
       refine fin.ret (Res.one rfl (RV.tmp rfl)) ?_
       refine congrArg (Value.int .i64) ?_
       first | exact cb1 (by assumption) | exact cb2 (by assumption) (by omega) | exact cb3 (by assumption) (by omega) (by simp_all) | exact cb4 (by assumption) (by omega) (by simp_all) (by simp_all) | exact cb5 (by assumption) (by omega) (by simp_all) (by rintro (h | h) <;> first | omega | (simp_all; done)))
  · first
    | (exfalso; omega)
    | (refine W.skip ?_
       refine W.seq ?_
       refine W.sreg ?_
       refine WO.p rfl rfl (WO.p rfl rfl (WO.p rfl rfl ?_))
       refine WO.guard_bl rfl rfl (fun c2 => ?_) (fun c2 => ?_)
       · first
         | (exfalso; omega)
         | (refine WO.no rfl rfl (WO.no rfl rfl (WO.p rfl rfl ?_))
            refine WO.nil ?_
            refine W.cond_t rfl ?_
            refine W.sreg ?_
            refine WO.p rfl rfl ?_
            refine WO.nil ?_
            refine W.ret ?_
            refine fin.ret (Res.one rfl (RV.tmp rfl)) ?_
            refine congrArg (Value.int .i64) ?_
            first | exact cb1 (by assumption) | exact cb2 (by assumption) (by omega) | exact cb3 (by assumption) (by omega) (by simp_all) | exact cb4 (by assumption) (by omega) (by simp_all) (by simp_all) | exact cb5 (by assumption) (by omega) (by simp_all) (by rintro (h | h) <;> first | omega | (simp_all; done)))
       · first
         | (exfalso; omega)
         | (refine WO.pg rfl rfl rfl (WO.pg rfl rfl rfl (WO.p rfl rfl ?_))
            refine WO.nil ?_
            refine W.cond_bl rfl (fun c3 => ?_) (fun c3 => ?_)
            · first
              | (exfalso; omega)
              | (refine W.sreg ?_
                 refine WO.p rfl rfl ?_
                 refine WO.nil ?_
                 refine W.ret ?_
                 refine fin.ret (Res.one rfl (RV.tmp rfl)) ?_
                 refine congrArg (Value.int .i64) ?_
                 first | exact cb1 (by assumption) | exact cb2 (by assumption) (by omega) | exact cb3 (by assumption) (by omega) (by simp_all) | exact cb4 (by assumption) (by omega) (by simp_all) (by simp_all) | exact cb5 (by assumption) (by omega) (by simp_all) (by rintro (h | h) <;> first | omega | (simp_all; done)))
            · first
              | (exfalso; omega)
              | (refine W.skip ?_
                 refine W.seq ?_
                 refine W.sreg ?_
                 refine WO.loadA rfl rfl (Cells.own Pick.head) rfl rfl ?_
                 refine WO.callR (r := .bool (isB (num, den))) rfl Try.call26 (fun L w hi => ref_IsBound w num den) rfl ?_
                 refine WO.p rfl rfl ?_
                 refine WO.nil ?_
                 refine W.cond rfl (fun c4 => ?_) (fun c4 => ?_)
                 · first
                   | (exfalso; omega)
                   | (refine W.sreg ?_
                      refine WO.p rfl rfl ?_
                      refine WO.nil ?_
                      refine W.ret ?_
                      refine fin.ret (Res.one rfl (RV.tmp rfl)) ?_
                      refine congrArg (Value.int .i64) ?_
                      first | exact cb1 (by assumption) | exact cb2 (by assumption) (by omega) | exact cb3 (by assumption) (by omega) (by simp_all) | exact cb4 (by assumption) (by omega) (by simp_all) (by simp_all) | exact cb5 (by assumption) (by omega) (by simp_all) (by rintro (h | h) <;> first | omega | (simp_all; done)))
                 · first
                   | (exfalso; omega)
                   | (refine W.skip ?_
                      refine W.sreg ?_
                      refine WO.loadA rfl rfl (Cells.own (Pick.tail (Pick.head))) rfl rfl (WO.p rfl rfl (WO.loadA rfl rfl (Cells.own Pick.head) rfl rfl (WO.p rfl rfl ?_)))
                      have ib := isB_p (n := num) (d := den) (by simp_all)
                      refine WO.callR rfl Try.call49 (fun L w hi => ref_part w sp st what num den high o rv rows (hR.later hi) (HV.of (by omega)) ⟨by omega, by omega, by omega, by omega⟩ (by omega)) rfl ?_
                      refine WO.p rfl rfl ?_
                      refine WO.nil ?_
                      refine W.seq ?_
                      refine W.sreg ?_
                      refine WO.p rfl rfl (WO.p rfl rfl ?_)
                      refine WO.guard_b rfl rfl (fun c5 => ?_) (fun c5 => ?_)
                      · first
                        | (exfalso; omega)
                        | (refine WO.pg rfl rfl rfl (WO.pg rfl rfl rfl (WO.p rfl rfl (WO.p rfl rfl ?_)))
                           refine WO.guard_bl rfl rfl (fun c6 => ?_) (fun c6 => ?_)
                           · first
                             | (exfalso; omega)
                             | (refine WO.no rfl rfl (WO.no rfl rfl (WO.no rfl rfl (WO.no rfl rfl (WO.no rfl rfl (WO.no rfl rfl (WO.p rfl rfl ?_))))))
                                refine WO.nil ?_
                                refine W.cond_t rfl ?_
                                refine W.sreg ?_
                                refine WO.p rfl rfl ?_
                                refine WO.nil ?_
                                refine W.ret ?_
                                refine fin.ret (Res.one rfl (RV.tmp rfl)) ?_
                                refine congrArg (Value.int .i64) ?_
                                first | exact cb1 (by assumption) | exact cb2 (by assumption) (by omega) | exact cb3 (by assumption) (by omega) (by simp_all) | exact cb4 (by assumption) (by omega) (by simp_all) (by simp_all) | exact cb5 (by assumption) (by omega) (by simp_all) (by rintro (h | h) <;> first | omega | (simp_all; done)))
                           · first
                             | (exfalso; omega)
                             | (refine WO.pg rfl rfl rfl (WO.pg rfl rfl rfl (WO.pg rfl rfl rfl ?_))
                                refine WO.guard_b rfl rfl (fun c7 => ?_) (fun c7 => ?_)
                                · first
                                  | (exfalso; omega)
                                  | (refine WO.pg rfl rfl rfl (WO.pg rfl rfl rfl (WO.pg rfl rfl rfl (WO.p rfl rfl ?_)))
                                     refine WO.nil ?_
                                     refine W.cond_bl rfl (fun c8 => ?_) (fun c8 => ?_)
                                     · first
                                       | (exfalso; omega)
                                       | (refine W.sreg ?_
                                          refine WO.p rfl rfl ?_
                                          refine WO.nil ?_
                                          refine W.ret ?_
                                          refine fin.ret (Res.one rfl (RV.tmp rfl)) ?_
                                          refine congrArg (Value.int .i64) ?_
                                          first | exact cb1 (by assumption) | exact cb2 (by assumption) (by omega) | exact cb3 (by assumption) (by omega) (by simp_all) | exact cb4 (by assumption) (by omega) (by simp_all) (by simp_all) | exact cb5 (by assumption) (by omega) (by simp_all) (by rintro (h | h) <;> first | omega | (simp_all; done)))
                                     · first
                                       | (exfalso; omega)
                                       | (refine W.skip ?_
                                          refine W.sreg ?_
                                          refine WO.p rfl rfl ?_
                                          refine WO.nil ?_
                                          refine W.ret ?_
                                          refine fin.ret (Res.one rfl (RV.tmp rfl)) ?_
                                          refine congrArg (Value.int .i64) ?_
                                          first | exact cb1 (by assumption) | exact cb2 (by assumption) (by omega) | exact cb3 (by assumption) (by omega) (by simp_all) | exact cb4 (by assumption) (by omega) (by simp_all) (by simp_all) | exact cb5 (by assumption) (by omega) (by simp_all) (by rintro (h | h) <;> first | omega | (simp_all; done))))
                                · first
                                  | (exfalso; omega)
                                  | (refine WO.no rfl rfl (WO.no rfl rfl (WO.pg rfl rfl rfl (WO.p rfl rfl ?_)))
                                     refine WO.nil ?_
                                     refine W.cond_f rfl ?_
                                     refine W.skip ?_
                                     refine W.sreg ?_
                                     refine WO.p rfl rfl ?_
                                     refine WO.nil ?_
                                     refine W.ret ?_
                                     refine fin.ret (Res.one rfl (RV.tmp rfl)) ?_
                                     refine congrArg (Value.int .i64) ?_
                                     first | exact cb1 (by assumption) | exact cb2 (by assumption) (by omega) | exact cb3 (by assumption) (by omega) (by simp_all) | exact cb4 (by assumption) (by omega) (by simp_all) (by simp_all) | exact cb5 (by assumption) (by omega) (by simp_all) (by rintro (h | h) <;> first | omega | (simp_all; done)))))
                      · first
                        | (exfalso; omega)
                        | (refine WO.no rfl rfl (WO.no rfl rfl (WO.p rfl rfl (WO.p rfl rfl (WO.pg rfl rfl rfl (WO.pg rfl rfl rfl (WO.pg rfl rfl rfl ?_))))))
                           refine WO.guard_b rfl rfl (fun c9 => ?_) (fun c9 => ?_)
                           · first
                             | (exfalso; omega)
                             | (refine WO.pg rfl rfl rfl (WO.pg rfl rfl rfl (WO.pg rfl rfl rfl (WO.p rfl rfl ?_)))
                                refine WO.nil ?_
                                refine W.cond_bl rfl (fun c10 => ?_) (fun c10 => ?_)
                                · first
                                  | (exfalso; omega)
                                  | (refine W.sreg ?_
                                     refine WO.p rfl rfl ?_
                                     refine WO.nil ?_
                                     refine W.ret ?_
                                     refine fin.ret (Res.one rfl (RV.tmp rfl)) ?_
                                     refine congrArg (Value.int .i64) ?_
                                     first | exact cb1 (by assumption) | exact cb2 (by assumption) (by omega) | exact cb3 (by assumption) (by omega) (by simp_all) | exact cb4 (by assumption) (by omega) (by simp_all) (by simp_all) | exact cb5 (by assumption) (by omega) (by simp_all) (by rintro (h | h) <;> first | omega | (simp_all; done)))
                                · first
                                  | (exfalso; omega)
                                  | (refine W.skip ?_
                                     refine W.sreg ?_
                                     refine WO.p rfl rfl ?_
                                     refine WO.nil ?_
                                     refine W.ret ?_
                                     refine fin.ret (Res.one rfl (RV.tmp rfl)) ?_
                                     refine congrArg (Value.int .i64) ?_
                                     first | exact cb1 (by assumption) | exact cb2 (by assumption) (by omega) | exact cb3 (by assumption) (by omega) (by simp_all) | exact cb4 (by assumption) (by omega) (by simp_all) (by simp_all) | exact cb5 (by assumption) (by omega) (by simp_all) (by rintro (h | h) <;> first | omega | (simp_all; done))))
                           · first
                             | (exfalso; omega)
                             | (refine WO.no rfl rfl (WO.no rfl rfl (WO.pg rfl rfl rfl (WO.p rfl rfl ?_)))
                                refine WO.nil ?_
                                refine W.cond_f rfl ?_
                                refine W.skip ?_
                                refine W.sreg ?_
                                refine WO.p rfl rfl ?_
                                refine WO.nil ?_
                                refine W.ret ?_
                                refine fin.ret (Res.one rfl (RV.tmp rfl)) ?_
                                refine congrArg (Value.int .i64) ?_
                                first | exact cb1 (by assumption) | exact cb2 (by assumption) (by omega) | exact cb3 (by assumption) (by omega) (by simp_all) | exact cb4 (by assumption) (by omega) (by simp_all) (by simp_all) | exact cb5 (by assumption) (by omega) (by simp_all) (by rintro (h | h) <;> first | omega | (simp_all; done))))))))
end Go.Proofs.Ytgihklgpehfbpaa

