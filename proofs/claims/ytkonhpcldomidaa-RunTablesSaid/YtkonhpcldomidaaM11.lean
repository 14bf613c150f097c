/-
  What is proved here: the law of tables. Conditions: none; each contract states its own.
-/
import Derived.Test.YtkonhpcldomidaaM10
import Derived.Test.YtkonhpcldomidaaM8
set_option linter.unusedVariables false
set_option linter.unusedSimpArgs false
namespace Go.Proofs.Ytkonhpcldomidaa
open Go Go.TH
attribute [local irreducible] W WO pt
set_option maxRecDepth 10000
set_option maxHeartbeats 1000000
theorem law_RunTables (w : World) (o u : Value) (a b : Int) (l : List Rn) (xs : List Int) (hR : RdF encR 6 w.heap.size w o l) (hX : RdF encI 1 w.heap.size w u xs) : Ret Try.prog 5 [dayV a b o, u].toArray w (.bool true) := by
  refine Ret.of mixed tyTab Try.func5 rfl rfl ?_
  replace hR : RdF encR 6 (fnCx mixed tyTab Try.f5.ntmps w).B (fnCx mixed tyTab Try.f5.ntmps w).w0 o l := hR
  replace hX : RdF encI 1 (fnCx mixed tyTab Try.f5.ntmps w).B (fnCx mixed tyTab Try.f5.ntmps w).w0 u xs := hX
  have hoc := hR.sl.oc
  refine W.sreg ?_
  refine WO.boxA rfl rfl (fun b1 hb1 => ?_)
  refine WO.p rfl rfl ?_
  refine WO.nil ?_
  refine W.seq ?_
  refine W.sreg ?_
  refine WO.loadA rfl rfl (Cells.own Pick.head) rfl rfl ?_
  refine WO.callR rfl Try.call18 (fun L w hi => law_large w o a b l (hR.later hi)) rfl ?_
  refine WO.p rfl rfl ?_
  refine WO.guard_bl rfl rfl (fun c1 => ?_) (fun c1 => ?_)
  · first
    | (exfalso; omega)
    | (refine WO.no rfl rfl (WO.no rfl rfl (WO.no rfl rfl (WO.p rfl rfl ?_)))
       refine WO.nil ?_
       refine W.cond_t rfl ?_
       refine W.sreg ?_
       refine WO.callR rfl Try.call12 (fun L w hi => l_Works w) rfl ?_
       refine WO.p rfl rfl ?_
       refine WO.nil ?_
       refine W.ret ?_
       exact fin.ret (Res.one rfl (RV.tmp rfl)) rfl)
  first
  | (exfalso; omega)
  | (refine WO.pg rfl rfl rfl (WO.go' rfl ?_)
     refine' WO.len (n := _) rfl rfl ?hs rfl ?_
     case hs => (first | exact hX.sl)
     refine WO.pg rfl rfl rfl (WO.p rfl rfl ?_)
     refine WO.nil ?_
     refine W.cond_bl rfl (fun c2 => ?_) (fun c2 => ?_)
     · first
       | (exfalso; omega)
       | (refine W.sreg ?_
          refine WO.callR rfl Try.call12 (fun L w hi => l_Works w) rfl ?_
          refine WO.p rfl rfl ?_
          refine WO.nil ?_
          refine W.ret ?_
          exact fin.ret (Res.one rfl (RV.tmp rfl)) rfl)
     first
     | (exfalso; omega)
     | (refine W.skip ?_
        refine W.sreg ?_
        refine WO.loadA rfl rfl (Cells.own Pick.head) rfl rfl (WO.p rfl rfl ?_)
        refine WO.callR (r := .tuple #[.int .i64 (ctM b l xs a), .int .i64 (ctE b l xs a)]) rfl Try.call24 (fun L w hi => c_CheckTable w o u a b l xs (hR.later hi) (hX.later hi)) rfl ?_
        refine WO.p rfl rfl (WO.p rfl rfl (WO.p rfl rfl (WO.p rfl rfl (WO.p rfl rfl ?_))))
        refine WO.nil ?_
        refine W.sreg ?_
        refine WO.loadA rfl rfl (Cells.own Pick.head) rfl rfl (WO.p rfl rfl ?_)
        refine WO.callR (r := .tuple #[.int .i64 (ctM b l xs a), .int .i64 (ctE b l xs a)]) rfl Try.call25 (fun L w hi => ref_CheckTable w o u a b l xs (hR.later hi) (hX.later hi)) rfl ?_
        refine WO.p rfl rfl (WO.p rfl rfl (WO.p rfl rfl (WO.p rfl rfl (WO.p rfl rfl ?_))))
        refine WO.nil ?_
        refine W.sreg ?_
        refine WO.p rfl rfl (WO.p rfl rfl (WO.p rfl rfl (WO.p rfl rfl ?_)))
        refine WO.guard_bl rfl rfl (fun c3 => ?_) (fun c3 => ?_)
        · first
          | (exfalso; omega)
          | (refine WO.pg rfl rfl rfl (WO.pg rfl rfl rfl (WO.pg rfl rfl rfl (WO.p rfl rfl (WO.p rfl rfl ?_))))
             refine WO.guard_bl rfl rfl (fun c4 => ?_) (fun c4 => ?_)
             · first
               | (exfalso; omega)
               | (refine WO.go' rfl ?_
                  refine WO.callR rfl Try.call12 (fun L w hi => l_Works w) rfl ?_
                  refine WO.p rfl rfl (WO.p rfl rfl ?_)
                  refine WO.nil ?_
                  refine W.ret ?_
                  exact fin.ret (Res.one rfl (RV.tmp rfl)) rfl)
             first
             | (exfalso; omega)
             | (refine WO.no rfl rfl (WO.p rfl rfl (WO.p rfl rfl ?_))
                refine WO.nil ?_
                refine W.ret ?_
                exact fin.ret (Res.one rfl (RV.tmp rfl)) rfl))
        first
        | (exfalso; omega)
        | (refine WO.no rfl rfl (WO.no rfl rfl (WO.no rfl rfl (WO.p rfl rfl (WO.p rfl rfl (WO.no rfl rfl (WO.p rfl rfl (WO.p rfl rfl ?_)))))))
           refine WO.nil ?_
           refine W.ret ?_
           exact fin.ret (Res.one rfl (RV.tmp rfl)) rfl)))
end Go.Proofs.Ytkonhpcldomidaa
