/-
  What is proved here: contracts of small functions of the laws. Conditions: none; each contract states its own.
-/
import Derived.Test.YtgihklgpehfbpaaB5
import Derived.Test.YtgihklgpehfbpaaB2
namespace Go.Proofs.Ytgihklgpehfbpaa
open Go Go.TH
attribute [local irreducible] W WO pt
set_option maxRecDepth 10000
theorem RdR.nilI (B : Nat) (w : World) : RdR encI 1 B w (.slice none 0 0) [] [] :=
  ⟨⟨⟨by simp, none, 0, rfl, fun h => by simp at h⟩, fun h => by simp at h, fun i x h => by simp at h⟩, rfl, fun i h => by simp at h⟩
theorem law_fine (w : World) (sp st : Int) (o : Value) (rv : List Value) (rows : List (List (Int × Int))) (hR : RdR encP 2 w.heap.size w o rv rows) :
    Ret Try.prog 24 [.agg #[.int .i64 sp, .int .i64 st, o]].toArray w (.bool (!grt rows [] && decide (chkHull sp st rows = 0))) := by
  refine Ret.of mixed tyTab Try.func24 rfl rfl ?_
  replace hR : RdR encP 2 (fnCx mixed tyTab Try.f24.ntmps w).B (fnCx mixed tyTab Try.f24.ntmps w).w0 o rv rows := hR
  refine W.sreg ?_
  refine WO.boxA rfl rfl (fun b1 hb1 => ?_)
  refine WO.p rfl rfl ?_
  refine WO.nil ?_
  refine W.sreg ?_
  refine WO.loadA rfl rfl (Cells.own Pick.head) rfl rfl ?_
  refine WO.callR (r := .bool (grt rows [])) rfl Try.call12 (fun L w hi => law_great w sp st o (.slice none 0 0) rv [] rows [] (hR.later hi) (RdR.nilI _ _)) rfl ?_
  refine WO.p rfl rfl (WO.p rfl rfl ?_)
  refine WO.guard_b rfl rfl (fun c1 => ?_) (fun c1 => ?_)
  · first
    | (exfalso; omega)
    | (refine WO.go' rfl (WO.loadA rfl rfl (Cells.own Pick.head) rfl rfl (WO.go' rfl ?_))
       refine WO.callR rfl Try.call19 (fun L w hi => ref_checkHull w sp st o rv rows (hR.later hi)) rfl ?_
       refine WO.pg rfl rfl rfl (WO.p rfl rfl (WO.p rfl rfl ?_))
       refine WO.nil ?_
       refine W.ret ?_
       refine fin.ret (Res.one rfl (RV.tmp rfl)) ?_
       refine congrArg Value.bool ?_
       simp_all [bl_eq])
  · first
    | (exfalso; omega)
    | (refine WO.no rfl rfl (WO.no rfl rfl (WO.no rfl rfl (WO.p rfl rfl (WO.p rfl rfl ?_))))
       refine WO.nil ?_
       refine W.ret ?_
       refine fin.ret (Res.one rfl (RV.tmp rfl)) ?_
       refine congrArg Value.bool ?_
       simp_all [bl_eq])
theorem law_minus (w : World) (n a b : Int) (hb : 0 < b) (hx : in64 (n * b)) (h0 : 0 ≤ n * b - a) (h1 : in64 (n * b - a)) (h2 : in64 b) :
    Ret Try.prog 32 [.int .i64 n, .agg #[.int .i64 a, .int .i64 b]].toArray w (.agg (encP (red (n * b - a) b)).toArray) := by
  refine Ret.of mixed tyTab Try.func32 rfl rfl ?_
  refine W.sreg ?_
  refine WO.boxA rfl rfl (fun b1 hb1 => ?_)
  refine WO.alloc rfl rfl rfl (fun b2 hb2 => ?_)
  refine WO.nil ?_
  refine W.sreg ?_
  refine WO.p rfl rfl (WO.fieldL rfl rfl rfl (WO.load rfl rfl (Cell.own (Pick.tail (Pick.head)) rfl) rfl (WO.ar rfl rfl rfl (by (first | (unfold in64; omega) | assumption)) rfl (WO.field0 rfl rfl rfl (WO.load rfl rfl (Cell.own (Pick.tail (Pick.head)) rfl) rfl (WO.ar rfl rfl rfl (by (first | (unfold in64; omega) | assumption)) rfl (WO.fieldL rfl rfl rfl (WO.load rfl rfl (Cell.own (Pick.tail (Pick.head)) rfl) rfl ?_))))))))
  refine WO.callR rfl Try.call31 (fun L w hi => ref_Fraction w (n * b - a) b h0 hb h1 h2) rfl ?_
  refine WO.storeA rfl rfl rfl rfl Pick.head rfl rfl ?_
  refine WO.nil ?_
  refine W.ret ?_
  exact fin.ret (Res.one rfl (RV.cell rfl rfl rfl (Cells.own Pick.head))) rfl
theorem isB_p {n d : Int} (h : isB (n, d) = true) : 0 ≤ n ∧ 0 < d ∧ d ≤ 100000000 ∧ in64 n ∧ n ≤ 100000000000 := by
  unfold isB at h
  simp only [decide_eq_true_eq] at h
  unfold in64
  omega
/-- is the first one between the other two? -/
def insQ (v lo hi : Int × Int) : Bool := isB v && isB lo && isB hi && !lessQ v lo && !lessQ hi v
theorem law_inside (w : World) (a b c d e f : Int) :
    Ret Try.prog 30 [.agg #[.int .i64 a, .int .i64 b], .agg #[.int .i64 c, .int .i64 d, .int .i64 e, .int .i64 f]].toArray w (.bool (insQ (a, b) (c, d) (e, f))) := by
  refine Ret.of mixed tyTab Try.func30 rfl rfl ?_
  refine W.sreg ?_
  refine WO.boxA rfl rfl (fun b1 hb1 => ?_)
  refine WO.boxA rfl rfl (fun b2 hb2 => ?_)
  refine WO.p rfl rfl ?_
  refine WO.nil ?_
  refine W.sreg ?_
  refine WO.loadA rfl rfl (Cells.own (Pick.tail (Pick.head))) rfl rfl ?_
  refine WO.callR (r := .bool (isB (a, b))) rfl Try.call26 (fun L w hi => ref_IsBound w a b) rfl ?_
  refine WO.p rfl rfl ?_
  refine WO.guard_b rfl rfl (fun c1 => ?_) (fun c1 => ?_)
  · first
    | (exfalso; omega)
    | (refine WO.go' rfl (WO.field0 rfl rfl rfl (WO.go' rfl (WO.loadA rfl rfl (Cells.ownAt (n := 2) Pick.head rfl) rfl rfl (WO.go' rfl ?_))))
       refine WO.callR (r := .bool (isB (c, d))) rfl Try.call26 (fun L w hi => ref_IsBound w c d) rfl ?_
       refine WO.p rfl rfl (WO.p rfl rfl ?_)
       refine WO.guard_b rfl rfl (fun c2 => ?_) (fun c2 => ?_)
       · first
         | (exfalso; omega)
         | (refine WO.go' rfl (WO.fieldL rfl rfl rfl (WO.go' rfl (WO.loadA rfl rfl (Cells.ownAt (n := 2) Pick.head rfl) rfl rfl (WO.go' rfl ?_))))
            refine WO.callR (r := .bool (isB (e, f))) rfl Try.call26 (fun L w hi => ref_IsBound w e f) rfl ?_
            refine WO.p rfl rfl (WO.p rfl rfl ?_)
            refine WO.guard_b rfl rfl (fun c3 => ?_) (fun c3 => ?_)
            · first
              | (exfalso; omega)
              | (refine WO.go' rfl (WO.loadA rfl rfl (Cells.own (Pick.tail (Pick.head))) rfl rfl (WO.go' rfl (WO.field0 rfl rfl rfl (WO.go' rfl (WO.loadA rfl rfl (Cells.ownAt (n := 2) Pick.head rfl) rfl rfl (WO.go' rfl ?_))))))
                 have i1 := isB_p (n := a) (d := b) (by assumption)
                 have i2 := isB_p (n := c) (d := d) (by assumption)
                 have i3 := isB_p (n := e) (d := f) (by assumption)
                 refine WO.callR (r := .bool (lessQ (a, b) (c, d))) rfl Try.call27 (fun L w hi => ref_Less w a b c d i1.1 i1.2.1 i2.1 i2.2.1 i1.2.2.2.1 i2.2.2.2.1 i1.2.2.1 i2.2.2.1) rfl ?_
                 refine WO.pg rfl rfl rfl (WO.p rfl rfl (WO.p rfl rfl ?_))
                 refine WO.guard_b rfl rfl (fun c4 => ?_) (fun c4 => ?_)
                 · first
                   | (exfalso; omega)
                   | (refine WO.go' rfl (WO.fieldL rfl rfl rfl (WO.go' rfl (WO.loadA rfl rfl (Cells.ownAt (n := 2) Pick.head rfl) rfl rfl (WO.go' rfl (WO.loadA rfl rfl (Cells.own (Pick.tail (Pick.head))) rfl rfl (WO.go' rfl ?_))))))
                      have i1 := isB_p (n := a) (d := b) (by assumption)
                      have i2 := isB_p (n := c) (d := d) (by assumption)
                      have i3 := isB_p (n := e) (d := f) (by assumption)
                      refine WO.callR (r := .bool (lessQ (e, f) (a, b))) rfl Try.call27 (fun L w hi => ref_Less w e f a b i3.1 i3.2.1 i1.1 i1.2.1 i3.2.2.2.1 i1.2.2.2.1 i3.2.2.1 i1.2.2.1) rfl ?_
                      refine WO.pg rfl rfl rfl (WO.p rfl rfl (WO.p rfl rfl ?_))
                      refine WO.nil ?_
                      refine W.ret ?_
                      refine fin.ret (Res.one rfl (RV.tmp rfl)) ?_
                      refine congrArg Value.bool ?_
                      simp_all [insQ])
                 · first
                   | (exfalso; omega)
                   | (refine WO.no rfl rfl (WO.no rfl rfl (WO.no rfl rfl (WO.no rfl rfl (WO.no rfl rfl (WO.p rfl rfl (WO.p rfl rfl ?_))))))
                      refine WO.nil ?_
                      refine W.ret ?_
                      refine fin.ret (Res.one rfl (RV.tmp rfl)) ?_
                      refine congrArg Value.bool ?_
                      simp_all [insQ]))
            · first
              | (exfalso; omega)
              | (refine WO.no rfl rfl (WO.no rfl rfl (WO.no rfl rfl (WO.no rfl rfl (WO.no rfl rfl (WO.p rfl rfl (WO.p rfl rfl (WO.no rfl rfl (WO.no rfl rfl (WO.no rfl rfl (WO.no rfl rfl (WO.no rfl rfl ?_)))))))))))
                 refine WO.p rfl rfl (WO.p rfl rfl ?_)
                 refine WO.nil ?_
                 refine W.ret ?_
                 refine fin.ret (Res.one rfl (RV.tmp rfl)) ?_
                 refine congrArg Value.bool ?_
                 simp_all [insQ]))
       · first
         | (exfalso; omega)
         | (refine WO.no rfl rfl (WO.no rfl rfl (WO.no rfl rfl (WO.p rfl rfl (WO.p rfl rfl (WO.no rfl rfl (WO.no rfl rfl (WO.no rfl rfl (WO.no rfl rfl (WO.no rfl rfl (WO.p rfl rfl (WO.p rfl rfl ?_)))))))))))
            refine WO.no rfl rfl (WO.no rfl rfl (WO.no rfl rfl (WO.no rfl rfl (WO.no rfl rfl (WO.p rfl rfl (WO.p rfl rfl ?_))))))
            refine WO.nil ?_
            refine W.ret ?_
            refine fin.ret (Res.one rfl (RV.tmp rfl)) ?_
            refine congrArg Value.bool ?_
            simp_all [insQ]))
  · first
    | (exfalso; omega)
    | (refine WO.no rfl rfl (WO.no rfl rfl (WO.no rfl rfl (WO.p rfl rfl (WO.p rfl rfl (WO.no rfl rfl (WO.no rfl rfl (WO.no rfl rfl (WO.p rfl rfl (WO.p rfl rfl (WO.no rfl rfl (WO.no rfl rfl ?_)))))))))))
       refine WO.no rfl rfl (WO.no rfl rfl (WO.no rfl rfl (WO.p rfl rfl (WO.p rfl rfl (WO.no rfl rfl (WO.no rfl rfl (WO.no rfl rfl (WO.no rfl rfl (WO.no rfl rfl (WO.p rfl rfl (WO.p rfl rfl ?_)))))))))))
       refine WO.nil ?_
       refine W.ret ?_
       refine fin.ret (Res.one rfl (RV.tmp rfl)) ?_
       refine congrArg Value.bool ?_
       simp_all [insQ])
end Go.Proofs.Ytgihklgpehfbpaa

