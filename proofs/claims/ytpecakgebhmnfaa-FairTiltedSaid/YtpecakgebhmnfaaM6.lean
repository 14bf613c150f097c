/-
  What is proved here: the functions of the laws. Conditions: none; each contract states its own.
  What is proved here: the examples hold. Conditions: none; each contract states its own.
  What is proved here: the law of measures. Conditions: none; each contract states its own.
  What is proved here: how the arguments of the laws read. Conditions: none.
-/
import Derived.Test.YtpecakgebhmnfaaM5
import Derived.Test.YtpecakgebhmnfaaM7
import Derived.Deep.Strs
import Derived.OpenShut
set_option linter.unusedVariables false
set_option linter.unusedSimpArgs false
namespace Go.Proofs.Ytpecakgebhmnfaa
open Go Go.TH
attribute [local irreducible] W WO pt
set_option maxRecDepth 10000
set_option maxHeartbeats 1000000
def encU (n : Int) : List Value := [.int .u8 n]
theorem law_longs (w : World) (u v : Value) (xs ys : List Int) (hx : RdF encI 1 w.heap.size w u xs) (hy : RdF encI 1 w.heap.size w v ys) : Ret Try.prog 23 [u, v].toArray w (.bool (bl (xs = ys))) := by
  refine Ret.of mixed tyTab Try.func23 rfl rfl ?_
  replace hx : RdF encI 1 (fnCx mixed tyTab Try.f23.ntmps w).B (fnCx mixed tyTab Try.f23.ntmps w).w0 u xs := hx
  replace hy : RdF encI 1 (fnCx mixed tyTab Try.f23.ntmps w).B (fnCx mixed tyTab Try.f23.ntmps w).w0 v ys := hy
  have hlx := hx.sl.le
  have hly := hy.sl.le
  refine W.sreg ?_
  refine WO.p rfl rfl ?_
  refine WO.nil ?_
  refine W.seq ?_
  refine W.sreg ?_
  refine WO.p rfl rfl ?_
  refine' WO.len (n := _) rfl rfl ?hs rfl ?_
  case hs => (first | exact hx.sl | exact hy.sl)
  refine WO.p rfl rfl ?_
  refine' WO.len (n := _) rfl rfl ?hs rfl ?_
  case hs => (first | exact hx.sl | exact hy.sl)
  refine WO.p rfl rfl ?_
  refine WO.nil ?_
  refine W.cond_bl rfl (fun c1 => ?_) (fun c1 => ?_)
  · first
    | (exfalso; omega)
    | (refine W.sreg ?_
       refine WO.p rfl rfl ?_
       refine WO.nil ?_
       refine W.ret ?_
       refine fin.ret (Res.one rfl (RV.tmp rfl)) (congrArg Value.bool ?_)
       first | exact (bl_f.2 (fun e => by subst e; omega)).symm | exact (bl_t.2 (list_eqD (by omega) (fun k hk => hal k (by omega)))).symm)
  · first
    | (exfalso; omega)
    | (refine W.skip ?_
       refine W.seq ?_
       refine W.sreg ?_
       refine WO.p rfl rfl ?_
       refine WO.nil ?_
       refine W.block ?_
       refine W.loop (fun (i : Nat) => i ≤ xs.length ∧ ∀ k, k < i → xs.getD k 0 = ys.getD k 0)
         (fun (i : Nat) => [(5, .int .i64 (i : Int)), (0, u), (1, v)])
         (fun (i : Nat) => [])
         (fun (i : Nat) => xs.length - i) 0
         (by exact ⟨by omega, fun k hk => by omega⟩) ⟨rfl, rfl, rfl, trivial⟩ (by repeat (first | exact Sub.nil | refine Sub.cons (by repeat (first | exact Pick.head | apply Pick.tail)) ?_)) ?_
       rintro i ⟨hi, hal⟩
       refine W.seq ?_
       refine W.sreg ?_
       refine WO.p rfl rfl (WO.p rfl rfl ?_)
       refine' WO.len (n := _) rfl rfl ?hs rfl ?_
       case hs => (first | exact hx.sl | exact hy.sl)
       refine WO.p rfl rfl ?_
       refine WO.nil ?_
       refine W.cond_bl rfl (fun c2 => ?_) (fun c2 => ?_)
       · first
         | (exfalso; omega)
         | (refine W.skip ?_
            refine W.seq ?_
            refine W.block ?_
            refine W.seq ?_
            refine W.drawD 8 [.r 0 [], .r 1 [], .r 2 [], .b 3 [], .r 4 [], .r 5 [], .r 6 [], .b 7 []] [] (A0 := []) (Sub.refl _) (by kernel_rfl) ?_ ?_
            · exact (ALok.r (ALok.r (ALok.r (ALok.b (ALok.r (ALok.r (ALok.r (ALok.b ALok.nil))))))))
            refine' DT.r rfl rfl rfl ?hq ?_
            case hq =>
              refine WO.p rfl rfl ?_
              exact WO.nil ⟨rfl, rfl⟩
            refine' DT.r rfl rfl rfl ?hq ?_
            case hq =>
              refine WO.p rfl rfl ?_
              exact WO.nil ⟨rfl, rfl⟩
            refine' DT.r rfl rfl rfl ?hq ?_
            case hq =>
              refine' WO.indexAddr (n := _) (i := _) rfl rfl rfl ?hs ?h1 rfl ?_
              case hs => (first | exact hx.sl | exact hy.sl)
              case h1 => (first | omega | (simp; omega))
              exact WO.nil ⟨rfl, rfl⟩
            refine' DT.b rfl rfl rfl ?hq ?_
            case hq =>
              refine' WO.load (v := _) rfl rfl ?hc rfl ?_
              case hc => (first | (refine hx.cell0 ?_ 0 ?_ <;> first | rfl | omega) | (refine hy.cell0 ?_ 0 ?_ <;> first | rfl | omega))
              exact WO.nil ⟨rfl, rfl⟩
            refine' DT.r rfl rfl rfl ?hq ?_
            case hq =>
              refine WO.p rfl rfl ?_
              exact WO.nil ⟨rfl, rfl⟩
            refine' DT.r rfl rfl rfl ?hq ?_
            case hq =>
              refine WO.p rfl rfl ?_
              exact WO.nil ⟨rfl, rfl⟩
            refine' DT.r rfl rfl rfl ?hq ?_
            case hq =>
              refine' WO.indexAddr (n := _) (i := _) rfl rfl rfl ?hs ?h1 rfl ?_
              case hs => (first | exact hx.sl | exact hy.sl)
              case h1 => (first | omega | (simp; omega))
              exact WO.nil ⟨rfl, rfl⟩
            refine' DT.b rfl rfl rfl ?hq ?_
            case hq =>
              refine' WO.load (v := _) rfl rfl ?hc rfl ?_
              case hc => (first | (refine hx.cell0 ?_ 0 ?_ <;> first | rfl | omega) | (refine hy.cell0 ?_ 0 ?_ <;> first | rfl | omega))
              exact WO.nil ⟨rfl, rfl⟩
            refine DT.nil [] rfl ?_
            refine WO.p rfl rfl ?_
            refine WO.nil ?_
            refine W.cond_bl rfl (fun c3 => ?_) (fun c3 => ?_)
            · first
              | (exfalso; omega)
              | (refine W.sreg ?_
                 refine WO.p rfl rfl ?_
                 refine WO.nil ?_
                 refine W.ret ?_
                 refine fin.ret (Res.one rfl (RV.tmp rfl)) (congrArg Value.bool ?_)
                 first | exact (bl_f.2 (fun e => by subst e; omega)).symm | exact (bl_t.2 (list_eqD (by omega) (fun k hk => hal k (by omega)))).symm)
            · first
              | (exfalso; omega)
              | (refine W.skip ?_
                 refine W.region ?_
                 refine WO.p rfl rfl (WO.ar rfl rfl rfl (by (first | (unfold in64; omega) | (unfold in64; omega))) rfl (WO.p rfl rfl ?_))
                 refine WO.nil ?_
                 refine' ⟨i + 1, ?hp, ?hmu, ⟨rfl, rfl, rfl, trivial⟩, ?hS⟩
                 case hS => repeat (first | exact Sub.nil | refine Sub.cons (by repeat (first | exact Pick.head | apply Pick.tail)) ?_)
                 case hp => exact ⟨by omega, fun k hk => by (rcases Nat.lt_or_ge k i with h | h; exact hal k h; obtain rfl : k = i := (by omega); omega)⟩
                 case hmu => omega))
       · first
         | (exfalso; omega)
         | (refine W.exit (blk_same ?_)
            refine W.sreg ?_
            refine WO.p rfl rfl ?_
            refine WO.nil ?_
            refine W.ret ?_
            refine fin.ret (Res.one rfl (RV.tmp rfl)) (congrArg Value.bool ?_)
            first | exact (bl_f.2 (fun e => by subst e; omega)).symm | exact (bl_t.2 (list_eqD (by omega) (fun k hk => hal k (by omega)))).symm))
theorem ne51 (a b c d : Int) : EqT Try.prog .neq 51 (.agg #[.int .i64 a, .int .i64 b]) (.agg #[.int .i64 c, .int .i64 d]) (.bool (bl ((a, b) ≠ (c, d)))) := by
  intro x y w
  simp [eqGuard, binOp, Op.equal, Op.maxDepth, go_sem, Try.underlying51]
  by_cases h1 : a = c <;> by_cases h2 : b = d <;> simp [h1, h2, bl_eq]
theorem eq51 (a b c d : Int) : EqT Try.prog .eql 51 (.agg #[.int .i64 a, .int .i64 b]) (.agg #[.int .i64 c, .int .i64 d]) (.bool (bl ((a, b) = (c, d)))) := by
  intro x y w
  simp [eqGuard, binOp, Op.equal, Op.maxDepth, go_sem, Try.underlying51]
  by_cases h1 : a = c <;> by_cases h2 : b = d <;> simp [h1, h2, bl_eq]
theorem list_eqP {xs ys : List (Int × Int)} (hl : xs.length = ys.length) (h : ∀ j, j < xs.length → xs.getD j (0, 0) = ys.getD j (0, 0)) : xs = ys := by
  refine List.ext_getElem hl fun j h1 h2 => ?_
  have := h j h1
  rw [List.getD_eq_getElem?_getD, List.getD_eq_getElem?_getD, List.getElem?_eq_getElem h1, List.getElem?_eq_getElem h2] at this
  exact this
theorem law_ranges (w : World) (u v : Value) (xs ys : List (Int × Int)) (hx : RdF encP 2 w.heap.size w u xs) (hy : RdF encP 2 w.heap.size w v ys) : Ret Try.prog 31 [u, v].toArray w (.bool (bl (xs = ys))) := by
  refine Ret.of mixed tyTab Try.func31 rfl rfl ?_
  replace hx : RdF encP 2 (fnCx mixed tyTab Try.f31.ntmps w).B (fnCx mixed tyTab Try.f31.ntmps w).w0 u xs := hx
  replace hy : RdF encP 2 (fnCx mixed tyTab Try.f31.ntmps w).B (fnCx mixed tyTab Try.f31.ntmps w).w0 v ys := hy
  have hlx := hx.sl.le
  have hly := hy.sl.le
  refine W.sreg ?_
  refine WO.p rfl rfl ?_
  refine WO.nil ?_
  refine W.seq ?_
  refine W.sreg ?_
  refine WO.p rfl rfl ?_
  refine' WO.len (n := _) rfl rfl ?hs rfl ?_
  case hs => (first | exact hx.sl | exact hy.sl)
  refine WO.p rfl rfl ?_
  refine' WO.len (n := _) rfl rfl ?hs rfl ?_
  case hs => (first | exact hx.sl | exact hy.sl)
  refine WO.p rfl rfl ?_
  refine WO.nil ?_
  refine W.cond_bl rfl (fun c1 => ?_) (fun c1 => ?_)
  · first
    | (exfalso; omega)
    | (refine W.sreg ?_
       refine WO.p rfl rfl ?_
       refine WO.nil ?_
       refine W.ret ?_
       refine fin.ret (Res.one rfl (RV.tmp rfl)) (congrArg Value.bool ?_)
       first | exact (bl_f.2 (fun e => by subst e; omega)).symm | exact (bl_f.2 (fun e => by subst e; exact absurd rfl (by assumption))).symm | exact (bl_t.2 (list_eqP (by omega) (fun k hk => hal k (by omega)))).symm)
  · first
    | (exfalso; omega)
    | (refine W.skip ?_
       refine W.seq ?_
       refine W.sreg ?_
       refine WO.p rfl rfl ?_
       refine WO.nil ?_
       refine W.block ?_
       refine W.loop (fun (i : Nat) => i ≤ xs.length ∧ ∀ k, k < i → xs.getD k (0, 0) = ys.getD k (0, 0))
         (fun (i : Nat) => [(5, .int .i64 (i : Int)), (0, u), (1, v)])
         (fun (i : Nat) => [])
         (fun (i : Nat) => xs.length - i) 0
         (by exact ⟨by omega, fun k hk => by omega⟩) ⟨rfl, rfl, rfl, trivial⟩ (by repeat (first | exact Sub.nil | refine Sub.cons (by repeat (first | exact Pick.head | apply Pick.tail)) ?_)) ?_
       rintro i ⟨hi, hal⟩
       refine W.seq ?_
       refine W.sreg ?_
       refine WO.p rfl rfl (WO.p rfl rfl ?_)
       refine' WO.len (n := _) rfl rfl ?hs rfl ?_
       case hs => (first | exact hx.sl | exact hy.sl)
       refine WO.p rfl rfl ?_
       refine WO.nil ?_
       refine W.cond_bl rfl (fun c2 => ?_) (fun c2 => ?_)
       · first
         | (exfalso; omega)
         | (refine W.skip ?_
            refine W.seq ?_
            refine W.block ?_
            refine W.seq ?_
            refine W.drawD 8 [.r 0 [], .r 1 [], .r 2 [], .b 3 [], .r 4 [], .r 5 [], .r 6 [], .b 7 []] [] (A0 := []) (Sub.refl _) (by kernel_rfl) ?_ ?_
            · exact (ALok.r (ALok.r (ALok.r (ALok.b (ALok.r (ALok.r (ALok.r (ALok.b ALok.nil))))))))
            refine' DT.r rfl rfl rfl ?hq ?_
            case hq =>
              refine WO.p rfl rfl ?_
              exact WO.nil ⟨rfl, rfl⟩
            refine' DT.r rfl rfl rfl ?hq ?_
            case hq =>
              refine WO.p rfl rfl ?_
              exact WO.nil ⟨rfl, rfl⟩
            refine' DT.r rfl rfl rfl ?hq ?_
            case hq =>
              refine' WO.indexAddr (n := _) (i := _) rfl rfl rfl ?hs ?h1 rfl ?_
              case hs => (first | exact hx.sl | exact hy.sl)
              case h1 => (first | omega | (simp; omega))
              exact WO.nil ⟨rfl, rfl⟩
            refine' DT.b rfl rfl rfl ?hq ?_
            case hq =>
              refine' WO.loadA (vs := _) rfl rfl ?hc ?hl rfl ?_
              case hc => (first | exact hx.cells (i := i) (by omega) (0, 0))
              case hl => rfl
              exact WO.nil ⟨rfl, rfl⟩
            refine' DT.r rfl rfl rfl ?hq ?_
            case hq =>
              refine WO.p rfl rfl ?_
              exact WO.nil ⟨rfl, rfl⟩
            refine' DT.r rfl rfl rfl ?hq ?_
            case hq =>
              refine WO.p rfl rfl ?_
              exact WO.nil ⟨rfl, rfl⟩
            refine' DT.r rfl rfl rfl ?hq ?_
            case hq =>
              refine' WO.indexAddr (n := _) (i := _) rfl rfl rfl ?hs ?h1 rfl ?_
              case hs => (first | exact hx.sl | exact hy.sl)
              case h1 => (first | omega | (simp; omega))
              exact WO.nil ⟨rfl, rfl⟩
            refine' DT.b rfl rfl rfl ?hq ?_
            case hq =>
              refine' WO.loadA (vs := _) rfl rfl ?hc ?hl rfl ?_
              case hc => (first | exact hy.cells (i := i) (by omega) (0, 0))
              case hl => rfl
              exact WO.nil ⟨rfl, rfl⟩
            refine DT.nil [] rfl ?_
            refine WO.eqT rfl rfl (ne51 (xs.getD i (0, 0)).1 (xs.getD i (0, 0)).2 (ys.getD i (0, 0)).1 (ys.getD i (0, 0)).2) rfl ?_
            refine WO.nil ?_
            refine W.cond_bl rfl (fun c3 => ?_) (fun c3 => ?_)
            · first
              | (exfalso; omega)
              | (refine W.sreg ?_
                 refine WO.p rfl rfl ?_
                 refine WO.nil ?_
                 refine W.ret ?_
                 refine fin.ret (Res.one rfl (RV.tmp rfl)) (congrArg Value.bool ?_)
                 first | exact (bl_f.2 (fun e => by subst e; omega)).symm | exact (bl_f.2 (fun e => by subst e; exact absurd rfl (by assumption))).symm | exact (bl_t.2 (list_eqP (by omega) (fun k hk => hal k (by omega)))).symm)
            · first
              | (exfalso; omega)
              | (refine W.skip ?_
                 refine W.region ?_
                 refine WO.p rfl rfl (WO.ar rfl rfl rfl (by (first | (unfold in64; omega) | (unfold in64; omega))) rfl (WO.p rfl rfl ?_))
                 refine WO.nil ?_
                 refine' ⟨i + 1, ?hp, ?hmu, ⟨rfl, rfl, rfl, trivial⟩, ?hS⟩
                 case hS => repeat (first | exact Sub.nil | refine Sub.cons (by repeat (first | exact Pick.head | apply Pick.tail)) ?_)
                 case hp => exact ⟨by omega, fun k hk => by (rcases Nat.lt_or_ge k i with h | h; exact hal k h; obtain rfl : k = i := (by omega); exact Classical.not_not.1 (by assumption))⟩
                 case hmu => omega))
       · first
         | (exfalso; omega)
         | (refine W.exit (blk_same ?_)
            refine W.sreg ?_
            refine WO.p rfl rfl ?_
            refine WO.nil ?_
            refine W.ret ?_
            refine fin.ret (Res.one rfl (RV.tmp rfl)) (congrArg Value.bool ?_)
            first | exact (bl_f.2 (fun e => by subst e; omega)).symm | exact (bl_f.2 (fun e => by subst e; exact absurd rfl (by assumption))).symm | exact (bl_t.2 (list_eqP (by omega) (fun k hk => hal k (by omega)))).symm))
theorem law_fine (w : World) (v : Value) (l : List (Int × Int)) (t : Int) (hR : RdF encP 2 w.heap.size w v l) : Ret Try.prog 32 [.agg #[v, .int .i64 t]].toArray w (.bool (bl (chkF l t = 0))) := by
  refine Ret.of mixed tyTab Try.func32 rfl rfl ?_
  replace hR : RdF encP 2 (fnCx mixed tyTab Try.f32.ntmps w).B (fnCx mixed tyTab Try.f32.ntmps w).w0 v l := hR
  have hoc := hR.sl.oc
  refine W.sreg ?_
  refine WO.boxA rfl rfl (fun b1 hb1 => ?_)
  refine WO.p rfl rfl ?_
  refine WO.nil ?_
  refine W.sreg ?_
  refine WO.loadA rfl rfl (Cells.own Pick.head) rfl rfl ?_
  refine WO.callR rfl Try.call19 (fun L w hi => ref_CheckSpots w v l t (hR.later hi)) rfl ?_
  refine WO.p rfl rfl (WO.p rfl rfl ?_)
  refine WO.nil ?_
  refine W.ret ?_
  exact fin.ret (Res.one rfl (RV.tmp rfl)) rfl
/-- so few states that all pairs can be looked at -/
def fewP (l : List (Int × Int)) (t : Int) : Prop := l.length ≤ 40 ∧ (chkF l t ≠ 0 ∨ l.length ≤ 12)
instance (l : List (Int × Int)) (t : Int) : Decidable (fewP l t) := inferInstanceAs (Decidable (_ ∧ _))
theorem law_few (w : World) (v : Value) (l : List (Int × Int)) (t : Int) (hR : RdF encP 2 w.heap.size w v l) : Ret Try.prog 24 [.agg #[v, .int .i64 t]].toArray w (.bool (bl (fewP l t))) := by
  refine Ret.of mixed tyTab Try.func24 rfl rfl ?_
  replace hR : RdF encP 2 (fnCx mixed tyTab Try.f24.ntmps w).B (fnCx mixed tyTab Try.f24.ntmps w).w0 v l := hR
  have hoc := hR.sl.oc
  refine W.sreg ?_
  refine WO.boxA rfl rfl (fun b1 hb1 => ?_)
  refine WO.p rfl rfl ?_
  refine WO.nil ?_
  refine W.sreg ?_
  refine WO.field0 rfl rfl rfl (WO.load rfl rfl (Cell.own Pick.head rfl) rfl ?_)
  refine' WO.len (n := _) rfl rfl ?hs rfl ?_
  case hs => (first | exact hR.sl)
  refine WO.p rfl rfl (WO.p rfl rfl ?_)
  refine WO.guard_bl rfl rfl (fun c1 => ?_) (fun c1 => ?_)
  · first
    | (exfalso; omega)
    | (refine WO.go' rfl (WO.loadA rfl rfl (Cells.own Pick.head) rfl rfl (WO.go' rfl ?_))
       refine WO.callR rfl Try.call19 (fun L w hi => ref_CheckSpots w v l t (hR.later hi)) rfl ?_
       refine WO.pg rfl rfl rfl (WO.pg rfl rfl rfl ?_)
       refine WO.guard_bl rfl rfl (fun c2 => ?_) (fun c2 => ?_)
       · first
         | (exfalso; omega)
         | (refine WO.no rfl rfl (WO.no rfl rfl (WO.no rfl rfl (WO.no rfl rfl (WO.pg rfl rfl rfl (WO.p rfl rfl (WO.p rfl rfl ?_))))))
            refine WO.nil ?_
            refine W.ret ?_
            refine fin.ret (Res.one rfl (RV.tmp rfl)) (congrArg Value.bool ?_)
            first | exact (bl_t.2 (by unfold fewP; omega)).symm | exact (bl_f.2 (by unfold fewP; omega)).symm | (rw [bl_eq, bl_eq, decide_eq_decide]; unfold fewP; omega))
       · first
         | (exfalso; omega)
         | (refine WO.go' rfl (WO.field0 rfl rfl rfl (WO.go' rfl (WO.load rfl rfl (Cell.own Pick.head rfl) rfl (WO.go' rfl ?_))))
            refine' WO.len (n := _) rfl rfl ?hs rfl ?_
            case hs => (first | exact hR.sl)
            refine WO.pg rfl rfl rfl (WO.pg rfl rfl rfl (WO.p rfl rfl (WO.p rfl rfl ?_)))
            refine WO.nil ?_
            refine W.ret ?_
            refine fin.ret (Res.one rfl (RV.tmp rfl)) (congrArg Value.bool ?_)
            first | exact (bl_t.2 (by unfold fewP; omega)).symm | exact (bl_f.2 (by unfold fewP; omega)).symm | (rw [bl_eq, bl_eq, decide_eq_decide]; unfold fewP; omega)))
  · first
    | (exfalso; omega)
    | (refine WO.no rfl rfl (WO.no rfl rfl (WO.no rfl rfl (WO.no rfl rfl (WO.no rfl rfl (WO.no rfl rfl (WO.no rfl rfl (WO.no rfl rfl (WO.no rfl rfl (WO.p rfl rfl (WO.p rfl rfl ?_))))))))))
       refine WO.nil ?_
       refine W.ret ?_
       refine fin.ret (Res.one rfl (RV.tmp rfl)) (congrArg Value.bool ?_)
       first | exact (bl_t.2 (by unfold fewP; omega)).symm | exact (bl_f.2 (by unfold fewP; omega)).symm | (rw [bl_eq, bl_eq, decide_eq_decide]; unfold fewP; omega))
/-- an offset of a line, by numbers -/
def liK (l : List (Int × Int)) (bs : List Int) (i : Nat) : Int := (l.getD i (0, 0)).1 + if 0 < bs.length then (bs.getD (i % bs.length) 0).tmod ((l.getD i (0, 0)).2 - (l.getD i (0, 0)).1 + 1) else 0
def liL (l : List (Int × Int)) (bs : List Int) : List Int := (List.range l.length).map (liK l bs)
theorem liL_len (l : List (Int × Int)) (bs : List Int) : (liL l bs).length = l.length := by simp [liL]
theorem liL_get {l : List (Int × Int)} {bs : List Int} {i : Nat} (h : i < l.length) : (liL l bs).getD i 0 = liK l bs i := by
  unfold liL; rw [List.getD_eq_getElem?_getD, List.getElem?_map, List.getElem?_range h]; rfl
theorem liK_in {l : List (Int × Int)} (hg : OkS l) {bs : List Int} (hb : ∀ x ∈ bs, 0 ≤ x ∧ x ≤ 255) {i : Nat} (h : i < l.length) : (l.getD i (0, 0)).1 ≤ liK l bs i ∧ liK l bs i ≤ (l.getD i (0, 0)).2 := by
  have h1 := hg _ (getD_mem h (0, 0))
  unfold OkG at h1
  unfold liK
  split
  · rename_i h2
    have h3 := Nat.mod_lt i h2
    have h4 := hb _ (List.mem_of_getElem? (labs_get h3))
    have h5 := Int.tmod_nonneg ((l.getD i (0, 0)).2 - (l.getD i (0, 0)).1 + 1) h4.1
    have h6 := Int.tmod_lt_of_pos (bs.getD (i % bs.length) 0) (show 0 < (l.getD i (0, 0)).2 - (l.getD i (0, 0)).1 + 1 by omega)
    omega
  · omega
theorem liL_in {l : List (Int × Int)} (hg : OkS l) {bs : List Int} (hb : ∀ x ∈ bs, 0 ≤ x ∧ x ≤ 255) : InS l (liL l bs) := by
  refine ⟨liL_len l bs, fun i hi => ?_⟩
  have h1 : i < l.length := by simpa [liL_len] using hi
  rw [liL_get h1]
  exact liK_in hg hb h1
theorem law_Line (w : World) (v u : Value) (l : List (Int × Int)) (t : Int) (bs : List Int) (hR : RdF encP 2 w.heap.size w v l) (hB : RdF encU 1 w.heap.size w u bs) (hb : ∀ x ∈ bs, 0 ≤ x ∧ x ≤ 255) (hg : OkS l) (h24 : l.length ≤ 24) :
    Ct Try.prog 33 [.agg #[v, .int .i64 t], u].toArray w fun r w' => ∃ Hq, (∃ x : Value, r = x ∧ Hq = [OwE encI 2 1 x (liL l bs)]) ∧ Inv w [] Hq w' := by
  refine Ct.ofI (X := Value) (p := fun x r => r = x) (Hx := fun x => [OwE encI 2 1 x (liL l bs)]) mixed tyTab Try.func33 rfl rfl ?_
  replace hR : RdF encP 2 (fnCx mixed tyTab Try.f33.ntmps w).B (fnCx mixed tyTab Try.f33.ntmps w).w0 v l := hR
  replace hB : RdF encU 1 (fnCx mixed tyTab Try.f33.ntmps w).B (fnCx mixed tyTab Try.f33.ntmps w).w0 u bs := hB
  have hoc := hR.sl.oc
  have hlb := hB.sl.le
  refine W.sreg ?_
  refine WO.boxA rfl rfl (fun b1 hb1 => ?_)
  refine WO.p rfl rfl ?_
  refine WO.nil ?_
  refine W.sreg ?_
  refine WO.p rfl rfl ?_
  refine WO.nil ?_
  refine W.seq ?_
  refine W.sreg ?_
  refine WO.p rfl rfl ?_
  refine WO.nil ?_
  refine W.block ?_
  refine W.chg (owcNil (e := 2) (sz := 1)) ?_
  refine W.loop2 (fun (i : Nat) (o : Value) => i ≤ l.length)
    (fun (i : Nat) (o : Value) => [(1, u), (2, .pointer (some ⟨b1, 0, none⟩)), (5, o), (6, .int .i64 (i : Int))])
    (fun (i : Nat) (o : Value) => [pt b1 (.cells #[v, .int .i64 t] 24 (0, 0)), OwE encI 2 1 o ((liL l bs).take i)])
    (fun (i : Nat) (o : Value) => l.length - i) 0 (.slice none 0 0)
    (by exact Nat.zero_le _) ⟨rfl, rfl, rfl, rfl, trivial⟩ (by repeat (first | exact Sub.nil | refine Sub.cons (by repeat (first | exact Pick.head | apply Pick.tail)) ?_)) ?_
  rintro i o hi
  refine W.seq ?_
  refine W.sreg ?_
  refine WO.p rfl rfl (WO.field0 rfl rfl rfl (WO.load rfl rfl (Cell.own Pick.head rfl) rfl ?_))
  refine' WO.len (n := _) rfl rfl ?hs rfl ?_
  case hs => (first | exact hR.sl)
  refine WO.p rfl rfl ?_
  refine WO.nil ?_
  refine W.cond_bl rfl (fun c1 => ?_) (fun c1 => ?_)
  · first
    | (exfalso; omega)
    | (refine W.skip ?_
       refine W.seq ?_
       refine W.block ?_
       have hgi := hg _ (getD_mem (i := i) (by omega) (0, 0))
       unfold OkG at hgi
       have hln : (liL l bs).take (i + 1) = (liL l bs).take i ++ [liK l bs i] := by rw [List.take_add_one]; unfold liL; rw [List.getElem?_map, List.getElem?_range (by omega)]; rfl
       refine W.sreg ?_
       refine WO.field0 rfl rfl rfl (WO.load rfl rfl (Cell.own Pick.head rfl) rfl (WO.p rfl rfl ?_))
       refine' WO.indexAddr (n := _) (i := _) rfl rfl rfl ?hs ?h1 rfl ?_
       case hs => (first | exact hR.sl)
       case h1 => (first | omega | (simp; omega))
       refine WO.field0 rfl rfl rfl ?_
       refine' WO.load (v := _) rfl rfl ?hc rfl ?_
       case hc => (first | (refine RdF.loZ hR (i := i) (by omega) rfl))
       refine WO.p rfl rfl ?_
       refine WO.nil ?_
       refine W.seq ?_
       refine W.sreg ?_
       refine WO.p rfl rfl ?_
       refine' WO.len (n := _) rfl rfl ?hs rfl ?_
       case hs => (first | exact hB.sl)
       refine WO.p rfl rfl ?_
       refine WO.nil ?_
       refine W.cond_bl rfl (fun c2 => ?_) (fun c2 => ?_)
       · first
         | (exfalso; omega)
         | (have hmd : i % bs.length < bs.length := Nat.mod_lt _ (by omega)
            have hbi := hb _ (List.mem_of_getElem? (labs_get hmd))
            have h5 := Int.tmod_nonneg ((l.getD i (0, 0)).2 - (l.getD i (0, 0)).1 + 1) hbi.1
            have h6 := Int.tmod_lt_of_pos (bs.getD (i % bs.length) 0) (show 0 < (l.getD i (0, 0)).2 - (l.getD i (0, 0)).1 + 1 by omega)
            refine W.drawD 19 [.r 0 [], .r 1 [], .r 2 [], .r 3 [], .r 4 [], .r 5 [], .r 6 [], .b 7 [], .r 8 [], .r 9 [], .b 10 [], .r 11 [], .r 12 [], .r 13 [], .b 14 [], .r 15 [], .r 16 [], .r 17 [], .r 18 []] [] (A0 := []) (Sub.refl _) (by kernel_rfl) ?_ ?_
            · exact (ALok.r (ALok.r (ALok.r (ALok.r (ALok.r (ALok.r (ALok.r (ALok.b (ALok.r (ALok.r (ALok.b (ALok.r (ALok.r (ALok.r (ALok.b (ALok.r (ALok.r (ALok.r (ALok.r ALok.nil)))))))))))))))))))
            refine' DT.r rfl rfl rfl ?hq ?_
            case hq =>
              refine WO.p rfl rfl ?_
              exact WO.nil ⟨rfl, rfl⟩
            refine' DT.r rfl rfl rfl ?hq ?_
            case hq =>
              refine WO.p rfl rfl ?_
              exact WO.nil ⟨rfl, rfl⟩
            refine' DT.r rfl rfl rfl ?hq ?_
            case hq =>
              refine WO.p rfl rfl ?_
              exact WO.nil ⟨rfl, rfl⟩
            refine' DT.r rfl rfl rfl ?hq ?_
            case hq =>
              refine WO.p rfl rfl ?_
              exact WO.nil ⟨rfl, rfl⟩
            refine' DT.r rfl rfl rfl ?hq ?_
            case hq =>
              refine' WO.len (n := _) rfl rfl ?hs rfl ?_
              case hs => (first | exact hB.sl)
              exact WO.nil ⟨rfl, rfl⟩
            refine' DT.r rfl rfl rfl ?hq ?_
            case hq =>
              refine WO.remN rfl rfl (by omega) rfl ?_
              exact WO.nil ⟨rfl, rfl⟩
            refine' DT.r rfl rfl rfl ?hq ?_
            case hq =>
              refine' WO.indexAddr (n := _) (i := _) rfl rfl rfl ?hs ?h1 rfl ?_
              case hs => (first | exact hB.sl)
              case h1 => (first | omega | (simp; omega))
              exact WO.nil ⟨rfl, rfl⟩
            refine' DT.b rfl rfl rfl ?hq ?_
            case hq =>
              refine' WO.load (v := _) rfl rfl ?hc rfl ?_
              case hc => (first | (refine hB.cell0 (i := i % bs.length) hmd 0 ?_; rfl))
              exact WO.nil ⟨rfl, rfl⟩
            refine' DT.r rfl rfl rfl ?hq ?_
            case hq =>
              refine WO.conv64 rfl rfl rfl (by (first | (unfold in64; omega) | (unfold in64; omega))) rfl ?_
              exact WO.nil ⟨rfl, rfl⟩
            refine' DT.r rfl rfl rfl ?hq ?_
            case hq =>
              refine WO.field0 rfl rfl rfl ?_
              exact WO.nil ⟨rfl, rfl⟩
            refine' DT.b rfl rfl rfl ?hq ?_
            case hq =>
              refine WO.load rfl rfl (Cell.own Pick.head rfl) rfl ?_
              exact WO.nil ⟨rfl, rfl⟩
            refine' DT.r rfl rfl rfl ?hq ?_
            case hq =>
              refine WO.p rfl rfl ?_
              exact WO.nil ⟨rfl, rfl⟩
            refine' DT.r rfl rfl rfl ?hq ?_
            case hq =>
              refine' WO.indexAddr (n := _) (i := _) rfl rfl rfl ?hs ?h1 rfl ?_
              case hs => (first | exact hR.sl)
              case h1 => (first | omega | (simp; omega))
              exact WO.nil ⟨rfl, rfl⟩
            refine' DT.r rfl rfl rfl ?hq ?_
            case hq =>
              refine WO.field rfl rfl rfl ?_
              exact WO.nil ⟨rfl, rfl⟩
            refine' DT.b rfl rfl rfl ?hq ?_
            case hq =>
              refine' WO.load (v := _) rfl rfl ?hc rfl ?_
              case hc => (first | (refine RdF.hiZ hR (i := i) (by omega) rfl))
              exact WO.nil ⟨rfl, rfl⟩
            refine' DT.r rfl rfl rfl ?hq ?_
            case hq =>
              refine WO.p rfl rfl ?_
              exact WO.nil ⟨rfl, rfl⟩
            refine' DT.r rfl rfl rfl ?hq ?_
            case hq =>
              refine WO.ar rfl rfl rfl (by (first | (unfold in64; omega) | (unfold in64; omega))) rfl ?_
              exact WO.nil ⟨rfl, rfl⟩
            refine' DT.r rfl rfl rfl ?hq ?_
            case hq =>
              refine WO.ar rfl rfl rfl (by (first | (unfold in64; omega) | (unfold in64; omega))) rfl ?_
              exact WO.nil ⟨rfl, rfl⟩
            refine' DT.r rfl rfl rfl ?hq ?_
            case hq =>
              refine WO.rem rfl rfl (by first | omega | assumption) rfl ?_
              exact WO.nil ⟨rfl, rfl⟩
            refine DT.nil [_, _] rfl ?_
            refine WO.ar rfl rfl rfl (by (first | (unfold in64; omega) | (unfold in64; omega))) rfl (WO.p rfl rfl ?_)
            refine WO.nil ?_
            have hk : liK l bs i = (l.getD i (0, 0)).1 + if 0 < bs.length then (bs.getD (i % bs.length) 0).tmod ((l.getD i (0, 0)).2 - (l.getD i (0, 0)).1 + 1) else 0 := rfl
            first | rw [if_pos (by omega)] at hk | (rw [if_neg (by omega), Int.add_zero] at hk)
            first | rw [← hk] | skip
            refine W.region ?_
            refine WO.p rfl rfl (WO.p rfl rfl ?_)
            refine' WO.buildSl (cs := _) rfl rfl rfl rfl ?hf rfl rfl ?hl rfl (fun v2 => ?_)
            case hf => (conv => lhs; simp [-List.getD_eq_getElem?_getD, fillL, vcl, wrl, TTab.pl?.lget']) <;> rfl
            case hl => rfl
            refine' WO.appendE (enc := encI) (m := 1) (xs := (liL l bs).take i) (ys := [liK l bs i]) encI_ok rfl rfl rfl rfl rfl (by repeat (first | exact Pick.head | apply Pick.tail)) (isSl_lit (by omega) (fun _ => ⟨_, _, rfl⟩)) (by omega) rfl (by first | exact OwC.cells .head | (rw [hk]; exact OwC.cells .head)) (by rw [List.length_take]; omega) (by rw [List.length_take]; omega) rfl (fun g c => ?_)
            rw [← hln]
            refine WO.p rfl rfl ?_
            refine WO.nil ?_
            refine W.region ?_
            refine WO.p rfl rfl (WO.ar rfl rfl rfl (by (first | (unfold in64; omega) | (unfold in64; omega))) rfl (WO.p rfl rfl ?_))
            refine WO.nil ?_
            refine' ⟨i + 1, _, ?hp, ?hmu, ⟨rfl, rfl, rfl, rfl, trivial⟩, ?hS⟩
            case hS => repeat (first | exact Sub.nil | refine Sub.cons (by repeat (first | exact Pick.head | apply Pick.tail)) ?_)
            case hp => omega
            case hmu => omega)
       · first
         | (exfalso; omega)
         | (refine W.skip ?_
            have hk : liK l bs i = (l.getD i (0, 0)).1 + if 0 < bs.length then (bs.getD (i % bs.length) 0).tmod ((l.getD i (0, 0)).2 - (l.getD i (0, 0)).1 + 1) else 0 := rfl
            first | rw [if_pos (by omega)] at hk | (rw [if_neg (by omega), Int.add_zero] at hk)
            first | rw [← hk] | skip
            refine W.region ?_
            refine WO.p rfl rfl (WO.p rfl rfl ?_)
            refine' WO.buildSl (cs := _) rfl rfl rfl rfl ?hf rfl rfl ?hl rfl (fun v2 => ?_)
            case hf => (conv => lhs; simp [-List.getD_eq_getElem?_getD, fillL, vcl, wrl, TTab.pl?.lget']) <;> rfl
            case hl => rfl
            refine' WO.appendE (enc := encI) (m := 1) (xs := (liL l bs).take i) (ys := [liK l bs i]) encI_ok rfl rfl rfl rfl rfl (by repeat (first | exact Pick.head | apply Pick.tail)) (isSl_lit (by omega) (fun _ => ⟨_, _, rfl⟩)) (by omega) rfl (by first | exact OwC.cells .head | (rw [hk]; exact OwC.cells .head)) (by rw [List.length_take]; omega) (by rw [List.length_take]; omega) rfl (fun g c => ?_)
            rw [← hln]
            refine WO.p rfl rfl ?_
            refine WO.nil ?_
            refine W.region ?_
            refine WO.p rfl rfl (WO.ar rfl rfl rfl (by (first | (unfold in64; omega) | (unfold in64; omega))) rfl (WO.p rfl rfl ?_))
            refine WO.nil ?_
            refine' ⟨i + 1, _, ?hp, ?hmu, ⟨rfl, rfl, rfl, rfl, trivial⟩, ?hS⟩
            case hS => repeat (first | exact Sub.nil | refine Sub.cons (by repeat (first | exact Pick.head | apply Pick.tail)) ?_)
            case hp => omega
            case hmu => omega))
  · first
    | (exfalso; omega)
    | (refine W.exit (blk_same ?_)
       refine W.sreg ?_
       refine WO.p rfl rfl (WO.p rfl rfl ?_)
       refine WO.nil ?_
       refine W.ret ?_
       have e4 : (liL l bs).take i = liL l bs := List.take_of_length_le (by rw [liL_len]; omega)
       rw [e4]
       exact fin.ret (Res.one rfl (RV.tmp rfl)) ⟨_, rfl, fun h hs => Sub.sat (by repeat (first | exact Sub.nil | refine Sub.cons (by repeat (first | exact Pick.head | apply Pick.tail)) ?_)) hs⟩)
/-- comes before -/
def bfB : List Int → List Int → Bool
  | x :: xs, y :: ys => if x ≠ y then decide (x < y) else bfB xs ys
  | _, _ => false
theorem bfB_end {xs ys : List Int} {i : Nat} (h : ¬ (i < xs.length ∧ i < ys.length)) : bfB (xs.drop i) (ys.drop i) = false := by
  rcases Nat.lt_or_ge i xs.length with g | g
  · have e : ys.drop i = [] := List.drop_eq_nil_of_le (by omega)
    rw [e]
    cases xs.drop i <;> rfl
  · have e : xs.drop i = [] := List.drop_eq_nil_of_le g
    rw [e]; rfl
theorem bfB_at {xs ys : List Int} {i : Nat} (h1 : i < xs.length) (h2 : i < ys.length) : bfB (xs.drop i) (ys.drop i) = if xs.getD i 0 ≠ ys.getD i 0 then decide (xs.getD i 0 < ys.getD i 0) else bfB (xs.drop (i + 1)) (ys.drop (i + 1)) := by
  rw [List.drop_eq_getElem_cons h1, List.drop_eq_getElem_cons h2]
  rw [List.getD_eq_getElem?_getD, List.getD_eq_getElem?_getD, List.getElem?_eq_getElem h1, List.getElem?_eq_getElem h2]
  rfl
theorem law_before (w : World) (u v : Value) (xs ys : List Int) (hx : RdF encI 1 w.heap.size w u xs) (hy : RdF encI 1 w.heap.size w v ys) : Ret Try.prog 35 [u, v].toArray w (.bool (bl (bfB xs ys = true))) := by
  refine Ret.of mixed tyTab Try.func35 rfl rfl ?_
  replace hx : RdF encI 1 (fnCx mixed tyTab Try.f35.ntmps w).B (fnCx mixed tyTab Try.f35.ntmps w).w0 u xs := hx
  replace hy : RdF encI 1 (fnCx mixed tyTab Try.f35.ntmps w).B (fnCx mixed tyTab Try.f35.ntmps w).w0 v ys := hy
  have hlx := hx.sl.le
  have hly := hy.sl.le
  refine W.sreg ?_
  refine WO.p rfl rfl ?_
  refine WO.nil ?_
  refine W.seq ?_
  refine W.sreg ?_
  refine WO.p rfl rfl ?_
  refine WO.nil ?_
  refine W.block ?_
  refine W.loop (fun (i : Nat) => i ≤ xs.length ∧ i ≤ ys.length ∧ bfB xs ys = bfB (xs.drop i) (ys.drop i))
    (fun (i : Nat) => [(5, .int .i64 (i : Int)), (0, u), (1, v)])
    (fun (i : Nat) => [])
    (fun (i : Nat) => xs.length - i) 0
    (by exact ⟨by omega, by omega, rfl⟩) ⟨rfl, rfl, rfl, trivial⟩ (by repeat (first | exact Sub.nil | refine Sub.cons (by repeat (first | exact Pick.head | apply Pick.tail)) ?_)) ?_
  rintro i ⟨hi, hi2, hbf⟩
  refine W.seq ?_
  refine W.sreg ?_
  refine WO.p rfl rfl (WO.p rfl rfl ?_)
  refine' WO.len (n := _) rfl rfl ?hs rfl ?_
  case hs => (first | exact hx.sl | exact hy.sl)
  refine WO.p rfl rfl (WO.p rfl rfl ?_)
  refine WO.guard_bl rfl rfl (fun c1 => ?_) (fun c1 => ?_)
  · first
    | (exfalso; omega)
    | (refine WO.pg rfl rfl rfl (WO.pg rfl rfl rfl (WO.go' rfl ?_))
       refine' WO.len (n := _) rfl rfl ?hs rfl ?_
       case hs => (first | exact hx.sl | exact hy.sl)
       refine WO.pg rfl rfl rfl (WO.p rfl rfl ?_)
       refine WO.nil ?_
       refine W.cond_bl rfl (fun c2 => ?_) (fun c2 => ?_)
       · first
         | (exfalso; omega)
         | (refine W.skip ?_
            refine W.seq ?_
            refine W.block ?_
            refine W.seq ?_
            have hat := bfB_at (xs := xs) (ys := ys) (i := i) (by omega) (by omega)
            refine W.drawD 8 [.r 0 [], .r 1 [], .r 2 [], .b 3 [], .r 4 [], .r 5 [], .r 6 [], .b 7 []] [] (A0 := []) (Sub.refl _) (by kernel_rfl) ?_ ?_
            · exact (ALok.r (ALok.r (ALok.r (ALok.b (ALok.r (ALok.r (ALok.r (ALok.b ALok.nil))))))))
            refine' DT.r rfl rfl rfl ?hq ?_
            case hq =>
              refine WO.p rfl rfl ?_
              exact WO.nil ⟨rfl, rfl⟩
            refine' DT.r rfl rfl rfl ?hq ?_
            case hq =>
              refine WO.p rfl rfl ?_
              exact WO.nil ⟨rfl, rfl⟩
            refine' DT.r rfl rfl rfl ?hq ?_
            case hq =>
              refine' WO.indexAddr (n := _) (i := _) rfl rfl rfl ?hs ?h1 rfl ?_
              case hs => (first | exact hx.sl | exact hy.sl)
              case h1 => (first | omega | (simp; omega))
              exact WO.nil ⟨rfl, rfl⟩
            refine' DT.b rfl rfl rfl ?hq ?_
            case hq =>
              refine' WO.load (v := _) rfl rfl ?hc rfl ?_
              case hc => (first | (refine hx.cell0 ?_ 0 ?_ <;> first | rfl | omega) | (refine hy.cell0 ?_ 0 ?_ <;> first | rfl | omega))
              exact WO.nil ⟨rfl, rfl⟩
            refine' DT.r rfl rfl rfl ?hq ?_
            case hq =>
              refine WO.p rfl rfl ?_
              exact WO.nil ⟨rfl, rfl⟩
            refine' DT.r rfl rfl rfl ?hq ?_
            case hq =>
              refine WO.p rfl rfl ?_
              exact WO.nil ⟨rfl, rfl⟩
            refine' DT.r rfl rfl rfl ?hq ?_
            case hq =>
              refine' WO.indexAddr (n := _) (i := _) rfl rfl rfl ?hs ?h1 rfl ?_
              case hs => (first | exact hx.sl | exact hy.sl)
              case h1 => (first | omega | (simp; omega))
              exact WO.nil ⟨rfl, rfl⟩
            refine' DT.b rfl rfl rfl ?hq ?_
            case hq =>
              refine' WO.load (v := _) rfl rfl ?hc rfl ?_
              case hc => (first | (refine hx.cell0 ?_ 0 ?_ <;> first | rfl | omega) | (refine hy.cell0 ?_ 0 ?_ <;> first | rfl | omega))
              exact WO.nil ⟨rfl, rfl⟩
            refine DT.nil [] rfl ?_
            refine WO.p rfl rfl ?_
            refine WO.nil ?_
            refine W.cond_bl rfl (fun c3 => ?_) (fun c3 => ?_)
            · first
              | (exfalso; omega)
              | (refine W.seq ?_
                 refine W.drawD 8 [.r 0 [], .r 1 [], .r 2 [], .b 3 [], .r 4 [], .r 5 [], .r 6 [], .b 7 []] [] (A0 := []) (Sub.refl _) (by kernel_rfl) ?_ ?_
                 · exact (ALok.r (ALok.r (ALok.r (ALok.b (ALok.r (ALok.r (ALok.r (ALok.b ALok.nil))))))))
                 refine' DT.r rfl rfl rfl ?hq ?_
                 case hq =>
                   refine WO.p rfl rfl ?_
                   exact WO.nil ⟨rfl, rfl⟩
                 refine' DT.r rfl rfl rfl ?hq ?_
                 case hq =>
                   refine WO.p rfl rfl ?_
                   exact WO.nil ⟨rfl, rfl⟩
                 refine' DT.r rfl rfl rfl ?hq ?_
                 case hq =>
                   refine' WO.indexAddr (n := _) (i := _) rfl rfl rfl ?hs ?h1 rfl ?_
                   case hs => (first | exact hx.sl | exact hy.sl)
                   case h1 => (first | omega | (simp; omega))
                   exact WO.nil ⟨rfl, rfl⟩
                 refine' DT.b rfl rfl rfl ?hq ?_
                 case hq =>
                   refine' WO.load (v := _) rfl rfl ?hc rfl ?_
                   case hc => (first | (refine hx.cell0 ?_ 0 ?_ <;> first | rfl | omega) | (refine hy.cell0 ?_ 0 ?_ <;> first | rfl | omega))
                   exact WO.nil ⟨rfl, rfl⟩
                 refine' DT.r rfl rfl rfl ?hq ?_
                 case hq =>
                   refine WO.p rfl rfl ?_
                   exact WO.nil ⟨rfl, rfl⟩
                 refine' DT.r rfl rfl rfl ?hq ?_
                 case hq =>
                   refine WO.p rfl rfl ?_
                   exact WO.nil ⟨rfl, rfl⟩
                 refine' DT.r rfl rfl rfl ?hq ?_
                 case hq =>
                   refine' WO.indexAddr (n := _) (i := _) rfl rfl rfl ?hs ?h1 rfl ?_
                   case hs => (first | exact hx.sl | exact hy.sl)
                   case h1 => (first | omega | (simp; omega))
                   exact WO.nil ⟨rfl, rfl⟩
                 refine' DT.b rfl rfl rfl ?hq ?_
                 case hq =>
                   refine' WO.load (v := _) rfl rfl ?hc rfl ?_
                   case hc => (first | (refine hx.cell0 ?_ 0 ?_ <;> first | rfl | omega) | (refine hy.cell0 ?_ 0 ?_ <;> first | rfl | omega))
                   exact WO.nil ⟨rfl, rfl⟩
                 refine DT.nil [] rfl ?_
                 refine WO.p rfl rfl (WO.p rfl rfl ?_)
                 refine WO.nil ?_
                 refine W.ret ?_
                 refine fin.ret (Res.one rfl (RV.tmp rfl)) (congrArg Value.bool ?_)
                 first | (rw [hbf, hat, if_pos (by assumption), bl_eq, bl_eq]; simp) | (rw [hbf, bfB_end (by omega), bl_eq]; simp))
            · first
              | (exfalso; omega)
              | (refine W.skip ?_
                 refine W.region ?_
                 refine WO.p rfl rfl (WO.ar rfl rfl rfl (by (first | (unfold in64; omega) | (unfold in64; omega))) rfl (WO.p rfl rfl ?_))
                 refine WO.nil ?_
                 refine' ⟨i + 1, ?hp, ?hmu, ⟨rfl, rfl, rfl, trivial⟩, ?hS⟩
                 case hS => repeat (first | exact Sub.nil | refine Sub.cons (by repeat (first | exact Pick.head | apply Pick.tail)) ?_)
                 case hp => exact ⟨by omega, by omega, by rw [hbf, hat, if_neg (by assumption)]⟩
                 case hmu => omega))
       · first
         | (exfalso; omega)
         | (refine W.exit (blk_same ?_)
            refine W.sreg ?_
            refine WO.p rfl rfl ?_
            refine WO.nil ?_
            refine W.ret ?_
            refine fin.ret (Res.one rfl (RV.tmp rfl)) (congrArg Value.bool ?_)
            first | (rw [hbf, hat, if_pos (by assumption), bl_eq, bl_eq]; simp) | (rw [hbf, bfB_end (by omega), bl_eq]; simp)))
  · first
    | (exfalso; omega)
    | (refine WO.no rfl rfl (WO.no rfl rfl (WO.no rfl rfl (WO.no rfl rfl (WO.p rfl rfl ?_))))
       refine WO.nil ?_
       refine W.cond_f rfl ?_
       refine W.exit (blk_same ?_)
       refine W.sreg ?_
       refine WO.p rfl rfl ?_
       refine WO.nil ?_
       refine W.ret ?_
       refine fin.ret (Res.one rfl (RV.tmp rfl)) (congrArg Value.bool ?_)
       first | (rw [hbf, hat, if_pos (by assumption), bl_eq, bl_eq]; simp) | (rw [hbf, bfB_end (by omega), bl_eq]; simp))
def spL0 : List (Int × Int) := [(0, 0), (2, 3), (4, 4), (5, 7), (10, 10)]
theorem law_Spots (w : World) : Ct Try.prog 36 ([] : List Value).toArray w fun r w' => ∃ Hq, (∃ x : Value, r = .agg #[x, .int .i64 100] ∧ Hq = [OwE encP 51 2 x spL0]) ∧ Inv w [] Hq w' := by
  refine Ct.ofI (X := Value) (p := fun x r => r = .agg #[x, .int .i64 100]) (Hx := fun x => [OwE encP 51 2 x spL0]) mixed tyTab Try.func36 rfl rfl ?_
  refine W.sreg ?_
  refine WO.alloc rfl rfl rfl (fun b1 hb1 => ?_)
  refine WO.nil ?_
  refine W.sreg ?_
  refine' WO.build (cs := _) rfl rfl rfl ?hf rfl ?_
  case hf => (conv => lhs; simp [-List.getD_eq_getElem?_getD, fillL, vcl, wrl, TTab.pl?.lget']) <;> rfl
  refine' WO.build (cs := _) rfl rfl rfl ?hf rfl ?_
  case hf => (conv => lhs; simp [-List.getD_eq_getElem?_getD, fillL, vcl, wrl, TTab.pl?.lget']) <;> rfl
  refine' WO.build (cs := _) rfl rfl rfl ?hf rfl ?_
  case hf => (conv => lhs; simp [-List.getD_eq_getElem?_getD, fillL, vcl, wrl, TTab.pl?.lget']) <;> rfl
  refine' WO.build (cs := _) rfl rfl rfl ?hf rfl ?_
  case hf => (conv => lhs; simp [-List.getD_eq_getElem?_getD, fillL, vcl, wrl, TTab.pl?.lget']) <;> rfl
  refine' WO.build (cs := _) rfl rfl rfl ?hf rfl ?_
  case hf => (conv => lhs; simp [-List.getD_eq_getElem?_getD, fillL, vcl, wrl, TTab.pl?.lget']) <;> rfl
  refine' WO.buildSl (cs := _) rfl rfl rfl rfl ?hf rfl rfl ?hl rfl (fun v2 => ?_)
  case hf => (conv => lhs; simp [-List.getD_eq_getElem?_getD, fillL, vcl, wrl, TTab.pl?.lget']) <;> rfl
  case hl => rfl
  refine' WO.build (cs := _) rfl rfl rfl ?hf rfl ?_
  case hf => (conv => lhs; simp [-List.getD_eq_getElem?_getD, fillL, vcl, wrl, TTab.pl?.lget']) <;> rfl
  refine WO.storeA rfl rfl rfl rfl (Pick.tail (Pick.head)) rfl rfl ?_
  refine WO.nil ?_
  refine W.ret ?_
  exact fin.ret (Res.one rfl (RV.cell rfl rfl rfl (Cells.own (by repeat (first | exact Pick.head | apply Pick.tail))))) ⟨_, rfl, fun h hs => Sub.sat (by repeat (first | exact Sub.nil | refine Sub.cons (by repeat (first | exact Pick.head | apply Pick.tail)) ?_)) hs⟩
end Go.Proofs.Ytpecakgebhmnfaa
namespace Go.Proofs.Ytpecakgebhmnfaa
open Go Go.TH
attribute [local irreducible] W WO pt
set_option maxRecDepth 10000
set_option maxHeartbeats 1000000
theorem capOw {α : Type} {enc : α → List Value} {e sz : Nat} {v : Value} {xs : List α} {C : Cx Try.prog} {H H' L : List HP} {w : World} (p : Pick (OwE enc e sz v xs) H H') (hi : TH.Inv C.w0 C.M (L ++ H) w) : CapS v xs.length := by
  obtain ⟨_, hcase⟩ := OwC.open (hi.pickL p)
  rcases hcase with ⟨e1, e2, _⟩ | ⟨q, cap, cur, e1, q1, _⟩
  · exact ⟨none, 0, by rw [e1, e2], by omega⟩
  · exact ⟨_, cap, e1, q1⟩
theorem ex_c0 : chkF spL0 100 = 0 := by decide +kernel
theorem ex_m : meaV [0, 3, 4, 7, 10] = .tuple #[.int .i64 1, .int .i64 4, .int .i64 0] := by
  unfold meaV
  rw [show meaE [0, 3, 4, 7, 10] = 0 by decide +kernel, show chL [0, 3, 4, 7, 10] = 1 by decide +kernel, show beL [0, 3, 4, 7, 10] = 4 by decide +kernel]
  rfl
theorem ex_k1 : ckV spL0 100 [0, 2, 4, 6, 10] = .tuple #[.int .i64 2, .int .i64 0] := by
  unfold ckV
  rw [show ckE spL0 100 [0, 2, 4, 6, 10] = 0 by decide +kernel, show costL 100 [0, 2, 4, 6, 10] = 2 by decide +kernel]
  rfl
theorem ex_k2 : ckV spL0 100 [0, 2, 4, 8, 10] = .tuple #[.int .i64 0, .int .i64 17] := by
  unfold ckV
  rw [show ckE spL0 100 [0, 2, 4, 8, 10] = 17 by decide +kernel]
  rfl
theorem ex_f1 : faL spL0 100 = [0, 2, 4, 7, 10] := by decide +kernel
theorem ex_f2 : faC spL0 100 = 1 := by decide +kernel
theorem ex_s1 : spE spL0 100 0 = 0 := by decide +kernel
theorem ex_s2 : spL spL0 100 0 = [(0, 0), (2, 2), (4, 4), (6, 7), (10, 10)] := by decide +kernel
theorem ex_b : lkE spL0 100 (lbL spL0 100) = 0 ∧ lkV spL0 100 (lbL spL0 100) = 1 := by
  have h := lb_good ex_c0
  refine ⟨h.1, ?_⟩
  rw [h.2]
  have := ex_f2
  unfold faC at this
  rwa [if_pos ex_c0] at this
theorem longs_t {w : World} {u v : Value} {xs ys : List Int} (h : Ret Try.prog 23 [u, v].toArray w (.bool (bl (xs = ys)))) (e : xs = ys) : Ret Try.prog 23 [u, v].toArray w (.bool true) := by rwa [bl_t.2 e] at h
theorem ranges_t {w : World} {u v : Value} {xs ys : List (Int × Int)} (h : Ret Try.prog 31 [u, v].toArray w (.bool (bl (xs = ys)))) (e : xs = ys) : Ret Try.prog 31 [u, v].toArray w (.bool true) := by rwa [bl_t.2 e] at h
theorem l_Works (w : World) : Ret Try.prog 13 ([] : List Value).toArray w (.bool true) := by
  refine Ret.of mixed tyTab Try.func13 rfl rfl ?_
  refine W.sreg ?_
  refine WO.p rfl rfl ?_
  refine WO.nil ?_
  refine W.sreg ?_
  refine WO.call rfl Try.call36 (fun L w hi => law_Spots w) rfl ?_
  rintro _ _ ⟨sv, rfl, rfl⟩
  refine WO.fact (OwE.form (enc := encP) (e := 51) (sz := 2) (xs := spL0) (v := sv) Pick.head) (fun hsv => ?_)
  obtain ⟨sa, sc, rfl⟩ := hsv
  refine WO.alloc rfl rfl rfl (fun b1 hb1 => ?_)
  refine WO.storeA rfl rfl rfl rfl Pick.head rfl rfl ?_
  refine WO.nil ?_
  refine W.sreg ?_
  refine' WO.buildSl (cs := _) rfl rfl rfl rfl ?hf rfl rfl ?hl rfl (fun v2 => ?_)
  case hf => (conv => lhs; simp [-List.getD_eq_getElem?_getD, fillL, vcl, wrl, TTab.pl?.lget']) <;> rfl
  case hl => rfl
  refine WO.callR (r := .tuple #[.int .i64 1, .int .i64 4, .int .i64 0]) rfl Try.call14 (fun L w hi => by have h := c_Measure w _ [0, 3, 4, 7, 10] (RdF.of_ow (e := 2) encI_ok (by repeat (first | exact Pick.head | apply Pick.tail)) hi); rw [ex_m] at h; exact h) rfl ?_
  refine WO.p rfl rfl (WO.p rfl rfl (WO.p rfl rfl (WO.p rfl rfl (WO.p rfl rfl (WO.p rfl rfl (WO.p rfl rfl ?_))))))
  refine WO.nil ?_
  refine W.sreg ?_
  refine WO.loadA rfl rfl (Cells.own (Pick.tail (Pick.head))) rfl rfl ?_
  refine' WO.buildSl (cs := _) rfl rfl rfl rfl ?hf rfl rfl ?hl rfl (fun v3 => ?_)
  case hf => (conv => lhs; simp [-List.getD_eq_getElem?_getD, fillL, vcl, wrl, TTab.pl?.lget']) <;> rfl
  case hl => rfl
  refine WO.callR (r := .tuple #[.int .i64 2, .int .i64 0]) rfl Try.call16 (fun L w hi => by have h := c_Check w (.slice sa spL0.length sc) _ spL0 100 [0, 2, 4, 6, 10] (RdF.of_ow (e := 51) encP_ok (by repeat (first | exact Pick.head | apply Pick.tail)) hi) (RdF.of_ow (e := 2) encI_ok (by repeat (first | exact Pick.head | apply Pick.tail)) hi); rw [ex_k1] at h; exact h) rfl ?_
  refine WO.p rfl rfl (WO.p rfl rfl (WO.p rfl rfl (WO.p rfl rfl (WO.p rfl rfl ?_))))
  refine WO.nil ?_
  refine W.sreg ?_
  refine WO.loadA rfl rfl (Cells.own (Pick.tail (Pick.tail (Pick.head)))) rfl rfl ?_
  refine WO.call (Post := fun r Hq => ∃ x : Value, r = .tuple #[x, .int .i64 1, .int .i64 0] ∧ Hq = [OwE encI 2 1 x [0, 2, 4, 7, 10]]) rfl Try.call21 (fun L w hi => by have h := c_Fairest w (.slice sa spL0.length sc) spL0 100 (RdF.of_ow (e := 51) encP_ok (by repeat (first | exact Pick.head | apply Pick.tail)) hi); rw [ex_f1, ex_f2, ex_c0] at h; exact h) rfl ?_
  rintro _ _ ⟨r1, rfl, rfl⟩
  refine WO.p rfl rfl (WO.p rfl rfl (WO.p rfl rfl (WO.p rfl rfl (WO.p rfl rfl (WO.p rfl rfl (WO.p rfl rfl ?_))))))
  refine WO.nil ?_
  refine W.sreg ?_
  refine WO.loadA rfl rfl (Cells.own (Pick.tail (Pick.tail (Pick.tail (Pick.head))))) rfl rfl ?_
  refine WO.call (Post := fun r Hq => ∃ x : Value, r = .tuple #[x, .int .i64 0] ∧ Hq = [OwE encP 51 2 x [(0, 0), (2, 2), (4, 4), (6, 7), (10, 10)]]) rfl Try.call29 (fun L w hi => by have h := c_Spread w (.slice sa spL0.length sc) spL0 100 0 (RdF.of_ow (e := 51) encP_ok (by repeat (first | exact Pick.head | apply Pick.tail)) hi) (capOw (enc := encP) (e := 51) (sz := 2) (xs := spL0) (by repeat (first | exact Pick.head | apply Pick.tail)) hi); rw [ex_s1, ex_s2] at h; exact h) rfl ?_
  rintro _ _ ⟨r2, rfl, rfl⟩
  refine WO.p rfl rfl (WO.p rfl rfl (WO.p rfl rfl (WO.p rfl rfl (WO.p rfl rfl ?_))))
  refine WO.nil ?_
  refine W.sreg ?_
  refine WO.loadA rfl rfl (Cells.own (Pick.tail (Pick.tail (Pick.tail (Pick.tail (Pick.head)))))) rfl rfl ?_
  refine WO.call (Post := fun r Hq => ∃ x : Value, r = .tuple #[x, .int .i64 0] ∧ Hq = [OwE encI 2 1 x (lbL spL0 100)]) rfl Try.call27 (fun L w hi => by have h := c_Labels w (.slice sa spL0.length sc) spL0 100 (RdF.of_ow (e := 51) encP_ok (by repeat (first | exact Pick.head | apply Pick.tail)) hi); rw [ex_c0] at h; exact h) rfl ?_
  rintro _ _ ⟨r3, rfl, rfl⟩
  refine WO.p rfl rfl (WO.p rfl rfl (WO.p rfl rfl (WO.p rfl rfl (WO.p rfl rfl ?_))))
  refine WO.nil ?_
  refine W.sreg ?_
  refine WO.loadA rfl rfl (Cells.own (Pick.tail (Pick.tail (Pick.tail (Pick.tail (Pick.tail (Pick.head))))))) rfl rfl (WO.p rfl rfl ?_)
  refine WO.callR (r := .tuple #[.int .i64 1, .int .i64 0]) rfl Try.call25 (fun L w hi => by have h := c_CheckLabels w (.slice sa spL0.length sc) spL0 100 r3 (lbL spL0 100) (RdF.of_ow (e := 51) encP_ok (by repeat (first | exact Pick.head | apply Pick.tail)) hi) (RdF.of_ow (e := 2) encI_ok (by repeat (first | exact Pick.head | apply Pick.tail)) hi); rw [ex_b.1, ex_b.2] at h; exact h) rfl ?_
  refine WO.p rfl rfl (WO.p rfl rfl (WO.p rfl rfl (WO.p rfl rfl (WO.p rfl rfl ?_))))
  refine WO.nil ?_
  refine W.sreg ?_
  refine WO.loadA rfl rfl (Cells.own (Pick.tail (Pick.tail (Pick.tail (Pick.tail (Pick.tail (Pick.head))))))) rfl rfl ?_
  refine' WO.buildSl (cs := _) rfl rfl rfl rfl ?hf rfl rfl ?hl rfl (fun v4 => ?_)
  case hf => (conv => lhs; simp [-List.getD_eq_getElem?_getD, fillL, vcl, wrl, TTab.pl?.lget']) <;> rfl
  case hl => rfl
  refine WO.callR (r := .tuple #[.int .i64 0, .int .i64 17]) rfl Try.call16 (fun L w hi => by have h := c_Check w (.slice sa spL0.length sc) _ spL0 100 [0, 2, 4, 8, 10] (RdF.of_ow (e := 51) encP_ok (by repeat (first | exact Pick.head | apply Pick.tail)) hi) (RdF.of_ow (e := 2) encI_ok (by repeat (first | exact Pick.head | apply Pick.tail)) hi); rw [ex_k2] at h; exact h) rfl ?_
  refine WO.p rfl rfl (WO.p rfl rfl (WO.p rfl rfl (WO.p rfl rfl (WO.p rfl rfl ?_))))
  refine WO.nil ?_
  refine W.sreg ?_
  refine WO.p rfl rfl (WO.p rfl rfl (WO.p rfl rfl ?_))
  refine WO.guard_bl rfl rfl (fun c1 => ?_) (fun c1 => ?_)
  · first
    | (exfalso; omega)
    | (refine WO.pg rfl rfl rfl (WO.pg rfl rfl rfl (WO.p rfl rfl (WO.p rfl rfl ?_)))
       refine WO.guard_bl rfl rfl (fun c2 => ?_) (fun c2 => ?_)
       · first
         | (exfalso; omega)
         | (refine WO.pg rfl rfl rfl (WO.pg rfl rfl rfl (WO.p rfl rfl (WO.p rfl rfl ?_)))
            refine WO.guard_bl rfl rfl (fun c3 => ?_) (fun c3 => ?_)
            · first
              | (exfalso; omega)
              | (refine WO.pg rfl rfl rfl (WO.pg rfl rfl rfl (WO.p rfl rfl (WO.p rfl rfl ?_)))
                 refine WO.guard_bl rfl rfl (fun c4 => ?_) (fun c4 => ?_)
                 · first
                   | (exfalso; omega)
                   | (refine WO.pg rfl rfl rfl (WO.pg rfl rfl rfl (WO.p rfl rfl (WO.p rfl rfl ?_)))
                      refine WO.guard_bl rfl rfl (fun c5 => ?_) (fun c5 => ?_)
                      · first
                        | (exfalso; omega)
                        | (refine WO.pg rfl rfl rfl (WO.pg rfl rfl rfl (WO.p rfl rfl (WO.p rfl rfl ?_)))
                           refine WO.guard_bl rfl rfl (fun c6 => ?_) (fun c6 => ?_)
                           · first
                             | (exfalso; omega)
                             | (refine WO.pg rfl rfl rfl (WO.pg rfl rfl rfl (WO.p rfl rfl (WO.p rfl rfl ?_)))
                                refine WO.guard_bl rfl rfl (fun c7 => ?_) (fun c7 => ?_)
                                · first
                                  | (exfalso; omega)
                                  | (refine WO.pg rfl rfl rfl (WO.pg rfl rfl rfl (WO.p rfl rfl (WO.p rfl rfl ?_)))
                                     refine WO.guard_bl rfl rfl (fun c8 => ?_) (fun c8 => ?_)
                                     · first
                                       | (exfalso; omega)
                                       | (refine WO.pg rfl rfl rfl (WO.pg rfl rfl rfl (WO.p rfl rfl (WO.p rfl rfl ?_)))
                                          refine WO.guard_bl rfl rfl (fun c9 => ?_) (fun c9 => ?_)
                                          · first
                                            | (exfalso; omega)
                                            | (refine WO.pg rfl rfl rfl (WO.pg rfl rfl rfl (WO.p rfl rfl (WO.p rfl rfl ?_)))
                                               refine WO.guard_bl rfl rfl (fun c10 => ?_) (fun c10 => ?_)
                                               · first
                                                 | (exfalso; omega)
                                                 | (refine WO.pg rfl rfl rfl (WO.go' rfl ?_)
                                                    refine' WO.buildSl (cs := _) rfl rfl rfl rfl ?hf rfl rfl ?hl rfl (fun v5 => ?_)
                                                    case hf => (conv => lhs; simp [-List.getD_eq_getElem?_getD, fillL, vcl, wrl, TTab.pl?.lget']) <;> rfl
                                                    case hl => rfl
                                                    refine WO.go' rfl ?_
                                                    refine WO.callR (r := .bool true) rfl Try.call23 (fun L w hi => longs_t (law_longs w r1 _ [0, 2, 4, 7, 10] [0, 2, 4, 7, 10] (RdF.of_ow (e := 2) encI_ok (by repeat (first | exact Pick.head | apply Pick.tail)) hi) (RdF.of_ow (e := 2) encI_ok (by repeat (first | exact Pick.head | apply Pick.tail)) hi)) rfl) rfl ?_
                                                    refine WO.p rfl rfl (WO.p rfl rfl (WO.pg rfl rfl rfl (WO.pg rfl rfl rfl (WO.p rfl rfl (WO.p rfl rfl ?_)))))
                                                    refine WO.guard_bl rfl rfl (fun c11 => ?_) (fun c11 => ?_)
                                                    · first
                                                      | (exfalso; omega)
                                                      | (refine WO.pg rfl rfl rfl (WO.pg rfl rfl rfl (WO.p rfl rfl (WO.p rfl rfl ?_)))
                                                         refine WO.guard_bl rfl rfl (fun c12 => ?_) (fun c12 => ?_)
                                                         · first
                                                           | (exfalso; omega)
                                                           | (refine WO.pg rfl rfl rfl (WO.go' rfl ?_)
                                                              refine' WO.build (cs := _) rfl rfl rfl ?hf rfl ?_
                                                              case hf => (conv => lhs; simp [-List.getD_eq_getElem?_getD, fillL, vcl, wrl, TTab.pl?.lget']) <;> rfl
                                                              refine WO.go' rfl ?_
                                                              refine' WO.build (cs := _) rfl rfl rfl ?hf rfl ?_
                                                              case hf => (conv => lhs; simp [-List.getD_eq_getElem?_getD, fillL, vcl, wrl, TTab.pl?.lget']) <;> rfl
                                                              refine WO.go' rfl ?_
                                                              refine' WO.build (cs := _) rfl rfl rfl ?hf rfl ?_
                                                              case hf => (conv => lhs; simp [-List.getD_eq_getElem?_getD, fillL, vcl, wrl, TTab.pl?.lget']) <;> rfl
                                                              refine WO.go' rfl ?_
                                                              refine' WO.build (cs := _) rfl rfl rfl ?hf rfl ?_
                                                              case hf => (conv => lhs; simp [-List.getD_eq_getElem?_getD, fillL, vcl, wrl, TTab.pl?.lget']) <;> rfl
                                                              refine WO.go' rfl ?_
                                                              refine' WO.build (cs := _) rfl rfl rfl ?hf rfl ?_
                                                              case hf => (conv => lhs; simp [-List.getD_eq_getElem?_getD, fillL, vcl, wrl, TTab.pl?.lget']) <;> rfl
                                                              refine WO.go' rfl ?_
                                                              refine' WO.buildSl (cs := _) rfl rfl rfl rfl ?hf rfl rfl ?hl rfl (fun v6 => ?_)
                                                              case hf => (conv => lhs; simp [-List.getD_eq_getElem?_getD, fillL, vcl, wrl, TTab.pl?.lget']) <;> rfl
                                                              case hl => rfl
                                                              refine WO.go' rfl ?_
                                                              refine WO.callR (r := .bool true) rfl Try.call31 (fun L w hi => ranges_t (law_ranges w r2 _ [(0, 0), (2, 2), (4, 4), (6, 7), (10, 10)] [(0, 0), (2, 2), (4, 4), (6, 7), (10, 10)] (RdF.of_ow (e := 51) encP_ok (by repeat (first | exact Pick.head | apply Pick.tail)) hi) (RdF.of_ow (e := 51) encP_ok (by repeat (first | exact Pick.head | apply Pick.tail)) hi)) rfl) rfl ?_
                                                              refine WO.p rfl rfl (WO.p rfl rfl ?_)
                                                              refine WO.nil ?_
                                                              refine W.ret ?_
                                                              exact fin.ret (Res.one rfl (RV.tmp rfl)) rfl)
                                                         · first
                                                           | (exfalso; omega)
                                                           | (refine WO.no rfl rfl (WO.no rfl rfl (WO.no rfl rfl (WO.no rfl rfl (WO.no rfl rfl (WO.no rfl rfl (WO.no rfl rfl (WO.no rfl rfl (WO.p rfl rfl (WO.p rfl rfl ?_)))))))))
                                                              refine WO.nil ?_
                                                              refine W.ret ?_
                                                              exact fin.ret (Res.one rfl (RV.tmp rfl)) rfl))
                                                    · first
                                                      | (exfalso; omega)
                                                      | (refine WO.no rfl rfl (WO.no rfl rfl (WO.p rfl rfl (WO.p rfl rfl (WO.no rfl rfl (WO.no rfl rfl (WO.no rfl rfl (WO.no rfl rfl (WO.no rfl rfl (WO.no rfl rfl (WO.no rfl rfl (WO.no rfl rfl ?_)))))))))))
                                                         refine WO.p rfl rfl (WO.p rfl rfl ?_)
                                                         refine WO.nil ?_
                                                         refine W.ret ?_
                                                         exact fin.ret (Res.one rfl (RV.tmp rfl)) rfl))
                                               · first
                                                 | (exfalso; omega)
                                                 | (refine WO.no rfl rfl (WO.no rfl rfl (WO.no rfl rfl (WO.p rfl rfl (WO.p rfl rfl (WO.no rfl rfl (WO.no rfl rfl (WO.p rfl rfl (WO.p rfl rfl (WO.no rfl rfl (WO.no rfl rfl (WO.p rfl rfl ?_)))))))))))
                                                    refine WO.p rfl rfl (WO.no rfl rfl (WO.no rfl rfl (WO.no rfl rfl (WO.no rfl rfl (WO.no rfl rfl (WO.no rfl rfl (WO.no rfl rfl (WO.no rfl rfl (WO.p rfl rfl (WO.p rfl rfl ?_))))))))))
                                                    refine WO.nil ?_
                                                    refine W.ret ?_
                                                    exact fin.ret (Res.one rfl (RV.tmp rfl)) rfl))
                                          · first
                                            | (exfalso; omega)
                                            | (refine WO.no rfl rfl (WO.no rfl rfl (WO.p rfl rfl (WO.p rfl rfl (WO.no rfl rfl (WO.no rfl rfl (WO.no rfl rfl (WO.p rfl rfl (WO.p rfl rfl (WO.no rfl rfl (WO.no rfl rfl (WO.p rfl rfl ?_)))))))))))
                                               refine WO.p rfl rfl (WO.no rfl rfl (WO.no rfl rfl (WO.p rfl rfl (WO.p rfl rfl (WO.no rfl rfl (WO.no rfl rfl (WO.no rfl rfl (WO.no rfl rfl (WO.no rfl rfl (WO.no rfl rfl (WO.no rfl rfl ?_)))))))))))
                                               refine WO.no rfl rfl (WO.p rfl rfl (WO.p rfl rfl ?_))
                                               refine WO.nil ?_
                                               refine W.ret ?_
                                               exact fin.ret (Res.one rfl (RV.tmp rfl)) rfl))
                                     · first
                                       | (exfalso; omega)
                                       | (refine WO.no rfl rfl (WO.no rfl rfl (WO.p rfl rfl (WO.p rfl rfl (WO.no rfl rfl (WO.no rfl rfl (WO.p rfl rfl (WO.p rfl rfl (WO.no rfl rfl (WO.no rfl rfl (WO.no rfl rfl (WO.p rfl rfl ?_)))))))))))
                                          refine WO.p rfl rfl (WO.no rfl rfl (WO.no rfl rfl (WO.p rfl rfl (WO.p rfl rfl (WO.no rfl rfl (WO.no rfl rfl (WO.p rfl rfl (WO.p rfl rfl (WO.no rfl rfl (WO.no rfl rfl (WO.no rfl rfl ?_)))))))))))
                                          refine WO.no rfl rfl (WO.no rfl rfl (WO.no rfl rfl (WO.no rfl rfl (WO.no rfl rfl (WO.p rfl rfl (WO.p rfl rfl ?_))))))
                                          refine WO.nil ?_
                                          refine W.ret ?_
                                          exact fin.ret (Res.one rfl (RV.tmp rfl)) rfl))
                                · first
                                  | (exfalso; omega)
                                  | (refine WO.no rfl rfl (WO.no rfl rfl (WO.p rfl rfl (WO.p rfl rfl (WO.no rfl rfl (WO.no rfl rfl (WO.p rfl rfl (WO.p rfl rfl (WO.no rfl rfl (WO.no rfl rfl (WO.p rfl rfl (WO.p rfl rfl ?_)))))))))))
                                     refine WO.no rfl rfl (WO.no rfl rfl (WO.no rfl rfl (WO.p rfl rfl (WO.p rfl rfl (WO.no rfl rfl (WO.no rfl rfl (WO.p rfl rfl (WO.p rfl rfl (WO.no rfl rfl (WO.no rfl rfl (WO.p rfl rfl ?_)))))))))))
                                     refine WO.p rfl rfl (WO.no rfl rfl (WO.no rfl rfl (WO.no rfl rfl (WO.no rfl rfl (WO.no rfl rfl (WO.no rfl rfl (WO.no rfl rfl (WO.no rfl rfl (WO.p rfl rfl (WO.p rfl rfl ?_))))))))))
                                     refine WO.nil ?_
                                     refine W.ret ?_
                                     exact fin.ret (Res.one rfl (RV.tmp rfl)) rfl))
                           · first
                             | (exfalso; omega)
                             | (refine WO.no rfl rfl (WO.no rfl rfl (WO.p rfl rfl (WO.p rfl rfl (WO.no rfl rfl (WO.no rfl rfl (WO.p rfl rfl (WO.p rfl rfl (WO.no rfl rfl (WO.no rfl rfl (WO.p rfl rfl (WO.p rfl rfl ?_)))))))))))
                                refine WO.no rfl rfl (WO.no rfl rfl (WO.p rfl rfl (WO.p rfl rfl (WO.no rfl rfl (WO.no rfl rfl (WO.no rfl rfl (WO.p rfl rfl (WO.p rfl rfl (WO.no rfl rfl (WO.no rfl rfl (WO.p rfl rfl ?_)))))))))))
                                refine WO.p rfl rfl (WO.no rfl rfl (WO.no rfl rfl (WO.p rfl rfl (WO.p rfl rfl (WO.no rfl rfl (WO.no rfl rfl (WO.no rfl rfl (WO.no rfl rfl (WO.no rfl rfl (WO.no rfl rfl (WO.no rfl rfl ?_)))))))))))
                                refine WO.no rfl rfl (WO.p rfl rfl (WO.p rfl rfl ?_))
                                refine WO.nil ?_
                                refine W.ret ?_
                                exact fin.ret (Res.one rfl (RV.tmp rfl)) rfl))
                      · first
                        | (exfalso; omega)
                        | (refine WO.no rfl rfl (WO.no rfl rfl (WO.p rfl rfl (WO.p rfl rfl (WO.no rfl rfl (WO.no rfl rfl (WO.p rfl rfl (WO.p rfl rfl (WO.no rfl rfl (WO.no rfl rfl (WO.p rfl rfl (WO.p rfl rfl ?_)))))))))))
                           refine WO.no rfl rfl (WO.no rfl rfl (WO.p rfl rfl (WO.p rfl rfl (WO.no rfl rfl (WO.no rfl rfl (WO.p rfl rfl (WO.p rfl rfl (WO.no rfl rfl (WO.no rfl rfl (WO.no rfl rfl (WO.p rfl rfl ?_)))))))))))
                           refine WO.p rfl rfl (WO.no rfl rfl (WO.no rfl rfl (WO.p rfl rfl (WO.p rfl rfl (WO.no rfl rfl (WO.no rfl rfl (WO.p rfl rfl (WO.p rfl rfl (WO.no rfl rfl (WO.no rfl rfl (WO.no rfl rfl ?_)))))))))))
                           refine WO.no rfl rfl (WO.no rfl rfl (WO.no rfl rfl (WO.no rfl rfl (WO.no rfl rfl (WO.p rfl rfl (WO.p rfl rfl ?_))))))
                           refine WO.nil ?_
                           refine W.ret ?_
                           exact fin.ret (Res.one rfl (RV.tmp rfl)) rfl))
                 · first
                   | (exfalso; omega)
                   | (refine WO.no rfl rfl (WO.no rfl rfl (WO.p rfl rfl (WO.p rfl rfl (WO.no rfl rfl (WO.no rfl rfl (WO.p rfl rfl (WO.p rfl rfl (WO.no rfl rfl (WO.no rfl rfl (WO.p rfl rfl (WO.p rfl rfl ?_)))))))))))
                      refine WO.no rfl rfl (WO.no rfl rfl (WO.p rfl rfl (WO.p rfl rfl (WO.no rfl rfl (WO.no rfl rfl (WO.p rfl rfl (WO.p rfl rfl (WO.no rfl rfl (WO.no rfl rfl (WO.p rfl rfl (WO.p rfl rfl ?_)))))))))))
                      refine WO.no rfl rfl (WO.no rfl rfl (WO.no rfl rfl (WO.p rfl rfl (WO.p rfl rfl (WO.no rfl rfl (WO.no rfl rfl (WO.p rfl rfl (WO.p rfl rfl (WO.no rfl rfl (WO.no rfl rfl (WO.p rfl rfl ?_)))))))))))
                      refine WO.p rfl rfl (WO.no rfl rfl (WO.no rfl rfl (WO.no rfl rfl (WO.no rfl rfl (WO.no rfl rfl (WO.no rfl rfl (WO.no rfl rfl (WO.no rfl rfl (WO.p rfl rfl (WO.p rfl rfl ?_))))))))))
                      refine WO.nil ?_
                      refine W.ret ?_
                      exact fin.ret (Res.one rfl (RV.tmp rfl)) rfl))
            · first
              | (exfalso; omega)
              | (refine WO.no rfl rfl (WO.no rfl rfl (WO.p rfl rfl (WO.p rfl rfl (WO.no rfl rfl (WO.no rfl rfl (WO.p rfl rfl (WO.p rfl rfl (WO.no rfl rfl (WO.no rfl rfl (WO.p rfl rfl (WO.p rfl rfl ?_)))))))))))
                 refine WO.no rfl rfl (WO.no rfl rfl (WO.p rfl rfl (WO.p rfl rfl (WO.no rfl rfl (WO.no rfl rfl (WO.p rfl rfl (WO.p rfl rfl (WO.no rfl rfl (WO.no rfl rfl (WO.p rfl rfl (WO.p rfl rfl ?_)))))))))))
                 refine WO.no rfl rfl (WO.no rfl rfl (WO.p rfl rfl (WO.p rfl rfl (WO.no rfl rfl (WO.no rfl rfl (WO.no rfl rfl (WO.p rfl rfl (WO.p rfl rfl (WO.no rfl rfl (WO.no rfl rfl (WO.p rfl rfl ?_)))))))))))
                 refine WO.p rfl rfl (WO.no rfl rfl (WO.no rfl rfl (WO.p rfl rfl (WO.p rfl rfl (WO.no rfl rfl (WO.no rfl rfl (WO.no rfl rfl (WO.no rfl rfl (WO.no rfl rfl (WO.no rfl rfl (WO.no rfl rfl ?_)))))))))))
                 refine WO.no rfl rfl (WO.p rfl rfl (WO.p rfl rfl ?_))
                 refine WO.nil ?_
                 refine W.ret ?_
                 exact fin.ret (Res.one rfl (RV.tmp rfl)) rfl))
       · first
         | (exfalso; omega)
         | (refine WO.no rfl rfl (WO.no rfl rfl (WO.p rfl rfl (WO.p rfl rfl (WO.no rfl rfl (WO.no rfl rfl (WO.p rfl rfl (WO.p rfl rfl (WO.no rfl rfl (WO.no rfl rfl (WO.p rfl rfl (WO.p rfl rfl ?_)))))))))))
            refine WO.no rfl rfl (WO.no rfl rfl (WO.p rfl rfl (WO.p rfl rfl (WO.no rfl rfl (WO.no rfl rfl (WO.p rfl rfl (WO.p rfl rfl (WO.no rfl rfl (WO.no rfl rfl (WO.p rfl rfl (WO.p rfl rfl ?_)))))))))))
            refine WO.no rfl rfl (WO.no rfl rfl (WO.p rfl rfl (WO.p rfl rfl (WO.no rfl rfl (WO.no rfl rfl (WO.p rfl rfl (WO.p rfl rfl (WO.no rfl rfl (WO.no rfl rfl (WO.no rfl rfl (WO.p rfl rfl ?_)))))))))))
            refine WO.p rfl rfl (WO.no rfl rfl (WO.no rfl rfl (WO.p rfl rfl (WO.p rfl rfl (WO.no rfl rfl (WO.no rfl rfl (WO.p rfl rfl (WO.p rfl rfl (WO.no rfl rfl (WO.no rfl rfl (WO.no rfl rfl ?_)))))))))))
            refine WO.no rfl rfl (WO.no rfl rfl (WO.no rfl rfl (WO.no rfl rfl (WO.no rfl rfl (WO.p rfl rfl (WO.p rfl rfl ?_))))))
            refine WO.nil ?_
            refine W.ret ?_
            exact fin.ret (Res.one rfl (RV.tmp rfl)) rfl))
  · first
    | (exfalso; omega)
    | (refine WO.no rfl rfl (WO.no rfl rfl (WO.p rfl rfl (WO.p rfl rfl (WO.no rfl rfl (WO.no rfl rfl (WO.p rfl rfl (WO.p rfl rfl (WO.no rfl rfl (WO.no rfl rfl (WO.p rfl rfl (WO.p rfl rfl ?_)))))))))))
       refine WO.no rfl rfl (WO.no rfl rfl (WO.p rfl rfl (WO.p rfl rfl (WO.no rfl rfl (WO.no rfl rfl (WO.p rfl rfl (WO.p rfl rfl (WO.no rfl rfl (WO.no rfl rfl (WO.p rfl rfl (WO.p rfl rfl ?_)))))))))))
       refine WO.no rfl rfl (WO.no rfl rfl (WO.p rfl rfl (WO.p rfl rfl (WO.no rfl rfl (WO.no rfl rfl (WO.p rfl rfl (WO.p rfl rfl (WO.no rfl rfl (WO.no rfl rfl (WO.p rfl rfl (WO.p rfl rfl ?_)))))))))))
       refine WO.no rfl rfl (WO.no rfl rfl (WO.no rfl rfl (WO.p rfl rfl (WO.p rfl rfl (WO.no rfl rfl (WO.no rfl rfl (WO.p rfl rfl (WO.p rfl rfl (WO.no rfl rfl (WO.no rfl rfl (WO.p rfl rfl ?_)))))))))))
       refine WO.p rfl rfl (WO.no rfl rfl (WO.no rfl rfl (WO.no rfl rfl (WO.no rfl rfl (WO.no rfl rfl (WO.no rfl rfl (WO.no rfl rfl (WO.no rfl rfl (WO.p rfl rfl (WO.p rfl rfl ?_))))))))))
       refine WO.nil ?_
       refine W.ret ?_
       exact fin.ret (Res.one rfl (RV.tmp rfl)) rfl)
end Go.Proofs.Ytpecakgebhmnfaa
namespace Go.Proofs.Ytpecakgebhmnfaa
open Go Go.TH
attribute [local irreducible] W WO pt
set_option maxRecDepth 10000
set_option maxHeartbeats 1000000
theorem meaV_ex (xs : List Int) : ∃ a b e, meaV xs = .tuple #[.int .i64 a, .int .i64 b, .int .i64 e] := by
  unfold meaV
  split
  · exact ⟨_, _, _, rfl⟩
  · exact ⟨_, _, _, rfl⟩
theorem ckV_ex (l : List (Int × Int)) (t : Int) (xs : List Int) : ∃ a e, ckV l t xs = .tuple #[.int .i64 a, .int .i64 e] := by
  unfold ckV
  split
  · exact ⟨_, _, rfl⟩
  · exact ⟨_, _, rfl⟩
theorem law_FairMeasures (w : World) (o v : Value) (l : List (Int × Int)) (t : Int) (xs : List Int) (hR : RdF encP 2 w.heap.size w o l) (hX : RdF encI 1 w.heap.size w v xs) : Ret Try.prog 3 [.agg #[o, .int .i64 t], v].toArray w (.bool true) := by
  refine Ret.of mixed tyTab Try.func3 rfl rfl ?_
  replace hR : RdF encP 2 (fnCx mixed tyTab Try.f3.ntmps w).B (fnCx mixed tyTab Try.f3.ntmps w).w0 o l := hR
  replace hX : RdF encI 1 (fnCx mixed tyTab Try.f3.ntmps w).B (fnCx mixed tyTab Try.f3.ntmps w).w0 v xs := hX
  have hoc := hR.sl.oc
  obtain ⟨a, b, e, hm⟩ := meaV_ex xs
  obtain ⟨c, f, hk⟩ := ckV_ex l t xs
  refine W.sreg ?_
  refine WO.boxA rfl rfl (fun b1 hb1 => ?_)
  refine WO.p rfl rfl ?_
  refine WO.nil ?_
  refine W.seq ?_
  refine W.sreg ?_
  refine WO.field0 rfl rfl rfl (WO.load rfl rfl (Cell.own Pick.head rfl) rfl ?_)
  refine' WO.len (n := _) rfl rfl ?hs rfl ?_
  case hs => (first | exact hR.sl)
  refine WO.p rfl rfl (WO.p rfl rfl ?_)
  refine WO.guard_bl rfl rfl (fun c1 => ?_) (fun c1 => ?_)
  · first
    | (exfalso; omega)
    | (refine WO.no rfl rfl (WO.no rfl rfl (WO.no rfl rfl (WO.no rfl rfl (WO.no rfl rfl (WO.no rfl rfl (WO.no rfl rfl (WO.no rfl rfl (WO.p rfl rfl (WO.p rfl rfl (WO.no rfl rfl (WO.no rfl rfl ?_)))))))))))
       refine WO.no rfl rfl (WO.p rfl rfl ?_)
       refine WO.nil ?_
       refine W.cond_t rfl ?_
       refine W.sreg ?_
       refine WO.callR rfl Try.call13 (fun L w hi => l_Works w) rfl ?_
       refine WO.p rfl rfl ?_
       refine WO.nil ?_
       refine W.ret ?_
       exact fin.ret (Res.one rfl (RV.tmp rfl)) rfl)
  · first
    | (exfalso; omega)
    | (refine WO.pg rfl rfl rfl (WO.go' rfl ?_)
       refine' WO.len (n := _) rfl rfl ?hs rfl ?_
       case hs => (first | exact hX.sl)
       refine WO.pg rfl rfl rfl (WO.pg rfl rfl rfl ?_)
       refine WO.guard_bl rfl rfl (fun c2 => ?_) (fun c2 => ?_)
       · first
         | (exfalso; omega)
         | (refine WO.pg rfl rfl rfl (WO.go' rfl ?_)
            refine' WO.len (n := _) rfl rfl ?hs rfl ?_
            case hs => (first | exact hX.sl)
            refine WO.pg rfl rfl rfl (WO.pg rfl rfl rfl (WO.p rfl rfl (WO.p rfl rfl ?_)))
            refine WO.guard_bl rfl rfl (fun c3 => ?_) (fun c3 => ?_)
            · first
              | (exfalso; omega)
              | (refine WO.no rfl rfl (WO.no rfl rfl (WO.no rfl rfl (WO.p rfl rfl ?_)))
                 refine WO.nil ?_
                 refine W.cond_t rfl ?_
                 refine W.sreg ?_
                 refine WO.callR rfl Try.call13 (fun L w hi => l_Works w) rfl ?_
                 refine WO.p rfl rfl ?_
                 refine WO.nil ?_
                 refine W.ret ?_
                 exact fin.ret (Res.one rfl (RV.tmp rfl)) rfl)
            · first
              | (exfalso; omega)
              | (refine WO.pg rfl rfl rfl (WO.go' rfl ?_)
                 refine' WO.len (n := _) rfl rfl ?hs rfl ?_
                 case hs => (first | exact hX.sl)
                 refine WO.pg rfl rfl rfl (WO.p rfl rfl ?_)
                 refine WO.nil ?_
                 refine W.cond_bl rfl (fun c4 => ?_) (fun c4 => ?_)
                 · first
                   | (exfalso; omega)
                   | (refine W.sreg ?_
                      refine WO.callR rfl Try.call13 (fun L w hi => l_Works w) rfl ?_
                      refine WO.p rfl rfl ?_
                      refine WO.nil ?_
                      refine W.ret ?_
                      exact fin.ret (Res.one rfl (RV.tmp rfl)) rfl)
                 · first
                   | (exfalso; omega)
                   | (refine W.skip ?_
                      refine W.sreg ?_
                      refine WO.p rfl rfl ?_
                      refine WO.callR (r := .tuple #[.int .i64 a, .int .i64 b, .int .i64 e]) rfl Try.call14 (fun L w hi => by rw [← hm]; exact c_Measure w v xs (hX.later hi)) rfl ?_
                      refine WO.p rfl rfl (WO.p rfl rfl (WO.p rfl rfl (WO.p rfl rfl (WO.p rfl rfl (WO.p rfl rfl (WO.p rfl rfl ?_))))))
                      refine WO.nil ?_
                      refine W.sreg ?_
                      refine WO.p rfl rfl ?_
                      refine WO.callR (r := .tuple #[.int .i64 a, .int .i64 b, .int .i64 e]) rfl Try.call15 (fun L w hi => by rw [← hm]; exact ref_Measure w v xs (hX.later hi)) rfl ?_
                      refine WO.p rfl rfl (WO.p rfl rfl (WO.p rfl rfl (WO.p rfl rfl (WO.p rfl rfl (WO.p rfl rfl (WO.p rfl rfl ?_))))))
                      refine WO.nil ?_
                      refine W.sreg ?_
                      refine WO.loadA rfl rfl (Cells.own Pick.head) rfl rfl (WO.p rfl rfl ?_)
                      refine WO.callR (r := .tuple #[.int .i64 c, .int .i64 f]) rfl Try.call16 (fun L w hi => by rw [← hk]; exact c_Check w o v l t xs (hR.later hi) (hX.later hi)) rfl ?_
                      refine WO.p rfl rfl (WO.p rfl rfl (WO.p rfl rfl (WO.p rfl rfl (WO.p rfl rfl ?_))))
                      refine WO.nil ?_
                      refine W.sreg ?_
                      refine WO.loadA rfl rfl (Cells.own Pick.head) rfl rfl (WO.p rfl rfl ?_)
                      refine WO.callR (r := .tuple #[.int .i64 c, .int .i64 f]) rfl Try.call17 (fun L w hi => by rw [← hk]; exact ref_Check w o v l t xs (hR.later hi) (hX.later hi)) rfl ?_
                      refine WO.p rfl rfl (WO.p rfl rfl (WO.p rfl rfl (WO.p rfl rfl (WO.p rfl rfl ?_))))
                      refine WO.nil ?_
                      refine W.seq ?_
                      refine W.drawD 28 [.b 0 [], .b 1 [], .b 2 [], .b 3 [], .r 4 [], .r 5 [], .r 6 [], .r 7 [], .r 8 [], .r 9 [], .r 10 [], .r 11 [], .r 12 [], .r 13 [], .r 14 [], .r 15 [], .r 16 [], .r 17 [], .r 18 [], .r 19 [], .r 20 [], .r 21 [], .r 22 [], .r 23 [], .r 24 [], .r 25 [], .r 26 [], .r 27 []] [] (A0 := []) (Sub.refl _) (by kernel_rfl) ?_ ?_
                      · exact (ALok.b (ALok.b (ALok.b (ALok.b (ALok.r (ALok.r (ALok.r (ALok.r (ALok.r (ALok.r (ALok.r (ALok.r (ALok.r (ALok.r (ALok.r (ALok.r (ALok.r (ALok.r (ALok.r (ALok.r (ALok.r (ALok.r (ALok.r (ALok.r (ALok.r (ALok.r (ALok.r (ALok.r ALok.nil))))))))))))))))))))))))))))
                      refine' DT.b rfl rfl rfl ?hq ?_
                      case hq =>
                        refine WO.loadA rfl rfl (Cells.own Pick.head) rfl rfl ?_
                        exact WO.nil ⟨rfl, rfl⟩
                      refine' DT.b rfl rfl rfl ?hq ?_
                      case hq =>
                        refine WO.callR rfl Try.call18 (fun L w hi => c_CheckSpots w o l t (hR.later hi)) rfl ?_
                        exact WO.nil ⟨rfl, rfl⟩
                      refine' DT.b rfl rfl rfl ?hq ?_
                      case hq =>
                        refine WO.loadA rfl rfl (Cells.own Pick.head) rfl rfl ?_
                        exact WO.nil ⟨rfl, rfl⟩
                      refine' DT.b rfl rfl rfl ?hq ?_
                      case hq =>
                        refine WO.callR rfl Try.call19 (fun L w hi => ref_CheckSpots w o l t (hR.later hi)) rfl ?_
                        exact WO.nil ⟨rfl, rfl⟩
                      refine' DT.r rfl rfl rfl ?hq ?_
                      case hq =>
                        refine WO.p rfl rfl ?_
                        exact WO.nil ⟨rfl, rfl⟩
                      refine' DT.rB rfl rfl rfl ?hq (fun c5 => ?_) (fun c5 => ?_)
                      case hq =>
                        refine WO.p rfl rfl ?_
                        exact WO.nil ⟨rfl, rfl⟩
                      · first
                        | (exfalso; omega)
                        | (refine' DT.r rfl rfl rfl ?hq ?_
                           case hq =>
                             refine WO.pg rfl rfl rfl ?_
                             exact WO.nil ⟨rfl, rfl⟩
                           refine' DT.r rfl rfl rfl ?hq ?_
                           case hq =>
                             refine WO.pg rfl rfl rfl ?_
                             exact WO.nil ⟨rfl, rfl⟩
                           refine' DT.r rfl rfl rfl ?hq ?_
                           case hq =>
                             refine WO.pg rfl rfl rfl ?_
                             exact WO.nil ⟨rfl, rfl⟩
                           refine' DT.r rfl rfl rfl ?hq ?_
                           case hq =>
                             refine WO.p rfl rfl ?_
                             exact WO.nil ⟨rfl, rfl⟩
                           refine' DT.rB rfl rfl rfl ?hq (fun c6 => ?_) (fun c6 => ?_)
                           case hq =>
                             refine WO.p rfl rfl ?_
                             exact WO.nil ⟨rfl, rfl⟩
                           · first
                             | (exfalso; omega)
                             | (refine' DT.r rfl rfl rfl ?hq ?_
                                case hq =>
                                  refine WO.pg rfl rfl rfl ?_
                                  exact WO.nil ⟨rfl, rfl⟩
                                refine' DT.r rfl rfl rfl ?hq ?_
                                case hq =>
                                  refine WO.pg rfl rfl rfl ?_
                                  exact WO.nil ⟨rfl, rfl⟩
                                refine' DT.r rfl rfl rfl ?hq ?_
                                case hq =>
                                  refine WO.pg rfl rfl rfl ?_
                                  exact WO.nil ⟨rfl, rfl⟩
                                refine' DT.r rfl rfl rfl ?hq ?_
                                case hq =>
                                  refine WO.p rfl rfl ?_
                                  exact WO.nil ⟨rfl, rfl⟩
                                refine' DT.rB rfl rfl rfl ?hq (fun c7 => ?_) (fun c7 => ?_)
                                case hq =>
                                  refine WO.p rfl rfl ?_
                                  exact WO.nil ⟨rfl, rfl⟩
                                · first
                                  | (exfalso; omega)
                                  | (refine' DT.r rfl rfl rfl ?hq ?_
                                     case hq =>
                                       refine WO.pg rfl rfl rfl ?_
                                       exact WO.nil ⟨rfl, rfl⟩
                                     refine' DT.r rfl rfl rfl ?hq ?_
                                     case hq =>
                                       refine WO.pg rfl rfl rfl ?_
                                       exact WO.nil ⟨rfl, rfl⟩
                                     refine' DT.r rfl rfl rfl ?hq ?_
                                     case hq =>
                                       refine WO.pg rfl rfl rfl ?_
                                       exact WO.nil ⟨rfl, rfl⟩
                                     refine' DT.r rfl rfl rfl ?hq ?_
                                     case hq =>
                                       refine WO.p rfl rfl ?_
                                       exact WO.nil ⟨rfl, rfl⟩
                                     refine' DT.rB rfl rfl rfl ?hq (fun c8 => ?_) (fun c8 => ?_)
                                     case hq =>
                                       refine WO.p rfl rfl ?_
                                       exact WO.nil ⟨rfl, rfl⟩
                                     · first
                                       | (exfalso; omega)
                                       | (refine' DT.r rfl rfl rfl ?hq ?_
                                          case hq =>
                                            refine WO.pg rfl rfl rfl ?_
                                            exact WO.nil ⟨rfl, rfl⟩
                                          refine' DT.r rfl rfl rfl ?hq ?_
                                          case hq =>
                                            refine WO.pg rfl rfl rfl ?_
                                            exact WO.nil ⟨rfl, rfl⟩
                                          refine' DT.r rfl rfl rfl ?hq ?_
                                          case hq =>
                                            refine WO.pg rfl rfl rfl ?_
                                            exact WO.nil ⟨rfl, rfl⟩
                                          refine' DT.r rfl rfl rfl ?hq ?_
                                          case hq =>
                                            refine WO.p rfl rfl ?_
                                            exact WO.nil ⟨rfl, rfl⟩
                                          refine' DT.rB rfl rfl rfl ?hq (fun c9 => ?_) (fun c9 => ?_)
                                          case hq =>
                                            refine WO.p rfl rfl ?_
                                            exact WO.nil ⟨rfl, rfl⟩
                                          · first
                                            | (exfalso; omega)
                                            | (refine' DT.r rfl rfl rfl ?hq ?_
                                               case hq =>
                                                 refine WO.pg rfl rfl rfl ?_
                                                 exact WO.nil ⟨rfl, rfl⟩
                                               refine' DT.r rfl rfl rfl ?hq ?_
                                               case hq =>
                                                 refine WO.pg rfl rfl rfl ?_
                                                 exact WO.nil ⟨rfl, rfl⟩
                                               refine DT.nil [_] rfl ?_
                                               refine WO.pg rfl rfl rfl (WO.p rfl rfl (WO.p rfl rfl ?_))
                                               refine WO.guard_bl rfl rfl (fun c10 => ?_) (fun c10 => ?_)
                                               · first
                                                 | (exfalso; omega)
                                                 | (refine WO.go' rfl ?_
                                                    refine WO.callR rfl Try.call13 (fun L w hi => l_Works w) rfl ?_
                                                    refine WO.p rfl rfl (WO.p rfl rfl ?_)
                                                    refine WO.nil ?_
                                                    refine W.ret ?_
                                                    exact fin.ret (Res.one rfl (RV.tmp rfl)) rfl)
                                               · first
                                                 | (exfalso; omega)
                                                 | (refine WO.no rfl rfl (WO.p rfl rfl (WO.p rfl rfl ?_))
                                                    refine WO.nil ?_
                                                    refine W.ret ?_
                                                    exact fin.ret (Res.one rfl (RV.tmp rfl)) rfl))
                                          · first
                                            | (exfalso; omega)
                                            | (refine' DT.r rfl rfl rfl ?hq ?_
                                               case hq =>
                                                 refine WO.no rfl rfl ?_
                                                 exact WO.nil ⟨rfl, rfl⟩
                                               refine' DT.r rfl rfl rfl ?hq ?_
                                               case hq =>
                                                 refine WO.no rfl rfl ?_
                                                 exact WO.nil ⟨rfl, rfl⟩
                                               refine DT.nil [_] rfl ?_
                                               refine WO.no rfl rfl (WO.p rfl rfl (WO.p rfl rfl (WO.no rfl rfl (WO.p rfl rfl (WO.p rfl rfl ?_)))))
                                               refine WO.nil ?_
                                               refine W.ret ?_
                                               exact fin.ret (Res.one rfl (RV.tmp rfl)) rfl))
                                     · first
                                       | (exfalso; omega)
                                       | (refine' DT.r rfl rfl rfl ?hq ?_
                                          case hq =>
                                            refine WO.no rfl rfl ?_
                                            exact WO.nil ⟨rfl, rfl⟩
                                          refine' DT.r rfl rfl rfl ?hq ?_
                                          case hq =>
                                            refine WO.no rfl rfl ?_
                                            exact WO.nil ⟨rfl, rfl⟩
                                          refine' DT.r rfl rfl rfl ?hq ?_
                                          case hq =>
                                            refine WO.no rfl rfl ?_
                                            exact WO.nil ⟨rfl, rfl⟩
                                          refine' DT.r rfl rfl rfl ?hq ?_
                                          case hq =>
                                            refine WO.p rfl rfl ?_
                                            exact WO.nil ⟨rfl, rfl⟩
                                          refine' DT.r rfl rfl rfl ?hq ?_
                                          case hq =>
                                            refine WO.p rfl rfl ?_
                                            exact WO.nil ⟨rfl, rfl⟩
                                          refine' DT.r rfl rfl rfl ?hq ?_
                                          case hq =>
                                            refine WO.no rfl rfl ?_
                                            exact WO.nil ⟨rfl, rfl⟩
                                          refine' DT.r rfl rfl rfl ?hq ?_
                                          case hq =>
                                            refine WO.no rfl rfl ?_
                                            exact WO.nil ⟨rfl, rfl⟩
                                          refine DT.nil [_] rfl ?_
                                          refine WO.no rfl rfl (WO.p rfl rfl (WO.p rfl rfl (WO.no rfl rfl (WO.p rfl rfl (WO.p rfl rfl ?_)))))
                                          refine WO.nil ?_
                                          refine W.ret ?_
                                          exact fin.ret (Res.one rfl (RV.tmp rfl)) rfl))
                                · first
                                  | (exfalso; omega)
                                  | (refine' DT.r rfl rfl rfl ?hq ?_
                                     case hq =>
                                       refine WO.no rfl rfl ?_
                                       exact WO.nil ⟨rfl, rfl⟩
                                     refine' DT.r rfl rfl rfl ?hq ?_
                                     case hq =>
                                       refine WO.no rfl rfl ?_
                                       exact WO.nil ⟨rfl, rfl⟩
                                     refine' DT.r rfl rfl rfl ?hq ?_
                                     case hq =>
                                       refine WO.no rfl rfl ?_
                                       exact WO.nil ⟨rfl, rfl⟩
                                     refine' DT.r rfl rfl rfl ?hq ?_
                                     case hq =>
                                       refine WO.p rfl rfl ?_
                                       exact WO.nil ⟨rfl, rfl⟩
                                     refine' DT.r rfl rfl rfl ?hq ?_
                                     case hq =>
                                       refine WO.p rfl rfl ?_
                                       exact WO.nil ⟨rfl, rfl⟩
                                     refine' DT.r rfl rfl rfl ?hq ?_
                                     case hq =>
                                       refine WO.no rfl rfl ?_
                                       exact WO.nil ⟨rfl, rfl⟩
                                     refine' DT.r rfl rfl rfl ?hq ?_
                                     case hq =>
                                       refine WO.no rfl rfl ?_
                                       exact WO.nil ⟨rfl, rfl⟩
                                     refine' DT.r rfl rfl rfl ?hq ?_
                                     case hq =>
                                       refine WO.no rfl rfl ?_
                                       exact WO.nil ⟨rfl, rfl⟩
                                     refine' DT.r rfl rfl rfl ?hq ?_
                                     case hq =>
                                       refine WO.p rfl rfl ?_
                                       exact WO.nil ⟨rfl, rfl⟩
                                     refine' DT.r rfl rfl rfl ?hq ?_
                                     case hq =>
                                       refine WO.p rfl rfl ?_
                                       exact WO.nil ⟨rfl, rfl⟩
                                     refine' DT.r rfl rfl rfl ?hq ?_
                                     case hq =>
                                       refine WO.no rfl rfl ?_
                                       exact WO.nil ⟨rfl, rfl⟩
                                     refine' DT.r rfl rfl rfl ?hq ?_
                                     case hq =>
                                       refine WO.no rfl rfl ?_
                                       exact WO.nil ⟨rfl, rfl⟩
                                     refine DT.nil [_] rfl ?_
                                     refine WO.no rfl rfl (WO.p rfl rfl (WO.p rfl rfl (WO.no rfl rfl (WO.p rfl rfl (WO.p rfl rfl ?_)))))
                                     refine WO.nil ?_
                                     refine W.ret ?_
                                     exact fin.ret (Res.one rfl (RV.tmp rfl)) rfl))
                           · first
                             | (exfalso; omega)
                             | (refine' DT.r rfl rfl rfl ?hq ?_
                                case hq =>
                                  refine WO.no rfl rfl ?_
                                  exact WO.nil ⟨rfl, rfl⟩
                                refine' DT.r rfl rfl rfl ?hq ?_
                                case hq =>
                                  refine WO.no rfl rfl ?_
                                  exact WO.nil ⟨rfl, rfl⟩
                                refine' DT.r rfl rfl rfl ?hq ?_
                                case hq =>
                                  refine WO.no rfl rfl ?_
                                  exact WO.nil ⟨rfl, rfl⟩
                                refine' DT.r rfl rfl rfl ?hq ?_
                                case hq =>
                                  refine WO.p rfl rfl ?_
                                  exact WO.nil ⟨rfl, rfl⟩
                                refine' DT.r rfl rfl rfl ?hq ?_
                                case hq =>
                                  refine WO.p rfl rfl ?_
                                  exact WO.nil ⟨rfl, rfl⟩
                                refine' DT.r rfl rfl rfl ?hq ?_
                                case hq =>
                                  refine WO.no rfl rfl ?_
                                  exact WO.nil ⟨rfl, rfl⟩
                                refine' DT.r rfl rfl rfl ?hq ?_
                                case hq =>
                                  refine WO.no rfl rfl ?_
                                  exact WO.nil ⟨rfl, rfl⟩
                                refine' DT.r rfl rfl rfl ?hq ?_
                                case hq =>
                                  refine WO.no rfl rfl ?_
                                  exact WO.nil ⟨rfl, rfl⟩
                                refine' DT.r rfl rfl rfl ?hq ?_
                                case hq =>
                                  refine WO.p rfl rfl ?_
                                  exact WO.nil ⟨rfl, rfl⟩
                                refine' DT.r rfl rfl rfl ?hq ?_
                                case hq =>
                                  refine WO.p rfl rfl ?_
                                  exact WO.nil ⟨rfl, rfl⟩
                                refine' DT.r rfl rfl rfl ?hq ?_
                                case hq =>
                                  refine WO.no rfl rfl ?_
                                  exact WO.nil ⟨rfl, rfl⟩
                                refine' DT.r rfl rfl rfl ?hq ?_
                                case hq =>
                                  refine WO.no rfl rfl ?_
                                  exact WO.nil ⟨rfl, rfl⟩
                                refine' DT.r rfl rfl rfl ?hq ?_
                                case hq =>
                                  refine WO.no rfl rfl ?_
                                  exact WO.nil ⟨rfl, rfl⟩
                                refine' DT.r rfl rfl rfl ?hq ?_
                                case hq =>
                                  refine WO.p rfl rfl ?_
                                  exact WO.nil ⟨rfl, rfl⟩
                                refine' DT.r rfl rfl rfl ?hq ?_
                                case hq =>
                                  refine WO.p rfl rfl ?_
                                  exact WO.nil ⟨rfl, rfl⟩
                                refine' DT.r rfl rfl rfl ?hq ?_
                                case hq =>
                                  refine WO.no rfl rfl ?_
                                  exact WO.nil ⟨rfl, rfl⟩
                                refine' DT.r rfl rfl rfl ?hq ?_
                                case hq =>
                                  refine WO.no rfl rfl ?_
                                  exact WO.nil ⟨rfl, rfl⟩
                                refine DT.nil [_] rfl ?_
                                refine WO.no rfl rfl (WO.p rfl rfl (WO.p rfl rfl (WO.no rfl rfl (WO.p rfl rfl (WO.p rfl rfl ?_)))))
                                refine WO.nil ?_
                                refine W.ret ?_
                                exact fin.ret (Res.one rfl (RV.tmp rfl)) rfl))
                      · first
                        | (exfalso; omega)
                        | (refine' DT.r rfl rfl rfl ?hq ?_
                           case hq =>
                             refine WO.no rfl rfl ?_
                             exact WO.nil ⟨rfl, rfl⟩
                           refine' DT.r rfl rfl rfl ?hq ?_
                           case hq =>
                             refine WO.no rfl rfl ?_
                             exact WO.nil ⟨rfl, rfl⟩
                           refine' DT.r rfl rfl rfl ?hq ?_
                           case hq =>
                             refine WO.no rfl rfl ?_
                             exact WO.nil ⟨rfl, rfl⟩
                           refine' DT.r rfl rfl rfl ?hq ?_
                           case hq =>
                             refine WO.p rfl rfl ?_
                             exact WO.nil ⟨rfl, rfl⟩
                           refine' DT.r rfl rfl rfl ?hq ?_
                           case hq =>
                             refine WO.p rfl rfl ?_
                             exact WO.nil ⟨rfl, rfl⟩
                           refine' DT.r rfl rfl rfl ?hq ?_
                           case hq =>
                             refine WO.no rfl rfl ?_
                             exact WO.nil ⟨rfl, rfl⟩
                           refine' DT.r rfl rfl rfl ?hq ?_
                           case hq =>
                             refine WO.no rfl rfl ?_
                             exact WO.nil ⟨rfl, rfl⟩
                           refine' DT.r rfl rfl rfl ?hq ?_
                           case hq =>
                             refine WO.no rfl rfl ?_
                             exact WO.nil ⟨rfl, rfl⟩
                           refine' DT.r rfl rfl rfl ?hq ?_
                           case hq =>
                             refine WO.p rfl rfl ?_
                             exact WO.nil ⟨rfl, rfl⟩
                           refine' DT.r rfl rfl rfl ?hq ?_
                           case hq =>
                             refine WO.p rfl rfl ?_
                             exact WO.nil ⟨rfl, rfl⟩
                           refine' DT.r rfl rfl rfl ?hq ?_
                           case hq =>
                             refine WO.no rfl rfl ?_
                             exact WO.nil ⟨rfl, rfl⟩
                           refine' DT.r rfl rfl rfl ?hq ?_
                           case hq =>
                             refine WO.no rfl rfl ?_
                             exact WO.nil ⟨rfl, rfl⟩
                           refine' DT.r rfl rfl rfl ?hq ?_
                           case hq =>
                             refine WO.no rfl rfl ?_
                             exact WO.nil ⟨rfl, rfl⟩
                           refine' DT.r rfl rfl rfl ?hq ?_
                           case hq =>
                             refine WO.p rfl rfl ?_
                             exact WO.nil ⟨rfl, rfl⟩
                           refine' DT.r rfl rfl rfl ?hq ?_
                           case hq =>
                             refine WO.p rfl rfl ?_
                             exact WO.nil ⟨rfl, rfl⟩
                           refine' DT.r rfl rfl rfl ?hq ?_
                           case hq =>
                             refine WO.no rfl rfl ?_
                             exact WO.nil ⟨rfl, rfl⟩
                           refine' DT.r rfl rfl rfl ?hq ?_
                           case hq =>
                             refine WO.no rfl rfl ?_
                             exact WO.nil ⟨rfl, rfl⟩
                           refine' DT.r rfl rfl rfl ?hq ?_
                           case hq =>
                             refine WO.no rfl rfl ?_
                             exact WO.nil ⟨rfl, rfl⟩
                           refine' DT.r rfl rfl rfl ?hq ?_
                           case hq =>
                             refine WO.p rfl rfl ?_
                             exact WO.nil ⟨rfl, rfl⟩
                           refine' DT.r rfl rfl rfl ?hq ?_
                           case hq =>
                             refine WO.p rfl rfl ?_
                             exact WO.nil ⟨rfl, rfl⟩
                           refine' DT.r rfl rfl rfl ?hq ?_
                           case hq =>
                             refine WO.no rfl rfl ?_
                             exact WO.nil ⟨rfl, rfl⟩
                           refine' DT.r rfl rfl rfl ?hq ?_
                           case hq =>
                             refine WO.no rfl rfl ?_
                             exact WO.nil ⟨rfl, rfl⟩
                           refine DT.nil [_] rfl ?_
                           refine WO.no rfl rfl (WO.p rfl rfl (WO.p rfl rfl (WO.no rfl rfl (WO.p rfl rfl (WO.p rfl rfl ?_)))))
                           refine WO.nil ?_
                           refine W.ret ?_
                           exact fin.ret (Res.one rfl (RV.tmp rfl)) rfl))))
       · first
         | (exfalso; omega)
         | (refine WO.no rfl rfl (WO.no rfl rfl (WO.no rfl rfl (WO.pg rfl rfl rfl (WO.p rfl rfl (WO.p rfl rfl (WO.pg rfl rfl rfl (WO.go' rfl ?_)))))))
            refine' WO.len (n := _) rfl rfl ?hs rfl ?_
            case hs => (first | exact hX.sl)
            refine WO.pg rfl rfl rfl (WO.p rfl rfl ?_)
            refine WO.nil ?_
            refine W.cond_bl rfl (fun c11 => ?_) (fun c11 => ?_)
            · first
              | (exfalso; omega)
              | (refine W.sreg ?_
                 refine WO.callR rfl Try.call13 (fun L w hi => l_Works w) rfl ?_
                 refine WO.p rfl rfl ?_
                 refine WO.nil ?_
                 refine W.ret ?_
                 exact fin.ret (Res.one rfl (RV.tmp rfl)) rfl)
            · first
              | (exfalso; omega)
              | (refine W.skip ?_
                 refine W.sreg ?_
                 refine WO.p rfl rfl ?_
                 refine WO.callR (r := .tuple #[.int .i64 a, .int .i64 b, .int .i64 e]) rfl Try.call14 (fun L w hi => by rw [← hm]; exact c_Measure w v xs (hX.later hi)) rfl ?_
                 refine WO.p rfl rfl (WO.p rfl rfl (WO.p rfl rfl (WO.p rfl rfl (WO.p rfl rfl (WO.p rfl rfl (WO.p rfl rfl ?_))))))
                 refine WO.nil ?_
                 refine W.sreg ?_
                 refine WO.p rfl rfl ?_
                 refine WO.callR (r := .tuple #[.int .i64 a, .int .i64 b, .int .i64 e]) rfl Try.call15 (fun L w hi => by rw [← hm]; exact ref_Measure w v xs (hX.later hi)) rfl ?_
                 refine WO.p rfl rfl (WO.p rfl rfl (WO.p rfl rfl (WO.p rfl rfl (WO.p rfl rfl (WO.p rfl rfl (WO.p rfl rfl ?_))))))
                 refine WO.nil ?_
                 refine W.sreg ?_
                 refine WO.loadA rfl rfl (Cells.own Pick.head) rfl rfl (WO.p rfl rfl ?_)
                 refine WO.callR (r := .tuple #[.int .i64 c, .int .i64 f]) rfl Try.call16 (fun L w hi => by rw [← hk]; exact c_Check w o v l t xs (hR.later hi) (hX.later hi)) rfl ?_
                 refine WO.p rfl rfl (WO.p rfl rfl (WO.p rfl rfl (WO.p rfl rfl (WO.p rfl rfl ?_))))
                 refine WO.nil ?_
                 refine W.sreg ?_
                 refine WO.loadA rfl rfl (Cells.own Pick.head) rfl rfl (WO.p rfl rfl ?_)
                 refine WO.callR (r := .tuple #[.int .i64 c, .int .i64 f]) rfl Try.call17 (fun L w hi => by rw [← hk]; exact ref_Check w o v l t xs (hR.later hi) (hX.later hi)) rfl ?_
                 refine WO.p rfl rfl (WO.p rfl rfl (WO.p rfl rfl (WO.p rfl rfl (WO.p rfl rfl ?_))))
                 refine WO.nil ?_
                 refine W.seq ?_
                 refine W.drawD 28 [.b 0 [], .b 1 [], .b 2 [], .b 3 [], .r 4 [], .r 5 [], .r 6 [], .r 7 [], .r 8 [], .r 9 [], .r 10 [], .r 11 [], .r 12 [], .r 13 [], .r 14 [], .r 15 [], .r 16 [], .r 17 [], .r 18 [], .r 19 [], .r 20 [], .r 21 [], .r 22 [], .r 23 [], .r 24 [], .r 25 [], .r 26 [], .r 27 []] [] (A0 := []) (Sub.refl _) (by kernel_rfl) ?_ ?_
                 · exact (ALok.b (ALok.b (ALok.b (ALok.b (ALok.r (ALok.r (ALok.r (ALok.r (ALok.r (ALok.r (ALok.r (ALok.r (ALok.r (ALok.r (ALok.r (ALok.r (ALok.r (ALok.r (ALok.r (ALok.r (ALok.r (ALok.r (ALok.r (ALok.r (ALok.r (ALok.r (ALok.r (ALok.r ALok.nil))))))))))))))))))))))))))))
                 refine' DT.b rfl rfl rfl ?hq ?_
                 case hq =>
                   refine WO.loadA rfl rfl (Cells.own Pick.head) rfl rfl ?_
                   exact WO.nil ⟨rfl, rfl⟩
                 refine' DT.b rfl rfl rfl ?hq ?_
                 case hq =>
                   refine WO.callR rfl Try.call18 (fun L w hi => c_CheckSpots w o l t (hR.later hi)) rfl ?_
                   exact WO.nil ⟨rfl, rfl⟩
                 refine' DT.b rfl rfl rfl ?hq ?_
                 case hq =>
                   refine WO.loadA rfl rfl (Cells.own Pick.head) rfl rfl ?_
                   exact WO.nil ⟨rfl, rfl⟩
                 refine' DT.b rfl rfl rfl ?hq ?_
                 case hq =>
                   refine WO.callR rfl Try.call19 (fun L w hi => ref_CheckSpots w o l t (hR.later hi)) rfl ?_
                   exact WO.nil ⟨rfl, rfl⟩
                 refine' DT.r rfl rfl rfl ?hq ?_
                 case hq =>
                   refine WO.p rfl rfl ?_
                   exact WO.nil ⟨rfl, rfl⟩
                 refine' DT.rB rfl rfl rfl ?hq (fun c12 => ?_) (fun c12 => ?_)
                 case hq =>
                   refine WO.p rfl rfl ?_
                   exact WO.nil ⟨rfl, rfl⟩
                 · first
                   | (exfalso; omega)
                   | (refine' DT.r rfl rfl rfl ?hq ?_
                      case hq =>
                        refine WO.pg rfl rfl rfl ?_
                        exact WO.nil ⟨rfl, rfl⟩
                      refine' DT.r rfl rfl rfl ?hq ?_
                      case hq =>
                        refine WO.pg rfl rfl rfl ?_
                        exact WO.nil ⟨rfl, rfl⟩
                      refine' DT.r rfl rfl rfl ?hq ?_
                      case hq =>
                        refine WO.pg rfl rfl rfl ?_
                        exact WO.nil ⟨rfl, rfl⟩
                      refine' DT.r rfl rfl rfl ?hq ?_
                      case hq =>
                        refine WO.p rfl rfl ?_
                        exact WO.nil ⟨rfl, rfl⟩
                      refine' DT.rB rfl rfl rfl ?hq (fun c13 => ?_) (fun c13 => ?_)
                      case hq =>
                        refine WO.p rfl rfl ?_
                        exact WO.nil ⟨rfl, rfl⟩
                      · first
                        | (exfalso; omega)
                        | (refine' DT.r rfl rfl rfl ?hq ?_
                           case hq =>
                             refine WO.pg rfl rfl rfl ?_
                             exact WO.nil ⟨rfl, rfl⟩
                           refine' DT.r rfl rfl rfl ?hq ?_
                           case hq =>
                             refine WO.pg rfl rfl rfl ?_
                             exact WO.nil ⟨rfl, rfl⟩
                           refine' DT.r rfl rfl rfl ?hq ?_
                           case hq =>
                             refine WO.pg rfl rfl rfl ?_
                             exact WO.nil ⟨rfl, rfl⟩
                           refine' DT.r rfl rfl rfl ?hq ?_
                           case hq =>
                             refine WO.p rfl rfl ?_
                             exact WO.nil ⟨rfl, rfl⟩
                           refine' DT.rB rfl rfl rfl ?hq (fun c14 => ?_) (fun c14 => ?_)
                           case hq =>
                             refine WO.p rfl rfl ?_
                             exact WO.nil ⟨rfl, rfl⟩
                           · first
                             | (exfalso; omega)
                             | (refine' DT.r rfl rfl rfl ?hq ?_
                                case hq =>
                                  refine WO.pg rfl rfl rfl ?_
                                  exact WO.nil ⟨rfl, rfl⟩
                                refine' DT.r rfl rfl rfl ?hq ?_
                                case hq =>
                                  refine WO.pg rfl rfl rfl ?_
                                  exact WO.nil ⟨rfl, rfl⟩
                                refine' DT.r rfl rfl rfl ?hq ?_
                                case hq =>
                                  refine WO.pg rfl rfl rfl ?_
                                  exact WO.nil ⟨rfl, rfl⟩
                                refine' DT.r rfl rfl rfl ?hq ?_
                                case hq =>
                                  refine WO.p rfl rfl ?_
                                  exact WO.nil ⟨rfl, rfl⟩
                                refine' DT.rB rfl rfl rfl ?hq (fun c15 => ?_) (fun c15 => ?_)
                                case hq =>
                                  refine WO.p rfl rfl ?_
                                  exact WO.nil ⟨rfl, rfl⟩
                                · first
                                  | (exfalso; omega)
                                  | (refine' DT.r rfl rfl rfl ?hq ?_
                                     case hq =>
                                       refine WO.pg rfl rfl rfl ?_
                                       exact WO.nil ⟨rfl, rfl⟩
                                     refine' DT.r rfl rfl rfl ?hq ?_
                                     case hq =>
                                       refine WO.pg rfl rfl rfl ?_
                                       exact WO.nil ⟨rfl, rfl⟩
                                     refine' DT.r rfl rfl rfl ?hq ?_
                                     case hq =>
                                       refine WO.pg rfl rfl rfl ?_
                                       exact WO.nil ⟨rfl, rfl⟩
                                     refine' DT.r rfl rfl rfl ?hq ?_
                                     case hq =>
                                       refine WO.p rfl rfl ?_
                                       exact WO.nil ⟨rfl, rfl⟩
                                     refine' DT.rB rfl rfl rfl ?hq (fun c16 => ?_) (fun c16 => ?_)
                                     case hq =>
                                       refine WO.p rfl rfl ?_
                                       exact WO.nil ⟨rfl, rfl⟩
                                     · first
                                       | (exfalso; omega)
                                       | (refine' DT.r rfl rfl rfl ?hq ?_
                                          case hq =>
                                            refine WO.pg rfl rfl rfl ?_
                                            exact WO.nil ⟨rfl, rfl⟩
                                          refine' DT.r rfl rfl rfl ?hq ?_
                                          case hq =>
                                            refine WO.pg rfl rfl rfl ?_
                                            exact WO.nil ⟨rfl, rfl⟩
                                          refine DT.nil [_] rfl ?_
                                          refine WO.pg rfl rfl rfl (WO.p rfl rfl (WO.p rfl rfl ?_))
                                          refine WO.guard_bl rfl rfl (fun c17 => ?_) (fun c17 => ?_)
                                          · first
                                            | (exfalso; omega)
                                            | (refine WO.go' rfl ?_
                                               refine WO.callR rfl Try.call13 (fun L w hi => l_Works w) rfl ?_
                                               refine WO.p rfl rfl (WO.p rfl rfl ?_)
                                               refine WO.nil ?_
                                               refine W.ret ?_
                                               exact fin.ret (Res.one rfl (RV.tmp rfl)) rfl)
                                          · first
                                            | (exfalso; omega)
                                            | (refine WO.no rfl rfl (WO.p rfl rfl (WO.p rfl rfl ?_))
                                               refine WO.nil ?_
                                               refine W.ret ?_
                                               exact fin.ret (Res.one rfl (RV.tmp rfl)) rfl))
                                     · first
                                       | (exfalso; omega)
                                       | (refine' DT.r rfl rfl rfl ?hq ?_
                                          case hq =>
                                            refine WO.no rfl rfl ?_
                                            exact WO.nil ⟨rfl, rfl⟩
                                          refine' DT.r rfl rfl rfl ?hq ?_
                                          case hq =>
                                            refine WO.no rfl rfl ?_
                                            exact WO.nil ⟨rfl, rfl⟩
                                          refine DT.nil [_] rfl ?_
                                          refine WO.no rfl rfl (WO.p rfl rfl (WO.p rfl rfl (WO.no rfl rfl (WO.p rfl rfl (WO.p rfl rfl ?_)))))
                                          refine WO.nil ?_
                                          refine W.ret ?_
                                          exact fin.ret (Res.one rfl (RV.tmp rfl)) rfl))
                                · first
                                  | (exfalso; omega)
                                  | (refine' DT.r rfl rfl rfl ?hq ?_
                                     case hq =>
                                       refine WO.no rfl rfl ?_
                                       exact WO.nil ⟨rfl, rfl⟩
                                     refine' DT.r rfl rfl rfl ?hq ?_
                                     case hq =>
                                       refine WO.no rfl rfl ?_
                                       exact WO.nil ⟨rfl, rfl⟩
                                     refine' DT.r rfl rfl rfl ?hq ?_
                                     case hq =>
                                       refine WO.no rfl rfl ?_
                                       exact WO.nil ⟨rfl, rfl⟩
                                     refine' DT.r rfl rfl rfl ?hq ?_
                                     case hq =>
                                       refine WO.p rfl rfl ?_
                                       exact WO.nil ⟨rfl, rfl⟩
                                     refine' DT.r rfl rfl rfl ?hq ?_
                                     case hq =>
                                       refine WO.p rfl rfl ?_
                                       exact WO.nil ⟨rfl, rfl⟩
                                     refine' DT.r rfl rfl rfl ?hq ?_
                                     case hq =>
                                       refine WO.no rfl rfl ?_
                                       exact WO.nil ⟨rfl, rfl⟩
                                     refine' DT.r rfl rfl rfl ?hq ?_
                                     case hq =>
                                       refine WO.no rfl rfl ?_
                                       exact WO.nil ⟨rfl, rfl⟩
                                     refine DT.nil [_] rfl ?_
                                     refine WO.no rfl rfl (WO.p rfl rfl (WO.p rfl rfl (WO.no rfl rfl (WO.p rfl rfl (WO.p rfl rfl ?_)))))
                                     refine WO.nil ?_
                                     refine W.ret ?_
                                     exact fin.ret (Res.one rfl (RV.tmp rfl)) rfl))
                           · first
                             | (exfalso; omega)
                             | (refine' DT.r rfl rfl rfl ?hq ?_
                                case hq =>
                                  refine WO.no rfl rfl ?_
                                  exact WO.nil ⟨rfl, rfl⟩
                                refine' DT.r rfl rfl rfl ?hq ?_
                                case hq =>
                                  refine WO.no rfl rfl ?_
                                  exact WO.nil ⟨rfl, rfl⟩
                                refine' DT.r rfl rfl rfl ?hq ?_
                                case hq =>
                                  refine WO.no rfl rfl ?_
                                  exact WO.nil ⟨rfl, rfl⟩
                                refine' DT.r rfl rfl rfl ?hq ?_
                                case hq =>
                                  refine WO.p rfl rfl ?_
                                  exact WO.nil ⟨rfl, rfl⟩
                                refine' DT.r rfl rfl rfl ?hq ?_
                                case hq =>
                                  refine WO.p rfl rfl ?_
                                  exact WO.nil ⟨rfl, rfl⟩
                                refine' DT.r rfl rfl rfl ?hq ?_
                                case hq =>
                                  refine WO.no rfl rfl ?_
                                  exact WO.nil ⟨rfl, rfl⟩
                                refine' DT.r rfl rfl rfl ?hq ?_
                                case hq =>
                                  refine WO.no rfl rfl ?_
                                  exact WO.nil ⟨rfl, rfl⟩
                                refine' DT.r rfl rfl rfl ?hq ?_
                                case hq =>
                                  refine WO.no rfl rfl ?_
                                  exact WO.nil ⟨rfl, rfl⟩
                                refine' DT.r rfl rfl rfl ?hq ?_
                                case hq =>
                                  refine WO.p rfl rfl ?_
                                  exact WO.nil ⟨rfl, rfl⟩
                                refine' DT.r rfl rfl rfl ?hq ?_
                                case hq =>
                                  refine WO.p rfl rfl ?_
                                  exact WO.nil ⟨rfl, rfl⟩
                                refine' DT.r rfl rfl rfl ?hq ?_
                                case hq =>
                                  refine WO.no rfl rfl ?_
                                  exact WO.nil ⟨rfl, rfl⟩
                                refine' DT.r rfl rfl rfl ?hq ?_
                                case hq =>
                                  refine WO.no rfl rfl ?_
                                  exact WO.nil ⟨rfl, rfl⟩
                                refine DT.nil [_] rfl ?_
                                refine WO.no rfl rfl (WO.p rfl rfl (WO.p rfl rfl (WO.no rfl rfl (WO.p rfl rfl (WO.p rfl rfl ?_)))))
                                refine WO.nil ?_
                                refine W.ret ?_
                                exact fin.ret (Res.one rfl (RV.tmp rfl)) rfl))
                      · first
                        | (exfalso; omega)
                        | (refine' DT.r rfl rfl rfl ?hq ?_
                           case hq =>
                             refine WO.no rfl rfl ?_
                             exact WO.nil ⟨rfl, rfl⟩
                           refine' DT.r rfl rfl rfl ?hq ?_
                           case hq =>
                             refine WO.no rfl rfl ?_
                             exact WO.nil ⟨rfl, rfl⟩
                           refine' DT.r rfl rfl rfl ?hq ?_
                           case hq =>
                             refine WO.no rfl rfl ?_
                             exact WO.nil ⟨rfl, rfl⟩
                           refine' DT.r rfl rfl rfl ?hq ?_
                           case hq =>
                             refine WO.p rfl rfl ?_
                             exact WO.nil ⟨rfl, rfl⟩
                           refine' DT.r rfl rfl rfl ?hq ?_
                           case hq =>
                             refine WO.p rfl rfl ?_
                             exact WO.nil ⟨rfl, rfl⟩
                           refine' DT.r rfl rfl rfl ?hq ?_
                           case hq =>
                             refine WO.no rfl rfl ?_
                             exact WO.nil ⟨rfl, rfl⟩
                           refine' DT.r rfl rfl rfl ?hq ?_
                           case hq =>
                             refine WO.no rfl rfl ?_
                             exact WO.nil ⟨rfl, rfl⟩
                           refine' DT.r rfl rfl rfl ?hq ?_
                           case hq =>
                             refine WO.no rfl rfl ?_
                             exact WO.nil ⟨rfl, rfl⟩
                           refine' DT.r rfl rfl rfl ?hq ?_
                           case hq =>
                             refine WO.p rfl rfl ?_
                             exact WO.nil ⟨rfl, rfl⟩
                           refine' DT.r rfl rfl rfl ?hq ?_
                           case hq =>
                             refine WO.p rfl rfl ?_
                             exact WO.nil ⟨rfl, rfl⟩
                           refine' DT.r rfl rfl rfl ?hq ?_
                           case hq =>
                             refine WO.no rfl rfl ?_
                             exact WO.nil ⟨rfl, rfl⟩
                           refine' DT.r rfl rfl rfl ?hq ?_
                           case hq =>
                             refine WO.no rfl rfl ?_
                             exact WO.nil ⟨rfl, rfl⟩
                           refine' DT.r rfl rfl rfl ?hq ?_
                           case hq =>
                             refine WO.no rfl rfl ?_
                             exact WO.nil ⟨rfl, rfl⟩
                           refine' DT.r rfl rfl rfl ?hq ?_
                           case hq =>
                             refine WO.p rfl rfl ?_
                             exact WO.nil ⟨rfl, rfl⟩
                           refine' DT.r rfl rfl rfl ?hq ?_
                           case hq =>
                             refine WO.p rfl rfl ?_
                             exact WO.nil ⟨rfl, rfl⟩
                           refine' DT.r rfl rfl rfl ?hq ?_
                           case hq =>
                             refine WO.no rfl rfl ?_
                             exact WO.nil ⟨rfl, rfl⟩
                           refine' DT.r rfl rfl rfl ?hq ?_
                           case hq =>
                             refine WO.no rfl rfl ?_
                             exact WO.nil ⟨rfl, rfl⟩
                           refine DT.nil [_] rfl ?_
                           refine WO.no rfl rfl (WO.p rfl rfl (WO.p rfl rfl (WO.no rfl rfl (WO.p rfl rfl (WO.p rfl rfl ?_)))))
                           refine WO.nil ?_
                           refine W.ret ?_
                           exact fin.ret (Res.one rfl (RV.tmp rfl)) rfl))
                 · first
                   | (exfalso; omega)
                   | (refine' DT.r rfl rfl rfl ?hq ?_
                      case hq =>
                        refine WO.no rfl rfl ?_
                        exact WO.nil ⟨rfl, rfl⟩
                      refine' DT.r rfl rfl rfl ?hq ?_
                      case hq =>
                        refine WO.no rfl rfl ?_
                        exact WO.nil ⟨rfl, rfl⟩
                      refine' DT.r rfl rfl rfl ?hq ?_
                      case hq =>
                        refine WO.no rfl rfl ?_
                        exact WO.nil ⟨rfl, rfl⟩
                      refine' DT.r rfl rfl rfl ?hq ?_
                      case hq =>
                        refine WO.p rfl rfl ?_
                        exact WO.nil ⟨rfl, rfl⟩
                      refine' DT.r rfl rfl rfl ?hq ?_
                      case hq =>
                        refine WO.p rfl rfl ?_
                        exact WO.nil ⟨rfl, rfl⟩
                      refine' DT.r rfl rfl rfl ?hq ?_
                      case hq =>
                        refine WO.no rfl rfl ?_
                        exact WO.nil ⟨rfl, rfl⟩
                      refine' DT.r rfl rfl rfl ?hq ?_
                      case hq =>
                        refine WO.no rfl rfl ?_
                        exact WO.nil ⟨rfl, rfl⟩
                      refine' DT.r rfl rfl rfl ?hq ?_
                      case hq =>
                        refine WO.no rfl rfl ?_
                        exact WO.nil ⟨rfl, rfl⟩
                      refine' DT.r rfl rfl rfl ?hq ?_
                      case hq =>
                        refine WO.p rfl rfl ?_
                        exact WO.nil ⟨rfl, rfl⟩
                      refine' DT.r rfl rfl rfl ?hq ?_
                      case hq =>
                        refine WO.p rfl rfl ?_
                        exact WO.nil ⟨rfl, rfl⟩
                      refine' DT.r rfl rfl rfl ?hq ?_
                      case hq =>
                        refine WO.no rfl rfl ?_
                        exact WO.nil ⟨rfl, rfl⟩
                      refine' DT.r rfl rfl rfl ?hq ?_
                      case hq =>
                        refine WO.no rfl rfl ?_
                        exact WO.nil ⟨rfl, rfl⟩
                      refine' DT.r rfl rfl rfl ?hq ?_
                      case hq =>
                        refine WO.no rfl rfl ?_
                        exact WO.nil ⟨rfl, rfl⟩
                      refine' DT.r rfl rfl rfl ?hq ?_
                      case hq =>
                        refine WO.p rfl rfl ?_
                        exact WO.nil ⟨rfl, rfl⟩
                      refine' DT.r rfl rfl rfl ?hq ?_
                      case hq =>
                        refine WO.p rfl rfl ?_
                        exact WO.nil ⟨rfl, rfl⟩
                      refine' DT.r rfl rfl rfl ?hq ?_
                      case hq =>
                        refine WO.no rfl rfl ?_
                        exact WO.nil ⟨rfl, rfl⟩
                      refine' DT.r rfl rfl rfl ?hq ?_
                      case hq =>
                        refine WO.no rfl rfl ?_
                        exact WO.nil ⟨rfl, rfl⟩
                      refine' DT.r rfl rfl rfl ?hq ?_
                      case hq =>
                        refine WO.no rfl rfl ?_
                        exact WO.nil ⟨rfl, rfl⟩
                      refine' DT.r rfl rfl rfl ?hq ?_
                      case hq =>
                        refine WO.p rfl rfl ?_
                        exact WO.nil ⟨rfl, rfl⟩
                      refine' DT.r rfl rfl rfl ?hq ?_
                      case hq =>
                        refine WO.p rfl rfl ?_
                        exact WO.nil ⟨rfl, rfl⟩
                      refine' DT.r rfl rfl rfl ?hq ?_
                      case hq =>
                        refine WO.no rfl rfl ?_
                        exact WO.nil ⟨rfl, rfl⟩
                      refine' DT.r rfl rfl rfl ?hq ?_
                      case hq =>
                        refine WO.no rfl rfl ?_
                        exact WO.nil ⟨rfl, rfl⟩
                      refine DT.nil [_] rfl ?_
                      refine WO.no rfl rfl (WO.p rfl rfl (WO.p rfl rfl (WO.no rfl rfl (WO.p rfl rfl (WO.p rfl rfl ?_)))))
                      refine WO.nil ?_
                      refine W.ret ?_
                      exact fin.ret (Res.one rfl (RV.tmp rfl)) rfl))))
end Go.Proofs.Ytpecakgebhmnfaa
namespace Go.Proofs.Ytpecakgebhmnfaa
open Go Go.TH Go.ChangeShapes Go.WideShapes Go.ChangeAt Go.RowKit
set_option maxRecDepth 100000
section
variable {H : Type} {enc : TypeId × Value → H} {w : World}
theorem cells2 : Try.prog.cellsOf 2 = 1 := by kernel_rfl
theorem cells5 : Try.prog.cellsOf 5 = 1 := by kernel_rfl
theorem cells22 : Try.prog.cellsOf 22 = 1 := by kernel_rfl
theorem cells24 : Try.prog.cellsOf 24 = 2 := by kernel_rfl
theorem cells51 : Try.prog.cellsOf 51 = 2 := by kernel_rfl
theorem cells54 : Try.prog.cellsOf 54 = 2 := by kernel_rfl
theorem wf64 {z : Int} (h : (Lit.int .i64 z).wf = true) : in64 z := by
  simp [Lit.wf, IntKind.min, IntKind.max, IntKind.signed, IntKind.bits] at h
  unfold in64; omega
theorem rd_int {n : Nat} {c : List Value} {y : DataW H × List MemPlace} (h : DataW.trod enc Try.prog w 0 (fun _ => true) true n 2 c = some y) : ∃ z : Int, c = encI z ∧ in64 z := by
  obtain ⟨z, rfl, _, hw⟩ := DataW.trod_int Try.underlying2 h
  exact ⟨z, rfl, wf64 hw⟩
theorem rd_u8 {n : Nat} {c : List Value} {y : DataW H × List MemPlace} (h : DataW.trod enc Try.prog w 0 (fun _ => true) true n 5 c = some y) : ∃ z : Int, c = encU z ∧ 0 ≤ z ∧ z ≤ 255 := by
  obtain ⟨z, rfl, _, hw⟩ := DataW.trod_int Try.underlying5 h
  simp [Lit.wf, IntKind.min, IntKind.max, IntKind.signed, IntKind.bits] at hw
  exact ⟨z, rfl, by omega, by omega⟩
theorem rd_rng {n : Nat} {c : List Value} {y : DataW H × List MemPlace} (hl : c.length = 2) (h : DataW.trod enc Try.prog w 0 (fun _ => true) true n 51 c = some y) : ∃ z : Int × Int, c = encP z ∧ True := by
  obtain ⟨y0, y1, m, _, _, h0, h1⟩ := trod_struct2 Try.underlying51 h
  rw [cells2] at h0 h1
  match c, hl with
  | [a, b], _ =>
    simp at h0 h1
    obtain ⟨u, hu, _⟩ := rd_int h0
    obtain ⟨v, hv, _⟩ := rd_int h1
    simp [encI] at hu hv
    subst hu; subst hv
    exact ⟨(u, v), rfl, trivial⟩
theorem open_spots {base : Nat} {v : Value} {d : DataW H} {ps : List MemPlace} (hv : Value.okWide Try.prog w .any base 24 v) (h : DataW.Trod enc Try.prog w 0 (fun _ => true) true 24 v d ps) :
    ∃ (o : Value) (l : List (Int × Int)) (t : Int), v = .agg #[o, .int .i64 t] ∧ RdF encP 2 w.heap.size w o l ∧ CapS o l.length ∧ in64 t := by
  unfold Value.okWide at hv
  rw [Try.underlying24] at hv
  obtain ⟨cs, rfl, hs, _⟩ := hv
  obtain ⟨fuel, hf⟩ := h
  obtain ⟨y0, y1, n, _, hl, h0, h1⟩ := trod_struct2 Try.underlying24 hf
  rw [cells24] at hl
  rw [cells22] at h0
  rw [cells2] at h1
  obtain ⟨l, hcs⟩ : ∃ l, cs = List.toArray l := ⟨cs.toList, by simp⟩
  subst hcs
  simp only [Value.cells] at hl h0 h1
  match l, hl with
  | [a, b], _ =>
    simp at h0 h1
    obtain ⟨o, xs, ho, hr, _⟩ := open_rd (en := encP) (Q := fun _ => True) Try.underlying22 cells51 (by omega) (fun n c y hl hy => rd_rng hl hy) h0
    have hcap : CapS a xs.length := by
      simp at ho
      subst ho
      obtain ⟨_, a', c', e, _⟩ := hr.sl
      rcases Deep.open_slice Try.underlying22 h0 with ⟨e2, _⟩ | ⟨a2, l', c2, m, n, D, Pl, e2, _, hl2, _⟩
      · simp at e2
        rw [e] at e2
        injection e2 with e3 e4 e5
        exact ⟨none, 0, by rw [e, e3, e4, e5], by omega⟩
      · simp at e2
        rw [e] at e2
        injection e2 with e3 e4 e5
        exact ⟨a', c', by rw [e], by omega⟩
    simp at ho
    subst ho
    obtain ⟨z, hz, hz2⟩ := rd_int h1
    simp [encI] at hz
    subst hz
    exact ⟨a, xs, z, rfl, hr, hcap, hz2⟩
theorem open_list {base : Nat} {v : Value} {d : DataW H} {ps : List MemPlace} (hv : Value.okWide Try.prog w .any base 25 v) (h : DataW.Trod enc Try.prog w 0 (fun _ => true) true 25 v d ps) :
    ∃ xs : List Int, RdF encI 1 w.heap.size w v xs ∧ ∀ x ∈ xs, in64 x := by
  obtain ⟨a0, len, cap, rfl⟩ := okWide_slice Try.underlying25 hv
  obtain ⟨fuel, hf⟩ := h
  obtain ⟨o, xs, ho, hr, hq⟩ := open_rd (en := encI) (Q := in64) Try.underlying25 cells2 (by omega) (fun n c y hl hy => rd_int hy) hf
  simp [Value.cells] at ho
  subst ho
  exact ⟨xs, hr, hq⟩
theorem open_by {base : Nat} {v : Value} {d : DataW H} {ps : List MemPlace} (hv : Value.okWide Try.prog w .any base 45 v) (h : DataW.Trod enc Try.prog w 0 (fun _ => true) true 45 v d ps) :
    ∃ xs : List Int, RdF encU 1 w.heap.size w v xs ∧ ∀ x ∈ xs, 0 ≤ x ∧ x ≤ 255 := by
  obtain ⟨a0, len, cap, rfl⟩ := okWide_slice Try.underlying45 hv
  obtain ⟨fuel, hf⟩ := h
  obtain ⟨o, xs, ho, hr, hq⟩ := open_rd (en := encU) (Q := fun x => 0 ≤ x ∧ x ≤ 255) Try.underlying45 cells5 (by omega) (fun n c y hl hy => rd_u8 hy) hf
  simp [Value.cells] at ho
  subst ho
  exact ⟨xs, hr, hq⟩
theorem open_two8 {base : Nat} {v : Value} {d : DataW H} {ps : List MemPlace} (hv : Value.okWide Try.prog w .any base 54 v) (h : DataW.Trod enc Try.prog w 0 (fun _ => true) true 54 v d ps) :
    ∃ n m : Int, v = .agg #[.int .u8 n, .int .u8 m] ∧ (0 ≤ n ∧ n ≤ 255) ∧ (0 ≤ m ∧ m ≤ 255) := by
  unfold Value.okWide at hv
  rw [Try.underlying54] at hv
  obtain ⟨cs, rfl, hs, _⟩ := hv
  obtain ⟨fuel, hf⟩ := h
  obtain ⟨xs, m, _, _, hl, hx, he⟩ := DataW.trod_array Try.underlying54 hf
  rw [cells54] at hl
  obtain ⟨l, hcs⟩ : ∃ l, cs = List.toArray l := ⟨cs.toList, by simp⟩
  subst hcs
  simp only [Value.cells] at hl he
  match l, hl with
  | [a, b], _ =>
    have h0 := he 0 (by omega)
    have h1 := he 1 (by omega)
    rw [cells5] at h0 h1
    simp at h0 h1
    obtain ⟨y0, hy0⟩ : ∃ y, xs[0]? = some y := ⟨xs[0], by simp [hx]⟩
    obtain ⟨y1, hy1⟩ : ∃ y, xs[1]? = some y := ⟨xs[1], by simp [hx]⟩
    rw [hy0] at h0
    rw [hy1] at h1
    obtain ⟨u, hu, i0⟩ := rd_u8 h0
    obtain ⟨x, hxx, i1⟩ := rd_u8 h1
    simp [encU] at hu hxx
    subst hu; subst hxx
    exact ⟨u, x, rfl, i0, i1⟩
theorem open_kind {k : IntKind} {T base : Nat} (hT : Try.prog.underlying T = some (.int k)) {v : Value} {d : DataW H} {ps : List MemPlace} (hv : Value.okWide Try.prog w .any base T v) (h : DataW.Trod enc Try.prog w 0 (fun _ => true) true T v d ps) : ∃ z : Int, v = .int k z ∧ k.min ≤ z ∧ z ≤ k.max := by
  obtain ⟨z, rfl, _, _, hw⟩ := open_int hT hv h
  simp [Lit.wf] at hw
  exact ⟨z, rfl, by omega, by omega⟩
theorem open_u8 {base : Nat} {v : Value} {d : DataW H} {ps : List MemPlace} (hv : Value.okWide Try.prog w .any base 5 v) (h : DataW.Trod enc Try.prog w 0 (fun _ => true) true 5 v d ps) : ∃ z : Int, v = .int .u8 z ∧ 0 ≤ z ∧ z ≤ 255 := by
  obtain ⟨z, rfl, h1, h2⟩ := open_kind Try.underlying5 hv h
  simp [IntKind.min, IntKind.max, IntKind.signed, IntKind.bits] at h1 h2
  exact ⟨z, rfl, by omega, by omega⟩
theorem open_i16 {base : Nat} {v : Value} {d : DataW H} {ps : List MemPlace} (hv : Value.okWide Try.prog w .any base 49 v) (h : DataW.Trod enc Try.prog w 0 (fun _ => true) true 49 v d ps) : ∃ z : Int, v = .int .i16 z ∧ -32768 ≤ z ∧ z ≤ 32767 := by
  obtain ⟨z, rfl, h1, h2⟩ := open_kind Try.underlying49 hv h
  simp [IntKind.min, IntKind.max, IntKind.signed, IntKind.bits] at h1 h2
  exact ⟨z, rfl, by omega, by omega⟩
theorem open_u32 {base : Nat} {v : Value} {d : DataW H} {ps : List MemPlace} (hv : Value.okWide Try.prog w .any base 55 v) (h : DataW.Trod enc Try.prog w 0 (fun _ => true) true 55 v d ps) : ∃ z : Int, v = .int .u32 z ∧ 0 ≤ z ∧ z ≤ 4294967295 := by
  obtain ⟨z, rfl, h1, h2⟩ := open_kind Try.underlying55 hv h
  simp [IntKind.min, IntKind.max, IntKind.signed, IntKind.bits] at h1 h2
  exact ⟨z, rfl, by omega, by omega⟩
theorem open_i64' {base : Nat} {v : Value} {d : DataW H} {ps : List MemPlace} (hv : Value.okWide Try.prog w .any base 3 v) (h : DataW.Trod enc Try.prog w 0 (fun _ => true) true 3 v d ps) : ∃ z : Int, v = .int .i64 z ∧ in64 z := by
  obtain ⟨z, rfl, h1, h2⟩ := open_kind Try.underlying3 hv h
  simp [IntKind.min, IntKind.max, IntKind.signed, IntKind.bits] at h1 h2
  exact ⟨z, rfl, by unfold in64; omega⟩
end
end Go.Proofs.Ytpecakgebhmnfaa
