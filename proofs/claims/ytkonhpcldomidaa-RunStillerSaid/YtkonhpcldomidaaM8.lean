/-
  What is proved here: the functions of the laws. Conditions: none; each contract states its own.
  What is proved here: the examples hold. Conditions: none; each contract states its own.
  What is proved here: how the arguments of the laws read. Conditions: none.
-/
import Derived.Test.YtkonhpcldomidaaM7
import Derived.Test.YtkonhpcldomidaaM3
import Derived.Deep.Strs
import Derived.OpenShut
set_option linter.unusedVariables false
set_option linter.unusedSimpArgs false
namespace Go.Proofs.Ytkonhpcldomidaa
open Go Go.TH
attribute [local irreducible] W WO pt
set_option maxRecDepth 10000
set_option maxHeartbeats 1000000
theorem list_eqD {xs ys : List Int} (hl : xs.length = ys.length) (h : ∀ j, j < xs.length → xs.getD j 0 = ys.getD j 0) : xs = ys := by
  refine List.ext_getElem hl fun j h1 h2 => ?_
  have := h j h1
  rw [List.getD_eq_getElem?_getD, List.getD_eq_getElem?_getD, List.getElem?_eq_getElem h1, List.getElem?_eq_getElem h2] at this
  exact this
theorem law_longs (w : World) (u v : Value) (xs ys : List Int) (hx : RdF encI 1 w.heap.size w u xs) (hy : RdF encI 1 w.heap.size w v ys) : Ret Try.prog 17 [u, v].toArray w (.bool (bl (xs = ys))) := by
  refine Ret.of mixed tyTab Try.func17 rfl rfl ?_
  replace hx : RdF encI 1 (fnCx mixed tyTab Try.f17.ntmps w).B (fnCx mixed tyTab Try.f17.ntmps w).w0 u xs := hx
  replace hy : RdF encI 1 (fnCx mixed tyTab Try.f17.ntmps w).B (fnCx mixed tyTab Try.f17.ntmps w).w0 v ys := hy
  have hlx := hx.sl.le
  have hly := hy.sl.le
  refine W.sreg ?_
  refine WO.p rfl rfl ?_
  refine WO.nil ?_
  refine W.seq ?_
  refine W.sreg ?_
  refine WO.p rfl rfl ?_
  refine' WO.len (n := _) rfl rfl ?hs rfl ?_
  case hs => (first | exact hx.sl | exact hy.sl)
  refine WO.p rfl rfl ?_
  refine' WO.len (n := _) rfl rfl ?hs rfl ?_
  case hs => (first | exact hx.sl | exact hy.sl)
  refine WO.p rfl rfl ?_
  refine WO.nil ?_
  refine W.cond_bl rfl (fun c1 => ?_) (fun c1 => ?_)
  · first
    | (exfalso; omega)
    | (refine W.sreg ?_
       refine WO.p rfl rfl ?_
       refine WO.nil ?_
       refine W.ret ?_
       refine fin.ret (Res.one rfl (RV.tmp rfl)) (congrArg Value.bool ?_)
       first | exact (bl_f.2 (fun e => by subst e; omega)).symm | exact (bl_t.2 (list_eqD (by omega) (fun k hk => hal k (by omega)))).symm)
  first
  | (exfalso; omega)
  | (refine W.skip ?_
     refine W.seq ?_
     refine W.sreg ?_
     refine WO.p rfl rfl ?_
     refine WO.nil ?_
     refine W.block ?_
     refine W.loop (fun (i : Nat) => i ≤ xs.length ∧ ∀ k, k < i → xs.getD k 0 = ys.getD k 0)
       (fun (i : Nat) => [(5, .int .i64 (i : Int)), (0, u), (1, v)])
       (fun (i : Nat) => [])
       (fun (i : Nat) => xs.length - i) 0
       (by exact ⟨by omega, fun k hk => by omega⟩) ⟨rfl, rfl, rfl, trivial⟩ (by repeat (first | exact Sub.nil | refine Sub.cons (by repeat (first | exact Pick.head | apply Pick.tail)) ?_)) ?_
     rintro i ⟨hi, hal⟩
     refine W.seq ?_
     refine W.sreg ?_
     refine WO.p rfl rfl (WO.p rfl rfl ?_)
     refine' WO.len (n := _) rfl rfl ?hs rfl ?_
     case hs => (first | exact hx.sl | exact hy.sl)
     refine WO.p rfl rfl ?_
     refine WO.nil ?_
     refine W.cond_bl rfl (fun c2 => ?_) (fun c2 => ?_)
     · first
       | (exfalso; omega)
       | (refine W.skip ?_
          refine W.seq ?_
          refine W.block ?_
          refine W.seq ?_
          refine W.drawD 8 [.r 0 [], .r 1 [], .r 2 [], .b 3 [], .r 4 [], .r 5 [], .r 6 [], .b 7 []] [] (A0 := []) (Sub.refl _) (by kernel_rfl) ?_ ?_
          · exact (ALok.r (ALok.r (ALok.r (ALok.b (ALok.r (ALok.r (ALok.r (ALok.b ALok.nil))))))))
          refine' DT.r rfl rfl rfl ?hq ?_
          case hq =>
            refine WO.p rfl rfl ?_
            exact WO.nil ⟨rfl, rfl⟩
          refine' DT.r rfl rfl rfl ?hq ?_
          case hq =>
            refine WO.p rfl rfl ?_
            exact WO.nil ⟨rfl, rfl⟩
          refine' DT.r rfl rfl rfl ?hq ?_
          case hq =>
            refine' WO.indexAddr (n := _) (i := _) rfl rfl rfl ?hs ?h1 rfl ?_
            case hs => (first | exact hx.sl | exact hy.sl)
            case h1 => (first | omega | (simp; omega))
            exact WO.nil ⟨rfl, rfl⟩
          refine' DT.b rfl rfl rfl ?hq ?_
          case hq =>
            refine' WO.load (v := _) rfl rfl ?hc rfl ?_
            case hc => (first | (refine hx.cell0 ?_ 0 ?_ <;> first | rfl | omega) | (refine hy.cell0 ?_ 0 ?_ <;> first | rfl | omega))
            exact WO.nil ⟨rfl, rfl⟩
          refine' DT.r rfl rfl rfl ?hq ?_
          case hq =>
            refine WO.p rfl rfl ?_
            exact WO.nil ⟨rfl, rfl⟩
          refine' DT.r rfl rfl rfl ?hq ?_
          case hq =>
            refine WO.p rfl rfl ?_
            exact WO.nil ⟨rfl, rfl⟩
          refine' DT.r rfl rfl rfl ?hq ?_
          case hq =>
            refine' WO.indexAddr (n := _) (i := _) rfl rfl rfl ?hs ?h1 rfl ?_
            case hs => (first | exact hx.sl | exact hy.sl)
            case h1 => (first | omega | (simp; omega))
            exact WO.nil ⟨rfl, rfl⟩
          refine' DT.b rfl rfl rfl ?hq ?_
          case hq =>
            refine' WO.load (v := _) rfl rfl ?hc rfl ?_
            case hc => (first | (refine hx.cell0 ?_ 0 ?_ <;> first | rfl | omega) | (refine hy.cell0 ?_ 0 ?_ <;> first | rfl | omega))
            exact WO.nil ⟨rfl, rfl⟩
          refine DT.nil [] rfl ?_
          refine WO.p rfl rfl ?_
          refine WO.nil ?_
          refine W.cond_bl rfl (fun c3 => ?_) (fun c3 => ?_)
          · first
            | (exfalso; omega)
            | (refine W.sreg ?_
               refine WO.p rfl rfl ?_
               refine WO.nil ?_
               refine W.ret ?_
               refine fin.ret (Res.one rfl (RV.tmp rfl)) (congrArg Value.bool ?_)
               first | exact (bl_f.2 (fun e => by subst e; omega)).symm | exact (bl_t.2 (list_eqD (by omega) (fun k hk => hal k (by omega)))).symm)
          first
          | (exfalso; omega)
          | (refine W.skip ?_
             refine W.region ?_
             refine WO.p rfl rfl (WO.ar rfl rfl rfl (by (first | (unfold in64; omega) | (unfold in64; omega))) rfl (WO.p rfl rfl ?_))
             refine WO.nil ?_
             refine' ⟨i + 1, ?hp, ?hmu, ⟨rfl, rfl, rfl, trivial⟩, ?hS⟩
             case hS => repeat (first | exact Sub.nil | refine Sub.cons (by repeat (first | exact Pick.head | apply Pick.tail)) ?_)
             case hp => exact ⟨by omega, fun k hk => by (rcases Nat.lt_or_ge k i with h | h; exact hal k h; obtain rfl : k = i := (by omega); omega)⟩
             case hmu => omega))
     first
     | (exfalso; omega)
     | (refine W.exit (blk_same ?_)
        refine W.sreg ?_
        refine WO.p rfl rfl ?_
        refine WO.nil ?_
        refine W.ret ?_
        refine fin.ret (Res.one rfl (RV.tmp rfl)) (congrArg Value.bool ?_)
        first | exact (bl_f.2 (fun e => by subst e; omega)).symm | exact (bl_t.2 (list_eqD (by omega) (fun k hk => hal k (by omega)))).symm))
theorem law_ints (w : World) (u v : Value) (xs ys : List Int) (hx : RdF encI 1 w.heap.size w u xs) (hy : RdF encI 1 w.heap.size w v ys) : Ret Try.prog 23 [u, v].toArray w (.bool (bl (xs = ys))) := by
  refine Ret.of mixed tyTab Try.func23 rfl rfl ?_
  replace hx : RdF encI 1 (fnCx mixed tyTab Try.f23.ntmps w).B (fnCx mixed tyTab Try.f23.ntmps w).w0 u xs := hx
  replace hy : RdF encI 1 (fnCx mixed tyTab Try.f23.ntmps w).B (fnCx mixed tyTab Try.f23.ntmps w).w0 v ys := hy
  have hlx := hx.sl.le
  have hly := hy.sl.le
  refine W.sreg ?_
  refine WO.p rfl rfl ?_
  refine WO.nil ?_
  refine W.seq ?_
  refine W.sreg ?_
  refine WO.p rfl rfl ?_
  refine' WO.len (n := _) rfl rfl ?hs rfl ?_
  case hs => (first | exact hx.sl | exact hy.sl)
  refine WO.p rfl rfl ?_
  refine' WO.len (n := _) rfl rfl ?hs rfl ?_
  case hs => (first | exact hx.sl | exact hy.sl)
  refine WO.p rfl rfl ?_
  refine WO.nil ?_
  refine W.cond_bl rfl (fun c1 => ?_) (fun c1 => ?_)
  · first
    | (exfalso; omega)
    | (refine W.sreg ?_
       refine WO.p rfl rfl ?_
       refine WO.nil ?_
       refine W.ret ?_
       refine fin.ret (Res.one rfl (RV.tmp rfl)) (congrArg Value.bool ?_)
       first | exact (bl_f.2 (fun e => by subst e; omega)).symm | exact (bl_t.2 (list_eqD (by omega) (fun k hk => hal k (by omega)))).symm)
  first
  | (exfalso; omega)
  | (refine W.skip ?_
     refine W.seq ?_
     refine W.sreg ?_
     refine WO.p rfl rfl ?_
     refine WO.nil ?_
     refine W.block ?_
     refine W.loop (fun (i : Nat) => i ≤ xs.length ∧ ∀ k, k < i → xs.getD k 0 = ys.getD k 0)
       (fun (i : Nat) => [(5, .int .i64 (i : Int)), (0, u), (1, v)])
       (fun (i : Nat) => [])
       (fun (i : Nat) => xs.length - i) 0
       (by exact ⟨by omega, fun k hk => by omega⟩) ⟨rfl, rfl, rfl, trivial⟩ (by repeat (first | exact Sub.nil | refine Sub.cons (by repeat (first | exact Pick.head | apply Pick.tail)) ?_)) ?_
     rintro i ⟨hi, hal⟩
     refine W.seq ?_
     refine W.sreg ?_
     refine WO.p rfl rfl (WO.p rfl rfl ?_)
     refine' WO.len (n := _) rfl rfl ?hs rfl ?_
     case hs => (first | exact hx.sl | exact hy.sl)
     refine WO.p rfl rfl ?_
     refine WO.nil ?_
     refine W.cond_bl rfl (fun c2 => ?_) (fun c2 => ?_)
     · first
       | (exfalso; omega)
       | (refine W.skip ?_
          refine W.seq ?_
          refine W.block ?_
          refine W.seq ?_
          refine W.drawD 8 [.r 0 [], .r 1 [], .r 2 [], .b 3 [], .r 4 [], .r 5 [], .r 6 [], .b 7 []] [] (A0 := []) (Sub.refl _) (by kernel_rfl) ?_ ?_
          · exact (ALok.r (ALok.r (ALok.r (ALok.b (ALok.r (ALok.r (ALok.r (ALok.b ALok.nil))))))))
          refine' DT.r rfl rfl rfl ?hq ?_
          case hq =>
            refine WO.p rfl rfl ?_
            exact WO.nil ⟨rfl, rfl⟩
          refine' DT.r rfl rfl rfl ?hq ?_
          case hq =>
            refine WO.p rfl rfl ?_
            exact WO.nil ⟨rfl, rfl⟩
          refine' DT.r rfl rfl rfl ?hq ?_
          case hq =>
            refine' WO.indexAddr (n := _) (i := _) rfl rfl rfl ?hs ?h1 rfl ?_
            case hs => (first | exact hx.sl | exact hy.sl)
            case h1 => (first | omega | (simp; omega))
            exact WO.nil ⟨rfl, rfl⟩
          refine' DT.b rfl rfl rfl ?hq ?_
          case hq =>
            refine' WO.load (v := _) rfl rfl ?hc rfl ?_
            case hc => (first | (refine hx.cell0 ?_ 0 ?_ <;> first | rfl | omega) | (refine hy.cell0 ?_ 0 ?_ <;> first | rfl | omega))
            exact WO.nil ⟨rfl, rfl⟩
          refine' DT.r rfl rfl rfl ?hq ?_
          case hq =>
            refine WO.p rfl rfl ?_
            exact WO.nil ⟨rfl, rfl⟩
          refine' DT.r rfl rfl rfl ?hq ?_
          case hq =>
            refine WO.p rfl rfl ?_
            exact WO.nil ⟨rfl, rfl⟩
          refine' DT.r rfl rfl rfl ?hq ?_
          case hq =>
            refine' WO.indexAddr (n := _) (i := _) rfl rfl rfl ?hs ?h1 rfl ?_
            case hs => (first | exact hx.sl | exact hy.sl)
            case h1 => (first | omega | (simp; omega))
            exact WO.nil ⟨rfl, rfl⟩
          refine' DT.b rfl rfl rfl ?hq ?_
          case hq =>
            refine' WO.load (v := _) rfl rfl ?hc rfl ?_
            case hc => (first | (refine hx.cell0 ?_ 0 ?_ <;> first | rfl | omega) | (refine hy.cell0 ?_ 0 ?_ <;> first | rfl | omega))
            exact WO.nil ⟨rfl, rfl⟩
          refine DT.nil [] rfl ?_
          refine WO.p rfl rfl ?_
          refine WO.nil ?_
          refine W.cond_bl rfl (fun c3 => ?_) (fun c3 => ?_)
          · first
            | (exfalso; omega)
            | (refine W.sreg ?_
               refine WO.p rfl rfl ?_
               refine WO.nil ?_
               refine W.ret ?_
               refine fin.ret (Res.one rfl (RV.tmp rfl)) (congrArg Value.bool ?_)
               first | exact (bl_f.2 (fun e => by subst e; omega)).symm | exact (bl_t.2 (list_eqD (by omega) (fun k hk => hal k (by omega)))).symm)
          first
          | (exfalso; omega)
          | (refine W.skip ?_
             refine W.region ?_
             refine WO.p rfl rfl (WO.ar rfl rfl rfl (by (first | (unfold in64; omega) | (unfold in64; omega))) rfl (WO.p rfl rfl ?_))
             refine WO.nil ?_
             refine' ⟨i + 1, ?hp, ?hmu, ⟨rfl, rfl, rfl, trivial⟩, ?hS⟩
             case hS => repeat (first | exact Sub.nil | refine Sub.cons (by repeat (first | exact Pick.head | apply Pick.tail)) ?_)
             case hp => exact ⟨by omega, fun k hk => by (rcases Nat.lt_or_ge k i with h | h; exact hal k h; obtain rfl : k = i := (by omega); omega)⟩
             case hmu => omega))
     first
     | (exfalso; omega)
     | (refine W.exit (blk_same ?_)
        refine W.sreg ?_
        refine WO.p rfl rfl ?_
        refine WO.nil ?_
        refine W.ret ?_
        refine fin.ret (Res.one rfl (RV.tmp rfl)) (congrArg Value.bool ?_)
        first | exact (bl_f.2 (fun e => by subst e; omega)).symm | exact (bl_t.2 (list_eqD (by omega) (fun k hk => hal k (by omega)))).symm))
def largeP (l : List Rn) : Prop := (4 < l.length ∧ l.length ≤ 8) ∨ 12 < l.length
instance (l : List Rn) : Decidable (largeP l) := by unfold largeP; infer_instance
theorem law_large (w : World) (v : Value) (a b : Int) (l : List Rn) (hR : RdF encR 6 w.heap.size w v l) : Ret Try.prog 18 [dayV a b v].toArray w (.bool (bl (largeP l))) := by
  refine Ret.of mixed tyTab Try.func18 rfl rfl ?_
  replace hR : RdF encR 6 (fnCx mixed tyTab Try.f18.ntmps w).B (fnCx mixed tyTab Try.f18.ntmps w).w0 v l := hR
  have hoc := hR.sl.oc
  refine W.sreg ?_
  refine WO.boxA rfl rfl (fun b1 hb1 => ?_)
  refine WO.p rfl rfl ?_
  refine WO.nil ?_
  refine W.sreg ?_
  refine WO.fieldL rfl rfl rfl (WO.load rfl rfl (Cell.own Pick.head rfl) rfl ?_)
  refine' WO.len (n := _) rfl rfl ?hs rfl ?_
  case hs => (first | exact hR.sl)
  refine WO.p rfl rfl (WO.p rfl rfl ?_)
  refine WO.guard_bl rfl rfl (fun c1 => ?_) (fun c1 => ?_)
  · first
    | (exfalso; omega)
    | (refine WO.go' rfl (WO.fieldL rfl rfl rfl (WO.go' rfl (WO.load rfl rfl (Cell.own Pick.head rfl) rfl (WO.go' rfl ?_))))
       refine' WO.len (n := _) rfl rfl ?hs rfl ?_
       case hs => (first | exact hR.sl)
       refine WO.pg rfl rfl rfl (WO.p rfl rfl (WO.p rfl rfl ?_))
       refine WO.guard_bl rfl rfl (fun c2 => ?_) (fun c2 => ?_)
       · first
         | (exfalso; omega)
         | (refine WO.no rfl rfl (WO.no rfl rfl (WO.no rfl rfl (WO.no rfl rfl (WO.p rfl rfl (WO.p rfl rfl ?_)))))
            refine WO.nil ?_
            refine W.ret ?_
            refine fin.ret (Res.one rfl (RV.tmp rfl)) (congrArg Value.bool ?_)
            first | exact (bl_t.2 (by unfold largeP; omega)).symm | exact (bl_f.2 (by unfold largeP; omega)).symm | (rw [bl_eq, bl_eq, decide_eq_decide]; unfold largeP; omega))
       first
       | (exfalso; omega)
       | (refine WO.go' rfl (WO.fieldL rfl rfl rfl (WO.go' rfl (WO.load rfl rfl (Cell.own Pick.head rfl) rfl (WO.go' rfl ?_))))
          refine' WO.len (n := _) rfl rfl ?hs rfl ?_
          case hs => (first | exact hR.sl)
          refine WO.pg rfl rfl rfl (WO.p rfl rfl (WO.p rfl rfl ?_))
          refine WO.nil ?_
          refine W.ret ?_
          refine fin.ret (Res.one rfl (RV.tmp rfl)) (congrArg Value.bool ?_)
          first | exact (bl_t.2 (by unfold largeP; omega)).symm | exact (bl_f.2 (by unfold largeP; omega)).symm | (rw [bl_eq, bl_eq, decide_eq_decide]; unfold largeP; omega)))
  first
  | (exfalso; omega)
  | (refine WO.no rfl rfl (WO.no rfl rfl (WO.no rfl rfl (WO.no rfl rfl (WO.p rfl rfl (WO.p rfl rfl (WO.go' rfl (WO.fieldL rfl rfl rfl (WO.go' rfl (WO.load rfl rfl (Cell.own Pick.head rfl) rfl (WO.go' rfl ?_))))))))))
     refine' WO.len (n := _) rfl rfl ?hs rfl ?_
     case hs => (first | exact hR.sl)
     refine WO.pg rfl rfl rfl (WO.p rfl rfl (WO.p rfl rfl ?_))
     refine WO.nil ?_
     refine W.ret ?_
     refine fin.ret (Res.one rfl (RV.tmp rfl)) (congrArg Value.bool ?_)
     first | exact (bl_t.2 (by unfold largeP; omega)).symm | exact (bl_f.2 (by unfold largeP; omega)).symm | (rw [bl_eq, bl_eq, decide_eq_decide]; unfold largeP; omega))
def fineP (a b : Int) (l : List Rn) : Prop := l.length ≤ 12 ∧ chkD a b l = 0
instance (a b : Int) (l : List Rn) : Decidable (fineP a b l) := by unfold fineP; infer_instance
theorem law_fine (w : World) (v : Value) (a b : Int) (l : List Rn) (hR : RdF encR 6 w.heap.size w v l) : Ret Try.prog 26 [dayV a b v].toArray w (.bool (bl (fineP a b l))) := by
  refine Ret.of mixed tyTab Try.func26 rfl rfl ?_
  replace hR : RdF encR 6 (fnCx mixed tyTab Try.f26.ntmps w).B (fnCx mixed tyTab Try.f26.ntmps w).w0 v l := hR
  have hoc := hR.sl.oc
  refine W.sreg ?_
  refine WO.boxA rfl rfl (fun b1 hb1 => ?_)
  refine WO.p rfl rfl ?_
  refine WO.nil ?_
  refine W.sreg ?_
  refine WO.fieldL rfl rfl rfl (WO.load rfl rfl (Cell.own Pick.head rfl) rfl ?_)
  refine' WO.len (n := _) rfl rfl ?hs rfl ?_
  case hs => (first | exact hR.sl)
  refine WO.p rfl rfl (WO.p rfl rfl ?_)
  refine WO.guard_bl rfl rfl (fun c1 => ?_) (fun c1 => ?_)
  · first
    | (exfalso; omega)
    | (refine WO.go' rfl (WO.loadA rfl rfl (Cells.own Pick.head) rfl rfl (WO.go' rfl ?_))
       refine WO.callR rfl Try.call35 (fun L w hi => ref_CheckDay w v a b l (hR.later hi)) rfl ?_
       refine WO.pg rfl rfl rfl (WO.p rfl rfl (WO.p rfl rfl ?_))
       refine WO.nil ?_
       refine W.ret ?_
       refine fin.ret (Res.one rfl (RV.tmp rfl)) (congrArg Value.bool ?_)
       first | exact (bl_t.2 (by unfold fineP; omega)).symm | exact (bl_f.2 (by unfold fineP; omega)).symm | (rw [bl_eq, bl_eq, decide_eq_decide]; unfold fineP; omega))
  first
  | (exfalso; omega)
  | (refine WO.no rfl rfl (WO.no rfl rfl (WO.no rfl rfl (WO.p rfl rfl (WO.p rfl rfl ?_))))
     refine WO.nil ?_
     refine W.ret ?_
     refine fin.ret (Res.one rfl (RV.tmp rfl)) (congrArg Value.bool ?_)
     first | exact (bl_t.2 (by unfold fineP; omega)).symm | exact (bl_f.2 (by unfold fineP; omega)).symm | (rw [bl_eq, bl_eq, decide_eq_decide]; unfold fineP; omega))
def dyL0 : List Rn := [⟨10, 8, 16, 4, 0, 100⟩, ⟨5, 2, 2, 1, 0, 20⟩, ⟨20, 100, 100, 0, 0, 12⟩]
theorem law_Day (w : World) : Ct Try.prog 36 ([] : List Value).toArray w fun r w' => ∃ Hq, (∃ x : Value, r = dayV 500 500 x ∧ Hq = [OwE encR 48 6 x dyL0]) ∧ Inv w [] Hq w' := by
  refine Ct.ofI (X := Value) (p := fun x r => r = dayV 500 500 x) (Hx := fun x => [OwE encR 48 6 x dyL0]) mixed tyTab Try.func36 rfl rfl ?_
  refine W.sreg ?_
  refine WO.alloc rfl rfl rfl (fun b1 hb1 => ?_)
  refine WO.nil ?_
  refine W.sreg ?_
  refine' WO.build (cs := _) rfl rfl rfl ?hf rfl ?_
  case hf => (conv => lhs; simp [-List.getD_eq_getElem?_getD, fillL, vcl, wrl, TTab.pl?.lget']) <;> rfl
  refine' WO.build (cs := _) rfl rfl rfl ?hf rfl ?_
  case hf => (conv => lhs; simp [-List.getD_eq_getElem?_getD, fillL, vcl, wrl, TTab.pl?.lget']) <;> rfl
  refine' WO.build (cs := _) rfl rfl rfl ?hf rfl ?_
  case hf => (conv => lhs; simp [-List.getD_eq_getElem?_getD, fillL, vcl, wrl, TTab.pl?.lget']) <;> rfl
  refine' WO.build (cs := _) rfl rfl rfl ?hf rfl ?_
  case hf => (conv => lhs; simp [-List.getD_eq_getElem?_getD, fillL, vcl, wrl, TTab.pl?.lget']) <;> rfl
  refine' WO.build (cs := _) rfl rfl rfl ?hf rfl ?_
  case hf => (conv => lhs; simp [-List.getD_eq_getElem?_getD, fillL, vcl, wrl, TTab.pl?.lget']) <;> rfl
  refine' WO.build (cs := _) rfl rfl rfl ?hf rfl ?_
  case hf => (conv => lhs; simp [-List.getD_eq_getElem?_getD, fillL, vcl, wrl, TTab.pl?.lget']) <;> rfl
  refine' WO.build (cs := _) rfl rfl rfl ?hf rfl ?_
  case hf => (conv => lhs; simp [-List.getD_eq_getElem?_getD, fillL, vcl, wrl, TTab.pl?.lget']) <;> rfl
  refine' WO.buildSl (cs := _) rfl rfl rfl rfl ?hf rfl rfl ?hl rfl (fun v2 => ?_)
  case hf => (conv => lhs; simp [-List.getD_eq_getElem?_getD, fillL, vcl, wrl, TTab.pl?.lget']) <;> rfl
  case hl => rfl
  refine' WO.build (cs := _) rfl rfl rfl ?hf rfl ?_
  case hf => (conv => lhs; simp [-List.getD_eq_getElem?_getD, fillL, vcl, wrl, TTab.pl?.lget']) <;> rfl
  refine WO.storeA rfl rfl rfl rfl (Pick.tail (Pick.head)) rfl rfl ?_
  refine WO.nil ?_
  refine W.ret ?_
  exact fin.ret (Res.one rfl (RV.cell rfl rfl rfl (Cells.own (by repeat (first | exact Pick.head | apply Pick.tail))))) ⟨_, rfl, fun h hs => Sub.sat (by repeat (first | exact Sub.nil | refine Sub.cons (by repeat (first | exact Pick.head | apply Pick.tail)) ?_)) hs⟩
end Go.Proofs.Ytkonhpcldomidaa
namespace Go.Proofs.Ytkonhpcldomidaa
open Go Go.TH
attribute [local irreducible] W WO pt
set_option maxRecDepth 10000
set_option maxHeartbeats 1000000
def tbL0 : List Int := [1048576, 1048576, 1048576, 10, 1048576, 1048576, 1048576, 5, 1048576, 15, 19, 1048576, 1048576, 1048576, 20, 35, 1048576, 1048576, 1048576, 1048576, 27, 42, 1048576, 1048576]
theorem ex_c : chkD 500 500 dyL0 = 0 := by decide +kernel
theorem ex_w : wtV 500 500 dyL0 0 1 = .tuple #[.int .i64 4, .int .i64 0] := by
  unfold wtV
  rw [show wtN 500 500 dyL0 0 1 = 4 by decide +kernel, show wtE 500 500 dyL0 0 1 = 0 by decide +kernel]
theorem ex_t1 : TmE 500 500 dyL0 [0, 1] = 0 ∧ TmL 500 500 dyL0 [0, 1] = [0, 14] := by decide +kernel
theorem ex_t2 : TmE 500 500 dyL0 [2, 1] = 12 ∧ TmL 500 500 dyL0 [2, 1] = [] := by decide +kernel
theorem ex_b : bsL 500 500 dyL0 = [1, 2, 0] := by decide +kernel
theorem ex_t3 : TmE 500 500 dyL0 [1, 2, 0] = 0 ∧ TmL 500 500 dyL0 [1, 2, 0] = [0, 7, 32] := by decide +kernel
theorem ex_tb : TbL 500 500 dyL0 = tbL0 := by
  rw [TbL_ok ex_c]
  decide +kernel
theorem ex_ct : ctV 500 dyL0 tbL0 500 = .tuple #[.int .i64 3, .int .i64 0] := by
  unfold ctV
  rw [show ctM 500 dyL0 tbL0 500 = 3 by decide +kernel, show ctE 500 dyL0 tbL0 500 = 0 by decide +kernel]
theorem ex_p : plE 500 500 dyL0 [1, 2] [0, 10] [2, 100] 500 = 0 ∧ plL 500 500 dyL0 [1, 2] [0, 10] [2, 100] 500 = [0, 0] := by decide +kernel
theorem longs_t {w : World} {u v : Value} {xs ys : List Int} (h : Ret Try.prog 17 [u, v].toArray w (.bool (bl (xs = ys)))) (e : xs = ys) : Ret Try.prog 17 [u, v].toArray w (.bool true) := by rwa [bl_t.2 e] at h
theorem ints_t {w : World} {u v : Value} {xs ys : List Int} (h : Ret Try.prog 23 [u, v].toArray w (.bool (bl (xs = ys)))) (e : xs = ys) : Ret Try.prog 23 [u, v].toArray w (.bool true) := by rwa [bl_t.2 e] at h
theorem l_Works (w : World) : Ret Try.prog 12 ([] : List Value).toArray w (.bool true) := by
  refine Ret.of mixed tyTab Try.func12 rfl rfl ?_
  refine W.sreg ?_
  refine WO.p rfl rfl ?_
  refine WO.nil ?_
  refine W.sreg ?_
  refine WO.call rfl Try.call36 (fun L w hi => law_Day w) rfl ?_
  rintro _ _ ⟨dv, rfl, rfl⟩
  refine WO.fact (OwE.form (enc := encR) (e := 48) (sz := 6) (xs := dyL0) (v := dv) Pick.head) (fun hdv => ?_)
  obtain ⟨da, dc, rfl⟩ := hdv
  refine WO.alloc rfl rfl rfl (fun b1 hb1 => ?_)
  refine WO.storeA rfl rfl rfl rfl Pick.head rfl rfl ?_
  refine WO.nil ?_
  refine W.sreg ?_
  refine WO.loadA rfl rfl (Cells.own Pick.head) rfl rfl ?_
  refine WO.callR (r := .tuple #[.int .i64 4, .int .i64 0]) rfl Try.call28 (fun L w hi => by have h := c_Wait w (.slice da dyL0.length dc) 500 500 dyL0 0 1 (RdF.of_ow (e := 48) encR_ok (by repeat (first | exact Pick.head | apply Pick.tail)) hi); rw [ex_w] at h; exact h) rfl ?_
  refine WO.p rfl rfl (WO.p rfl rfl (WO.p rfl rfl (WO.p rfl rfl (WO.p rfl rfl ?_))))
  refine WO.nil ?_
  refine W.sreg ?_
  refine WO.loadA rfl rfl (Cells.own Pick.head) rfl rfl ?_
  refine' WO.buildSl (cs := _) rfl rfl rfl rfl ?hf rfl rfl ?hl rfl (fun v2 => ?_)
  case hf => (conv => lhs; simp [-List.getD_eq_getElem?_getD, fillL, vcl, wrl, TTab.pl?.lget']) <;> rfl
  case hl => rfl
  refine WO.call (Post := fun r Hq => ∃ x : Value, r = .tuple #[x, .int .i64 0] ∧ Hq = [OwE encI 2 1 x [0, 14]]) rfl Try.call13 (fun L w hi => by have h := c_Times w (.slice da dyL0.length dc) _ 500 500 dyL0 [0, 1] (RdF.of_ow (e := 48) encR_ok (by repeat (first | exact Pick.head | apply Pick.tail)) hi) (RdF.of_ow (e := 3) encI_ok (by repeat (first | exact Pick.head | apply Pick.tail)) hi); rw [ex_t1.1, ex_t1.2] at h; exact h) rfl ?_
  rintro _ _ ⟨r1, rfl, rfl⟩
  refine WO.p rfl rfl (WO.p rfl rfl (WO.p rfl rfl (WO.p rfl rfl (WO.p rfl rfl ?_))))
  refine WO.nil ?_
  refine W.sreg ?_
  refine WO.loadA rfl rfl (Cells.own (Pick.tail (Pick.tail (Pick.head)))) rfl rfl ?_
  refine' WO.buildSl (cs := _) rfl rfl rfl rfl ?hf rfl rfl ?hl rfl (fun v3 => ?_)
  case hf => (conv => lhs; simp [-List.getD_eq_getElem?_getD, fillL, vcl, wrl, TTab.pl?.lget']) <;> rfl
  case hl => rfl
  refine WO.call (Post := fun r Hq => ∃ x : Value, r = .tuple #[x, .int .i64 12] ∧ Hq = [OwE encI 2 1 x []]) rfl Try.call13 (fun L w hi => by have h := c_Times w (.slice da dyL0.length dc) _ 500 500 dyL0 [2, 1] (RdF.of_ow (e := 48) encR_ok (by repeat (first | exact Pick.head | apply Pick.tail)) hi) (RdF.of_ow (e := 3) encI_ok (by repeat (first | exact Pick.head | apply Pick.tail)) hi); rw [ex_t2.1, ex_t2.2] at h; exact h) rfl ?_
  rintro _ _ ⟨r2, rfl, rfl⟩
  refine WO.p rfl rfl (WO.p rfl rfl (WO.p rfl rfl (WO.p rfl rfl (WO.p rfl rfl ?_))))
  refine WO.nil ?_
  refine W.sreg ?_
  refine WO.loadA rfl rfl (Cells.own (Pick.tail (Pick.tail (Pick.tail (Pick.tail (Pick.head)))))) rfl rfl ?_
  refine WO.call (Post := fun r Hq => ∃ x : Value, r = .tuple #[x, .int .i64 0] ∧ Hq = [OwE encI 3 1 x [1, 2, 0]]) rfl Try.call19 (fun L w hi => by have h := c_Best w (.slice da dyL0.length dc) 500 500 dyL0 (RdF.of_ow (e := 48) encR_ok (by repeat (first | exact Pick.head | apply Pick.tail)) hi); rw [ex_b, ex_c] at h; exact h) rfl ?_
  rintro _ _ ⟨r3, rfl, rfl⟩
  refine WO.p rfl rfl (WO.p rfl rfl (WO.p rfl rfl (WO.p rfl rfl (WO.p rfl rfl ?_))))
  refine WO.nil ?_
  refine W.sreg ?_
  refine WO.loadA rfl rfl (Cells.own (Pick.tail (Pick.tail (Pick.tail (Pick.tail (Pick.tail (Pick.head))))))) rfl rfl (WO.p rfl rfl ?_)
  refine WO.call (Post := fun r Hq => ∃ x : Value, r = .tuple #[x, .int .i64 0] ∧ Hq = [OwE encI 2 1 x [0, 7, 32]]) rfl Try.call13 (fun L w hi => by have h := c_Times w (.slice da dyL0.length dc) r3 500 500 dyL0 [1, 2, 0] (RdF.of_ow (e := 48) encR_ok (by repeat (first | exact Pick.head | apply Pick.tail)) hi) (RdF.of_ow (e := 3) encI_ok (by repeat (first | exact Pick.head | apply Pick.tail)) hi); rw [ex_t3.1, ex_t3.2] at h; exact h) rfl ?_
  rintro _ _ ⟨r4, rfl, rfl⟩
  refine WO.p rfl rfl (WO.p rfl rfl (WO.p rfl rfl (WO.p rfl rfl (WO.p rfl rfl ?_))))
  refine WO.nil ?_
  refine W.sreg ?_
  refine WO.loadA rfl rfl (Cells.own (Pick.tail (Pick.tail (Pick.tail (Pick.tail (Pick.tail (Pick.tail (Pick.head)))))))) rfl rfl ?_
  refine WO.call (Post := fun r Hq => ∃ x : Value, r = .tuple #[x, .int .i64 0] ∧ Hq = [OwE encI 2 1 x tbL0]) rfl Try.call21 (fun L w hi => by have h := c_Table w (.slice da dyL0.length dc) 500 500 dyL0 (RdF.of_ow (e := 48) encR_ok (by repeat (first | exact Pick.head | apply Pick.tail)) hi); rw [ex_tb, ex_c] at h; exact h) rfl ?_
  rintro _ _ ⟨r5, rfl, rfl⟩
  refine WO.p rfl rfl (WO.p rfl rfl (WO.p rfl rfl (WO.p rfl rfl (WO.p rfl rfl ?_))))
  refine WO.nil ?_
  refine W.sreg ?_
  refine WO.loadA rfl rfl (Cells.own (Pick.tail (Pick.tail (Pick.tail (Pick.tail (Pick.tail (Pick.tail (Pick.tail (Pick.head))))))))) rfl rfl (WO.p rfl rfl ?_)
  refine WO.callR (r := .tuple #[.int .i64 3, .int .i64 0]) rfl Try.call24 (fun L w hi => by have h := c_CheckTable w (.slice da dyL0.length dc) r5 500 500 dyL0 tbL0 (RdF.of_ow (e := 48) encR_ok (by repeat (first | exact Pick.head | apply Pick.tail)) hi) (RdF.of_ow (e := 2) encI_ok (by repeat (first | exact Pick.head | apply Pick.tail)) hi); rw [ex_ct] at h; exact h) rfl ?_
  refine WO.p rfl rfl (WO.p rfl rfl (WO.p rfl rfl (WO.p rfl rfl (WO.p rfl rfl ?_))))
  refine WO.nil ?_
  refine W.sreg ?_
  refine WO.loadA rfl rfl (Cells.own (Pick.tail (Pick.tail (Pick.tail (Pick.tail (Pick.tail (Pick.tail (Pick.tail (Pick.head))))))))) rfl rfl ?_
  refine' WO.buildSl (cs := _) rfl rfl rfl rfl ?hf rfl rfl ?hl rfl (fun v4 => ?_)
  case hf => (conv => lhs; simp [-List.getD_eq_getElem?_getD, fillL, vcl, wrl, TTab.pl?.lget']) <;> rfl
  case hl => rfl
  refine' WO.buildSl (cs := _) rfl rfl rfl rfl ?hf rfl rfl ?hl rfl (fun v5 => ?_)
  case hf => (conv => lhs; simp [-List.getD_eq_getElem?_getD, fillL, vcl, wrl, TTab.pl?.lget']) <;> rfl
  case hl => rfl
  refine' WO.buildSl (cs := _) rfl rfl rfl rfl ?hf rfl rfl ?hl rfl (fun v6 => ?_)
  case hf => (conv => lhs; simp [-List.getD_eq_getElem?_getD, fillL, vcl, wrl, TTab.pl?.lget']) <;> rfl
  case hl => rfl
  refine WO.call (Post := fun r Hq => ∃ x : Value, r = .tuple #[x, .int .i64 0] ∧ Hq = [OwE encI 2 1 x [0, 0]]) rfl Try.call15 (fun L w hi => by have h := c_Play w (.slice da dyL0.length dc) _ _ _ 500 500 dyL0 [1, 2] [0, 10] [2, 100] 500 (RdF.of_ow (e := 48) encR_ok (by repeat (first | exact Pick.head | apply Pick.tail)) hi) (RdF.of_ow (e := 3) encI_ok (by repeat (first | exact Pick.head | apply Pick.tail)) hi) (RdF.of_ow (e := 2) encI_ok (by repeat (first | exact Pick.head | apply Pick.tail)) hi) (RdF.of_ow (e := 2) encI_ok (by repeat (first | exact Pick.head | apply Pick.tail)) hi); rw [ex_p.1, ex_p.2] at h; exact h) rfl ?_
  rintro _ _ ⟨r6, rfl, rfl⟩
  refine WO.p rfl rfl (WO.p rfl rfl (WO.p rfl rfl (WO.p rfl rfl (WO.p rfl rfl ?_))))
  refine WO.nil ?_
  refine W.sreg ?_
  refine WO.p rfl rfl (WO.p rfl rfl (WO.p rfl rfl ?_))
  refine WO.guard_bl rfl rfl (fun c1 => ?_) (fun c1 => ?_)
  · first
    | (exfalso; omega)
    | (refine WO.pg rfl rfl rfl (WO.pg rfl rfl rfl (WO.p rfl rfl (WO.p rfl rfl ?_)))
       refine WO.guard_bl rfl rfl (fun c2 => ?_) (fun c2 => ?_)
       · first
         | (exfalso; omega)
         | (refine WO.pg rfl rfl rfl (WO.pg rfl rfl rfl (WO.p rfl rfl (WO.p rfl rfl ?_)))
            refine WO.guard_bl rfl rfl (fun c3 => ?_) (fun c3 => ?_)
            · first
              | (exfalso; omega)
              | (refine WO.pg rfl rfl rfl (WO.pg rfl rfl rfl (WO.p rfl rfl (WO.p rfl rfl ?_)))
                 refine WO.guard_bl rfl rfl (fun c4 => ?_) (fun c4 => ?_)
                 · first
                   | (exfalso; omega)
                   | (refine WO.pg rfl rfl rfl (WO.pg rfl rfl rfl (WO.p rfl rfl (WO.p rfl rfl ?_)))
                      refine WO.guard_bl rfl rfl (fun c5 => ?_) (fun c5 => ?_)
                      · first
                        | (exfalso; omega)
                        | (refine WO.pg rfl rfl rfl (WO.pg rfl rfl rfl (WO.p rfl rfl (WO.p rfl rfl ?_)))
                           refine WO.guard_bl rfl rfl (fun c6 => ?_) (fun c6 => ?_)
                           · first
                             | (exfalso; omega)
                             | (refine WO.pg rfl rfl rfl (WO.pg rfl rfl rfl (WO.p rfl rfl (WO.p rfl rfl ?_)))
                                refine WO.guard_bl rfl rfl (fun c7 => ?_) (fun c7 => ?_)
                                · first
                                  | (exfalso; omega)
                                  | (refine WO.pg rfl rfl rfl (WO.pg rfl rfl rfl (WO.p rfl rfl (WO.p rfl rfl ?_)))
                                     refine WO.guard_bl rfl rfl (fun c8 => ?_) (fun c8 => ?_)
                                     · first
                                       | (exfalso; omega)
                                       | (refine WO.pg rfl rfl rfl (WO.pg rfl rfl rfl (WO.p rfl rfl (WO.p rfl rfl ?_)))
                                          refine WO.guard_bl rfl rfl (fun c9 => ?_) (fun c9 => ?_)
                                          · first
                                            | (exfalso; omega)
                                            | (refine WO.pg rfl rfl rfl (WO.go' rfl ?_)
                                               refine' WO.buildSl (cs := _) rfl rfl rfl rfl ?hf rfl rfl ?hl rfl (fun v7 => ?_)
                                               case hf => (conv => lhs; simp [-List.getD_eq_getElem?_getD, fillL, vcl, wrl, TTab.pl?.lget']) <;> rfl
                                               case hl => rfl
                                               refine WO.go' rfl ?_
                                               refine WO.callR (r := .bool true) rfl Try.call17 (fun L w hi => longs_t (law_longs w r1 _ [0, 14] [0, 14] (RdF.of_ow (e := 2) encI_ok (by repeat (first | exact Pick.head | apply Pick.tail)) hi) (RdF.of_ow (e := 2) encI_ok (by repeat (first | exact Pick.head | apply Pick.tail)) hi)) rfl) rfl ?_
                                               refine WO.p rfl rfl (WO.p rfl rfl (WO.pg rfl rfl rfl (WO.go' rfl ?_)))
                                               refine' WO.buildSl (cs := _) rfl rfl rfl rfl ?hf rfl rfl ?hl rfl (fun v8 => ?_)
                                               case hf => (conv => lhs; simp [-List.getD_eq_getElem?_getD, fillL, vcl, wrl, TTab.pl?.lget']) <;> rfl
                                               case hl => rfl
                                               refine WO.go' rfl ?_
                                               refine WO.callR (r := .bool true) rfl Try.call23 (fun L w hi => ints_t (law_ints w r3 _ [1, 2, 0] [1, 2, 0] (RdF.of_ow (e := 3) encI_ok (by repeat (first | exact Pick.head | apply Pick.tail)) hi) (RdF.of_ow (e := 3) encI_ok (by repeat (first | exact Pick.head | apply Pick.tail)) hi)) rfl) rfl ?_
                                               refine WO.p rfl rfl (WO.p rfl rfl (WO.pg rfl rfl rfl (WO.go' rfl ?_)))
                                               refine' WO.buildSl (cs := _) rfl rfl rfl rfl ?hf rfl rfl ?hl rfl (fun v9 => ?_)
                                               case hf => (conv => lhs; simp [-List.getD_eq_getElem?_getD, fillL, vcl, wrl, TTab.pl?.lget']) <;> rfl
                                               case hl => rfl
                                               refine WO.go' rfl ?_
                                               refine WO.callR (r := .bool true) rfl Try.call17 (fun L w hi => longs_t (law_longs w r4 _ [0, 7, 32] [0, 7, 32] (RdF.of_ow (e := 2) encI_ok (by repeat (first | exact Pick.head | apply Pick.tail)) hi) (RdF.of_ow (e := 2) encI_ok (by repeat (first | exact Pick.head | apply Pick.tail)) hi)) rfl) rfl ?_
                                               refine WO.p rfl rfl (WO.p rfl rfl (WO.pg rfl rfl rfl (WO.pg rfl rfl rfl (WO.p rfl rfl (WO.p rfl rfl ?_)))))
                                               refine WO.guard_bl rfl rfl (fun c10 => ?_) (fun c10 => ?_)
                                               · first
                                                 | (exfalso; omega)
                                                 | (refine WO.pg rfl rfl rfl (WO.go' rfl ?_)
                                                    refine' WO.buildSl (cs := _) rfl rfl rfl rfl ?hf rfl rfl ?hl rfl (fun v10 => ?_)
                                                    case hf => (conv => lhs; simp [-List.getD_eq_getElem?_getD, fillL, vcl, wrl, TTab.pl?.lget']) <;> rfl
                                                    case hl => rfl
                                                    refine WO.go' rfl ?_
                                                    refine WO.callR (r := .bool true) rfl Try.call17 (fun L w hi => longs_t (law_longs w r6 _ [0, 0] [0, 0] (RdF.of_ow (e := 2) encI_ok (by repeat (first | exact Pick.head | apply Pick.tail)) hi) (RdF.of_ow (e := 2) encI_ok (by repeat (first | exact Pick.head | apply Pick.tail)) hi)) rfl) rfl ?_
                                                    refine WO.p rfl rfl (WO.p rfl rfl ?_)
                                                    refine WO.nil ?_
                                                    refine W.ret ?_
                                                    exact fin.ret (Res.one rfl (RV.tmp rfl)) rfl)
                                               first
                                               | (exfalso; omega)
                                               | (refine WO.no rfl rfl (WO.no rfl rfl (WO.no rfl rfl (WO.p rfl rfl (WO.p rfl rfl ?_))))
                                                  refine WO.nil ?_
                                                  refine W.ret ?_
                                                  exact fin.ret (Res.one rfl (RV.tmp rfl)) rfl))
                                          first
                                          | (exfalso; omega)
                                          | (refine WO.no rfl rfl (WO.no rfl rfl (WO.no rfl rfl (WO.p rfl rfl (WO.p rfl rfl (WO.no rfl rfl (WO.no rfl rfl (WO.no rfl rfl (WO.p rfl rfl (WO.p rfl rfl (WO.no rfl rfl (WO.no rfl rfl ?_)))))))))))
                                             refine WO.no rfl rfl (WO.p rfl rfl (WO.p rfl rfl (WO.no rfl rfl (WO.no rfl rfl (WO.p rfl rfl (WO.p rfl rfl (WO.no rfl rfl (WO.no rfl rfl (WO.no rfl rfl (WO.p rfl rfl (WO.p rfl rfl ?_)))))))))))
                                             refine WO.nil ?_
                                             refine W.ret ?_
                                             exact fin.ret (Res.one rfl (RV.tmp rfl)) rfl))
                                     first
                                     | (exfalso; omega)
                                     | (refine WO.no rfl rfl (WO.no rfl rfl (WO.p rfl rfl (WO.p rfl rfl (WO.no rfl rfl (WO.no rfl rfl (WO.no rfl rfl (WO.p rfl rfl (WO.p rfl rfl (WO.no rfl rfl (WO.no rfl rfl (WO.no rfl rfl ?_)))))))))))
                                        refine WO.p rfl rfl (WO.p rfl rfl (WO.no rfl rfl (WO.no rfl rfl (WO.no rfl rfl (WO.p rfl rfl (WO.p rfl rfl (WO.no rfl rfl (WO.no rfl rfl (WO.p rfl rfl (WO.p rfl rfl (WO.no rfl rfl ?_)))))))))))
                                        refine WO.no rfl rfl (WO.no rfl rfl (WO.p rfl rfl (WO.p rfl rfl ?_)))
                                        refine WO.nil ?_
                                        refine W.ret ?_
                                        exact fin.ret (Res.one rfl (RV.tmp rfl)) rfl))
                                first
                                | (exfalso; omega)
                                | (refine WO.no rfl rfl (WO.no rfl rfl (WO.p rfl rfl (WO.p rfl rfl (WO.no rfl rfl (WO.no rfl rfl (WO.p rfl rfl (WO.p rfl rfl (WO.no rfl rfl (WO.no rfl rfl (WO.no rfl rfl (WO.p rfl rfl ?_)))))))))))
                                   refine WO.p rfl rfl (WO.no rfl rfl (WO.no rfl rfl (WO.no rfl rfl (WO.p rfl rfl (WO.p rfl rfl (WO.no rfl rfl (WO.no rfl rfl (WO.no rfl rfl (WO.p rfl rfl (WO.p rfl rfl (WO.no rfl rfl ?_)))))))))))
                                   refine WO.no rfl rfl (WO.p rfl rfl (WO.p rfl rfl (WO.no rfl rfl (WO.no rfl rfl (WO.no rfl rfl (WO.p rfl rfl (WO.p rfl rfl ?_)))))))
                                   refine WO.nil ?_
                                   refine W.ret ?_
                                   exact fin.ret (Res.one rfl (RV.tmp rfl)) rfl))
                           first
                           | (exfalso; omega)
                           | (refine WO.no rfl rfl (WO.no rfl rfl (WO.p rfl rfl (WO.p rfl rfl (WO.no rfl rfl (WO.no rfl rfl (WO.p rfl rfl (WO.p rfl rfl (WO.no rfl rfl (WO.no rfl rfl (WO.p rfl rfl (WO.p rfl rfl ?_)))))))))))
                              refine WO.no rfl rfl (WO.no rfl rfl (WO.no rfl rfl (WO.p rfl rfl (WO.p rfl rfl (WO.no rfl rfl (WO.no rfl rfl (WO.no rfl rfl (WO.p rfl rfl (WO.p rfl rfl (WO.no rfl rfl (WO.no rfl rfl ?_)))))))))))
                              refine WO.no rfl rfl (WO.p rfl rfl (WO.p rfl rfl (WO.no rfl rfl (WO.no rfl rfl (WO.p rfl rfl (WO.p rfl rfl (WO.no rfl rfl (WO.no rfl rfl (WO.no rfl rfl (WO.p rfl rfl (WO.p rfl rfl ?_)))))))))))
                              refine WO.nil ?_
                              refine W.ret ?_
                              exact fin.ret (Res.one rfl (RV.tmp rfl)) rfl))
                      first
                      | (exfalso; omega)
                      | (refine WO.no rfl rfl (WO.no rfl rfl (WO.p rfl rfl (WO.p rfl rfl (WO.no rfl rfl (WO.no rfl rfl (WO.p rfl rfl (WO.p rfl rfl (WO.no rfl rfl (WO.no rfl rfl (WO.p rfl rfl (WO.p rfl rfl ?_)))))))))))
                         refine WO.no rfl rfl (WO.no rfl rfl (WO.p rfl rfl (WO.p rfl rfl (WO.no rfl rfl (WO.no rfl rfl (WO.no rfl rfl (WO.p rfl rfl (WO.p rfl rfl (WO.no rfl rfl (WO.no rfl rfl (WO.no rfl rfl ?_)))))))))))
                         refine WO.p rfl rfl (WO.p rfl rfl (WO.no rfl rfl (WO.no rfl rfl (WO.no rfl rfl (WO.p rfl rfl (WO.p rfl rfl (WO.no rfl rfl (WO.no rfl rfl (WO.p rfl rfl (WO.p rfl rfl (WO.no rfl rfl ?_)))))))))))
                         refine WO.no rfl rfl (WO.no rfl rfl (WO.p rfl rfl (WO.p rfl rfl ?_)))
                         refine WO.nil ?_
                         refine W.ret ?_
                         exact fin.ret (Res.one rfl (RV.tmp rfl)) rfl))
                 first
                 | (exfalso; omega)
                 | (refine WO.no rfl rfl (WO.no rfl rfl (WO.p rfl rfl (WO.p rfl rfl (WO.no rfl rfl (WO.no rfl rfl (WO.p rfl rfl (WO.p rfl rfl (WO.no rfl rfl (WO.no rfl rfl (WO.p rfl rfl (WO.p rfl rfl ?_)))))))))))
                    refine WO.no rfl rfl (WO.no rfl rfl (WO.p rfl rfl (WO.p rfl rfl (WO.no rfl rfl (WO.no rfl rfl (WO.p rfl rfl (WO.p rfl rfl (WO.no rfl rfl (WO.no rfl rfl (WO.no rfl rfl (WO.p rfl rfl ?_)))))))))))
                    refine WO.p rfl rfl (WO.no rfl rfl (WO.no rfl rfl (WO.no rfl rfl (WO.p rfl rfl (WO.p rfl rfl (WO.no rfl rfl (WO.no rfl rfl (WO.no rfl rfl (WO.p rfl rfl (WO.p rfl rfl (WO.no rfl rfl ?_)))))))))))
                    refine WO.no rfl rfl (WO.p rfl rfl (WO.p rfl rfl (WO.no rfl rfl (WO.no rfl rfl (WO.no rfl rfl (WO.p rfl rfl (WO.p rfl rfl ?_)))))))
                    refine WO.nil ?_
                    refine W.ret ?_
                    exact fin.ret (Res.one rfl (RV.tmp rfl)) rfl))
            first
            | (exfalso; omega)
            | (refine WO.no rfl rfl (WO.no rfl rfl (WO.p rfl rfl (WO.p rfl rfl (WO.no rfl rfl (WO.no rfl rfl (WO.p rfl rfl (WO.p rfl rfl (WO.no rfl rfl (WO.no rfl rfl (WO.p rfl rfl (WO.p rfl rfl ?_)))))))))))
               refine WO.no rfl rfl (WO.no rfl rfl (WO.p rfl rfl (WO.p rfl rfl (WO.no rfl rfl (WO.no rfl rfl (WO.p rfl rfl (WO.p rfl rfl (WO.no rfl rfl (WO.no rfl rfl (WO.p rfl rfl (WO.p rfl rfl ?_)))))))))))
               refine WO.no rfl rfl (WO.no rfl rfl (WO.no rfl rfl (WO.p rfl rfl (WO.p rfl rfl (WO.no rfl rfl (WO.no rfl rfl (WO.no rfl rfl (WO.p rfl rfl (WO.p rfl rfl (WO.no rfl rfl (WO.no rfl rfl ?_)))))))))))
               refine WO.no rfl rfl (WO.p rfl rfl (WO.p rfl rfl (WO.no rfl rfl (WO.no rfl rfl (WO.p rfl rfl (WO.p rfl rfl (WO.no rfl rfl (WO.no rfl rfl (WO.no rfl rfl (WO.p rfl rfl (WO.p rfl rfl ?_)))))))))))
               refine WO.nil ?_
               refine W.ret ?_
               exact fin.ret (Res.one rfl (RV.tmp rfl)) rfl))
       first
       | (exfalso; omega)
       | (refine WO.no rfl rfl (WO.no rfl rfl (WO.p rfl rfl (WO.p rfl rfl (WO.no rfl rfl (WO.no rfl rfl (WO.p rfl rfl (WO.p rfl rfl (WO.no rfl rfl (WO.no rfl rfl (WO.p rfl rfl (WO.p rfl rfl ?_)))))))))))
          refine WO.no rfl rfl (WO.no rfl rfl (WO.p rfl rfl (WO.p rfl rfl (WO.no rfl rfl (WO.no rfl rfl (WO.p rfl rfl (WO.p rfl rfl (WO.no rfl rfl (WO.no rfl rfl (WO.p rfl rfl (WO.p rfl rfl ?_)))))))))))
          refine WO.no rfl rfl (WO.no rfl rfl (WO.p rfl rfl (WO.p rfl rfl (WO.no rfl rfl (WO.no rfl rfl (WO.no rfl rfl (WO.p rfl rfl (WO.p rfl rfl (WO.no rfl rfl (WO.no rfl rfl (WO.no rfl rfl ?_)))))))))))
          refine WO.p rfl rfl (WO.p rfl rfl (WO.no rfl rfl (WO.no rfl rfl (WO.no rfl rfl (WO.p rfl rfl (WO.p rfl rfl (WO.no rfl rfl (WO.no rfl rfl (WO.p rfl rfl (WO.p rfl rfl (WO.no rfl rfl ?_)))))))))))
          refine WO.no rfl rfl (WO.no rfl rfl (WO.p rfl rfl (WO.p rfl rfl ?_)))
          refine WO.nil ?_
          refine W.ret ?_
          exact fin.ret (Res.one rfl (RV.tmp rfl)) rfl))
  first
  | (exfalso; omega)
  | (refine WO.no rfl rfl (WO.no rfl rfl (WO.p rfl rfl (WO.p rfl rfl (WO.no rfl rfl (WO.no rfl rfl (WO.p rfl rfl (WO.p rfl rfl (WO.no rfl rfl (WO.no rfl rfl (WO.p rfl rfl (WO.p rfl rfl ?_)))))))))))
     refine WO.no rfl rfl (WO.no rfl rfl (WO.p rfl rfl (WO.p rfl rfl (WO.no rfl rfl (WO.no rfl rfl (WO.p rfl rfl (WO.p rfl rfl (WO.no rfl rfl (WO.no rfl rfl (WO.p rfl rfl (WO.p rfl rfl ?_)))))))))))
     refine WO.no rfl rfl (WO.no rfl rfl (WO.p rfl rfl (WO.p rfl rfl (WO.no rfl rfl (WO.no rfl rfl (WO.p rfl rfl (WO.p rfl rfl (WO.no rfl rfl (WO.no rfl rfl (WO.no rfl rfl (WO.p rfl rfl ?_)))))))))))
     refine WO.p rfl rfl (WO.no rfl rfl (WO.no rfl rfl (WO.no rfl rfl (WO.p rfl rfl (WO.p rfl rfl (WO.no rfl rfl (WO.no rfl rfl (WO.no rfl rfl (WO.p rfl rfl (WO.p rfl rfl (WO.no rfl rfl ?_)))))))))))
     refine WO.no rfl rfl (WO.p rfl rfl (WO.p rfl rfl (WO.no rfl rfl (WO.no rfl rfl (WO.no rfl rfl (WO.p rfl rfl (WO.p rfl rfl ?_)))))))
     refine WO.nil ?_
     refine W.ret ?_
     exact fin.ret (Res.one rfl (RV.tmp rfl)) rfl)
end Go.Proofs.Ytkonhpcldomidaa
namespace Go.Proofs.Ytkonhpcldomidaa
open Go Go.TH Go.ChangeShapes Go.WideShapes Go.ChangeAt Go.RowKit
set_option maxRecDepth 100000
def encU (n : Int) : List Value := [.int .u8 n]
def encV (n : Int) : List Value := [.int .u32 n]
def encH (p : Int × Int) : List Value := [.int .i16 p.1, .int .i16 p.2]
section
variable {H : Type} {enc : TypeId × Value → H} {w : World}
theorem cells2 : Try.prog.cellsOf 2 = 1 := by kernel_rfl
theorem cells3 : Try.prog.cellsOf 3 = 1 := by kernel_rfl
theorem cells5 : Try.prog.cellsOf 5 = 1 := by kernel_rfl
theorem cells56 : Try.prog.cellsOf 56 = 1 := by kernel_rfl
theorem cells57 : Try.prog.cellsOf 57 = 2 := by kernel_rfl
theorem cells60 : Try.prog.cellsOf 60 = 1 := by kernel_rfl
theorem cells61 : Try.prog.cellsOf 61 = 4 := by kernel_rfl
theorem cells23 : Try.prog.cellsOf 23 = 2 := by kernel_rfl
theorem cells24 : Try.prog.cellsOf 24 = 1 := by kernel_rfl
theorem cells26 : Try.prog.cellsOf 26 = 3 := by kernel_rfl
theorem cells48 : Try.prog.cellsOf 48 = 6 := by kernel_rfl
theorem wf64 {z : Int} (h : (Lit.int .i64 z).wf = true) : in64 z := by
  simp [Lit.wf, IntKind.min, IntKind.max, IntKind.signed, IntKind.bits] at h
  unfold in64; omega
theorem rd_int {n : Nat} {c : List Value} {y : DataW H × List MemPlace} (h : DataW.trod enc Try.prog w 0 (fun _ => true) true n 2 c = some y) : ∃ z : Int, c = encI z ∧ in64 z := by
  obtain ⟨z, rfl, _, hw⟩ := DataW.trod_int Try.underlying2 h
  exact ⟨z, rfl, wf64 hw⟩
theorem rd_int3 {n : Nat} {c : List Value} {y : DataW H × List MemPlace} (h : DataW.trod enc Try.prog w 0 (fun _ => true) true n 3 c = some y) : ∃ z : Int, c = encI z ∧ in64 z := by
  obtain ⟨z, rfl, _, hw⟩ := DataW.trod_int Try.underlying3 h
  exact ⟨z, rfl, wf64 hw⟩
theorem rd_u8 {n : Nat} {c : List Value} {y : DataW H × List MemPlace} (h : DataW.trod enc Try.prog w 0 (fun _ => true) true n 5 c = some y) : ∃ z : Int, c = encU z ∧ 0 ≤ z ∧ z ≤ 255 := by
  obtain ⟨z, rfl, _, hw⟩ := DataW.trod_int Try.underlying5 h
  simp [Lit.wf, IntKind.min, IntKind.max, IntKind.signed, IntKind.bits] at hw
  exact ⟨z, rfl, by omega, by omega⟩
theorem rd_u32 {n : Nat} {c : List Value} {y : DataW H × List MemPlace} (h : DataW.trod enc Try.prog w 0 (fun _ => true) true n 60 c = some y) : ∃ z : Int, c = encV z ∧ 0 ≤ z ∧ z ≤ 4294967295 := by
  obtain ⟨z, rfl, _, hw⟩ := DataW.trod_int Try.underlying60 h
  simp [Lit.wf, IntKind.min, IntKind.max, IntKind.signed, IntKind.bits] at hw
  exact ⟨z, rfl, by omega, by omega⟩
theorem rd_i16 {n : Nat} {c : List Value} {y : DataW H × List MemPlace} (h : DataW.trod enc Try.prog w 0 (fun _ => true) true n 56 c = some y) : ∃ z : Int, c = [.int .i16 z] ∧ -32768 ≤ z ∧ z ≤ 32767 := by
  obtain ⟨z, rfl, _, hw⟩ := DataW.trod_int Try.underlying56 h
  simp [Lit.wf, IntKind.min, IntKind.max, IntKind.signed, IntKind.bits] at hw
  exact ⟨z, rfl, by omega, by omega⟩
theorem rd_rng {n : Nat} {c : List Value} {y : DataW H × List MemPlace} (hl : c.length = 2) (h : DataW.trod enc Try.prog w 0 (fun _ => true) true n 23 c = some y) : ∃ a b : Int, c = [.int .i64 a, .int .i64 b] ∧ in64 a ∧ in64 b := by
  obtain ⟨y0, y1, m, _, _, h0, h1⟩ := trod_struct2 Try.underlying23 h
  rw [cells2] at h0 h1
  match c, hl with
  | [a, b], _ =>
    simp at h0 h1
    obtain ⟨u, hu, i0⟩ := rd_int h0
    obtain ⟨v, hv, i1⟩ := rd_int h1
    simp [encI] at hu hv
    subst hu; subst hv
    exact ⟨u, v, rfl, i0, i1⟩
theorem trod_struct5 {P : Program} {base : Nat} {spare : Nat → Bool} {held : Bool} {t : TypeId} {f0 f1 f2 f3 f4 : Field} {fuel : Nat} {cs : List Value} {x : DataW H × List MemPlace} (ht : P.underlying t = some (.struct #[f0, f1, f2, f3, f4])) (h : DataW.trod enc P w base spare held fuel t cs = some x) :
    ∃ y0 y1 y2 y3 y4 n, cs.length = P.cellsOf t ∧ DataW.trod enc P w base spare held n f0.type ((cs.drop f0.offset).take (P.cellsOf f0.type)) = some y0 ∧
      DataW.trod enc P w base spare held n f1.type ((cs.drop f1.offset).take (P.cellsOf f1.type)) = some y1 ∧ DataW.trod enc P w base spare held n f2.type ((cs.drop f2.offset).take (P.cellsOf f2.type)) = some y2 ∧
      DataW.trod enc P w base spare held n f3.type ((cs.drop f3.offset).take (P.cellsOf f3.type)) = some y3 ∧ DataW.trod enc P w base spare held n f4.type ((cs.drop f4.offset).take (P.cellsOf f4.type)) = some y4 := by
  obtain ⟨xs, n, _, rfl, hl, hlen, hf⟩ := DataW.trod_struct ht h
  match xs, hlen with
  | [y0, y1, y2, y3, y4], _ => exact ⟨y0, y1, y2, y3, y4, n, hl, by simpa using hf 0 f0 rfl, by simpa using hf 1 f1 rfl, by simpa using hf 2 f2 rfl, by simpa using hf 3 f3 rfl, by simpa using hf 4 f4 rfl⟩
theorem rd_run {n : Nat} {c : List Value} {y : DataW H × List MemPlace} (hl : c.length = 6) (h : DataW.trod enc Try.prog w 0 (fun _ => true) true n 48 c = some y) : ∃ r : Rn, c = encR r ∧ True := by
  obtain ⟨y0, y1, y2, y3, y4, m, _, h0, h1, h2, h3, h4⟩ := trod_struct5 Try.underlying48 h
  rw [cells2] at h0 h2 h3 h4
  rw [cells23] at h1
  match c, hl with
  | [a, b, c, d, e, f], _ =>
    simp at h0 h1 h2 h3 h4
    obtain ⟨z0, e0, _⟩ := rd_int h0
    obtain ⟨z1, z2, e1, _⟩ := rd_rng (by rfl) h1
    obtain ⟨z3, e3, _⟩ := rd_int h2
    obtain ⟨z4, e4, _⟩ := rd_int h3
    obtain ⟨z5, e5, _⟩ := rd_int h4
    simp [encI] at e0 e1 e3 e4 e5
    obtain ⟨e1, e2⟩ := e1
    subst e0 e1 e2 e3 e4 e5
    exact ⟨⟨z0, z1, z2, z3, z4, z5⟩, rfl, trivial⟩
theorem open_day {base : Nat} {v : Value} {d : DataW H} {ps : List MemPlace} (hv : Value.okWide Try.prog w .any base 26 v) (h : DataW.Trod enc Try.prog w 0 (fun _ => true) true 26 v d ps) :
    ∃ (o : Value) (a b : Int) (l : List Rn), v = dayV a b o ∧ RdF encR 6 w.heap.size w o l := by
  unfold Value.okWide at hv
  rw [Try.underlying26] at hv
  obtain ⟨cs, rfl, hs, _⟩ := hv
  obtain ⟨fuel, hf⟩ := h
  obtain ⟨y0, y1, n, _, hl, h0, h1⟩ := trod_struct2 Try.underlying26 hf
  rw [cells26] at hl
  rw [cells23] at h0
  rw [cells24] at h1
  obtain ⟨l, hcs⟩ : ∃ l, cs = List.toArray l := ⟨cs.toList, by simp⟩
  subst hcs
  simp only [Value.cells] at hl h0 h1
  match l, hl with
  | [a, b, c], _ =>
    simp at h0 h1
    obtain ⟨z1, z2, e1, _⟩ := rd_rng (by rfl) h0
    obtain ⟨o, xs, ho, hr, _⟩ := open_rd (en := encR) (Q := fun _ => True) Try.underlying24 cells48 (by omega) (fun n c y hl hy => rd_run hl hy) h1
    simp at ho e1
    obtain ⟨e1, e2⟩ := e1
    subst ho e1 e2
    exact ⟨c, z1, z2, xs, rfl, hr⟩
theorem open_ints {base : Nat} {v : Value} {d : DataW H} {ps : List MemPlace} (hv : Value.okWide Try.prog w .any base 27 v) (h : DataW.Trod enc Try.prog w 0 (fun _ => true) true 27 v d ps) :
    ∃ xs : List Int, RdF encI 1 w.heap.size w v xs ∧ ∀ x ∈ xs, in64 x := by
  obtain ⟨a0, len, cap, rfl⟩ := okWide_slice Try.underlying27 hv
  obtain ⟨fuel, hf⟩ := h
  obtain ⟨o, xs, ho, hr, hq⟩ := open_rd (en := encI) (Q := in64) Try.underlying27 cells3 (by omega) (fun n c y hl hy => rd_int3 hy) hf
  simp [Value.cells] at ho
  subst ho
  exact ⟨xs, hr, hq⟩
theorem open_list {base : Nat} {v : Value} {d : DataW H} {ps : List MemPlace} (hv : Value.okWide Try.prog w .any base 28 v) (h : DataW.Trod enc Try.prog w 0 (fun _ => true) true 28 v d ps) :
    ∃ xs : List Int, RdF encI 1 w.heap.size w v xs ∧ ∀ x ∈ xs, in64 x := by
  obtain ⟨a0, len, cap, rfl⟩ := okWide_slice Try.underlying28 hv
  obtain ⟨fuel, hf⟩ := h
  obtain ⟨o, xs, ho, hr, hq⟩ := open_rd (en := encI) (Q := in64) Try.underlying28 cells2 (by omega) (fun n c y hl hy => rd_int hy) hf
  simp [Value.cells] at ho
  subst ho
  exact ⟨xs, hr, hq⟩
theorem open_by {base : Nat} {v : Value} {d : DataW H} {ps : List MemPlace} (hv : Value.okWide Try.prog w .any base 44 v) (h : DataW.Trod enc Try.prog w 0 (fun _ => true) true 44 v d ps) :
    ∃ xs : List Int, RdF encU 1 w.heap.size w v xs ∧ ∀ x ∈ xs, 0 ≤ x ∧ x ≤ 255 := by
  obtain ⟨a0, len, cap, rfl⟩ := okWide_slice Try.underlying44 hv
  obtain ⟨fuel, hf⟩ := h
  obtain ⟨o, xs, ho, hr, hq⟩ := open_rd (en := encU) (Q := fun x => 0 ≤ x ∧ x ≤ 255) Try.underlying44 cells5 (by omega) (fun n c y hl hy => rd_u8 hy) hf
  simp [Value.cells] at ho
  subst ho
  exact ⟨xs, hr, hq⟩
theorem open_words {base : Nat} {v : Value} {d : DataW H} {ps : List MemPlace} (hv : Value.okWide Try.prog w .any base 45 v) (h : DataW.Trod enc Try.prog w 0 (fun _ => true) true 45 v d ps) :
    ∃ xs : List Int, RdF encV 1 w.heap.size w v xs ∧ ∀ x ∈ xs, 0 ≤ x ∧ x ≤ 4294967295 := by
  obtain ⟨a0, len, cap, rfl⟩ := okWide_slice Try.underlying45 hv
  obtain ⟨fuel, hf⟩ := h
  obtain ⟨o, xs, ho, hr, hq⟩ := open_rd (en := encV) (Q := fun x => 0 ≤ x ∧ x ≤ 4294967295) Try.underlying45 cells60 (by omega) (fun n c y hl hy => rd_u32 hy) hf
  simp [Value.cells] at ho
  subst ho
  exact ⟨xs, hr, hq⟩
theorem rd_two16 {n : Nat} {c : List Value} {y : DataW H × List MemPlace} (hl : c.length = 2) (h : DataW.trod enc Try.prog w 0 (fun _ => true) true n 57 c = some y) : ∃ p : Int × Int, c = encH p ∧ (-32768 ≤ p.1 ∧ p.1 ≤ 32767) ∧ -32768 ≤ p.2 ∧ p.2 ≤ 32767 := by
  obtain ⟨xs, m, _, _, _, hx, he⟩ := DataW.trod_array Try.underlying57 h
  match c, hl with
  | [a, b], _ =>
    have h0 := he 0 (by omega)
    have h1 := he 1 (by omega)
    rw [cells56] at h0 h1
    simp at h0 h1
    obtain ⟨y0, hy0⟩ : ∃ y, xs[0]? = some y := ⟨xs[0], by simp [hx]⟩
    obtain ⟨y1, hy1⟩ : ∃ y, xs[1]? = some y := ⟨xs[1], by simp [hx]⟩
    rw [hy0] at h0
    rw [hy1] at h1
    obtain ⟨u, hu, i0⟩ := rd_i16 h0
    obtain ⟨x, hxx, i1⟩ := rd_i16 h1
    simp at hu hxx
    subst hu; subst hxx
    exact ⟨(u, x), rfl, i0, i1⟩
theorem open_pairs {base : Nat} {v : Value} {d : DataW H} {ps : List MemPlace} (hv : Value.okWide Try.prog w .any base 53 v) (h : DataW.Trod enc Try.prog w 0 (fun _ => true) true 53 v d ps) :
    ∃ xs : List (Int × Int), RdF encH 2 w.heap.size w v xs ∧ ∀ p ∈ xs, (-32768 ≤ p.1 ∧ p.1 ≤ 32767) ∧ -32768 ≤ p.2 ∧ p.2 ≤ 32767 := by
  obtain ⟨a0, len, cap, rfl⟩ := okWide_slice Try.underlying53 hv
  obtain ⟨fuel, hf⟩ := h
  obtain ⟨o, xs, ho, hr, hq⟩ := open_rd (en := encH) (Q := fun p => (-32768 ≤ p.1 ∧ p.1 ≤ 32767) ∧ -32768 ≤ p.2 ∧ p.2 ≤ 32767) Try.underlying53 cells57 (by omega) (fun n c y hl hy => rd_two16 hl hy) hf
  simp [Value.cells] at ho
  subst ho
  exact ⟨xs, hr, hq⟩
theorem open_four {base : Nat} {v : Value} {d : DataW H} {ps : List MemPlace} (hv : Value.okWide Try.prog w .any base 61 v) (h : DataW.Trod enc Try.prog w 0 (fun _ => true) true 61 v d ps) :
    ∃ n0 n1 n2 n3 : Int, v = .agg #[.int .u32 n0, .int .u32 n1, .int .u32 n2, .int .u32 n3] ∧ (0 ≤ n0 ∧ n0 ≤ 4294967295) ∧ (0 ≤ n1 ∧ n1 ≤ 4294967295) ∧ (0 ≤ n2 ∧ n2 ≤ 4294967295) ∧ (0 ≤ n3 ∧ n3 ≤ 4294967295) := by
  unfold Value.okWide at hv
  rw [Try.underlying61] at hv
  obtain ⟨cs, rfl, hs, _⟩ := hv
  obtain ⟨fuel, hf⟩ := h
  obtain ⟨xs, m, _, _, hl, hx, he⟩ := DataW.trod_array Try.underlying61 hf
  rw [cells61] at hl
  obtain ⟨l, hcs⟩ : ∃ l, cs = List.toArray l := ⟨cs.toList, by simp⟩
  subst hcs
  simp only [Value.cells] at hl he
  match l, hl with
  | [a, b, c, e], _ =>
    have h0 := he 0 (by omega)
    have h1 := he 1 (by omega)
    have h2 := he 2 (by omega)
    have h3 := he 3 (by omega)
    rw [cells60] at h0 h1 h2 h3
    simp at h0 h1 h2 h3
    obtain ⟨y0, hy0⟩ : ∃ y, xs[0]? = some y := ⟨xs[0], by simp [hx]⟩
    obtain ⟨y1, hy1⟩ : ∃ y, xs[1]? = some y := ⟨xs[1], by simp [hx]⟩
    obtain ⟨y2, hy2⟩ : ∃ y, xs[2]? = some y := ⟨xs[2], by simp [hx]⟩
    obtain ⟨y3, hy3⟩ : ∃ y, xs[3]? = some y := ⟨xs[3], by simp [hx]⟩
    rw [hy0] at h0
    rw [hy1] at h1
    rw [hy2] at h2
    rw [hy3] at h3
    obtain ⟨u0, e0, i0⟩ := rd_u32 h0
    obtain ⟨u1, e1, i1⟩ := rd_u32 h1
    obtain ⟨u2, e2, i2⟩ := rd_u32 h2
    obtain ⟨u3, e3, i3⟩ := rd_u32 h3
    simp [encV] at e0 e1 e2 e3
    subst e0 e1 e2 e3
    exact ⟨u0, u1, u2, u3, rfl, i0, i1, i2, i3⟩
theorem open_kind {k : IntKind} {T base : Nat} (hT : Try.prog.underlying T = some (.int k)) {v : Value} {d : DataW H} {ps : List MemPlace} (hv : Value.okWide Try.prog w .any base T v) (h : DataW.Trod enc Try.prog w 0 (fun _ => true) true T v d ps) : ∃ z : Int, v = .int k z ∧ k.min ≤ z ∧ z ≤ k.max := by
  obtain ⟨z, rfl, _, _, hw⟩ := open_int hT hv h
  simp [Lit.wf] at hw
  exact ⟨z, rfl, by omega, by omega⟩
theorem open_u8 {base : Nat} {v : Value} {d : DataW H} {ps : List MemPlace} (hv : Value.okWide Try.prog w .any base 5 v) (h : DataW.Trod enc Try.prog w 0 (fun _ => true) true 5 v d ps) : ∃ z : Int, v = .int .u8 z ∧ 0 ≤ z ∧ z ≤ 255 := by
  obtain ⟨z, rfl, h1, h2⟩ := open_kind Try.underlying5 hv h
  simp [IntKind.min, IntKind.max, IntKind.signed, IntKind.bits] at h1 h2
  exact ⟨z, rfl, by omega, by omega⟩
theorem open_i64' {base : Nat} {v : Value} {d : DataW H} {ps : List MemPlace} (hv : Value.okWide Try.prog w .any base 3 v) (h : DataW.Trod enc Try.prog w 0 (fun _ => true) true 3 v d ps) : ∃ z : Int, v = .int .i64 z ∧ in64 z := by
  obtain ⟨z, rfl, h1, h2⟩ := open_kind Try.underlying3 hv h
  simp [IntKind.min, IntKind.max, IntKind.signed, IntKind.bits] at h1 h2
  exact ⟨z, rfl, by unfold in64; omega⟩
theorem open_n {base : Nat} {v : Value} {d : DataW H} {ps : List MemPlace} (hv : Value.okWide Try.prog w .any base 2 v) (h : DataW.Trod enc Try.prog w 0 (fun _ => true) true 2 v d ps) : ∃ z : Int, v = .int .i64 z ∧ in64 z := by
  obtain ⟨z, rfl, h1, h2⟩ := open_kind Try.underlying2 hv h
  simp [IntKind.min, IntKind.max, IntKind.signed, IntKind.bits] at h1 h2
  exact ⟨z, rfl, by unfold in64; omega⟩
end
end Go.Proofs.Ytkonhpcldomidaa
