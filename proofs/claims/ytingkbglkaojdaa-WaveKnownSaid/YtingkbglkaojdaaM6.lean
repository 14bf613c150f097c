/-
  What is proved here: how the arguments of the laws read. Conditions: none.
  What is proved here: the laws WaveShort, WavePeriods, WaveRuns and WaveProofs, as contracts. Conditions: none; each contract states its own.
  What is proved here: the laws WaveKnown and WaveShortest, as contracts. Conditions: none; each contract states its own.
-/
import Derived.Test.YtingkbglkaojdaaM2
import Derived.Test.YtingkbglkaojdaaM3
import Derived.Deep.Strs
import Derived.OpenShut
import Derived.Test.YtingkbglkaojdaaM5
set_option linter.unusedVariables false
set_option linter.unusedSimpArgs false
namespace Go.Proofs.Ytingkbglkaojdaa
open Go Go.TH Go.ChangeShapes Go.WideShapes Go.ChangeAt Go.RowKit
set_option maxRecDepth 100000
section
variable {H : Type} {enc : TypeId × Value → H} {w : World}
theorem cells3i : Try.prog.cellsOf 3 = 1 := by kernel_rfl
theorem cells22 : Try.prog.cellsOf 22 = 1 := by kernel_rfl
theorem cells45 : Try.prog.cellsOf 45 = 2 := by kernel_rfl
theorem wf64 {z : Int} (h : (Lit.int .i64 z).wf = true) : in64 z := by
  simp [Lit.wf, IntKind.min, IntKind.max, IntKind.signed, IntKind.bits] at h
  unfold in64; omega
theorem rd_int3 {n : Nat} {c : List Value} {y : DataW H × List MemPlace} (h : DataW.trod enc Try.prog w 0 (fun _ => true) true n 3 c = some y) : ∃ z : Int, c = encI z ∧ in64 z := by
  obtain ⟨z, rfl, _, hw⟩ := DataW.trod_int Try.underlying3 h
  exact ⟨z, rfl, wf64 hw⟩
theorem open_bits {base : Nat} {v : Value} {d : DataW H} {ps : List MemPlace} (hv : Value.okWide Try.prog w .any base 22 v) (h : DataW.Trod enc Try.prog w 0 (fun _ => true) true 22 v d ps) :
    ∃ xs : List Int, RdF encI 1 w.heap.size w v xs ∧ HasCap v xs.length := by
  obtain ⟨a0, len, cap, rfl⟩ := okWide_slice Try.underlying22 hv
  obtain ⟨fuel, hf⟩ := h
  obtain ⟨o, xs, ho, hr, hq⟩ := open_rd (en := encI) (Q := in64) Try.underlying22 cells3i (by omega) (fun n c y hl hy => rd_int3 hy) hf
  simp [Value.cells] at ho
  subst ho
  have hlc : len ≤ cap := by
    rcases Deep.open_slice Try.underlying22 hf with ⟨e, _⟩ | ⟨a, l', c', m, n, D, Pl, e, _, hl, _⟩
    · simp [Value.cells] at e; omega
    · simp [Value.cells] at e; omega
  obtain ⟨_, a', c', e, _⟩ := hr.sl
  refine ⟨xs, hr, a0, cap, ?_, ?_⟩
  · injection e with e1 e2 e3; rw [e2]
  · injection e with e1 e2 e3; omega
theorem open_proof {base : Nat} {v : Value} {d : DataW H} {ps : List MemPlace} (hv : Value.okWide Try.prog w .any base 45 v) (h : DataW.Trod enc Try.prog w 0 (fun _ => true) true 45 v d ps) :
    ∃ (u : Value) (taps : List Int) (n : Int), v = proofV u n ∧ RdF encI 1 w.heap.size w u taps := by
  unfold Value.okWide at hv
  rw [Try.underlying45] at hv
  obtain ⟨cs, rfl, hs, _⟩ := hv
  obtain ⟨fuel, hf⟩ := h
  obtain ⟨y0, y1, n, _, hl, h0, h1⟩ := trod_struct2 Try.underlying45 hf
  rw [cells45] at hl
  rw [cells22] at h0
  rw [cells3i] at h1
  obtain ⟨l, hcs⟩ : ∃ l, cs = List.toArray l := ⟨cs.toList, by simp⟩
  subst hcs
  simp only [Value.cells] at hl h0 h1
  match l, hl with
  | [a, b], _ =>
    simp at h0 h1
    obtain ⟨o, xs, ho, hr, hq⟩ := open_rd (en := encI) (Q := in64) Try.underlying22 cells3i (by omega) (fun n c y hl hy => rd_int3 hy) h0
    simp at ho
    subst ho
    obtain ⟨z, hz, _⟩ := rd_int3 h1
    simp [encI] at hz
    subst hz
    exact ⟨a, xs, z, rfl, hr⟩
theorem open_kind {k : IntKind} {T base : Nat} (hT : Try.prog.underlying T = some (.int k)) {v : Value} {d : DataW H} {ps : List MemPlace} (hv : Value.okWide Try.prog w .any base T v) (h : DataW.Trod enc Try.prog w 0 (fun _ => true) true T v d ps) : ∃ z : Int, v = .int k z ∧ k.min ≤ z ∧ z ≤ k.max := by
  obtain ⟨z, rfl, _, _, hw⟩ := open_int hT hv h
  simp [Lit.wf] at hw
  exact ⟨z, rfl, by omega, by omega⟩
theorem open_u8 {base : Nat} {v : Value} {d : DataW H} {ps : List MemPlace} (hv : Value.okWide Try.prog w .any base 5 v) (h : DataW.Trod enc Try.prog w 0 (fun _ => true) true 5 v d ps) : ∃ z : Int, v = .int .u8 z ∧ 0 ≤ z ∧ z ≤ 255 := by
  obtain ⟨z, rfl, h1, h2⟩ := open_kind Try.underlying5 hv h
  simp [IntKind.min, IntKind.max, IntKind.signed, IntKind.bits] at h1 h2
  exact ⟨z, rfl, by omega, by omega⟩
theorem open_i64' {base : Nat} {v : Value} {d : DataW H} {ps : List MemPlace} (hv : Value.okWide Try.prog w .any base 3 v) (h : DataW.Trod enc Try.prog w 0 (fun _ => true) true 3 v d ps) : ∃ z : Int, v = .int .i64 z ∧ in64 z := by
  obtain ⟨z, rfl, h1, h2⟩ := open_kind Try.underlying3 hv h
  simp [IntKind.min, IntKind.max, IntKind.signed, IntKind.bits] at h1 h2
  exact ⟨z, rfl, by unfold in64; omega⟩
end
end Go.Proofs.Ytingkbglkaojdaa
namespace Go.Proofs.Ytingkbglkaojdaa
open Go Go.TH Go.TH.Wv
attribute [local irreducible] W WO pt
set_option maxRecDepth 10000
set_option maxHeartbeats 2000000
theorem prof_is (l : List Int) : (if chkB l = 0 then profM l else []) = proV l := by
  unfold proV
  split
  · rename_i h; rw [profM_eq h]
  · rfl
theorem proV_last {l : List Int} (h : chkB l = 0) : l.length < (proV l).length ∧ (LC (bt l) l.length : Int) = (proV l).getD l.length 0 := by
  unfold proV
  rw [if_pos h]
  refine ⟨by rw [proL_len]; omega, ?_⟩
  unfold proL
  rw [mapR_get 0 (by omega)]
theorem proV_len {l : List Int} (h : chkB l = 0) : (proV l).length = l.length + 1 := by unfold proV; rw [if_pos h, proL_len]
theorem law_WaveShort (w : World) (v : Value) (l : List Int) (hR : RdF encI 1 w.heap.size w v l) (hv : HasCap v l.length) : Ret Try.prog 3 [v].toArray w (.bool true) := by
  refine Ret.of mixed tyTab Try.func3 rfl rfl ?_
  replace hR : RdF encI 1 (fnCx mixed tyTab Try.f3.ntmps w).B (fnCx mixed tyTab Try.f3.ntmps w).w0 v l := hR
  have hle := hR.sl.le
  refine W.sreg ?_
  refine WO.p rfl rfl ?_
  refine WO.nil ?_
  refine W.seq ?_
  refine W.sreg ?_
  refine WO.p rfl rfl ?_
  refine' WO.len (n := _) rfl rfl ?hs rfl ?_
  case hs => (first | exact hR.sl)
  refine WO.p rfl rfl (WO.p rfl rfl ?_)
  refine WO.guard_bl rfl rfl (fun c1 => ?_) (fun c1 => ?_)
  · first
    | (exfalso; omega)
    | (refine WO.pg rfl rfl rfl (WO.go' rfl ?_)
       refine' WO.len (n := _) rfl rfl ?hs rfl ?_
       case hs => (first | exact hR.sl)
       refine WO.pg rfl rfl rfl (WO.p rfl rfl (WO.p rfl rfl ?_))
       refine WO.guard_bl rfl rfl (fun c2 => ?_) (fun c2 => ?_)
       · first
         | (exfalso; omega)
         | (refine WO.no rfl rfl (WO.no rfl rfl (WO.no rfl rfl (WO.p rfl rfl ?_)))
            refine WO.nil ?_
            refine W.cond_t rfl ?_
            refine W.sreg ?_
            refine WO.callR rfl Try.call15 (fun L w hi => l_Works w) rfl ?_
            refine WO.p rfl rfl ?_
            refine WO.nil ?_
            refine W.ret ?_
            first | exact fin.ret (Res.one rfl (RV.tmp rfl)) rfl | (exfalso; simp_all; done))
       · first
         | (exfalso; omega)
         | (refine WO.pg rfl rfl rfl (WO.go' rfl ?_)
            refine' WO.len (n := _) rfl rfl ?hs rfl ?_
            case hs => (first | exact hR.sl)
            refine WO.pg rfl rfl rfl (WO.p rfl rfl ?_)
            refine WO.nil ?_
            refine W.cond_bl rfl (fun c3 => ?_) (fun c3 => ?_)
            · first
              | (exfalso; omega)
              | (refine W.sreg ?_
                 refine WO.callR rfl Try.call15 (fun L w hi => l_Works w) rfl ?_
                 refine WO.p rfl rfl ?_
                 refine WO.nil ?_
                 refine W.ret ?_
                 first | exact fin.ret (Res.one rfl (RV.tmp rfl)) rfl | (exfalso; simp_all; done))
            · first
              | (exfalso; omega)
              | (refine W.skip ?_
                 refine W.sreg ?_
                 refine WO.p rfl rfl ?_
                 refine WO.call (Post := fun r Hq => ∃ x : Value, r = .tuple #[x, .int .i64 (chkB l)] ∧ Hq = [OwE encI 3 1 x (proV l)]) rfl Try.call16 (fun L w hi => by have h := c_Profile w v l (hR.later hi); rw [prof_is] at h; exact h) rfl ?_
                 rintro _ _ ⟨r1, rfl, rfl⟩
                 refine WO.p rfl rfl (WO.p rfl rfl (WO.p rfl rfl (WO.p rfl rfl (WO.p rfl rfl ?_))))
                 refine WO.nil ?_
                 refine W.sreg ?_
                 refine WO.p rfl rfl ?_
                 refine WO.call (Post := fun r Hq => ∃ x : Value, r = .tuple #[x, .int .i64 (chkB l)] ∧ Hq = [OwE encI 3 1 x (proV l)]) rfl Try.call17 (fun L w hi => ref_Profile w v l (hR.later hi) hv) rfl ?_
                 rintro _ _ ⟨r2, rfl, rfl⟩
                 refine WO.p rfl rfl (WO.p rfl rfl (WO.p rfl rfl (WO.p rfl rfl (WO.p rfl rfl ?_))))
                 refine WO.nil ?_
                 refine W.sreg ?_
                 refine WO.p rfl rfl ?_
                 refine WO.call (Post := fun r Hq => ∃ x : Value, r = .tuple #[x, .int .i64 (chkB l)] ∧ Hq = [OwE encI 3 1 x (if chkB l = 0 then shortL l else [])]) rfl Try.call18 (fun L w hi => c_Shortest w v l (hR.later hi)) rfl ?_
                 rintro _ _ ⟨r3, rfl, rfl⟩
                 refine WO.p rfl rfl (WO.p rfl rfl (WO.p rfl rfl (WO.p rfl rfl (WO.p rfl rfl ?_))))
                 refine WO.nil ?_
                 refine W.seq ?_
                 refine W.sreg ?_
                 refine WO.p rfl rfl (WO.p rfl rfl ?_)
                 refine WO.callR (r := .bool true) rfl Try.call19 (fun L w hi => ints_t (l_ints w r1 r2 (proV l) (proV l) (RdF.of_ow (e := 3) encI_ok (by repeat (first | exact Pick.head | apply Pick.tail)) hi) (RdF.of_ow (e := 3) encI_ok (by repeat (first | exact Pick.head | apply Pick.tail)) hi)) rfl) rfl ?_
                 refine WO.p rfl rfl (WO.p rfl rfl (WO.pg rfl rfl rfl (WO.pg rfl rfl rfl (WO.pg rfl rfl rfl (WO.p rfl rfl (WO.p rfl rfl ?_))))))
                 refine WO.guard_bl rfl rfl (fun c4 => ?_) (fun c4 => ?_)
                 · first
                   | (exfalso; omega)
                   | (refine WO.no rfl rfl (WO.no rfl rfl (WO.no rfl rfl (WO.p rfl rfl ?_)))
                      refine WO.nil ?_
                      refine W.cond_t rfl ?_
                      refine W.sreg ?_
                      refine WO.p rfl rfl ?_
                      refine WO.nil ?_
                      refine W.ret ?_
                      first | exact fin.ret (Res.one rfl (RV.tmp rfl)) rfl | (exfalso; simp_all; done))
                 · first
                   | (exfalso; omega)
                   | (refine WO.pg rfl rfl rfl (WO.pg rfl rfl rfl (WO.pg rfl rfl rfl (WO.p rfl rfl ?_)))
                      refine WO.nil ?_
                      refine W.cond_bl rfl (fun c5 => ?_) (fun c5 => ?_)
                      · first
                        | (exfalso; omega)
                        | (refine W.sreg ?_
                           refine WO.p rfl rfl ?_
                           refine WO.nil ?_
                           refine W.ret ?_
                           first | exact fin.ret (Res.one rfl (RV.tmp rfl)) rfl | (exfalso; simp_all; done))
                      · first
                        | (exfalso; omega)
                        | (refine W.skip ?_
                           refine W.seq ?_
                           refine W.sreg ?_
                           refine WO.p rfl rfl (WO.p rfl rfl ?_)
                           refine WO.nil ?_
                           refine W.cond_bl rfl (fun c6 => ?_) (fun c6 => ?_)
                           · first
                             | (exfalso; omega)
                             | (rw [if_neg (show ¬ chkB l = 0 by omega)]
                                refine W.fact (OwE.sl (enc := encI) (e := 3) (sz := 1) (v := r3) (xs := []) (by repeat (first | exact Pick.head | apply Pick.tail))) ?_
                                intro hsl2
                                refine W.sreg ?_
                                refine WO.p rfl rfl ?_
                                refine' WO.len (n := _) rfl rfl ?hs rfl ?_
                                case hs => (first | exact hsl2)
                                refine WO.p rfl rfl (WO.p rfl rfl ?_)
                                refine WO.guard_bl rfl rfl (fun c7 => ?_) (fun c7 => ?_)
                                · first
                                  | (exfalso; omega)
                                  | (refine WO.go' rfl ?_
                                     refine WO.callR rfl Try.call15 (fun L w hi => l_Works w) rfl ?_
                                     refine WO.p rfl rfl (WO.p rfl rfl ?_)
                                     refine WO.nil ?_
                                     refine W.ret ?_
                                     first | exact fin.ret (Res.one rfl (RV.tmp rfl)) rfl | (exfalso; simp_all; done))
                                · first
                                  | (exfalso; omega)
                                  | (refine WO.no rfl rfl (WO.p rfl rfl (WO.p rfl rfl ?_))
                                     refine WO.nil ?_
                                     refine W.ret ?_
                                     first | exact fin.ret (Res.one rfl (RV.tmp rfl)) rfl | (exfalso; simp_all; done)))
                           · first
                             | (exfalso; omega)
                             | (refine W.skip ?_
                                have hok : chkB l = 0 := by omega
                                rw [if_pos hok]
                                refine W.fact (OwE.sl (enc := encI) (e := 3) (sz := 1) (v := r3) (xs := shortL l) (by repeat (first | exact Pick.head | apply Pick.tail))) ?_
                                intro hsl2
                                refine W.fact (OwE.sl (enc := encI) (e := 3) (sz := 1) (v := r2) (xs := proV l) (by repeat (first | exact Pick.head | apply Pick.tail))) ?_
                                intro hsl3
                                obtain ⟨q1, q2⟩ := proV_last hok
                                have q3 := short_len hok
                                rw [proV_len hok] at hsl3
                                refine W.sreg ?_
                                refine WO.p rfl rfl ?_
                                refine' WO.len (n := _) rfl rfl ?hs rfl ?_
                                case hs => (first | exact hsl2)
                                refine WO.p rfl rfl (WO.p rfl rfl ?_)
                                refine' WO.len (n := _) rfl rfl ?hs rfl ?_
                                case hs => (first | exact hR.sl)
                                refine' WO.indexAddr (n := _) (i := _) rfl rfl rfl ?hs ?h1 rfl ?_
                                case hs => (first | exact hsl3)
                                case h1 => (first | omega | (simp; omega))
                                refine' WO.load (v := _) rfl rfl ?hc rfl ?_
                                case hc => (first | (refine cellI2 (e := 3) (xs := proV l) (i := l.length) (j := l.length) (z := (LC (bt l) l.length : Int)) ?_ q1 q2 rfl; repeat (first | exact Sub.nil | refine Sub.cons (by repeat (first | exact Pick.head | apply Pick.tail)) ?_)))
                                refine WO.p rfl rfl (WO.p rfl rfl ?_)
                                refine WO.guard_bl rfl rfl (fun c8 => ?_) (fun c8 => ?_)
                                · first
                                  | (exfalso; omega)
                                  | (refine WO.pg rfl rfl rfl (WO.pg rfl rfl rfl (WO.go' rfl ?_))
                                     refine WO.callR (r := .int .i64 0) rfl Try.call20 (fun L w hi => by have h := ref_CheckRegister w v r3 l (shortL l) (hR.later hi) (RdF.of_ow (e := 3) encI_ok (by repeat (first | exact Pick.head | apply Pick.tail)) hi) hv; rw [short_reg hok] at h; exact h) rfl ?_
                                     refine WO.pg rfl rfl rfl (WO.p rfl rfl (WO.p rfl rfl ?_))
                                     refine WO.guard_bl rfl rfl (fun c9 => ?_) (fun c9 => ?_)
                                     · first
                                       | (exfalso; omega)
                                       | (refine WO.go' rfl ?_
                                          refine WO.callR rfl Try.call15 (fun L w hi => l_Works w) rfl ?_
                                          refine WO.p rfl rfl (WO.p rfl rfl ?_)
                                          refine WO.nil ?_
                                          refine W.ret ?_
                                          first | exact fin.ret (Res.one rfl (RV.tmp rfl)) rfl | (exfalso; simp_all; done))
                                     · first
                                       | (exfalso; omega)
                                       | (refine WO.no rfl rfl (WO.p rfl rfl (WO.p rfl rfl ?_))
                                          refine WO.nil ?_
                                          refine W.ret ?_
                                          first | exact fin.ret (Res.one rfl (RV.tmp rfl)) rfl | (exfalso; simp_all; done)))
                                · first
                                  | (exfalso; omega)
                                  | (refine WO.no rfl rfl (WO.no rfl rfl (WO.no rfl rfl (WO.no rfl rfl (WO.p rfl rfl (WO.p rfl rfl (WO.no rfl rfl (WO.p rfl rfl (WO.p rfl rfl ?_))))))))
                                     refine WO.nil ?_
                                     refine W.ret ?_
                                     first | exact fin.ret (Res.one rfl (RV.tmp rfl)) rfl | (exfalso; simp_all; done))))))))
  · first
    | (exfalso; omega)
    | (refine WO.no rfl rfl (WO.no rfl rfl (WO.no rfl rfl (WO.p rfl rfl (WO.p rfl rfl (WO.pg rfl rfl rfl (WO.go' rfl ?_))))))
       refine' WO.len (n := _) rfl rfl ?hs rfl ?_
       case hs => (first | exact hR.sl)
       refine WO.pg rfl rfl rfl (WO.p rfl rfl ?_)
       refine WO.nil ?_
       refine W.cond_bl rfl (fun c10 => ?_) (fun c10 => ?_)
       · first
         | (exfalso; omega)
         | (refine W.sreg ?_
            refine WO.callR rfl Try.call15 (fun L w hi => l_Works w) rfl ?_
            refine WO.p rfl rfl ?_
            refine WO.nil ?_
            refine W.ret ?_
            first | exact fin.ret (Res.one rfl (RV.tmp rfl)) rfl | (exfalso; simp_all; done))
       · first
         | (exfalso; omega)
         | (refine W.skip ?_
            refine W.sreg ?_
            refine WO.p rfl rfl ?_
            refine WO.call (Post := fun r Hq => ∃ x : Value, r = .tuple #[x, .int .i64 (chkB l)] ∧ Hq = [OwE encI 3 1 x (proV l)]) rfl Try.call16 (fun L w hi => by have h := c_Profile w v l (hR.later hi); rw [prof_is] at h; exact h) rfl ?_
            rintro _ _ ⟨r1, rfl, rfl⟩
            refine WO.p rfl rfl (WO.p rfl rfl (WO.p rfl rfl (WO.p rfl rfl (WO.p rfl rfl ?_))))
            refine WO.nil ?_
            refine W.sreg ?_
            refine WO.p rfl rfl ?_
            refine WO.call (Post := fun r Hq => ∃ x : Value, r = .tuple #[x, .int .i64 (chkB l)] ∧ Hq = [OwE encI 3 1 x (proV l)]) rfl Try.call17 (fun L w hi => ref_Profile w v l (hR.later hi) hv) rfl ?_
            rintro _ _ ⟨r2, rfl, rfl⟩
            refine WO.p rfl rfl (WO.p rfl rfl (WO.p rfl rfl (WO.p rfl rfl (WO.p rfl rfl ?_))))
            refine WO.nil ?_
            refine W.sreg ?_
            refine WO.p rfl rfl ?_
            refine WO.call (Post := fun r Hq => ∃ x : Value, r = .tuple #[x, .int .i64 (chkB l)] ∧ Hq = [OwE encI 3 1 x (if chkB l = 0 then shortL l else [])]) rfl Try.call18 (fun L w hi => c_Shortest w v l (hR.later hi)) rfl ?_
            rintro _ _ ⟨r3, rfl, rfl⟩
            refine WO.p rfl rfl (WO.p rfl rfl (WO.p rfl rfl (WO.p rfl rfl (WO.p rfl rfl ?_))))
            refine WO.nil ?_
            refine W.seq ?_
            refine W.sreg ?_
            refine WO.p rfl rfl (WO.p rfl rfl ?_)
            refine WO.callR (r := .bool true) rfl Try.call19 (fun L w hi => ints_t (l_ints w r1 r2 (proV l) (proV l) (RdF.of_ow (e := 3) encI_ok (by repeat (first | exact Pick.head | apply Pick.tail)) hi) (RdF.of_ow (e := 3) encI_ok (by repeat (first | exact Pick.head | apply Pick.tail)) hi)) rfl) rfl ?_
            refine WO.p rfl rfl (WO.p rfl rfl (WO.pg rfl rfl rfl (WO.pg rfl rfl rfl (WO.pg rfl rfl rfl (WO.p rfl rfl (WO.p rfl rfl ?_))))))
            refine WO.guard_bl rfl rfl (fun c11 => ?_) (fun c11 => ?_)
            · first
              | (exfalso; omega)
              | (refine WO.no rfl rfl (WO.no rfl rfl (WO.no rfl rfl (WO.p rfl rfl ?_)))
                 refine WO.nil ?_
                 refine W.cond_t rfl ?_
                 refine W.sreg ?_
                 refine WO.p rfl rfl ?_
                 refine WO.nil ?_
                 refine W.ret ?_
                 first | exact fin.ret (Res.one rfl (RV.tmp rfl)) rfl | (exfalso; simp_all; done))
            · first
              | (exfalso; omega)
              | (refine WO.pg rfl rfl rfl (WO.pg rfl rfl rfl (WO.pg rfl rfl rfl (WO.p rfl rfl ?_)))
                 refine WO.nil ?_
                 refine W.cond_bl rfl (fun c12 => ?_) (fun c12 => ?_)
                 · first
                   | (exfalso; omega)
                   | (refine W.sreg ?_
                      refine WO.p rfl rfl ?_
                      refine WO.nil ?_
                      refine W.ret ?_
                      first | exact fin.ret (Res.one rfl (RV.tmp rfl)) rfl | (exfalso; simp_all; done))
                 · first
                   | (exfalso; omega)
                   | (refine W.skip ?_
                      refine W.seq ?_
                      refine W.sreg ?_
                      refine WO.p rfl rfl (WO.p rfl rfl ?_)
                      refine WO.nil ?_
                      refine W.cond_bl rfl (fun c13 => ?_) (fun c13 => ?_)
                      · first
                        | (exfalso; omega)
                        | (rw [if_neg (show ¬ chkB l = 0 by omega)]
                           refine W.fact (OwE.sl (enc := encI) (e := 3) (sz := 1) (v := r3) (xs := []) (by repeat (first | exact Pick.head | apply Pick.tail))) ?_
                           intro hsl2
                           refine W.sreg ?_
                           refine WO.p rfl rfl ?_
                           refine' WO.len (n := _) rfl rfl ?hs rfl ?_
                           case hs => (first | exact hsl2)
                           refine WO.p rfl rfl (WO.p rfl rfl ?_)
                           refine WO.guard_bl rfl rfl (fun c14 => ?_) (fun c14 => ?_)
                           · first
                             | (exfalso; omega)
                             | (refine WO.go' rfl ?_
                                refine WO.callR rfl Try.call15 (fun L w hi => l_Works w) rfl ?_
                                refine WO.p rfl rfl (WO.p rfl rfl ?_)
                                refine WO.nil ?_
                                refine W.ret ?_
                                first | exact fin.ret (Res.one rfl (RV.tmp rfl)) rfl | (exfalso; simp_all; done))
                           · first
                             | (exfalso; omega)
                             | (refine WO.no rfl rfl (WO.p rfl rfl (WO.p rfl rfl ?_))
                                refine WO.nil ?_
                                refine W.ret ?_
                                first | exact fin.ret (Res.one rfl (RV.tmp rfl)) rfl | (exfalso; simp_all; done)))
                      · first
                        | (exfalso; omega)
                        | (refine W.skip ?_
                           have hok : chkB l = 0 := by omega
                           rw [if_pos hok]
                           refine W.fact (OwE.sl (enc := encI) (e := 3) (sz := 1) (v := r3) (xs := shortL l) (by repeat (first | exact Pick.head | apply Pick.tail))) ?_
                           intro hsl2
                           refine W.fact (OwE.sl (enc := encI) (e := 3) (sz := 1) (v := r2) (xs := proV l) (by repeat (first | exact Pick.head | apply Pick.tail))) ?_
                           intro hsl3
                           obtain ⟨q1, q2⟩ := proV_last hok
                           have q3 := short_len hok
                           rw [proV_len hok] at hsl3
                           refine W.sreg ?_
                           refine WO.p rfl rfl ?_
                           refine' WO.len (n := _) rfl rfl ?hs rfl ?_
                           case hs => (first | exact hsl2)
                           refine WO.p rfl rfl (WO.p rfl rfl ?_)
                           refine' WO.len (n := _) rfl rfl ?hs rfl ?_
                           case hs => (first | exact hR.sl)
                           refine' WO.indexAddr (n := _) (i := _) rfl rfl rfl ?hs ?h1 rfl ?_
                           case hs => (first | exact hsl3)
                           case h1 => (first | omega | (simp; omega))
                           refine' WO.load (v := _) rfl rfl ?hc rfl ?_
                           case hc => (first | (refine cellI2 (e := 3) (xs := proV l) (i := l.length) (j := l.length) (z := (LC (bt l) l.length : Int)) ?_ q1 q2 rfl; repeat (first | exact Sub.nil | refine Sub.cons (by repeat (first | exact Pick.head | apply Pick.tail)) ?_)))
                           refine WO.p rfl rfl (WO.p rfl rfl ?_)
                           refine WO.guard_bl rfl rfl (fun c15 => ?_) (fun c15 => ?_)
                           · first
                             | (exfalso; omega)
                             | (refine WO.pg rfl rfl rfl (WO.pg rfl rfl rfl (WO.go' rfl ?_))
                                refine WO.callR (r := .int .i64 0) rfl Try.call20 (fun L w hi => by have h := ref_CheckRegister w v r3 l (shortL l) (hR.later hi) (RdF.of_ow (e := 3) encI_ok (by repeat (first | exact Pick.head | apply Pick.tail)) hi) hv; rw [short_reg hok] at h; exact h) rfl ?_
                                refine WO.pg rfl rfl rfl (WO.p rfl rfl (WO.p rfl rfl ?_))
                                refine WO.guard_bl rfl rfl (fun c16 => ?_) (fun c16 => ?_)
                                · first
                                  | (exfalso; omega)
                                  | (refine WO.go' rfl ?_
                                     refine WO.callR rfl Try.call15 (fun L w hi => l_Works w) rfl ?_
                                     refine WO.p rfl rfl (WO.p rfl rfl ?_)
                                     refine WO.nil ?_
                                     refine W.ret ?_
                                     first | exact fin.ret (Res.one rfl (RV.tmp rfl)) rfl | (exfalso; simp_all; done))
                                · first
                                  | (exfalso; omega)
                                  | (refine WO.no rfl rfl (WO.p rfl rfl (WO.p rfl rfl ?_))
                                     refine WO.nil ?_
                                     refine W.ret ?_
                                     first | exact fin.ret (Res.one rfl (RV.tmp rfl)) rfl | (exfalso; simp_all; done)))
                           · first
                             | (exfalso; omega)
                             | (refine WO.no rfl rfl (WO.no rfl rfl (WO.no rfl rfl (WO.no rfl rfl (WO.p rfl rfl (WO.p rfl rfl (WO.no rfl rfl (WO.p rfl rfl (WO.p rfl rfl ?_))))))))
                                refine WO.nil ?_
                                refine W.ret ?_
                                first | exact fin.ret (Res.one rfl (RV.tmp rfl)) rfl | (exfalso; simp_all; done)))))))
theorem law_WavePeriods (w : World) (v u x : Value) (taps start l : List Int) (long : Int) (hR : RdF encI 1 w.heap.size w v taps) (hU : RdF encI 1 w.heap.size w u start) (hX : RdF encI 1 w.heap.size w x l) (hx : HasCap x l.length) : Ret Try.prog 4 [v, u, x, .int .i64 long].toArray w (.bool true) := by
  refine Ret.of mixed tyTab Try.func4 rfl rfl ?_
  replace hR : RdF encI 1 (fnCx mixed tyTab Try.f4.ntmps w).B (fnCx mixed tyTab Try.f4.ntmps w).w0 v taps := hR
  replace hU : RdF encI 1 (fnCx mixed tyTab Try.f4.ntmps w).B (fnCx mixed tyTab Try.f4.ntmps w).w0 u start := hU
  replace hX : RdF encI 1 (fnCx mixed tyTab Try.f4.ntmps w).B (fnCx mixed tyTab Try.f4.ntmps w).w0 x l := hX
  refine W.sreg ?_
  refine WO.p rfl rfl ?_
  refine WO.nil ?_
  refine W.seq ?_
  refine W.sreg ?_
  refine WO.p rfl rfl ?_
  refine' WO.len (n := _) rfl rfl ?hs rfl ?_
  case hs => (first | exact hR.sl)
  refine WO.p rfl rfl (WO.p rfl rfl ?_)
  refine WO.guard_bl rfl rfl (fun c1 => ?_) (fun c1 => ?_)
  · first
    | (exfalso; omega)
    | (refine WO.no rfl rfl (WO.no rfl rfl (WO.no rfl rfl (WO.p rfl rfl (WO.p rfl rfl (WO.no rfl rfl (WO.no rfl rfl (WO.no rfl rfl (WO.p rfl rfl ?_))))))))
       refine WO.nil ?_
       refine W.cond_t rfl ?_
       refine W.sreg ?_
       refine WO.callR rfl Try.call15 (fun L w hi => l_Works w) rfl ?_
       refine WO.p rfl rfl ?_
       refine WO.nil ?_
       refine W.ret ?_
       first | exact fin.ret (Res.one rfl (RV.tmp rfl)) rfl | (exfalso; simp_all; done))
  · first
    | (exfalso; omega)
    | (refine WO.pg rfl rfl rfl (WO.go' rfl ?_)
       refine' WO.len (n := _) rfl rfl ?hs rfl ?_
       case hs => (first | exact hU.sl)
       refine WO.pg rfl rfl rfl (WO.p rfl rfl (WO.p rfl rfl ?_))
       refine WO.guard_bl rfl rfl (fun c2 => ?_) (fun c2 => ?_)
       · first
         | (exfalso; omega)
         | (refine WO.no rfl rfl (WO.no rfl rfl (WO.no rfl rfl (WO.p rfl rfl ?_)))
            refine WO.nil ?_
            refine W.cond_t rfl ?_
            refine W.sreg ?_
            refine WO.callR rfl Try.call15 (fun L w hi => l_Works w) rfl ?_
            refine WO.p rfl rfl ?_
            refine WO.nil ?_
            refine W.ret ?_
            first | exact fin.ret (Res.one rfl (RV.tmp rfl)) rfl | (exfalso; simp_all; done))
       · first
         | (exfalso; omega)
         | (refine WO.pg rfl rfl rfl (WO.go' rfl ?_)
            refine' WO.len (n := _) rfl rfl ?hs rfl ?_
            case hs => (first | exact hX.sl)
            refine WO.pg rfl rfl rfl (WO.p rfl rfl ?_)
            refine WO.nil ?_
            refine W.cond_bl rfl (fun c3 => ?_) (fun c3 => ?_)
            · first
              | (exfalso; omega)
              | (refine W.sreg ?_
                 refine WO.callR rfl Try.call15 (fun L w hi => l_Works w) rfl ?_
                 refine WO.p rfl rfl ?_
                 refine WO.nil ?_
                 refine W.ret ?_
                 first | exact fin.ret (Res.one rfl (RV.tmp rfl)) rfl | (exfalso; simp_all; done))
            · first
              | (exfalso; omega)
              | (refine W.skip ?_
                 refine W.sreg ?_
                 refine WO.p rfl rfl (WO.p rfl rfl ?_)
                 refine WO.callR (r := perV taps start) rfl Try.call21 (fun L w hi => c_Period w v u taps start (hR.later hi) (hU.later hi)) rfl ?_
                 refine WO.p rfl rfl (WO.p rfl rfl (WO.p rfl rfl (WO.p rfl rfl (WO.p rfl rfl ?_))))
                 refine WO.nil ?_
                 refine W.sreg ?_
                 refine WO.p rfl rfl (WO.p rfl rfl ?_)
                 refine WO.callR (r := perV taps start) rfl Try.call22 (fun L w hi => ref_Period w v u taps start (hR.later hi) (hU.later hi)) rfl ?_
                 refine WO.p rfl rfl (WO.p rfl rfl (WO.p rfl rfl (WO.p rfl rfl (WO.p rfl rfl ?_))))
                 refine WO.nil ?_
                 refine W.sreg ?_
                 refine WO.p rfl rfl ?_
                 refine WO.call (Post := fun r Hq => ∃ Z : Value × List Value, r = .tuple #[Z.1, .int .i64 (fullE long)] ∧ Hq = [OwC 22 1 Z.1 (fullR long).length Z.2, RowsE encI 3 1 Z.2 (fullR long)]) rfl Try.call23 (fun L w hi => c_Full w long) rfl ?_
                 rintro _ _ ⟨⟨f1, g1⟩, rfl, rfl⟩
                 refine WO.p rfl rfl (WO.p rfl rfl (WO.p rfl rfl (WO.p rfl rfl (WO.p rfl rfl ?_))))
                 refine WO.nil ?_
                 refine W.sreg ?_
                 refine WO.p rfl rfl ?_
                 refine WO.call (Post := fun r Hq => ∃ Z : Value × List Value, r = .tuple #[Z.1, .int .i64 (fullE long)] ∧ Hq = [OwC 22 1 Z.1 (fullR long).length Z.2, RowsE encI 3 1 Z.2 (fullR long)]) rfl Try.call24 (fun L w hi => ref_Full w long) rfl ?_
                 rintro _ _ ⟨⟨f2, g2⟩, rfl, rfl⟩
                 refine WO.p rfl rfl (WO.p rfl rfl (WO.p rfl rfl (WO.p rfl rfl (WO.p rfl rfl ?_))))
                 refine WO.nil ?_
                 refine W.sreg ?_
                 refine WO.p rfl rfl ?_
                 refine WO.call (Post := fun r Hq => ∃ y : Value, r = .tuple #[y, .int .i64 (specE l)] ∧ Hq = [OwE encI 3 1 y (specR l)]) rfl Try.call25 (fun L w hi => c_Spectrum w x l (hX.later hi) hx) rfl ?_
                 rintro _ _ ⟨y1, rfl, rfl⟩
                 refine WO.p rfl rfl (WO.p rfl rfl (WO.p rfl rfl (WO.p rfl rfl (WO.p rfl rfl ?_))))
                 refine WO.nil ?_
                 refine W.sreg ?_
                 refine WO.p rfl rfl ?_
                 refine WO.call (Post := fun r Hq => ∃ y : Value, r = .tuple #[y, .int .i64 (specE l)] ∧ Hq = [OwE encI 3 1 y (specR l)]) rfl Try.call26 (fun L w hi => ref_Spectrum w x l (hX.later hi)) rfl ?_
                 rintro _ _ ⟨y2, rfl, rfl⟩
                 refine WO.p rfl rfl (WO.p rfl rfl (WO.p rfl rfl (WO.p rfl rfl (WO.p rfl rfl ?_))))
                 refine WO.nil ?_
                 refine W.sreg ?_
                 refine WO.p rfl rfl (WO.p rfl rfl (WO.p rfl rfl (WO.p rfl rfl ?_)))
                 refine WO.guard_bl rfl rfl (fun c4 => ?_) (fun c4 => ?_)
                 · first
                   | (exfalso; omega)
                   | (refine WO.pg rfl rfl rfl (WO.pg rfl rfl rfl (WO.pg rfl rfl rfl (WO.p rfl rfl (WO.p rfl rfl ?_))))
                      refine WO.guard_bl rfl rfl (fun c5 => ?_) (fun c5 => ?_)
                      · first
                        | (exfalso; omega)
                        | (refine WO.pg rfl rfl rfl (WO.pg rfl rfl rfl (WO.go' rfl ?_))
                           refine WO.callR (r := .bool true) rfl Try.call27 (fun L w hi => same_t (l_same w f1 f2 g1 g2 (fullR long) (fullR long) (RdR.of_ow encI_ok (e' := 22) (n := (fullR long).length) (by repeat (first | exact Pick.head | apply Pick.tail)) (by repeat (first | exact Pick.head | apply Pick.tail)) hi) (RdR.of_ow encI_ok (e' := 22) (n := (fullR long).length) (by repeat (first | exact Pick.head | apply Pick.tail)) (by repeat (first | exact Pick.head | apply Pick.tail)) hi)) rfl) rfl ?_
                           refine WO.p rfl rfl (WO.p rfl rfl (WO.pg rfl rfl rfl (WO.pg rfl rfl rfl (WO.pg rfl rfl rfl (WO.p rfl rfl (WO.p rfl rfl ?_))))))
                           refine WO.guard_bl rfl rfl (fun c6 => ?_) (fun c6 => ?_)
                           · first
                             | (exfalso; omega)
                             | (refine WO.pg rfl rfl rfl (WO.pg rfl rfl rfl (WO.go' rfl ?_))
                                refine WO.callR (r := .bool true) rfl Try.call19 (fun L w hi => ints_t (l_ints w y1 y2 (specR l) (specR l) (RdF.of_ow (e := 3) encI_ok (by repeat (first | exact Pick.head | apply Pick.tail)) hi) (RdF.of_ow (e := 3) encI_ok (by repeat (first | exact Pick.head | apply Pick.tail)) hi)) rfl) rfl ?_
                                refine WO.p rfl rfl (WO.p rfl rfl (WO.pg rfl rfl rfl (WO.pg rfl rfl rfl (WO.pg rfl rfl rfl (WO.p rfl rfl (WO.p rfl rfl ?_))))))
                                refine WO.guard_bl rfl rfl (fun c7 => ?_) (fun c7 => ?_)
                                · first
                                  | (exfalso; omega)
                                  | (refine WO.go' rfl ?_
                                     refine WO.callR rfl Try.call15 (fun L w hi => l_Works w) rfl ?_
                                     refine WO.p rfl rfl (WO.p rfl rfl ?_)
                                     refine WO.nil ?_
                                     refine W.ret ?_
                                     first | exact fin.ret (Res.one rfl (RV.tmp rfl)) rfl | (exfalso; simp_all; done))
                                · first
                                  | (exfalso; omega)
                                  | (refine WO.no rfl rfl (WO.p rfl rfl (WO.p rfl rfl ?_))
                                     refine WO.nil ?_
                                     refine W.ret ?_
                                     first | exact fin.ret (Res.one rfl (RV.tmp rfl)) rfl | (exfalso; simp_all; done)))
                           · first
                             | (exfalso; omega)
                             | (refine WO.no rfl rfl (WO.no rfl rfl (WO.no rfl rfl (WO.p rfl rfl (WO.p rfl rfl (WO.no rfl rfl (WO.no rfl rfl (WO.no rfl rfl (WO.p rfl rfl (WO.p rfl rfl (WO.no rfl rfl (WO.p rfl rfl ?_)))))))))))
                                refine WO.p rfl rfl ?_
                                refine WO.nil ?_
                                refine W.ret ?_
                                first | exact fin.ret (Res.one rfl (RV.tmp rfl)) rfl | (exfalso; simp_all; done)))
                      · first
                        | (exfalso; omega)
                        | (refine WO.no rfl rfl (WO.no rfl rfl (WO.no rfl rfl (WO.p rfl rfl (WO.p rfl rfl (WO.no rfl rfl (WO.no rfl rfl (WO.no rfl rfl (WO.p rfl rfl (WO.p rfl rfl (WO.no rfl rfl (WO.no rfl rfl ?_)))))))))))
                           refine WO.no rfl rfl (WO.p rfl rfl (WO.p rfl rfl (WO.no rfl rfl (WO.no rfl rfl (WO.no rfl rfl (WO.p rfl rfl (WO.p rfl rfl (WO.no rfl rfl (WO.p rfl rfl (WO.p rfl rfl ?_))))))))))
                           refine WO.nil ?_
                           refine W.ret ?_
                           first | exact fin.ret (Res.one rfl (RV.tmp rfl)) rfl | (exfalso; simp_all; done)))
                 · first
                   | (exfalso; omega)
                   | (refine WO.no rfl rfl (WO.no rfl rfl (WO.no rfl rfl (WO.p rfl rfl (WO.p rfl rfl (WO.no rfl rfl (WO.no rfl rfl (WO.no rfl rfl (WO.p rfl rfl (WO.p rfl rfl (WO.no rfl rfl (WO.no rfl rfl ?_)))))))))))
                      refine WO.no rfl rfl (WO.p rfl rfl (WO.p rfl rfl (WO.no rfl rfl (WO.no rfl rfl (WO.no rfl rfl (WO.p rfl rfl (WO.p rfl rfl (WO.no rfl rfl (WO.no rfl rfl (WO.no rfl rfl (WO.p rfl rfl ?_)))))))))))
                      refine WO.p rfl rfl (WO.no rfl rfl (WO.p rfl rfl (WO.p rfl rfl ?_)))
                      refine WO.nil ?_
                      refine W.ret ?_
                      first | exact fin.ret (Res.one rfl (RV.tmp rfl)) rfl | (exfalso; simp_all; done)))))
theorem law_WaveRuns (w : World) (v u x : Value) (taps start l : List Int) (many : Int) (hR : RdF encI 1 w.heap.size w v taps) (hU : RdF encI 1 w.heap.size w u start) (hX : RdF encI 1 w.heap.size w x l) (hx : HasCap x l.length) : Ret Try.prog 10 [v, u, x, .int .i64 many].toArray w (.bool true) := by
  refine Ret.of mixed tyTab Try.func10 rfl rfl ?_
  replace hR : RdF encI 1 (fnCx mixed tyTab Try.f10.ntmps w).B (fnCx mixed tyTab Try.f10.ntmps w).w0 v taps := hR
  replace hU : RdF encI 1 (fnCx mixed tyTab Try.f10.ntmps w).B (fnCx mixed tyTab Try.f10.ntmps w).w0 u start := hU
  replace hX : RdF encI 1 (fnCx mixed tyTab Try.f10.ntmps w).B (fnCx mixed tyTab Try.f10.ntmps w).w0 x l := hX
  refine W.sreg ?_
  refine WO.p rfl rfl ?_
  refine WO.nil ?_
  refine W.seq ?_
  refine W.sreg ?_
  refine WO.p rfl rfl ?_
  refine' WO.len (n := _) rfl rfl ?hs rfl ?_
  case hs => (first | exact hR.sl)
  refine WO.p rfl rfl (WO.p rfl rfl ?_)
  refine WO.guard_bl rfl rfl (fun c1 => ?_) (fun c1 => ?_)
  · first
    | (exfalso; omega)
    | (refine WO.no rfl rfl (WO.no rfl rfl (WO.no rfl rfl (WO.p rfl rfl (WO.p rfl rfl (WO.no rfl rfl (WO.no rfl rfl (WO.no rfl rfl (WO.p rfl rfl ?_))))))))
       refine WO.nil ?_
       refine W.cond_t rfl ?_
       refine W.sreg ?_
       refine WO.callR rfl Try.call15 (fun L w hi => l_Works w) rfl ?_
       refine WO.p rfl rfl ?_
       refine WO.nil ?_
       refine W.ret ?_
       first | exact fin.ret (Res.one rfl (RV.tmp rfl)) rfl | (exfalso; simp_all; done))
  · first
    | (exfalso; omega)
    | (refine WO.pg rfl rfl rfl (WO.go' rfl ?_)
       refine' WO.len (n := _) rfl rfl ?hs rfl ?_
       case hs => (first | exact hU.sl)
       refine WO.pg rfl rfl rfl (WO.p rfl rfl (WO.p rfl rfl ?_))
       refine WO.guard_bl rfl rfl (fun c2 => ?_) (fun c2 => ?_)
       · first
         | (exfalso; omega)
         | (refine WO.no rfl rfl (WO.no rfl rfl (WO.no rfl rfl (WO.p rfl rfl ?_)))
            refine WO.nil ?_
            refine W.cond_t rfl ?_
            refine W.sreg ?_
            refine WO.callR rfl Try.call15 (fun L w hi => l_Works w) rfl ?_
            refine WO.p rfl rfl ?_
            refine WO.nil ?_
            refine W.ret ?_
            first | exact fin.ret (Res.one rfl (RV.tmp rfl)) rfl | (exfalso; simp_all; done))
       · first
         | (exfalso; omega)
         | (refine WO.pg rfl rfl rfl (WO.go' rfl ?_)
            refine' WO.len (n := _) rfl rfl ?hs rfl ?_
            case hs => (first | exact hX.sl)
            refine WO.pg rfl rfl rfl (WO.p rfl rfl ?_)
            refine WO.nil ?_
            refine W.cond_bl rfl (fun c3 => ?_) (fun c3 => ?_)
            · first
              | (exfalso; omega)
              | (refine W.sreg ?_
                 refine WO.callR rfl Try.call15 (fun L w hi => l_Works w) rfl ?_
                 refine WO.p rfl rfl ?_
                 refine WO.nil ?_
                 refine W.ret ?_
                 first | exact fin.ret (Res.one rfl (RV.tmp rfl)) rfl | (exfalso; simp_all; done))
            · first
              | (exfalso; omega)
              | (refine W.skip ?_
                 refine W.sreg ?_
                 refine WO.p rfl rfl (WO.p rfl rfl (WO.p rfl rfl ?_))
                 refine WO.call (Post := fun r Hq => ∃ y : Value, r = .tuple #[y, .int .i64 (runE taps start many)] ∧ Hq = [OwE encI 3 1 y (if runE taps start many = 0 then runL taps start many.toNat else [])]) rfl Try.call31 (fun L w hi => c_Run w v u taps start many (hR.later hi) (hU.later hi)) rfl ?_
                 rintro _ _ ⟨y1, rfl, rfl⟩
                 refine WO.p rfl rfl (WO.p rfl rfl (WO.p rfl rfl (WO.p rfl rfl (WO.p rfl rfl ?_))))
                 refine WO.nil ?_
                 refine W.sreg ?_
                 refine WO.p rfl rfl (WO.p rfl rfl (WO.p rfl rfl ?_))
                 refine WO.call (Post := fun r Hq => ∃ y : Value, r = .tuple #[y, .int .i64 (runE taps start many)] ∧ Hq = [OwE encI 3 1 y (if runE taps start many = 0 then runL taps start many.toNat else [])]) rfl Try.call32 (fun L w hi => ref_Run w v u taps start many (hR.later hi) (hU.later hi)) rfl ?_
                 rintro _ _ ⟨y2, rfl, rfl⟩
                 refine WO.p rfl rfl (WO.p rfl rfl (WO.p rfl rfl (WO.p rfl rfl (WO.p rfl rfl ?_))))
                 refine WO.nil ?_
                 refine W.sreg ?_
                 refine WO.p rfl rfl ?_
                 refine WO.callR rfl Try.call33 (fun L w hi => c_CheckBits w x l (hX.later hi)) rfl ?_
                 refine WO.p rfl rfl ?_
                 refine WO.callR rfl Try.call34 (fun L w hi => ref_CheckBits w x l (hX.later hi)) rfl ?_
                 refine WO.p rfl rfl (WO.p rfl rfl ?_)
                 refine WO.guard_bl rfl rfl (fun c4 => ?_) (fun c4 => ?_)
                 · first
                   | (exfalso; omega)
                   | (refine WO.pg rfl rfl rfl (WO.pg rfl rfl rfl (WO.go' rfl ?_))
                      refine WO.callR (r := .bool true) rfl Try.call19 (fun L w hi => ints_t (l_ints w y1 y2 (if runE taps start many = 0 then runL taps start many.toNat else []) (if runE taps start many = 0 then runL taps start many.toNat else []) (RdF.of_ow (e := 3) encI_ok (by repeat (first | exact Pick.head | apply Pick.tail)) hi) (RdF.of_ow (e := 3) encI_ok (by repeat (first | exact Pick.head | apply Pick.tail)) hi)) rfl) rfl ?_
                      refine WO.p rfl rfl (WO.p rfl rfl (WO.pg rfl rfl rfl (WO.pg rfl rfl rfl (WO.pg rfl rfl rfl (WO.p rfl rfl (WO.p rfl rfl ?_))))))
                      refine WO.guard_bl rfl rfl (fun c5 => ?_) (fun c5 => ?_)
                      · first
                        | (exfalso; omega)
                        | (refine WO.pg rfl rfl rfl (WO.pg rfl rfl rfl (WO.go' rfl ?_))
                           refine WO.callR rfl Try.call35 (fun L w hi => c_CheckRegister w x v l taps (hX.later hi) (hR.later hi)) rfl ?_
                           refine WO.pg rfl rfl rfl (WO.pg rfl rfl rfl (WO.go' rfl ?_))
                           refine WO.callR rfl Try.call20 (fun L w hi => ref_CheckRegister w x v l taps (hX.later hi) (hR.later hi) hx) rfl ?_
                           refine WO.pg rfl rfl rfl (WO.p rfl rfl (WO.p rfl rfl ?_))
                           refine WO.guard_bl rfl rfl (fun c6 => ?_) (fun c6 => ?_)
                           · first
                             | (exfalso; omega)
                             | (refine WO.go' rfl ?_
                                refine WO.callR rfl Try.call15 (fun L w hi => l_Works w) rfl ?_
                                refine WO.p rfl rfl (WO.p rfl rfl ?_)
                                refine WO.nil ?_
                                refine W.ret ?_
                                first | exact fin.ret (Res.one rfl (RV.tmp rfl)) rfl | (exfalso; simp_all; done))
                           · first
                             | (exfalso; omega)
                             | (refine WO.no rfl rfl (WO.p rfl rfl (WO.p rfl rfl ?_))
                                refine WO.nil ?_
                                refine W.ret ?_
                                first | exact fin.ret (Res.one rfl (RV.tmp rfl)) rfl | (exfalso; simp_all; done)))
                      · first
                        | (exfalso; omega)
                        | (refine WO.no rfl rfl (WO.no rfl rfl (WO.no rfl rfl (WO.no rfl rfl (WO.no rfl rfl (WO.no rfl rfl (WO.no rfl rfl (WO.p rfl rfl (WO.p rfl rfl (WO.no rfl rfl (WO.p rfl rfl (WO.p rfl rfl ?_)))))))))))
                           refine WO.nil ?_
                           refine W.ret ?_
                           first | exact fin.ret (Res.one rfl (RV.tmp rfl)) rfl | (exfalso; simp_all; done)))
                 · first
                   | (exfalso; omega)
                   | (refine WO.no rfl rfl (WO.no rfl rfl (WO.no rfl rfl (WO.p rfl rfl (WO.p rfl rfl (WO.no rfl rfl (WO.no rfl rfl (WO.no rfl rfl (WO.p rfl rfl (WO.p rfl rfl (WO.no rfl rfl (WO.no rfl rfl ?_)))))))))))
                      refine WO.no rfl rfl (WO.no rfl rfl (WO.no rfl rfl (WO.no rfl rfl (WO.no rfl rfl (WO.p rfl rfl (WO.p rfl rfl (WO.no rfl rfl (WO.p rfl rfl (WO.p rfl rfl ?_)))))))))
                      refine WO.nil ?_
                      refine W.ret ?_
                      first | exact fin.ret (Res.one rfl (RV.tmp rfl)) rfl | (exfalso; simp_all; done)))))
theorem proofS_chk {l taps : List Int} {n e : Int} (h : ProofS l taps n e) (h0 : chkB l ≠ 0) : e = chkB l := by
  rcases h with ⟨_, h, _⟩ | ⟨h, _⟩ | ⟨h, _⟩
  · exact h
  · exact absurd h h0
  · exact absurd h h0
theorem proofS_none {l taps : List Int} {n e : Int} (h : ProofS l taps n e) (h0 : chkB l = 0) (he : e ≠ 0) : e = 5 ∧ LC (bt l) l.length = 0 ∧ taps.length = 0 := by
  rcases h with ⟨h, _⟩ | ⟨_, h1, h2, h3, _⟩ | ⟨_, h, _⟩
  · exact absurd h0 h
  · exact ⟨h2, h1, by rw [h3]; rfl⟩
  · exact absurd h he
theorem proofS_some {l taps : List Int} {n e : Int} (h : ProofS l taps n e) (h0 : chkB l = 0) (he : e = 0) : prfE l taps n = 0 ∧ prfN l taps n = (LC (bt l) l.length : Int) ∧ 0 < LC (bt l) l.length := by
  rcases h with ⟨h, _⟩ | ⟨_, _, h, _⟩ | ⟨_, _, k, h1, h2, h3, h4, h5, h6⟩
  · exact absurd h0 h
  · omega
  · subst h1
    have hk := h2.1
    have hb := (chkB0.1 h0).1
    have e0 : prfE l taps (k : Int) = 0 := prfE_d (chk20.2 ⟨h0, chkB0.2 ⟨by omega, h3⟩⟩) (by omega) (by rw [Int.toNat_natCast]; exact h2)
    exact ⟨e0, by rw [prf0 e0]; exact h5, h6⟩
theorem law_WaveProofs (w : World) (v u : Value) (l taps : List Int) (n : Int) (hR : RdF encI 1 w.heap.size w v l) (hU : RdF encI 1 w.heap.size w u taps) (hv : HasCap v l.length) : Ret Try.prog 12 [v, proofV u n].toArray w (.bool true) := by
  refine Ret.of mixed tyTab Try.func12 rfl rfl ?_
  obtain ⟨hlu, ua, uc, hue, _⟩ := id hU.sl
  subst hue
  replace hR : RdF encI 1 (fnCx mixed tyTab Try.f12.ntmps w).B (fnCx mixed tyTab Try.f12.ntmps w).w0 v l := hR
  replace hU : RdF encI 1 (fnCx mixed tyTab Try.f12.ntmps w).B (fnCx mixed tyTab Try.f12.ntmps w).w0 (.slice ua taps.length uc) taps := hU
  refine W.sreg ?_
  refine WO.boxA rfl rfl (fun b1 hb1 => ?_)
  refine WO.p rfl rfl ?_
  refine WO.nil ?_
  refine W.seq ?_
  refine W.sreg ?_
  refine WO.p rfl rfl ?_
  refine' WO.len (n := _) rfl rfl ?hs rfl ?_
  case hs => (first | exact hR.sl)
  refine WO.p rfl rfl (WO.p rfl rfl ?_)
  refine WO.guard_bl rfl rfl (fun c1 => ?_) (fun c1 => ?_)
  · first
    | (exfalso; omega)
    | (refine WO.pg rfl rfl rfl (WO.go' rfl ?_)
       refine' WO.len (n := _) rfl rfl ?hs rfl ?_
       case hs => (first | exact hR.sl)
       refine WO.pg rfl rfl rfl (WO.p rfl rfl (WO.p rfl rfl ?_))
       refine WO.guard_bl rfl rfl (fun c2 => ?_) (fun c2 => ?_)
       · first
         | (exfalso; omega)
         | (refine WO.no rfl rfl (WO.no rfl rfl (WO.no rfl rfl (WO.p rfl rfl (WO.p rfl rfl (WO.no rfl rfl (WO.no rfl rfl (WO.no rfl rfl (WO.no rfl rfl (WO.p rfl rfl ?_)))))))))
            refine WO.nil ?_
            refine W.cond_t rfl ?_
            refine W.sreg ?_
            refine WO.callR rfl Try.call15 (fun L w hi => l_Works w) rfl ?_
            refine WO.p rfl rfl ?_
            refine WO.nil ?_
            refine W.ret ?_
            first | exact fin.ret (Res.one rfl (RV.tmp rfl)) rfl | (exfalso; simp_all; done))
       · first
         | (exfalso; omega)
         | (refine WO.pg rfl rfl rfl (WO.go' rfl ?_)
            refine' WO.len (n := _) rfl rfl ?hs rfl ?_
            case hs => (first | exact hR.sl)
            refine WO.pg rfl rfl rfl (WO.p rfl rfl (WO.p rfl rfl ?_))
            refine WO.guard_bl rfl rfl (fun c3 => ?_) (fun c3 => ?_)
            · first
              | (exfalso; omega)
              | (refine WO.no rfl rfl (WO.no rfl rfl (WO.no rfl rfl (WO.no rfl rfl (WO.p rfl rfl ?_))))
                 refine WO.nil ?_
                 refine W.cond_t rfl ?_
                 refine W.sreg ?_
                 refine WO.callR rfl Try.call15 (fun L w hi => l_Works w) rfl ?_
                 refine WO.p rfl rfl ?_
                 refine WO.nil ?_
                 refine W.ret ?_
                 first | exact fin.ret (Res.one rfl (RV.tmp rfl)) rfl | (exfalso; simp_all; done))
            · first
              | (exfalso; omega)
              | (refine WO.go' rfl (WO.field0 rfl rfl rfl (WO.go' rfl (WO.load rfl rfl (Cell.own Pick.head rfl) rfl (WO.go' rfl ?_))))
                 refine' WO.len (n := _) rfl rfl ?hs rfl ?_
                 case hs => (first | exact hU.sl)
                 refine WO.pg rfl rfl rfl (WO.p rfl rfl ?_)
                 refine WO.nil ?_
                 refine W.cond_bl rfl (fun c4 => ?_) (fun c4 => ?_)
                 · first
                   | (exfalso; omega)
                   | (refine W.sreg ?_
                      refine WO.callR rfl Try.call15 (fun L w hi => l_Works w) rfl ?_
                      refine WO.p rfl rfl ?_
                      refine WO.nil ?_
                      refine W.ret ?_
                      first | exact fin.ret (Res.one rfl (RV.tmp rfl)) rfl | (exfalso; simp_all; done))
                 · first
                   | (exfalso; omega)
                   | (refine W.skip ?_
                      refine W.sreg ?_
                      refine WO.p rfl rfl (WO.loadA rfl rfl (Cells.own Pick.head) rfl rfl ?_)
                      refine WO.callR (r := prfV l taps n) rfl Try.call36 (fun L w hi => c_CheckProof w v _ l taps n (hR.later hi) (hU.later hi)) rfl ?_
                      refine WO.p rfl rfl (WO.p rfl rfl (WO.p rfl rfl (WO.p rfl rfl (WO.p rfl rfl ?_))))
                      refine WO.nil ?_
                      refine W.sreg ?_
                      refine WO.p rfl rfl (WO.loadA rfl rfl (Cells.own Pick.head) rfl rfl ?_)
                      refine WO.callR (r := prfV l taps n) rfl Try.call37 (fun L w hi => ref_CheckProof w v _ l taps n (hR.later hi) (hU.later hi) hv) rfl ?_
                      refine WO.p rfl rfl (WO.p rfl rfl (WO.p rfl rfl (WO.p rfl rfl (WO.p rfl rfl ?_))))
                      refine WO.nil ?_
                      refine W.seq ?_
                      refine W.sreg ?_
                      refine WO.p rfl rfl (WO.p rfl rfl (WO.p rfl rfl (WO.p rfl rfl ?_)))
                      refine WO.guard_bl rfl rfl (fun c5 => ?_) (fun c5 => ?_)
                      · first
                        | (exfalso; omega)
                        | (refine WO.no rfl rfl (WO.no rfl rfl (WO.no rfl rfl (WO.p rfl rfl ?_)))
                           refine WO.nil ?_
                           refine W.cond_t rfl ?_
                           refine W.sreg ?_
                           refine WO.p rfl rfl ?_
                           refine WO.nil ?_
                           refine W.ret ?_
                           first | exact fin.ret (Res.one rfl (RV.tmp rfl)) rfl | (exfalso; simp_all; done))
                      · first
                        | (exfalso; omega)
                        | (refine WO.pg rfl rfl rfl (WO.pg rfl rfl rfl (WO.pg rfl rfl rfl (WO.p rfl rfl ?_)))
                           refine WO.nil ?_
                           refine W.cond_bl rfl (fun c6 => ?_) (fun c6 => ?_)
                           · first
                             | (exfalso; omega)
                             | (refine W.sreg ?_
                                refine WO.p rfl rfl ?_
                                refine WO.nil ?_
                                refine W.ret ?_
                                first | exact fin.ret (Res.one rfl (RV.tmp rfl)) rfl | (exfalso; simp_all; done))
                           · first
                             | (exfalso; omega)
                             | (refine W.skip ?_
                                refine W.sreg ?_
                                refine WO.p rfl rfl ?_
                                refine WO.call (Post := fun r Hq => ∃ Z : Option Addr × Nat × List Int × Int × Int, (r = .tuple #[.agg #[.slice Z.1 Z.2.2.1.length Z.2.1, .int .i64 Z.2.2.2.1], .int .i64 Z.2.2.2.2] ∧ ProofS l Z.2.2.1 Z.2.2.2.1 Z.2.2.2.2) ∧ Hq = [OwE encI 3 1 (.slice Z.1 Z.2.2.1.length Z.2.1) Z.2.2.1]) rfl Try.call38 (fun L w hi => c_Proof w v l (hR.later hi)) rfl ?_
                                rintro _ _ ⟨⟨xa, xc, xt, xn, xe⟩, ⟨rfl, hP⟩, rfl⟩
                                dsimp only at hP
                                refine WO.p rfl rfl (WO.p rfl rfl (WO.p rfl rfl ?_))
                                refine WO.alloc rfl rfl rfl (fun b2 hb2 => ?_)
                                refine WO.storeA rfl rfl rfl rfl Pick.head rfl rfl (WO.p rfl rfl ?_)
                                refine WO.nil ?_
                                refine W.seq ?_
                                refine W.fact (OwE.sl (enc := encI) (e := 3) (sz := 1) (v := .slice xa xt.length xc) (xs := xt) (by repeat (first | exact Pick.head | apply Pick.tail))) ?_
                                intro hsx
                                refine W.sreg ?_
                                refine WO.p rfl rfl ?_
                                refine WO.callR rfl Try.call34 (fun L w hi => ref_CheckBits w v l (hR.later hi)) rfl ?_
                                refine WO.p rfl rfl ?_
                                refine WO.nil ?_
                                refine W.cond_bl rfl (fun c7 => ?_) (fun c7 => ?_)
                                · first
                                  | (exfalso; omega)
                                  | (have hq := proofS_chk hP (by omega)
                                     refine W.sreg ?_
                                     refine WO.p rfl rfl (WO.p rfl rfl ?_)
                                     refine WO.callR rfl Try.call34 (fun L w hi => ref_CheckBits w v l (hR.later hi)) rfl ?_
                                     refine WO.p rfl rfl (WO.p rfl rfl ?_)
                                     refine WO.guard_bl rfl rfl (fun c8 => ?_) (fun c8 => ?_)
                                     · first
                                       | (exfalso; omega)
                                       | (refine WO.go' rfl ?_
                                          refine WO.callR rfl Try.call15 (fun L w hi => l_Works w) rfl ?_
                                          refine WO.p rfl rfl (WO.p rfl rfl ?_)
                                          refine WO.nil ?_
                                          refine W.ret ?_
                                          first | exact fin.ret (Res.one rfl (RV.tmp rfl)) rfl | (exfalso; simp_all; done))
                                     · first
                                       | (exfalso; omega)
                                       | (refine WO.no rfl rfl (WO.p rfl rfl (WO.p rfl rfl ?_))
                                          refine WO.nil ?_
                                          refine W.ret ?_
                                          first | exact fin.ret (Res.one rfl (RV.tmp rfl)) rfl | (exfalso; simp_all; done)))
                                · first
                                  | (exfalso; omega)
                                  | (refine W.skip ?_
                                     have hok := chkB0.1 (show chkB l = 0 by omega)
                                     refine W.sreg ?_
                                     refine WO.p rfl rfl ?_
                                     refine WO.callR (r := .int .i64 (LC (bt l) l.length : Int)) rfl Try.call39 (fun L w hi => ref_Complexity w v l (hR.later hi) hok.1 hok.2) rfl ?_
                                     refine WO.p rfl rfl ?_
                                     refine WO.nil ?_
                                     refine W.seq ?_
                                     refine W.sreg ?_
                                     refine WO.p rfl rfl (WO.p rfl rfl ?_)
                                     refine WO.nil ?_
                                     refine W.cond_bl rfl (fun c9 => ?_) (fun c9 => ?_)
                                     · first
                                       | (exfalso; omega)
                                       | (obtain ⟨hq1, hq2, hq3⟩ := proofS_none hP (by omega) (by assumption)
                                          refine W.sreg ?_
                                          refine WO.p rfl rfl (WO.p rfl rfl (WO.p rfl rfl ?_))
                                          refine WO.guard_bl rfl rfl (fun c10 => ?_) (fun c10 => ?_)
                                          · first
                                            | (exfalso; omega)
                                            | (refine WO.pg rfl rfl rfl (WO.pg rfl rfl rfl (WO.p rfl rfl (WO.p rfl rfl ?_)))
                                               refine WO.guard_bl rfl rfl (fun c11 => ?_) (fun c11 => ?_)
                                               · first
                                                 | (exfalso; omega)
                                                 | (refine WO.go' rfl (WO.field0 rfl rfl rfl (WO.go' rfl (WO.load rfl rfl (Cell.own Pick.head rfl) rfl (WO.go' rfl ?_))))
                                                    refine' WO.len (n := _) rfl rfl ?hs rfl ?_
                                                    case hs => (first | exact hsx)
                                                    refine WO.pg rfl rfl rfl (WO.p rfl rfl (WO.p rfl rfl ?_))
                                                    refine WO.guard_bl rfl rfl (fun c12 => ?_) (fun c12 => ?_)
                                                    · first
                                                      | (exfalso; omega)
                                                      | (refine WO.go' rfl ?_
                                                         refine WO.callR rfl Try.call15 (fun L w hi => l_Works w) rfl ?_
                                                         refine WO.p rfl rfl (WO.p rfl rfl ?_)
                                                         refine WO.nil ?_
                                                         refine W.ret ?_
                                                         first | exact fin.ret (Res.one rfl (RV.tmp rfl)) rfl | (exfalso; simp_all; done))
                                                    · first
                                                      | (exfalso; omega)
                                                      | (refine WO.no rfl rfl (WO.p rfl rfl (WO.p rfl rfl ?_))
                                                         refine WO.nil ?_
                                                         refine W.ret ?_
                                                         first | exact fin.ret (Res.one rfl (RV.tmp rfl)) rfl | (exfalso; simp_all; done)))
                                               · first
                                                 | (exfalso; omega)
                                                 | (refine WO.no rfl rfl (WO.no rfl rfl (WO.no rfl rfl (WO.no rfl rfl (WO.p rfl rfl (WO.p rfl rfl (WO.no rfl rfl (WO.p rfl rfl (WO.p rfl rfl ?_))))))))
                                                    refine WO.nil ?_
                                                    refine W.ret ?_
                                                    first | exact fin.ret (Res.one rfl (RV.tmp rfl)) rfl | (exfalso; simp_all; done)))
                                          · first
                                            | (exfalso; omega)
                                            | (refine WO.no rfl rfl (WO.no rfl rfl (WO.p rfl rfl (WO.p rfl rfl (WO.no rfl rfl (WO.no rfl rfl (WO.no rfl rfl (WO.no rfl rfl (WO.p rfl rfl (WO.p rfl rfl (WO.no rfl rfl (WO.p rfl rfl ?_)))))))))))
                                               refine WO.p rfl rfl ?_
                                               refine WO.nil ?_
                                               refine W.ret ?_
                                               first | exact fin.ret (Res.one rfl (RV.tmp rfl)) rfl | (exfalso; simp_all; done)))
                                     · first
                                       | (exfalso; omega)
                                       | (refine W.skip ?_
                                          obtain ⟨hq1, hq2, hq3⟩ := proofS_some hP (by omega) (Decidable.not_not.1 (by assumption))
                                          refine W.sreg ?_
                                          refine WO.p rfl rfl (WO.loadA rfl rfl (Cells.own Pick.head) rfl rfl ?_)
                                          refine WO.callR (r := .tuple #[.int .i64 (LC (bt l) l.length : Int), .int .i64 0]) rfl Try.call37 (fun L w hi => by have h := ref_CheckProof w v _ l xt xn (hR.later hi) (RdF.of_ow (e := 3) encI_ok (by repeat (first | exact Pick.head | apply Pick.tail)) hi) hv; unfold prfV at h; rw [hq1, hq2] at h; exact h) rfl ?_
                                          refine WO.p rfl rfl (WO.p rfl rfl (WO.p rfl rfl (WO.p rfl rfl (WO.p rfl rfl ?_))))
                                          refine WO.nil ?_
                                          refine W.sreg ?_
                                          refine WO.p rfl rfl (WO.p rfl rfl (WO.p rfl rfl ?_))
                                          refine WO.guard_bl rfl rfl (fun c13 => ?_) (fun c13 => ?_)
                                          · first
                                            | (exfalso; omega)
                                            | (refine WO.pg rfl rfl rfl (WO.pg rfl rfl rfl (WO.pg rfl rfl rfl (WO.p rfl rfl (WO.p rfl rfl ?_))))
                                               refine WO.guard_bl rfl rfl (fun c14 => ?_) (fun c14 => ?_)
                                               · first
                                                 | (exfalso; omega)
                                                 | (refine WO.pg rfl rfl rfl (WO.pg rfl rfl rfl (WO.p rfl rfl (WO.p rfl rfl ?_)))
                                                    refine WO.guard_bl rfl rfl (fun c15 => ?_) (fun c15 => ?_)
                                                    · first
                                                      | (exfalso; omega)
                                                      | (refine WO.go' rfl ?_
                                                         refine WO.callR rfl Try.call15 (fun L w hi => l_Works w) rfl ?_
                                                         refine WO.p rfl rfl (WO.p rfl rfl ?_)
                                                         refine WO.nil ?_
                                                         refine W.ret ?_
                                                         first | exact fin.ret (Res.one rfl (RV.tmp rfl)) rfl | (exfalso; simp_all; done))
                                                    · first
                                                      | (exfalso; omega)
                                                      | (refine WO.no rfl rfl (WO.p rfl rfl (WO.p rfl rfl ?_))
                                                         refine WO.nil ?_
                                                         refine W.ret ?_
                                                         first | exact fin.ret (Res.one rfl (RV.tmp rfl)) rfl | (exfalso; simp_all; done)))
                                               · first
                                                 | (exfalso; omega)
                                                 | (refine WO.no rfl rfl (WO.no rfl rfl (WO.p rfl rfl (WO.p rfl rfl (WO.no rfl rfl (WO.p rfl rfl (WO.p rfl rfl ?_))))))
                                                    refine WO.nil ?_
                                                    refine W.ret ?_
                                                    first | exact fin.ret (Res.one rfl (RV.tmp rfl)) rfl | (exfalso; simp_all; done)))
                                          · first
                                            | (exfalso; omega)
                                            | (refine WO.no rfl rfl (WO.no rfl rfl (WO.no rfl rfl (WO.p rfl rfl (WO.p rfl rfl (WO.no rfl rfl (WO.no rfl rfl (WO.p rfl rfl (WO.p rfl rfl (WO.no rfl rfl (WO.p rfl rfl (WO.p rfl rfl ?_)))))))))))
                                               refine WO.nil ?_
                                               refine W.ret ?_
                                               first | exact fin.ret (Res.one rfl (RV.tmp rfl)) rfl | (exfalso; simp_all; done))))))))))
  · first
    | (exfalso; omega)
    | (refine WO.no rfl rfl (WO.no rfl rfl (WO.no rfl rfl (WO.p rfl rfl (WO.p rfl rfl (WO.pg rfl rfl rfl (WO.go' rfl ?_))))))
       refine' WO.len (n := _) rfl rfl ?hs rfl ?_
       case hs => (first | exact hR.sl)
       refine WO.pg rfl rfl rfl (WO.p rfl rfl (WO.p rfl rfl ?_))
       refine WO.guard_bl rfl rfl (fun c16 => ?_) (fun c16 => ?_)
       · first
         | (exfalso; omega)
         | (refine WO.no rfl rfl (WO.no rfl rfl (WO.no rfl rfl (WO.no rfl rfl (WO.p rfl rfl ?_))))
            refine WO.nil ?_
            refine W.cond_t rfl ?_
            refine W.sreg ?_
            refine WO.callR rfl Try.call15 (fun L w hi => l_Works w) rfl ?_
            refine WO.p rfl rfl ?_
            refine WO.nil ?_
            refine W.ret ?_
            first | exact fin.ret (Res.one rfl (RV.tmp rfl)) rfl | (exfalso; simp_all; done))
       · first
         | (exfalso; omega)
         | (refine WO.go' rfl (WO.field0 rfl rfl rfl (WO.go' rfl (WO.load rfl rfl (Cell.own Pick.head rfl) rfl (WO.go' rfl ?_))))
            refine' WO.len (n := _) rfl rfl ?hs rfl ?_
            case hs => (first | exact hU.sl)
            refine WO.pg rfl rfl rfl (WO.p rfl rfl ?_)
            refine WO.nil ?_
            refine W.cond_bl rfl (fun c17 => ?_) (fun c17 => ?_)
            · first
              | (exfalso; omega)
              | (refine W.sreg ?_
                 refine WO.callR rfl Try.call15 (fun L w hi => l_Works w) rfl ?_
                 refine WO.p rfl rfl ?_
                 refine WO.nil ?_
                 refine W.ret ?_
                 first | exact fin.ret (Res.one rfl (RV.tmp rfl)) rfl | (exfalso; simp_all; done))
            · first
              | (exfalso; omega)
              | (refine W.skip ?_
                 refine W.sreg ?_
                 refine WO.p rfl rfl (WO.loadA rfl rfl (Cells.own Pick.head) rfl rfl ?_)
                 refine WO.callR (r := prfV l taps n) rfl Try.call36 (fun L w hi => c_CheckProof w v _ l taps n (hR.later hi) (hU.later hi)) rfl ?_
                 refine WO.p rfl rfl (WO.p rfl rfl (WO.p rfl rfl (WO.p rfl rfl (WO.p rfl rfl ?_))))
                 refine WO.nil ?_
                 refine W.sreg ?_
                 refine WO.p rfl rfl (WO.loadA rfl rfl (Cells.own Pick.head) rfl rfl ?_)
                 refine WO.callR (r := prfV l taps n) rfl Try.call37 (fun L w hi => ref_CheckProof w v _ l taps n (hR.later hi) (hU.later hi) hv) rfl ?_
                 refine WO.p rfl rfl (WO.p rfl rfl (WO.p rfl rfl (WO.p rfl rfl (WO.p rfl rfl ?_))))
                 refine WO.nil ?_
                 refine W.seq ?_
                 refine W.sreg ?_
                 refine WO.p rfl rfl (WO.p rfl rfl (WO.p rfl rfl (WO.p rfl rfl ?_)))
                 refine WO.guard_bl rfl rfl (fun c18 => ?_) (fun c18 => ?_)
                 · first
                   | (exfalso; omega)
                   | (refine WO.no rfl rfl (WO.no rfl rfl (WO.no rfl rfl (WO.p rfl rfl ?_)))
                      refine WO.nil ?_
                      refine W.cond_t rfl ?_
                      refine W.sreg ?_
                      refine WO.p rfl rfl ?_
                      refine WO.nil ?_
                      refine W.ret ?_
                      first | exact fin.ret (Res.one rfl (RV.tmp rfl)) rfl | (exfalso; simp_all; done))
                 · first
                   | (exfalso; omega)
                   | (refine WO.pg rfl rfl rfl (WO.pg rfl rfl rfl (WO.pg rfl rfl rfl (WO.p rfl rfl ?_)))
                      refine WO.nil ?_
                      refine W.cond_bl rfl (fun c19 => ?_) (fun c19 => ?_)
                      · first
                        | (exfalso; omega)
                        | (refine W.sreg ?_
                           refine WO.p rfl rfl ?_
                           refine WO.nil ?_
                           refine W.ret ?_
                           first | exact fin.ret (Res.one rfl (RV.tmp rfl)) rfl | (exfalso; simp_all; done))
                      · first
                        | (exfalso; omega)
                        | (refine W.skip ?_
                           refine W.sreg ?_
                           refine WO.p rfl rfl ?_
                           refine WO.call (Post := fun r Hq => ∃ Z : Option Addr × Nat × List Int × Int × Int, (r = .tuple #[.agg #[.slice Z.1 Z.2.2.1.length Z.2.1, .int .i64 Z.2.2.2.1], .int .i64 Z.2.2.2.2] ∧ ProofS l Z.2.2.1 Z.2.2.2.1 Z.2.2.2.2) ∧ Hq = [OwE encI 3 1 (.slice Z.1 Z.2.2.1.length Z.2.1) Z.2.2.1]) rfl Try.call38 (fun L w hi => c_Proof w v l (hR.later hi)) rfl ?_
                           rintro _ _ ⟨⟨xa, xc, xt, xn, xe⟩, ⟨rfl, hP⟩, rfl⟩
                           dsimp only at hP
                           refine WO.p rfl rfl (WO.p rfl rfl (WO.p rfl rfl ?_))
                           refine WO.alloc rfl rfl rfl (fun b3 hb3 => ?_)
                           refine WO.storeA rfl rfl rfl rfl Pick.head rfl rfl (WO.p rfl rfl ?_)
                           refine WO.nil ?_
                           refine W.seq ?_
                           refine W.fact (OwE.sl (enc := encI) (e := 3) (sz := 1) (v := .slice xa xt.length xc) (xs := xt) (by repeat (first | exact Pick.head | apply Pick.tail))) ?_
                           intro hsx
                           refine W.sreg ?_
                           refine WO.p rfl rfl ?_
                           refine WO.callR rfl Try.call34 (fun L w hi => ref_CheckBits w v l (hR.later hi)) rfl ?_
                           refine WO.p rfl rfl ?_
                           refine WO.nil ?_
                           refine W.cond_bl rfl (fun c20 => ?_) (fun c20 => ?_)
                           · first
                             | (exfalso; omega)
                             | (have hq := proofS_chk hP (by omega)
                                refine W.sreg ?_
                                refine WO.p rfl rfl (WO.p rfl rfl ?_)
                                refine WO.callR rfl Try.call34 (fun L w hi => ref_CheckBits w v l (hR.later hi)) rfl ?_
                                refine WO.p rfl rfl (WO.p rfl rfl ?_)
                                refine WO.guard_bl rfl rfl (fun c21 => ?_) (fun c21 => ?_)
                                · first
                                  | (exfalso; omega)
                                  | (refine WO.go' rfl ?_
                                     refine WO.callR rfl Try.call15 (fun L w hi => l_Works w) rfl ?_
                                     refine WO.p rfl rfl (WO.p rfl rfl ?_)
                                     refine WO.nil ?_
                                     refine W.ret ?_
                                     first | exact fin.ret (Res.one rfl (RV.tmp rfl)) rfl | (exfalso; simp_all; done))
                                · first
                                  | (exfalso; omega)
                                  | (refine WO.no rfl rfl (WO.p rfl rfl (WO.p rfl rfl ?_))
                                     refine WO.nil ?_
                                     refine W.ret ?_
                                     first | exact fin.ret (Res.one rfl (RV.tmp rfl)) rfl | (exfalso; simp_all; done)))
                           · first
                             | (exfalso; omega)
                             | (refine W.skip ?_
                                have hok := chkB0.1 (show chkB l = 0 by omega)
                                refine W.sreg ?_
                                refine WO.p rfl rfl ?_
                                refine WO.callR (r := .int .i64 (LC (bt l) l.length : Int)) rfl Try.call39 (fun L w hi => ref_Complexity w v l (hR.later hi) hok.1 hok.2) rfl ?_
                                refine WO.p rfl rfl ?_
                                refine WO.nil ?_
                                refine W.seq ?_
                                refine W.sreg ?_
                                refine WO.p rfl rfl (WO.p rfl rfl ?_)
                                refine WO.nil ?_
                                refine W.cond_bl rfl (fun c22 => ?_) (fun c22 => ?_)
                                · first
                                  | (exfalso; omega)
                                  | (obtain ⟨hq1, hq2, hq3⟩ := proofS_none hP (by omega) (by assumption)
                                     refine W.sreg ?_
                                     refine WO.p rfl rfl (WO.p rfl rfl (WO.p rfl rfl ?_))
                                     refine WO.guard_bl rfl rfl (fun c23 => ?_) (fun c23 => ?_)
                                     · first
                                       | (exfalso; omega)
                                       | (refine WO.pg rfl rfl rfl (WO.pg rfl rfl rfl (WO.p rfl rfl (WO.p rfl rfl ?_)))
                                          refine WO.guard_bl rfl rfl (fun c24 => ?_) (fun c24 => ?_)
                                          · first
                                            | (exfalso; omega)
                                            | (refine WO.go' rfl (WO.field0 rfl rfl rfl (WO.go' rfl (WO.load rfl rfl (Cell.own Pick.head rfl) rfl (WO.go' rfl ?_))))
                                               refine' WO.len (n := _) rfl rfl ?hs rfl ?_
                                               case hs => (first | exact hsx)
                                               refine WO.pg rfl rfl rfl (WO.p rfl rfl (WO.p rfl rfl ?_))
                                               refine WO.guard_bl rfl rfl (fun c25 => ?_) (fun c25 => ?_)
                                               · first
                                                 | (exfalso; omega)
                                                 | (refine WO.go' rfl ?_
                                                    refine WO.callR rfl Try.call15 (fun L w hi => l_Works w) rfl ?_
                                                    refine WO.p rfl rfl (WO.p rfl rfl ?_)
                                                    refine WO.nil ?_
                                                    refine W.ret ?_
                                                    first | exact fin.ret (Res.one rfl (RV.tmp rfl)) rfl | (exfalso; simp_all; done))
                                               · first
                                                 | (exfalso; omega)
                                                 | (refine WO.no rfl rfl (WO.p rfl rfl (WO.p rfl rfl ?_))
                                                    refine WO.nil ?_
                                                    refine W.ret ?_
                                                    first | exact fin.ret (Res.one rfl (RV.tmp rfl)) rfl | (exfalso; simp_all; done)))
                                          · first
                                            | (exfalso; omega)
                                            | (refine WO.no rfl rfl (WO.no rfl rfl (WO.no rfl rfl (WO.no rfl rfl (WO.p rfl rfl (WO.p rfl rfl (WO.no rfl rfl (WO.p rfl rfl (WO.p rfl rfl ?_))))))))
                                               refine WO.nil ?_
                                               refine W.ret ?_
                                               first | exact fin.ret (Res.one rfl (RV.tmp rfl)) rfl | (exfalso; simp_all; done)))
                                     · first
                                       | (exfalso; omega)
                                       | (refine WO.no rfl rfl (WO.no rfl rfl (WO.p rfl rfl (WO.p rfl rfl (WO.no rfl rfl (WO.no rfl rfl (WO.no rfl rfl (WO.no rfl rfl (WO.p rfl rfl (WO.p rfl rfl (WO.no rfl rfl (WO.p rfl rfl ?_)))))))))))
                                          refine WO.p rfl rfl ?_
                                          refine WO.nil ?_
                                          refine W.ret ?_
                                          first | exact fin.ret (Res.one rfl (RV.tmp rfl)) rfl | (exfalso; simp_all; done)))
                                · first
                                  | (exfalso; omega)
                                  | (refine W.skip ?_
                                     obtain ⟨hq1, hq2, hq3⟩ := proofS_some hP (by omega) (Decidable.not_not.1 (by assumption))
                                     refine W.sreg ?_
                                     refine WO.p rfl rfl (WO.loadA rfl rfl (Cells.own Pick.head) rfl rfl ?_)
                                     refine WO.callR (r := .tuple #[.int .i64 (LC (bt l) l.length : Int), .int .i64 0]) rfl Try.call37 (fun L w hi => by have h := ref_CheckProof w v _ l xt xn (hR.later hi) (RdF.of_ow (e := 3) encI_ok (by repeat (first | exact Pick.head | apply Pick.tail)) hi) hv; unfold prfV at h; rw [hq1, hq2] at h; exact h) rfl ?_
                                     refine WO.p rfl rfl (WO.p rfl rfl (WO.p rfl rfl (WO.p rfl rfl (WO.p rfl rfl ?_))))
                                     refine WO.nil ?_
                                     refine W.sreg ?_
                                     refine WO.p rfl rfl (WO.p rfl rfl (WO.p rfl rfl ?_))
                                     refine WO.guard_bl rfl rfl (fun c26 => ?_) (fun c26 => ?_)
                                     · first
                                       | (exfalso; omega)
                                       | (refine WO.pg rfl rfl rfl (WO.pg rfl rfl rfl (WO.pg rfl rfl rfl (WO.p rfl rfl (WO.p rfl rfl ?_))))
                                          refine WO.guard_bl rfl rfl (fun c27 => ?_) (fun c27 => ?_)
                                          · first
                                            | (exfalso; omega)
                                            | (refine WO.pg rfl rfl rfl (WO.pg rfl rfl rfl (WO.p rfl rfl (WO.p rfl rfl ?_)))
                                               refine WO.guard_bl rfl rfl (fun c28 => ?_) (fun c28 => ?_)
                                               · first
                                                 | (exfalso; omega)
                                                 | (refine WO.go' rfl ?_
                                                    refine WO.callR rfl Try.call15 (fun L w hi => l_Works w) rfl ?_
                                                    refine WO.p rfl rfl (WO.p rfl rfl ?_)
                                                    refine WO.nil ?_
                                                    refine W.ret ?_
                                                    first | exact fin.ret (Res.one rfl (RV.tmp rfl)) rfl | (exfalso; simp_all; done))
                                               · first
                                                 | (exfalso; omega)
                                                 | (refine WO.no rfl rfl (WO.p rfl rfl (WO.p rfl rfl ?_))
                                                    refine WO.nil ?_
                                                    refine W.ret ?_
                                                    first | exact fin.ret (Res.one rfl (RV.tmp rfl)) rfl | (exfalso; simp_all; done)))
                                          · first
                                            | (exfalso; omega)
                                            | (refine WO.no rfl rfl (WO.no rfl rfl (WO.p rfl rfl (WO.p rfl rfl (WO.no rfl rfl (WO.p rfl rfl (WO.p rfl rfl ?_))))))
                                               refine WO.nil ?_
                                               refine W.ret ?_
                                               first | exact fin.ret (Res.one rfl (RV.tmp rfl)) rfl | (exfalso; simp_all; done)))
                                     · first
                                       | (exfalso; omega)
                                       | (refine WO.no rfl rfl (WO.no rfl rfl (WO.no rfl rfl (WO.p rfl rfl (WO.p rfl rfl (WO.no rfl rfl (WO.no rfl rfl (WO.p rfl rfl (WO.p rfl rfl (WO.no rfl rfl (WO.p rfl rfl (WO.p rfl rfl ?_)))))))))))
                                          refine WO.nil ?_
                                          refine W.ret ?_
                                          first | exact fin.ret (Res.one rfl (RV.tmp rfl)) rfl | (exfalso; simp_all; done)))))))))
end Go.Proofs.Ytingkbglkaojdaa
namespace Go.Proofs.Ytingkbglkaojdaa
open Go Go.TH Go.TH.Wv
attribute [local irreducible] W WO pt
set_option maxRecDepth 10000
set_option maxHeartbeats 2000000
theorem kn_s1 : chkB [1, 1, 1] = 0 ∧ shortL [1, 1, 1] = [1] := by decide +kernel
theorem kn_s2 : chkB [0, 0] = 0 ∧ shortL [0, 0] = [] := by decide +kernel
theorem kn_p : prfE bitsL [1] 2 = 0 ∧ prfN bitsL [1] 2 = 2 := by decide +kernel
theorem kn_per : perE [0, 1] [1, 0] = 0 ∧ IsPer [0, 1] [1, 0] 2 := by
  refine ⟨by decide +kernel, by omega, by decide +kernel, fun m h1 h2 => ?_⟩
  obtain rfl : m = 1 := by omega
  decide +kernel
theorem kn_per2 : perE [1, 0] [1, 0] = 5 := by decide +kernel
theorem kn_spec : specE [1, 0] = 0 ∧ specR [1, 0] = [2, -2] := by decide +kernel
theorem kn_lc : LC (bt [0, 0]) 2 = 0 := by
  have := short_len kn_s2.1
  rw [kn_s2.2] at this
  exact this.symm
theorem proofS_zero {l taps : List Int} {n e : Int} (h : ProofS l taps n e) (h0 : chkB l = 0) (hl : LC (bt l) l.length = 0) : e = 5 := by
  rcases h with ⟨h, _⟩ | ⟨_, _, h, _⟩ | ⟨_, _, _, _, _, _, _, _, h⟩
  · exact absurd h0 h
  · exact h
  · omega
theorem law_WaveKnown (w : World) : Ret Try.prog 13 ([] : List Value).toArray w (.bool true) := by
  refine Ret.of mixed tyTab Try.func13 rfl rfl ?_
  refine W.sreg ?_
  refine WO.p rfl rfl ?_
  refine WO.nil ?_
  refine W.sreg ?_
  refine WO.call (Post := fun r Hq => Hq = [OwE encI 3 1 r bitsL]) rfl Try.call40 (fun L w hi => l_Bits w) rfl ?_
  rintro bv _ rfl
  refine WO.p rfl rfl ?_
  refine WO.nil ?_
  refine W.sreg ?_
  refine' WO.buildSl (cs := _) rfl rfl rfl rfl ?hf rfl rfl ?hl rfl (fun v1 => ?_)
  case hf => (conv => lhs; simp [-List.getD_eq_getElem?_getD, fillL, vcl, wrl, TTab.pl?.lget']) <;> rfl
  case hl => rfl
  refine WO.call (Post := fun r Hq => ∃ x : Value, r = .tuple #[x, .int .i64 0] ∧ Hq = [OwE encI 3 1 x [1]]) rfl Try.call18 (fun L w hi => by have h := c_Shortest w _ [1, 1, 1] (RdF.of_ow (e := 3) encI_ok (by repeat (first | exact Pick.head | apply Pick.tail)) hi); rw [kn_s1.1, if_pos rfl, kn_s1.2] at h; exact h) rfl ?_
  rintro _ _ ⟨r1, rfl, rfl⟩
  refine WO.p rfl rfl (WO.p rfl rfl (WO.p rfl rfl (WO.p rfl rfl (WO.p rfl rfl ?_))))
  refine WO.nil ?_
  refine W.sreg ?_
  refine' WO.buildSl (cs := _) rfl rfl rfl rfl ?hf rfl rfl ?hl rfl (fun v2 => ?_)
  case hf => (conv => lhs; simp [-List.getD_eq_getElem?_getD, fillL, vcl, wrl, TTab.pl?.lget']) <;> rfl
  case hl => rfl
  refine WO.call (Post := fun r Hq => ∃ x : Value, r = .tuple #[x, .int .i64 0] ∧ Hq = [OwE encI 3 1 x []]) rfl Try.call18 (fun L w hi => by have h := c_Shortest w _ [0, 0] (RdF.of_ow (e := 3) encI_ok (by repeat (first | exact Pick.head | apply Pick.tail)) hi); rw [kn_s2.1, if_pos rfl, kn_s2.2] at h; exact h) rfl ?_
  rintro _ _ ⟨r2, rfl, rfl⟩
  refine WO.p rfl rfl (WO.p rfl rfl (WO.p rfl rfl (WO.p rfl rfl (WO.p rfl rfl ?_))))
  refine WO.nil ?_
  refine W.sreg ?_
  refine WO.p rfl rfl ?_
  refine' WO.buildSl (cs := _) rfl rfl rfl rfl ?hf rfl rfl ?hl rfl (fun v3 => ?_)
  case hf => (conv => lhs; simp [-List.getD_eq_getElem?_getD, fillL, vcl, wrl, TTab.pl?.lget']) <;> rfl
  case hl => rfl
  refine' WO.build (cs := _) rfl rfl rfl ?hf rfl ?_
  case hf => (conv => lhs; simp [-List.getD_eq_getElem?_getD, fillL, vcl, wrl, TTab.pl?.lget']) <;> rfl
  refine WO.callR (r := .tuple #[.int .i64 2, .int .i64 0]) rfl Try.call36 (fun L w hi => by have h := c_CheckProof w bv _ bitsL [1] 2 (RdF.of_ow (e := 3) encI_ok (by repeat (first | exact Pick.head | apply Pick.tail)) hi) (RdF.of_ow (e := 3) encI_ok (by repeat (first | exact Pick.head | apply Pick.tail)) hi); unfold prfV at h; rw [kn_p.1, kn_p.2] at h; exact h) rfl ?_
  refine WO.p rfl rfl (WO.p rfl rfl (WO.p rfl rfl (WO.p rfl rfl (WO.p rfl rfl ?_))))
  refine WO.nil ?_
  refine W.sreg ?_
  refine' WO.buildSl (cs := _) rfl rfl rfl rfl ?hf rfl rfl ?hl rfl (fun v4 => ?_)
  case hf => (conv => lhs; simp [-List.getD_eq_getElem?_getD, fillL, vcl, wrl, TTab.pl?.lget']) <;> rfl
  case hl => rfl
  refine' WO.buildSl (cs := _) rfl rfl rfl rfl ?hf rfl rfl ?hl rfl (fun v5 => ?_)
  case hf => (conv => lhs; simp [-List.getD_eq_getElem?_getD, fillL, vcl, wrl, TTab.pl?.lget']) <;> rfl
  case hl => rfl
  refine WO.callR (r := .tuple #[.int .i64 2, .int .i64 0]) rfl Try.call21 (fun L w hi => by have h := c_Period w _ _ [0, 1] [1, 0] (RdF.of_ow (e := 3) encI_ok (by repeat (first | exact Pick.head | apply Pick.tail)) hi) (RdF.of_ow (e := 3) encI_ok (by repeat (first | exact Pick.head | apply Pick.tail)) hi); rw [← perV_ok kn_per.1 kn_per.2] at h; exact h) rfl ?_
  refine WO.p rfl rfl (WO.p rfl rfl (WO.p rfl rfl (WO.p rfl rfl (WO.p rfl rfl ?_))))
  refine WO.nil ?_
  refine W.sreg ?_
  refine' WO.buildSl (cs := _) rfl rfl rfl rfl ?hf rfl rfl ?hl rfl (fun v6 => ?_)
  case hf => (conv => lhs; simp [-List.getD_eq_getElem?_getD, fillL, vcl, wrl, TTab.pl?.lget']) <;> rfl
  case hl => rfl
  refine' WO.buildSl (cs := _) rfl rfl rfl rfl ?hf rfl rfl ?hl rfl (fun v7 => ?_)
  case hf => (conv => lhs; simp [-List.getD_eq_getElem?_getD, fillL, vcl, wrl, TTab.pl?.lget']) <;> rfl
  case hl => rfl
  refine WO.callR (r := .tuple #[.int .i64 0, .int .i64 5]) rfl Try.call21 (fun L w hi => by rw [perV_err kn_per2 (by decide)]; exact c_Period w _ _ [1, 0] [1, 0] (RdF.of_ow (e := 3) encI_ok (by repeat (first | exact Pick.head | apply Pick.tail)) hi) (RdF.of_ow (e := 3) encI_ok (by repeat (first | exact Pick.head | apply Pick.tail)) hi)) rfl ?_
  refine WO.p rfl rfl (WO.p rfl rfl (WO.p rfl rfl (WO.p rfl rfl (WO.p rfl rfl ?_))))
  refine WO.nil ?_
  refine W.sreg ?_
  refine' WO.buildSl (cs := _) rfl rfl rfl rfl ?hf rfl rfl ?hl rfl (fun v8 => ?_)
  case hf => (conv => lhs; simp [-List.getD_eq_getElem?_getD, fillL, vcl, wrl, TTab.pl?.lget']) <;> rfl
  case hl => rfl
  refine WO.call (Post := fun r Hq => ∃ x : Value, r = .tuple #[x, .int .i64 0] ∧ Hq = [OwE encI 3 1 x [2, -2]]) rfl Try.call25 (fun L w hi => by have h := c_Spectrum w _ [1, 0] (RdF.of_ow (e := 3) encI_ok (by repeat (first | exact Pick.head | apply Pick.tail)) hi) ⟨_, _, rfl, Nat.le_refl _⟩; rw [kn_spec.1, kn_spec.2] at h; exact h) rfl ?_
  rintro _ _ ⟨r4, rfl, rfl⟩
  refine WO.p rfl rfl (WO.p rfl rfl (WO.p rfl rfl (WO.p rfl rfl (WO.p rfl rfl ?_))))
  refine WO.nil ?_
  refine W.sreg ?_
  refine' WO.buildSl (cs := _) rfl rfl rfl rfl ?hf rfl rfl ?hl rfl (fun v9 => ?_)
  case hf => (conv => lhs; simp [-List.getD_eq_getElem?_getD, fillL, vcl, wrl, TTab.pl?.lget']) <;> rfl
  case hl => rfl
  refine WO.call (Post := fun r Hq => ∃ Z : Option Addr × Nat × List Int × Int × Int, (r = .tuple #[.agg #[.slice Z.1 Z.2.2.1.length Z.2.1, .int .i64 Z.2.2.2.1], .int .i64 Z.2.2.2.2] ∧ ProofS [0, 0] Z.2.2.1 Z.2.2.2.1 Z.2.2.2.2) ∧ Hq = [OwE encI 3 1 (.slice Z.1 Z.2.2.1.length Z.2.1) Z.2.2.1]) rfl Try.call38 (fun L w hi => c_Proof w _ [0, 0] (RdF.of_ow (e := 3) encI_ok (by repeat (first | exact Pick.head | apply Pick.tail)) hi)) rfl ?_
  rintro _ _ ⟨⟨xa, xc, xt, xn, xe⟩, ⟨rfl, hP⟩, rfl⟩
  dsimp only at hP
  obtain rfl := proofS_zero hP kn_s2.1 kn_lc
  refine WO.p rfl rfl (WO.p rfl rfl (WO.p rfl rfl ?_))
  refine WO.alloc rfl rfl rfl (fun b10 hb10 => ?_)
  refine WO.storeA rfl rfl rfl rfl Pick.head rfl rfl (WO.p rfl rfl ?_)
  refine WO.nil ?_
  refine W.fact (OwE.sl (enc := encI) (e := 3) (sz := 1) (v := r2) (xs := []) (by repeat (first | exact Pick.head | apply Pick.tail))) ?_
  intro hsl2
  refine W.sreg ?_
  refine WO.p rfl rfl (WO.p rfl rfl (WO.p rfl rfl ?_))
  refine WO.guard_bl rfl rfl (fun c1 => ?_) (fun c1 => ?_)
  · first
    | (exfalso; omega)
    | (refine WO.pg rfl rfl rfl (WO.pg rfl rfl rfl (WO.p rfl rfl (WO.p rfl rfl ?_)))
       refine WO.guard_bl rfl rfl (fun c2 => ?_) (fun c2 => ?_)
       · first
         | (exfalso; omega)
         | (refine WO.pg rfl rfl rfl (WO.pg rfl rfl rfl (WO.p rfl rfl (WO.p rfl rfl ?_)))
            refine WO.guard_bl rfl rfl (fun c3 => ?_) (fun c3 => ?_)
            · first
              | (exfalso; omega)
              | (refine WO.pg rfl rfl rfl (WO.pg rfl rfl rfl (WO.p rfl rfl (WO.p rfl rfl ?_)))
                 refine WO.guard_bl rfl rfl (fun c4 => ?_) (fun c4 => ?_)
                 · first
                   | (exfalso; omega)
                   | (refine WO.pg rfl rfl rfl (WO.pg rfl rfl rfl (WO.p rfl rfl (WO.p rfl rfl ?_)))
                      refine WO.guard_bl rfl rfl (fun c5 => ?_) (fun c5 => ?_)
                      · first
                        | (exfalso; omega)
                        | (refine WO.pg rfl rfl rfl (WO.pg rfl rfl rfl (WO.p rfl rfl (WO.p rfl rfl ?_)))
                           refine WO.guard_bl rfl rfl (fun c6 => ?_) (fun c6 => ?_)
                           · first
                             | (exfalso; omega)
                             | (refine WO.pg rfl rfl rfl (WO.pg rfl rfl rfl (WO.p rfl rfl (WO.p rfl rfl ?_)))
                                refine WO.guard_bl rfl rfl (fun c7 => ?_) (fun c7 => ?_)
                                · first
                                  | (exfalso; omega)
                                  | (refine WO.pg rfl rfl rfl (WO.go' rfl ?_)
                                     refine' WO.buildSl (cs := _) rfl rfl rfl rfl ?hf rfl rfl ?hl rfl (fun v11 => ?_)
                                     case hf => (conv => lhs; simp [-List.getD_eq_getElem?_getD, fillL, vcl, wrl, TTab.pl?.lget']) <;> rfl
                                     case hl => rfl
                                     refine WO.go' rfl ?_
                                     refine WO.callR (r := .bool true) rfl Try.call19 (fun L w hi => ints_t (l_ints w _ _ [1] [1] (RdF.of_ow (e := 3) encI_ok (by repeat (first | exact Pick.head | apply Pick.tail)) hi) (RdF.of_ow (e := 3) encI_ok (by repeat (first | exact Pick.head | apply Pick.tail)) hi)) rfl) rfl ?_
                                     refine WO.p rfl rfl (WO.p rfl rfl (WO.pg rfl rfl rfl (WO.go' rfl ?_)))
                                     refine' WO.len (n := _) rfl rfl ?hs rfl ?_
                                     case hs => (first | exact hsl2)
                                     refine WO.pg rfl rfl rfl (WO.p rfl rfl (WO.p rfl rfl ?_))
                                     refine WO.guard_bl rfl rfl (fun c8 => ?_) (fun c8 => ?_)
                                     · first
                                       | (exfalso; omega)
                                       | (refine WO.pg rfl rfl rfl (WO.pg rfl rfl rfl (WO.p rfl rfl (WO.p rfl rfl ?_)))
                                          refine WO.guard_bl rfl rfl (fun c9 => ?_) (fun c9 => ?_)
                                          · first
                                            | (exfalso; omega)
                                            | (refine WO.pg rfl rfl rfl (WO.pg rfl rfl rfl (WO.p rfl rfl (WO.p rfl rfl ?_)))
                                               refine WO.guard_bl rfl rfl (fun c10 => ?_) (fun c10 => ?_)
                                               · first
                                                 | (exfalso; omega)
                                                 | (refine WO.pg rfl rfl rfl (WO.go' rfl ?_)
                                                    refine' WO.buildSl (cs := _) rfl rfl rfl rfl ?hf rfl rfl ?hl rfl (fun v12 => ?_)
                                                    case hf => (conv => lhs; simp [-List.getD_eq_getElem?_getD, fillL, vcl, wrl, TTab.pl?.lget']) <;> rfl
                                                    case hl => rfl
                                                    refine WO.go' rfl ?_
                                                    refine WO.callR (r := .bool true) rfl Try.call19 (fun L w hi => ints_t (l_ints w _ _ [2, -2] [2, -2] (RdF.of_ow (e := 3) encI_ok (by repeat (first | exact Pick.head | apply Pick.tail)) hi) (RdF.of_ow (e := 3) encI_ok (by repeat (first | exact Pick.head | apply Pick.tail)) hi)) rfl) rfl ?_
                                                    refine WO.p rfl rfl (WO.p rfl rfl (WO.go' rfl ?_))
                                                    refine WO.callR rfl Try.call15 (fun L w hi => l_Works w) rfl ?_
                                                    refine WO.p rfl rfl (WO.p rfl rfl ?_)
                                                    refine WO.nil ?_
                                                    refine W.ret ?_
                                                    first | exact fin.ret (Res.one rfl (RV.tmp rfl)) rfl | (exfalso; simp_all; done))
                                               · first
                                                 | (exfalso; omega)
                                                 | (refine WO.no rfl rfl (WO.no rfl rfl (WO.no rfl rfl (WO.p rfl rfl (WO.p rfl rfl (WO.no rfl rfl (WO.p rfl rfl (WO.p rfl rfl ?_)))))))
                                                    refine WO.nil ?_
                                                    refine W.ret ?_
                                                    first | exact fin.ret (Res.one rfl (RV.tmp rfl)) rfl | (exfalso; simp_all; done)))
                                          · first
                                            | (exfalso; omega)
                                            | (refine WO.no rfl rfl (WO.no rfl rfl (WO.p rfl rfl (WO.p rfl rfl (WO.no rfl rfl (WO.no rfl rfl (WO.no rfl rfl (WO.p rfl rfl (WO.p rfl rfl (WO.no rfl rfl (WO.p rfl rfl (WO.p rfl rfl ?_)))))))))))
                                               refine WO.nil ?_
                                               refine W.ret ?_
                                               first | exact fin.ret (Res.one rfl (RV.tmp rfl)) rfl | (exfalso; simp_all; done)))
                                     · first
                                       | (exfalso; omega)
                                       | (refine WO.no rfl rfl (WO.no rfl rfl (WO.p rfl rfl (WO.p rfl rfl (WO.no rfl rfl (WO.no rfl rfl (WO.p rfl rfl (WO.p rfl rfl (WO.no rfl rfl (WO.no rfl rfl (WO.no rfl rfl (WO.p rfl rfl ?_)))))))))))
                                          refine WO.p rfl rfl (WO.no rfl rfl (WO.p rfl rfl (WO.p rfl rfl ?_)))
                                          refine WO.nil ?_
                                          refine W.ret ?_
                                          first | exact fin.ret (Res.one rfl (RV.tmp rfl)) rfl | (exfalso; simp_all; done)))
                                · first
                                  | (exfalso; omega)
                                  | (refine WO.no rfl rfl (WO.no rfl rfl (WO.no rfl rfl (WO.p rfl rfl (WO.p rfl rfl (WO.no rfl rfl (WO.no rfl rfl (WO.no rfl rfl (WO.p rfl rfl (WO.p rfl rfl (WO.no rfl rfl (WO.no rfl rfl ?_)))))))))))
                                     refine WO.p rfl rfl (WO.p rfl rfl (WO.no rfl rfl (WO.no rfl rfl (WO.p rfl rfl (WO.p rfl rfl (WO.no rfl rfl (WO.no rfl rfl (WO.no rfl rfl (WO.p rfl rfl (WO.p rfl rfl (WO.no rfl rfl ?_)))))))))))
                                     refine WO.p rfl rfl (WO.p rfl rfl ?_)
                                     refine WO.nil ?_
                                     refine W.ret ?_
                                     first | exact fin.ret (Res.one rfl (RV.tmp rfl)) rfl | (exfalso; simp_all; done)))
                           · first
                             | (exfalso; omega)
                             | (refine WO.no rfl rfl (WO.no rfl rfl (WO.p rfl rfl (WO.p rfl rfl (WO.no rfl rfl (WO.no rfl rfl (WO.no rfl rfl (WO.p rfl rfl (WO.p rfl rfl (WO.no rfl rfl (WO.no rfl rfl (WO.no rfl rfl ?_)))))))))))
                                refine WO.p rfl rfl (WO.p rfl rfl (WO.no rfl rfl (WO.no rfl rfl (WO.p rfl rfl (WO.p rfl rfl (WO.no rfl rfl (WO.no rfl rfl (WO.p rfl rfl (WO.p rfl rfl (WO.no rfl rfl (WO.no rfl rfl ?_)))))))))))
                                refine WO.no rfl rfl (WO.p rfl rfl (WO.p rfl rfl (WO.no rfl rfl (WO.p rfl rfl (WO.p rfl rfl ?_)))))
                                refine WO.nil ?_
                                refine W.ret ?_
                                first | exact fin.ret (Res.one rfl (RV.tmp rfl)) rfl | (exfalso; simp_all; done)))
                      · first
                        | (exfalso; omega)
                        | (refine WO.no rfl rfl (WO.no rfl rfl (WO.p rfl rfl (WO.p rfl rfl (WO.no rfl rfl (WO.no rfl rfl (WO.p rfl rfl (WO.p rfl rfl (WO.no rfl rfl (WO.no rfl rfl (WO.no rfl rfl (WO.p rfl rfl ?_)))))))))))
                           refine WO.p rfl rfl (WO.no rfl rfl (WO.no rfl rfl (WO.no rfl rfl (WO.p rfl rfl (WO.p rfl rfl (WO.no rfl rfl (WO.no rfl rfl (WO.p rfl rfl (WO.p rfl rfl (WO.no rfl rfl (WO.no rfl rfl ?_)))))))))))
                           refine WO.p rfl rfl (WO.p rfl rfl (WO.no rfl rfl (WO.no rfl rfl (WO.no rfl rfl (WO.p rfl rfl (WO.p rfl rfl (WO.no rfl rfl (WO.p rfl rfl (WO.p rfl rfl ?_)))))))))
                           refine WO.nil ?_
                           refine W.ret ?_
                           first | exact fin.ret (Res.one rfl (RV.tmp rfl)) rfl | (exfalso; simp_all; done)))
                 · first
                   | (exfalso; omega)
                   | (refine WO.no rfl rfl (WO.no rfl rfl (WO.p rfl rfl (WO.p rfl rfl (WO.no rfl rfl (WO.no rfl rfl (WO.p rfl rfl (WO.p rfl rfl (WO.no rfl rfl (WO.no rfl rfl (WO.p rfl rfl (WO.p rfl rfl ?_)))))))))))
                      refine WO.no rfl rfl (WO.no rfl rfl (WO.no rfl rfl (WO.p rfl rfl (WO.p rfl rfl (WO.no rfl rfl (WO.no rfl rfl (WO.no rfl rfl (WO.p rfl rfl (WO.p rfl rfl (WO.no rfl rfl (WO.no rfl rfl ?_)))))))))))
                      refine WO.p rfl rfl (WO.p rfl rfl (WO.no rfl rfl (WO.no rfl rfl (WO.p rfl rfl (WO.p rfl rfl (WO.no rfl rfl (WO.no rfl rfl (WO.no rfl rfl (WO.p rfl rfl (WO.p rfl rfl (WO.no rfl rfl ?_)))))))))))
                      refine WO.p rfl rfl (WO.p rfl rfl ?_)
                      refine WO.nil ?_
                      refine W.ret ?_
                      first | exact fin.ret (Res.one rfl (RV.tmp rfl)) rfl | (exfalso; simp_all; done)))
            · first
              | (exfalso; omega)
              | (refine WO.no rfl rfl (WO.no rfl rfl (WO.p rfl rfl (WO.p rfl rfl (WO.no rfl rfl (WO.no rfl rfl (WO.p rfl rfl (WO.p rfl rfl (WO.no rfl rfl (WO.no rfl rfl (WO.p rfl rfl (WO.p rfl rfl ?_)))))))))))
                 refine WO.no rfl rfl (WO.no rfl rfl (WO.p rfl rfl (WO.p rfl rfl (WO.no rfl rfl (WO.no rfl rfl (WO.no rfl rfl (WO.p rfl rfl (WO.p rfl rfl (WO.no rfl rfl (WO.no rfl rfl (WO.no rfl rfl ?_)))))))))))
                 refine WO.p rfl rfl (WO.p rfl rfl (WO.no rfl rfl (WO.no rfl rfl (WO.p rfl rfl (WO.p rfl rfl (WO.no rfl rfl (WO.no rfl rfl (WO.p rfl rfl (WO.p rfl rfl (WO.no rfl rfl (WO.no rfl rfl ?_)))))))))))
                 refine WO.no rfl rfl (WO.p rfl rfl (WO.p rfl rfl (WO.no rfl rfl (WO.p rfl rfl (WO.p rfl rfl ?_)))))
                 refine WO.nil ?_
                 refine W.ret ?_
                 first | exact fin.ret (Res.one rfl (RV.tmp rfl)) rfl | (exfalso; simp_all; done)))
       · first
         | (exfalso; omega)
         | (refine WO.no rfl rfl (WO.no rfl rfl (WO.p rfl rfl (WO.p rfl rfl (WO.no rfl rfl (WO.no rfl rfl (WO.p rfl rfl (WO.p rfl rfl (WO.no rfl rfl (WO.no rfl rfl (WO.p rfl rfl (WO.p rfl rfl ?_)))))))))))
            refine WO.no rfl rfl (WO.no rfl rfl (WO.p rfl rfl (WO.p rfl rfl (WO.no rfl rfl (WO.no rfl rfl (WO.p rfl rfl (WO.p rfl rfl (WO.no rfl rfl (WO.no rfl rfl (WO.no rfl rfl (WO.p rfl rfl ?_)))))))))))
            refine WO.p rfl rfl (WO.no rfl rfl (WO.no rfl rfl (WO.no rfl rfl (WO.p rfl rfl (WO.p rfl rfl (WO.no rfl rfl (WO.no rfl rfl (WO.p rfl rfl (WO.p rfl rfl (WO.no rfl rfl (WO.no rfl rfl ?_)))))))))))
            refine WO.p rfl rfl (WO.p rfl rfl (WO.no rfl rfl (WO.no rfl rfl (WO.no rfl rfl (WO.p rfl rfl (WO.p rfl rfl (WO.no rfl rfl (WO.p rfl rfl (WO.p rfl rfl ?_)))))))))
            refine WO.nil ?_
            refine W.ret ?_
            first | exact fin.ret (Res.one rfl (RV.tmp rfl)) rfl | (exfalso; simp_all; done)))
  · first
    | (exfalso; omega)
    | (refine WO.no rfl rfl (WO.no rfl rfl (WO.p rfl rfl (WO.p rfl rfl (WO.no rfl rfl (WO.no rfl rfl (WO.p rfl rfl (WO.p rfl rfl (WO.no rfl rfl (WO.no rfl rfl (WO.p rfl rfl (WO.p rfl rfl ?_)))))))))))
       refine WO.no rfl rfl (WO.no rfl rfl (WO.p rfl rfl (WO.p rfl rfl (WO.no rfl rfl (WO.no rfl rfl (WO.p rfl rfl (WO.p rfl rfl (WO.no rfl rfl (WO.no rfl rfl (WO.p rfl rfl (WO.p rfl rfl ?_)))))))))))
       refine WO.no rfl rfl (WO.no rfl rfl (WO.no rfl rfl (WO.p rfl rfl (WO.p rfl rfl (WO.no rfl rfl (WO.no rfl rfl (WO.no rfl rfl (WO.p rfl rfl (WO.p rfl rfl (WO.no rfl rfl (WO.no rfl rfl ?_)))))))))))
       refine WO.p rfl rfl (WO.p rfl rfl (WO.no rfl rfl (WO.no rfl rfl (WO.p rfl rfl (WO.p rfl rfl (WO.no rfl rfl (WO.no rfl rfl (WO.no rfl rfl (WO.p rfl rfl (WO.p rfl rfl (WO.no rfl rfl ?_)))))))))))
       refine WO.p rfl rfl (WO.p rfl rfl ?_)
       refine WO.nil ?_
       refine W.ret ?_
       first | exact fin.ret (Res.one rfl (RV.tmp rfl)) rfl | (exfalso; simp_all; done))
theorem lc_taps {l taps : List Int} (h : regE l taps = 0) : LC (bt l) l.length ≤ taps.length := lc_le ⟨_, mk_iff.1 (regE0.1 h).2.2⟩
theorem lc_mono {s : Nat → Int} {n m : Nat} (h : n ≤ m) : LC s n ≤ LC s m := lc_le (by
  obtain ⟨c, hc⟩ := (lc_is s m).1
  exact ⟨c, hc.le h⟩)
theorem lc_proof {l taps : List Int} {n : Int} (h : prfE l taps n = 0) : prfN l taps n ≤ (LC (bt l) l.length : Int) := by
  rw [prf0 h]
  unfold prfE at h
  split at h
  · omega
  · split at h
    · omega
    · split at h
      · rename_i h1 h2 h3
        obtain ⟨k, rfl⟩ : ∃ k : Nat, n = (k : Int) := ⟨n.toNat, by omega⟩
        rw [Int.toNat_natCast] at h3
        obtain ⟨q1, q2, q3⟩ := h3
        rw [mk_takeM (show k ≤ l.length by omega)] at q2
        rw [mk_takeM (show k + 1 ≤ l.length by omega)] at q3
        have hw : ¬ Eq2 (pre (bt taps) taps.length (bt l) k) (bt l k) := fun e => q3 fun i h1 h2 => by
          rcases Nat.lt_or_ge i k with g | g
          · exact q2 i h1 g
          · obtain rfl : i = k := by omega
            exact e
        obtain ⟨c, hc⟩ := (lc_is (bt l) (k + 1)).1
        have h4 := massey q2 q1 hw hc
        have h5 := lc_mono (s := bt l) (show k + 1 ≤ l.length by omega)
        omega
      · omega
theorem law_WaveShortest (w : World) (v u x : Value) (l taps gt : List Int) (gn : Int) (hR : RdF encI 1 w.heap.size w v l) (hU : RdF encI 1 w.heap.size w u taps) (hX : RdF encI 1 w.heap.size w x gt) (hv : HasCap v l.length) : Ret Try.prog 14 [v, u, proofV x gn].toArray w (.bool true) := by
  refine Ret.of mixed tyTab Try.func14 rfl rfl ?_
  obtain ⟨hlu, xa0, xc0, hue, _⟩ := id hX.sl
  subst hue
  replace hR : RdF encI 1 (fnCx mixed tyTab Try.f14.ntmps w).B (fnCx mixed tyTab Try.f14.ntmps w).w0 v l := hR
  replace hU : RdF encI 1 (fnCx mixed tyTab Try.f14.ntmps w).B (fnCx mixed tyTab Try.f14.ntmps w).w0 u taps := hU
  replace hX : RdF encI 1 (fnCx mixed tyTab Try.f14.ntmps w).B (fnCx mixed tyTab Try.f14.ntmps w).w0 (.slice xa0 gt.length xc0) gt := hX
  refine W.sreg ?_
  refine WO.boxA rfl rfl (fun b1 hb1 => ?_)
  refine WO.p rfl rfl ?_
  refine WO.nil ?_
  refine W.seq ?_
  refine W.sreg ?_
  refine WO.p rfl rfl ?_
  refine WO.callR (r := .bool (bl (chkB l = 0))) rfl Try.call28 (fun L w hi => l_fine w v l (hR.later hi)) rfl ?_
  refine WO.p rfl rfl (WO.p rfl rfl ?_)
  refine WO.guard_nbl rfl rfl (fun c1 => ?_) (fun c1 => ?_)
  · first
    | (exfalso; omega)
    | (refine WO.no rfl rfl (WO.no rfl rfl (WO.no rfl rfl (WO.p rfl rfl (WO.p rfl rfl (WO.no rfl rfl (WO.no rfl rfl (WO.no rfl rfl (WO.no rfl rfl (WO.p rfl rfl ?_)))))))))
       refine WO.nil ?_
       refine W.cond_t rfl ?_
       refine W.sreg ?_
       refine WO.callR rfl Try.call15 (fun L w hi => l_Works w) rfl ?_
       refine WO.p rfl rfl ?_
       refine WO.nil ?_
       refine W.ret ?_
       first | exact fin.ret (Res.one rfl (RV.tmp rfl)) rfl | (exfalso; simp_all; done) | (exfalso; simp_all; omega))
  · first
    | (exfalso; omega)
    | (refine WO.pg rfl rfl rfl (WO.go' rfl ?_)
       refine' WO.len (n := _) rfl rfl ?hs rfl ?_
       case hs => (first | exact hU.sl)
       refine WO.pg rfl rfl rfl (WO.p rfl rfl (WO.p rfl rfl ?_))
       refine WO.guard_bl rfl rfl (fun c2 => ?_) (fun c2 => ?_)
       · first
         | (exfalso; omega)
         | (refine WO.no rfl rfl (WO.no rfl rfl (WO.no rfl rfl (WO.no rfl rfl (WO.p rfl rfl ?_))))
            refine WO.nil ?_
            refine W.cond_t rfl ?_
            refine W.sreg ?_
            refine WO.callR rfl Try.call15 (fun L w hi => l_Works w) rfl ?_
            refine WO.p rfl rfl ?_
            refine WO.nil ?_
            refine W.ret ?_
            first | exact fin.ret (Res.one rfl (RV.tmp rfl)) rfl | (exfalso; simp_all; done) | (exfalso; simp_all; omega))
       · first
         | (exfalso; omega)
         | (refine WO.go' rfl (WO.field0 rfl rfl rfl (WO.go' rfl (WO.load rfl rfl (Cell.own Pick.head rfl) rfl (WO.go' rfl ?_))))
            refine' WO.len (n := _) rfl rfl ?hs rfl ?_
            case hs => (first | exact hX.sl)
            refine WO.pg rfl rfl rfl (WO.p rfl rfl ?_)
            refine WO.nil ?_
            refine W.cond_bl rfl (fun c3 => ?_) (fun c3 => ?_)
            · first
              | (exfalso; omega)
              | (refine W.sreg ?_
                 refine WO.callR rfl Try.call15 (fun L w hi => l_Works w) rfl ?_
                 refine WO.p rfl rfl ?_
                 refine WO.nil ?_
                 refine W.ret ?_
                 first | exact fin.ret (Res.one rfl (RV.tmp rfl)) rfl | (exfalso; simp_all; done) | (exfalso; simp_all; omega))
            · first
              | (exfalso; omega)
              | (refine W.skip ?_
                 have hok : chkB l = 0 := by omega
                 have h1 := chkB0.1 hok
                 have hsh := short_len hok
                 refine W.sreg ?_
                 refine WO.p rfl rfl ?_
                 refine WO.call (Post := fun r Hq => ∃ x : Value, r = .tuple #[x, .int .i64 0] ∧ Hq = [OwE encI 3 1 x (shortL l)]) rfl Try.call18 (fun L w hi => by have h := c_Shortest w v l (hR.later hi); rw [hok, if_pos rfl] at h; exact h) rfl ?_
                 rintro _ _ ⟨r1, rfl, rfl⟩
                 refine WO.p rfl rfl (WO.p rfl rfl (WO.p rfl rfl (WO.p rfl rfl (WO.p rfl rfl ?_))))
                 refine WO.nil ?_
                 refine W.fact (OwE.sl (enc := encI) (e := 3) (sz := 1) (v := r1) (xs := shortL l) (by repeat (first | exact Pick.head | apply Pick.tail))) ?_
                 intro hsl1
                 refine W.sreg ?_
                 refine WO.p rfl rfl ?_
                 refine WO.call (Post := fun r Hq => ∃ Z : Option Addr × Nat × List Int × Int × Int, (r = .tuple #[.agg #[.slice Z.1 Z.2.2.1.length Z.2.1, .int .i64 Z.2.2.2.1], .int .i64 Z.2.2.2.2] ∧ ProofS l Z.2.2.1 Z.2.2.2.1 Z.2.2.2.2) ∧ Hq = [OwE encI 3 1 (.slice Z.1 Z.2.2.1.length Z.2.1) Z.2.2.1]) rfl Try.call38 (fun L w hi => c_Proof w v l (hR.later hi)) rfl ?_
                 rintro _ _ ⟨⟨xa, xc, xt, xn, xe⟩, ⟨rfl, hP⟩, rfl⟩
                 dsimp only at hP
                 refine WO.p rfl rfl (WO.p rfl rfl (WO.p rfl rfl ?_))
                 refine WO.alloc rfl rfl rfl (fun b2 hb2 => ?_)
                 refine WO.storeA rfl rfl rfl rfl Pick.head rfl rfl (WO.p rfl rfl ?_)
                 refine WO.nil ?_
                 refine W.seq ?_
                 refine W.sreg ?_
                 refine WO.p rfl rfl (WO.p rfl rfl (WO.p rfl rfl ?_))
                 refine WO.guard_bl rfl rfl (fun c4 => ?_) (fun c4 => ?_)
                 · first
                   | (exfalso; omega)
                   | (refine WO.no rfl rfl (WO.no rfl rfl (WO.no rfl rfl (WO.no rfl rfl (WO.p rfl rfl (WO.p rfl rfl (WO.no rfl rfl (WO.no rfl rfl (WO.no rfl rfl (WO.no rfl rfl (WO.p rfl rfl ?_))))))))))
                      refine WO.nil ?_
                      refine W.cond_t rfl ?_
                      refine W.sreg ?_
                      refine WO.p rfl rfl ?_
                      refine WO.nil ?_
                      refine W.ret ?_
                      first | exact fin.ret (Res.one rfl (RV.tmp rfl)) rfl | (exfalso; simp_all; done) | (exfalso; simp_all; omega))
                 · first
                   | (exfalso; omega)
                   | (refine WO.pg rfl rfl rfl (WO.pg rfl rfl rfl (WO.go' rfl ?_))
                      refine WO.callR (r := .int .i64 0) rfl Try.call35 (fun L w hi => by have h := c_CheckRegister w v r1 l (shortL l) (hR.later hi) (RdF.of_ow (e := 3) encI_ok (by repeat (first | exact Pick.head | apply Pick.tail)) hi); rw [short_reg hok] at h; exact h) rfl ?_
                      refine WO.pg rfl rfl rfl (WO.p rfl rfl (WO.p rfl rfl ?_))
                      refine WO.guard_bl rfl rfl (fun c5 => ?_) (fun c5 => ?_)
                      · first
                        | (exfalso; omega)
                        | (refine WO.no rfl rfl (WO.no rfl rfl (WO.no rfl rfl (WO.no rfl rfl (WO.p rfl rfl ?_))))
                           refine WO.nil ?_
                           refine W.cond_t rfl ?_
                           refine W.sreg ?_
                           refine WO.p rfl rfl ?_
                           refine WO.nil ?_
                           refine W.ret ?_
                           first | exact fin.ret (Res.one rfl (RV.tmp rfl)) rfl | (exfalso; simp_all; done) | (exfalso; simp_all; omega))
                      · first
                        | (exfalso; omega)
                        | (refine WO.pg rfl rfl rfl (WO.pg rfl rfl rfl (WO.go' rfl ?_))
                           refine WO.callR (r := .int .i64 0) rfl Try.call20 (fun L w hi => by have h := ref_CheckRegister w v r1 l (shortL l) (hR.later hi) (RdF.of_ow (e := 3) encI_ok (by repeat (first | exact Pick.head | apply Pick.tail)) hi) hv; rw [short_reg hok] at h; exact h) rfl ?_
                           refine WO.pg rfl rfl rfl (WO.p rfl rfl ?_)
                           refine WO.nil ?_
                           refine W.cond_bl rfl (fun c6 => ?_) (fun c6 => ?_)
                           · first
                             | (exfalso; omega)
                             | (refine W.sreg ?_
                                refine WO.p rfl rfl ?_
                                refine WO.nil ?_
                                refine W.ret ?_
                                first | exact fin.ret (Res.one rfl (RV.tmp rfl)) rfl | (exfalso; simp_all; done) | (exfalso; simp_all; omega))
                           · first
                             | (exfalso; omega)
                             | (refine W.skip ?_
                                refine W.seq ?_
                                refine W.sreg ?_
                                refine WO.p rfl rfl (WO.p rfl rfl ?_)
                                refine WO.nil ?_
                                refine W.cond_bl rfl (fun c7 => ?_) (fun c7 => ?_)
                                · first
                                  | (exfalso; omega)
                                  | (obtain ⟨hq1, hq2, hq3⟩ := proofS_some hP hok (by assumption)
                                     refine W.sreg ?_
                                     refine WO.p rfl rfl (WO.loadA rfl rfl (Cells.own Pick.head) rfl rfl ?_)
                                     refine WO.callR (r := .tuple #[.int .i64 (LC (bt l) l.length : Int), .int .i64 0]) rfl Try.call36 (fun L w hi => by have h := c_CheckProof w v _ l xt xn (hR.later hi) (RdF.of_ow (e := 3) encI_ok (by repeat (first | exact Pick.head | apply Pick.tail)) hi); unfold prfV at h; rw [hq1, hq2] at h; exact h) rfl ?_
                                     refine WO.p rfl rfl (WO.p rfl rfl (WO.p rfl rfl (WO.p rfl rfl (WO.p rfl rfl ?_))))
                                     refine WO.nil ?_
                                     refine W.sreg ?_
                                     refine WO.p rfl rfl (WO.loadA rfl rfl (Cells.own Pick.head) rfl rfl ?_)
                                     refine WO.callR (r := .tuple #[.int .i64 (LC (bt l) l.length : Int), .int .i64 0]) rfl Try.call37 (fun L w hi => by have h := ref_CheckProof w v _ l xt xn (hR.later hi) (RdF.of_ow (e := 3) encI_ok (by repeat (first | exact Pick.head | apply Pick.tail)) hi) hv; unfold prfV at h; rw [hq1, hq2] at h; exact h) rfl ?_
                                     refine WO.p rfl rfl (WO.p rfl rfl (WO.p rfl rfl (WO.p rfl rfl (WO.p rfl rfl ?_))))
                                     refine WO.nil ?_
                                     refine W.sreg ?_
                                     refine WO.p rfl rfl (WO.p rfl rfl (WO.p rfl rfl ?_))
                                     refine WO.guard_bl rfl rfl (fun c8 => ?_) (fun c8 => ?_)
                                     · first
                                       | (exfalso; omega)
                                       | (refine WO.no rfl rfl (WO.no rfl rfl (WO.p rfl rfl (WO.p rfl rfl (WO.no rfl rfl (WO.no rfl rfl (WO.no rfl rfl (WO.no rfl rfl (WO.p rfl rfl (WO.p rfl rfl (WO.no rfl rfl (WO.no rfl rfl ?_)))))))))))
                                          refine WO.no rfl rfl (WO.p rfl rfl (WO.p rfl rfl (WO.no rfl rfl (WO.no rfl rfl (WO.p rfl rfl ?_)))))
                                          refine WO.nil ?_
                                          refine W.cond_t rfl ?_
                                          refine W.sreg ?_
                                          refine WO.p rfl rfl ?_
                                          refine WO.nil ?_
                                          refine W.ret ?_
                                          first | exact fin.ret (Res.one rfl (RV.tmp rfl)) rfl | (exfalso; simp_all; done) | (exfalso; simp_all; omega))
                                     · first
                                       | (exfalso; omega)
                                       | (refine WO.pg rfl rfl rfl (WO.pg rfl rfl rfl (WO.p rfl rfl (WO.p rfl rfl ?_)))
                                          refine WO.guard_bl rfl rfl (fun c9 => ?_) (fun c9 => ?_)
                                          · first
                                            | (exfalso; omega)
                                            | (refine WO.no rfl rfl (WO.no rfl rfl (WO.no rfl rfl (WO.no rfl rfl (WO.p rfl rfl (WO.p rfl rfl (WO.no rfl rfl (WO.no rfl rfl (WO.no rfl rfl (WO.p rfl rfl (WO.p rfl rfl (WO.no rfl rfl ?_)))))))))))
                                               refine WO.no rfl rfl (WO.p rfl rfl ?_)
                                               refine WO.nil ?_
                                               refine W.cond_t rfl ?_
                                               refine W.sreg ?_
                                               refine WO.p rfl rfl ?_
                                               refine WO.nil ?_
                                               refine W.ret ?_
                                               first | exact fin.ret (Res.one rfl (RV.tmp rfl)) rfl | (exfalso; simp_all; done) | (exfalso; simp_all; omega))
                                          · first
                                            | (exfalso; omega)
                                            | (refine WO.pg rfl rfl rfl (WO.pg rfl rfl rfl (WO.go' rfl ?_))
                                               refine' WO.len (n := _) rfl rfl ?hs rfl ?_
                                               case hs => (first | exact hsl1)
                                               refine WO.pg rfl rfl rfl (WO.p rfl rfl (WO.p rfl rfl ?_))
                                               refine WO.guard_bl rfl rfl (fun c10 => ?_) (fun c10 => ?_)
                                               · first
                                                 | (exfalso; omega)
                                                 | (refine WO.no rfl rfl (WO.no rfl rfl (WO.no rfl rfl (WO.p rfl rfl (WO.p rfl rfl (WO.no rfl rfl (WO.no rfl rfl (WO.p rfl rfl ?_)))))))
                                                    refine WO.nil ?_
                                                    refine W.cond_t rfl ?_
                                                    refine W.sreg ?_
                                                    refine WO.p rfl rfl ?_
                                                    refine WO.nil ?_
                                                    refine W.ret ?_
                                                    first | exact fin.ret (Res.one rfl (RV.tmp rfl)) rfl | (exfalso; simp_all; done) | (exfalso; simp_all; omega))
                                               · first
                                                 | (exfalso; omega)
                                                 | (refine WO.pg rfl rfl rfl (WO.pg rfl rfl rfl (WO.pg rfl rfl rfl (WO.p rfl rfl (WO.p rfl rfl ?_))))
                                                    refine WO.guard_bl rfl rfl (fun c11 => ?_) (fun c11 => ?_)
                                                    · first
                                                      | (exfalso; omega)
                                                      | (refine WO.no rfl rfl (WO.no rfl rfl (WO.p rfl rfl ?_))
                                                         refine WO.nil ?_
                                                         refine W.cond_t rfl ?_
                                                         refine W.sreg ?_
                                                         refine WO.p rfl rfl ?_
                                                         refine WO.nil ?_
                                                         refine W.ret ?_
                                                         first | exact fin.ret (Res.one rfl (RV.tmp rfl)) rfl | (exfalso; simp_all; done) | (exfalso; simp_all; omega))
                                                    · first
                                                      | (exfalso; omega)
                                                      | (refine WO.pg rfl rfl rfl (WO.pg rfl rfl rfl (WO.p rfl rfl ?_))
                                                         refine WO.nil ?_
                                                         refine W.cond_bl rfl (fun c12 => ?_) (fun c12 => ?_)
                                                         · first
                                                           | (exfalso; omega)
                                                           | (refine W.sreg ?_
                                                              refine WO.p rfl rfl ?_
                                                              refine WO.nil ?_
                                                              refine W.ret ?_
                                                              first | exact fin.ret (Res.one rfl (RV.tmp rfl)) rfl | (exfalso; simp_all; done) | (exfalso; simp_all; omega))
                                                         · first
                                                           | (exfalso; omega)
                                                           | (refine W.skip ?_
                                                              refine W.sreg ?_
                                                              refine WO.p rfl rfl (WO.p rfl rfl ?_)
                                                              refine WO.callR (r := .int .i64 (regE l taps)) rfl Try.call35 (fun L w hi => c_CheckRegister w v u l taps (hR.later hi) (hU.later hi)) rfl ?_
                                                              refine WO.p rfl rfl (WO.p rfl rfl ?_)
                                                              refine WO.nil ?_
                                                              refine W.sreg ?_
                                                              refine WO.p rfl rfl (WO.loadA rfl rfl (Cells.own (Pick.tail (Pick.tail (Pick.tail (Pick.head))))) rfl rfl ?_)
                                                              refine WO.callR (r := .tuple #[.int .i64 (prfN l gt gn), .int .i64 (prfE l gt gn)]) rfl Try.call36 (fun L w hi => c_CheckProof w v _ l gt gn (hR.later hi) (hX.later hi)) rfl ?_
                                                              refine WO.p rfl rfl (WO.p rfl rfl (WO.p rfl rfl (WO.p rfl rfl (WO.p rfl rfl ?_))))
                                                              refine WO.nil ?_
                                                              refine W.seq ?_
                                                              have hA : regE l taps = 0 → LC (bt l) l.length ≤ taps.length := lc_taps
                                                              have hB : prfE l gt gn = 0 → prfN l gt gn ≤ (LC (bt l) l.length : Int) := lc_proof
                                                              refine W.sreg ?_
                                                              refine WO.p rfl rfl (WO.p rfl rfl ?_)
                                                              refine WO.guard_bl rfl rfl (fun c13 => ?_) (fun c13 => ?_)
                                                              · first
                                                                | (exfalso; omega)
                                                                | (refine WO.pg rfl rfl rfl (WO.pg rfl rfl rfl (WO.go' rfl ?_))
                                                                   have hr0 := regE0.1 (show regE l taps = 0 by omega)
                                                                   refine WO.callR (r := .bool true) rfl Try.call29 (fun L w hi => by have h := ref_Makes w v u l taps (hR.later hi) (hU.later hi) hv h1.2 (chkB0.1 hr0.2.1).2; rw [bl_t.2 hr0.2.2] at h; exact h) rfl ?_
                                                                   refine WO.pg rfl rfl rfl (WO.pg rfl rfl rfl (WO.pg rfl rfl rfl (WO.go' rfl ?_)))
                                                                   refine' WO.len (n := _) rfl rfl ?hs rfl ?_
                                                                   case hs => (first | exact hU.sl)
                                                                   refine WO.pg rfl rfl rfl (WO.go' rfl ?_)
                                                                   refine' WO.len (n := _) rfl rfl ?hs rfl ?_
                                                                   case hs => (first | exact hsl1)
                                                                   refine WO.pg rfl rfl rfl (WO.pg rfl rfl rfl (WO.p rfl rfl (WO.p rfl rfl ?_)))
                                                                   refine WO.guard_bl rfl rfl (fun c14 => ?_) (fun c14 => ?_)
                                                                   · first
                                                                     | (exfalso; omega)
                                                                     | (refine WO.no rfl rfl (WO.no rfl rfl (WO.no rfl rfl (WO.no rfl rfl (WO.no rfl rfl (WO.no rfl rfl (WO.no rfl rfl (WO.no rfl rfl (WO.no rfl rfl (WO.no rfl rfl (WO.no rfl rfl (WO.no rfl rfl ?_)))))))))))
                                                                        refine WO.no rfl rfl (WO.no rfl rfl (WO.no rfl rfl (WO.no rfl rfl (WO.no rfl rfl (WO.p rfl rfl ?_)))))
                                                                        refine WO.nil ?_
                                                                        refine W.cond_t rfl ?_
                                                                        refine W.sreg ?_
                                                                        refine WO.p rfl rfl ?_
                                                                        refine WO.nil ?_
                                                                        refine W.ret ?_
                                                                        first | exact fin.ret (Res.one rfl (RV.tmp rfl)) rfl | (exfalso; simp_all; done) | (exfalso; simp_all; omega))
                                                                   · first
                                                                     | (exfalso; omega)
                                                                     | (refine WO.pg rfl rfl rfl (WO.pg rfl rfl rfl (WO.pg rfl rfl rfl ?_))
                                                                        refine WO.guard_bl rfl rfl (fun c15 => ?_) (fun c15 => ?_)
                                                                        · first
                                                                          | (exfalso; omega)
                                                                          | (refine WO.pg rfl rfl rfl (WO.pg rfl rfl rfl (WO.go' rfl ?_))
                                                                             refine' WO.len (n := _) rfl rfl ?hs rfl ?_
                                                                             case hs => (first | exact hsl1)
                                                                             refine WO.pg rfl rfl rfl (WO.pg rfl rfl rfl ?_)
                                                                             refine WO.guard_bl rfl rfl (fun c16 => ?_) (fun c16 => ?_)
                                                                             · first
                                                                               | (exfalso; omega)
                                                                               | (refine WO.no rfl rfl (WO.no rfl rfl (WO.no rfl rfl (WO.no rfl rfl (WO.no rfl rfl (WO.no rfl rfl (WO.no rfl rfl (WO.pg rfl rfl rfl (WO.pg rfl rfl rfl (WO.p rfl rfl ?_)))))))))
                                                                                  refine WO.nil ?_
                                                                                  refine W.cond_t rfl ?_
                                                                                  refine W.sreg ?_
                                                                                  refine WO.p rfl rfl ?_
                                                                                  refine WO.nil ?_
                                                                                  refine W.ret ?_
                                                                                  first | exact fin.ret (Res.one rfl (RV.tmp rfl)) rfl | (exfalso; simp_all; done) | (exfalso; simp_all; omega))
                                                                             · first
                                                                               | (exfalso; omega)
                                                                               | (refine WO.pg rfl rfl rfl (WO.pg rfl rfl rfl ?_)
                                                                                  refine WO.guard_bl rfl rfl (fun c17 => ?_) (fun c17 => ?_)
                                                                                  · first
                                                                                    | (exfalso; omega)
                                                                                    | (refine WO.pg rfl rfl rfl (WO.pg rfl rfl rfl (WO.go' rfl ?_))
                                                                                       refine' WO.len (n := _) rfl rfl ?hs rfl ?_
                                                                                       case hs => (first | exact hU.sl)
                                                                                       refine WO.pg rfl rfl rfl (WO.pg rfl rfl rfl (WO.pg rfl rfl rfl (WO.pg rfl rfl rfl (WO.p rfl rfl ?_))))
                                                                                       refine WO.nil ?_
                                                                                       refine W.cond_bl rfl (fun c18 => ?_) (fun c18 => ?_)
                                                                                       · first
                                                                                         | (exfalso; omega)
                                                                                         | (refine W.sreg ?_
                                                                                            refine WO.p rfl rfl ?_
                                                                                            refine WO.nil ?_
                                                                                            refine W.ret ?_
                                                                                            first | exact fin.ret (Res.one rfl (RV.tmp rfl)) rfl | (exfalso; simp_all; done) | (exfalso; simp_all; omega))
                                                                                       · first
                                                                                         | (exfalso; omega)
                                                                                         | (refine W.skip ?_
                                                                                            refine W.sreg ?_
                                                                                            refine WO.callR rfl Try.call15 (fun L w hi => l_Works w) rfl ?_
                                                                                            refine WO.p rfl rfl ?_
                                                                                            refine WO.nil ?_
                                                                                            refine W.ret ?_
                                                                                            first | exact fin.ret (Res.one rfl (RV.tmp rfl)) rfl | (exfalso; simp_all; done) | (exfalso; simp_all; omega)))
                                                                                  · first
                                                                                    | (exfalso; omega)
                                                                                    | (refine WO.no rfl rfl (WO.no rfl rfl (WO.no rfl rfl (WO.no rfl rfl (WO.pg rfl rfl rfl (WO.pg rfl rfl rfl (WO.pg rfl rfl rfl (WO.p rfl rfl ?_)))))))
                                                                                       refine WO.nil ?_
                                                                                       refine W.cond_f rfl ?_
                                                                                       refine W.skip ?_
                                                                                       refine W.sreg ?_
                                                                                       refine WO.callR rfl Try.call15 (fun L w hi => l_Works w) rfl ?_
                                                                                       refine WO.p rfl rfl ?_
                                                                                       refine WO.nil ?_
                                                                                       refine W.ret ?_
                                                                                       first | exact fin.ret (Res.one rfl (RV.tmp rfl)) rfl | (exfalso; simp_all; done) | (exfalso; simp_all; omega))))
                                                                        · first
                                                                          | (exfalso; omega)
                                                                          | (refine WO.no rfl rfl (WO.no rfl rfl (WO.no rfl rfl (WO.no rfl rfl (WO.no rfl rfl (WO.no rfl rfl (WO.no rfl rfl (WO.no rfl rfl (WO.no rfl rfl (WO.no rfl rfl (WO.no rfl rfl (WO.no rfl rfl ?_)))))))))))
                                                                             refine WO.no rfl rfl (WO.pg rfl rfl rfl (WO.p rfl rfl ?_))
                                                                             refine WO.nil ?_
                                                                             refine W.cond_f rfl ?_
                                                                             refine W.skip ?_
                                                                             refine W.sreg ?_
                                                                             refine WO.callR rfl Try.call15 (fun L w hi => l_Works w) rfl ?_
                                                                             refine WO.p rfl rfl ?_
                                                                             refine WO.nil ?_
                                                                             refine W.ret ?_
                                                                             first | exact fin.ret (Res.one rfl (RV.tmp rfl)) rfl | (exfalso; simp_all; done) | (exfalso; simp_all; omega))))
                                                              · first
                                                                | (exfalso; omega)
                                                                | (refine WO.no rfl rfl (WO.no rfl rfl (WO.no rfl rfl (WO.no rfl rfl (WO.no rfl rfl (WO.no rfl rfl (WO.no rfl rfl (WO.no rfl rfl (WO.no rfl rfl (WO.no rfl rfl (WO.no rfl rfl (WO.p rfl rfl ?_)))))))))))
                                                                   refine WO.p rfl rfl (WO.pg rfl rfl rfl (WO.pg rfl rfl rfl (WO.pg rfl rfl rfl ?_)))
                                                                   refine WO.guard_bl rfl rfl (fun c19 => ?_) (fun c19 => ?_)
                                                                   · first
                                                                     | (exfalso; omega)
                                                                     | (refine WO.pg rfl rfl rfl (WO.pg rfl rfl rfl (WO.go' rfl ?_))
                                                                        refine' WO.len (n := _) rfl rfl ?hs rfl ?_
                                                                        case hs => (first | exact hsl1)
                                                                        refine WO.pg rfl rfl rfl (WO.pg rfl rfl rfl ?_)
                                                                        refine WO.guard_bl rfl rfl (fun c20 => ?_) (fun c20 => ?_)
                                                                        · first
                                                                          | (exfalso; omega)
                                                                          | (refine WO.no rfl rfl (WO.no rfl rfl (WO.no rfl rfl (WO.no rfl rfl (WO.no rfl rfl (WO.no rfl rfl (WO.no rfl rfl (WO.pg rfl rfl rfl (WO.pg rfl rfl rfl (WO.p rfl rfl ?_)))))))))
                                                                             refine WO.nil ?_
                                                                             refine W.cond_t rfl ?_
                                                                             refine W.sreg ?_
                                                                             refine WO.p rfl rfl ?_
                                                                             refine WO.nil ?_
                                                                             refine W.ret ?_
                                                                             first | exact fin.ret (Res.one rfl (RV.tmp rfl)) rfl | (exfalso; simp_all; done) | (exfalso; simp_all; omega))
                                                                        · first
                                                                          | (exfalso; omega)
                                                                          | (refine WO.pg rfl rfl rfl (WO.pg rfl rfl rfl ?_)
                                                                             refine WO.guard_bl rfl rfl (fun c21 => ?_) (fun c21 => ?_)
                                                                             · first
                                                                               | (exfalso; omega)
                                                                               | (refine WO.pg rfl rfl rfl (WO.pg rfl rfl rfl (WO.go' rfl ?_))
                                                                                  refine' WO.len (n := _) rfl rfl ?hs rfl ?_
                                                                                  case hs => (first | exact hU.sl)
                                                                                  refine WO.pg rfl rfl rfl (WO.pg rfl rfl rfl (WO.pg rfl rfl rfl (WO.pg rfl rfl rfl (WO.p rfl rfl ?_))))
                                                                                  refine WO.nil ?_
                                                                                  refine W.cond_bl rfl (fun c22 => ?_) (fun c22 => ?_)
                                                                                  · first
                                                                                    | (exfalso; omega)
                                                                                    | (refine W.sreg ?_
                                                                                       refine WO.p rfl rfl ?_
                                                                                       refine WO.nil ?_
                                                                                       refine W.ret ?_
                                                                                       first | exact fin.ret (Res.one rfl (RV.tmp rfl)) rfl | (exfalso; simp_all; done) | (exfalso; simp_all; omega))
                                                                                  · first
                                                                                    | (exfalso; omega)
                                                                                    | (refine W.skip ?_
                                                                                       refine W.sreg ?_
                                                                                       refine WO.callR rfl Try.call15 (fun L w hi => l_Works w) rfl ?_
                                                                                       refine WO.p rfl rfl ?_
                                                                                       refine WO.nil ?_
                                                                                       refine W.ret ?_
                                                                                       first | exact fin.ret (Res.one rfl (RV.tmp rfl)) rfl | (exfalso; simp_all; done) | (exfalso; simp_all; omega)))
                                                                             · first
                                                                               | (exfalso; omega)
                                                                               | (refine WO.no rfl rfl (WO.no rfl rfl (WO.no rfl rfl (WO.no rfl rfl (WO.pg rfl rfl rfl (WO.pg rfl rfl rfl (WO.pg rfl rfl rfl (WO.p rfl rfl ?_)))))))
                                                                                  refine WO.nil ?_
                                                                                  refine W.cond_f rfl ?_
                                                                                  refine W.skip ?_
                                                                                  refine W.sreg ?_
                                                                                  refine WO.callR rfl Try.call15 (fun L w hi => l_Works w) rfl ?_
                                                                                  refine WO.p rfl rfl ?_
                                                                                  refine WO.nil ?_
                                                                                  refine W.ret ?_
                                                                                  first | exact fin.ret (Res.one rfl (RV.tmp rfl)) rfl | (exfalso; simp_all; done) | (exfalso; simp_all; omega))))
                                                                   · first
                                                                     | (exfalso; omega)
                                                                     | (refine WO.no rfl rfl (WO.no rfl rfl (WO.no rfl rfl (WO.no rfl rfl (WO.no rfl rfl (WO.no rfl rfl (WO.no rfl rfl (WO.no rfl rfl (WO.no rfl rfl (WO.no rfl rfl (WO.no rfl rfl (WO.no rfl rfl ?_)))))))))))
                                                                        refine WO.no rfl rfl (WO.pg rfl rfl rfl (WO.p rfl rfl ?_))
                                                                        refine WO.nil ?_
                                                                        refine W.cond_f rfl ?_
                                                                        refine W.skip ?_
                                                                        refine W.sreg ?_
                                                                        refine WO.callR rfl Try.call15 (fun L w hi => l_Works w) rfl ?_
                                                                        refine WO.p rfl rfl ?_
                                                                        refine WO.nil ?_
                                                                        refine W.ret ?_
                                                                        first | exact fin.ret (Res.one rfl (RV.tmp rfl)) rfl | (exfalso; simp_all; done) | (exfalso; simp_all; omega)))))))))
                                · first
                                  | (exfalso; omega)
                                  | (obtain ⟨hq1, hq2, hq3⟩ := proofS_none hP hok (by assumption)
                                     refine W.sreg ?_
                                     refine WO.p rfl rfl (WO.p rfl rfl (WO.p rfl rfl ?_))
                                     refine WO.guard_bl rfl rfl (fun c23 => ?_) (fun c23 => ?_)
                                     · first
                                       | (exfalso; omega)
                                       | (refine WO.no rfl rfl (WO.no rfl rfl (WO.no rfl rfl (WO.p rfl rfl ?_)))
                                          refine WO.nil ?_
                                          refine W.cond_t rfl ?_
                                          refine W.sreg ?_
                                          refine WO.p rfl rfl ?_
                                          refine WO.nil ?_
                                          refine W.ret ?_
                                          first | exact fin.ret (Res.one rfl (RV.tmp rfl)) rfl | (exfalso; simp_all; done) | (exfalso; simp_all; omega))
                                     · first
                                       | (exfalso; omega)
                                       | (refine WO.pg rfl rfl rfl (WO.go' rfl ?_)
                                          refine' WO.len (n := _) rfl rfl ?hs rfl ?_
                                          case hs => (first | exact hsl1)
                                          refine WO.pg rfl rfl rfl (WO.p rfl rfl ?_)
                                          refine WO.nil ?_
                                          refine W.cond_bl rfl (fun c24 => ?_) (fun c24 => ?_)
                                          · first
                                            | (exfalso; omega)
                                            | (refine W.sreg ?_
                                               refine WO.p rfl rfl ?_
                                               refine WO.nil ?_
                                               refine W.ret ?_
                                               first | exact fin.ret (Res.one rfl (RV.tmp rfl)) rfl | (exfalso; simp_all; done) | (exfalso; simp_all; omega))
                                          · first
                                            | (exfalso; omega)
                                            | (refine W.skip ?_
                                               refine W.sreg ?_
                                               refine WO.p rfl rfl (WO.p rfl rfl ?_)
                                               refine WO.callR (r := .int .i64 (regE l taps)) rfl Try.call35 (fun L w hi => c_CheckRegister w v u l taps (hR.later hi) (hU.later hi)) rfl ?_
                                               refine WO.p rfl rfl (WO.p rfl rfl ?_)
                                               refine WO.nil ?_
                                               refine W.sreg ?_
                                               refine WO.p rfl rfl (WO.loadA rfl rfl (Cells.own (Pick.tail (Pick.tail (Pick.tail (Pick.head))))) rfl rfl ?_)
                                               refine WO.callR (r := .tuple #[.int .i64 (prfN l gt gn), .int .i64 (prfE l gt gn)]) rfl Try.call36 (fun L w hi => c_CheckProof w v _ l gt gn (hR.later hi) (hX.later hi)) rfl ?_
                                               refine WO.p rfl rfl (WO.p rfl rfl (WO.p rfl rfl (WO.p rfl rfl (WO.p rfl rfl ?_))))
                                               refine WO.nil ?_
                                               refine W.seq ?_
                                               have hA : regE l taps = 0 → LC (bt l) l.length ≤ taps.length := lc_taps
                                               have hB : prfE l gt gn = 0 → prfN l gt gn ≤ (LC (bt l) l.length : Int) := lc_proof
                                               refine W.sreg ?_
                                               refine WO.p rfl rfl (WO.p rfl rfl ?_)
                                               refine WO.guard_bl rfl rfl (fun c25 => ?_) (fun c25 => ?_)
                                               · first
                                                 | (exfalso; omega)
                                                 | (refine WO.pg rfl rfl rfl (WO.pg rfl rfl rfl (WO.go' rfl ?_))
                                                    have hr0 := regE0.1 (show regE l taps = 0 by omega)
                                                    refine WO.callR (r := .bool true) rfl Try.call29 (fun L w hi => by have h := ref_Makes w v u l taps (hR.later hi) (hU.later hi) hv h1.2 (chkB0.1 hr0.2.1).2; rw [bl_t.2 hr0.2.2] at h; exact h) rfl ?_
                                                    refine WO.pg rfl rfl rfl (WO.pg rfl rfl rfl (WO.pg rfl rfl rfl (WO.go' rfl ?_)))
                                                    refine' WO.len (n := _) rfl rfl ?hs rfl ?_
                                                    case hs => (first | exact hU.sl)
                                                    refine WO.pg rfl rfl rfl (WO.go' rfl ?_)
                                                    refine' WO.len (n := _) rfl rfl ?hs rfl ?_
                                                    case hs => (first | exact hsl1)
                                                    refine WO.pg rfl rfl rfl (WO.pg rfl rfl rfl (WO.p rfl rfl (WO.p rfl rfl ?_)))
                                                    refine WO.guard_bl rfl rfl (fun c26 => ?_) (fun c26 => ?_)
                                                    · first
                                                      | (exfalso; omega)
                                                      | (refine WO.no rfl rfl (WO.no rfl rfl (WO.no rfl rfl (WO.no rfl rfl (WO.no rfl rfl (WO.no rfl rfl (WO.no rfl rfl (WO.no rfl rfl (WO.no rfl rfl (WO.no rfl rfl (WO.no rfl rfl (WO.no rfl rfl ?_)))))))))))
                                                         refine WO.no rfl rfl (WO.no rfl rfl (WO.no rfl rfl (WO.no rfl rfl (WO.no rfl rfl (WO.p rfl rfl ?_)))))
                                                         refine WO.nil ?_
                                                         refine W.cond_t rfl ?_
                                                         refine W.sreg ?_
                                                         refine WO.p rfl rfl ?_
                                                         refine WO.nil ?_
                                                         refine W.ret ?_
                                                         first | exact fin.ret (Res.one rfl (RV.tmp rfl)) rfl | (exfalso; simp_all; done) | (exfalso; simp_all; omega))
                                                    · first
                                                      | (exfalso; omega)
                                                      | (refine WO.pg rfl rfl rfl (WO.pg rfl rfl rfl (WO.pg rfl rfl rfl ?_))
                                                         refine WO.guard_bl rfl rfl (fun c27 => ?_) (fun c27 => ?_)
                                                         · first
                                                           | (exfalso; omega)
                                                           | (refine WO.pg rfl rfl rfl (WO.pg rfl rfl rfl (WO.go' rfl ?_))
                                                              refine' WO.len (n := _) rfl rfl ?hs rfl ?_
                                                              case hs => (first | exact hsl1)
                                                              refine WO.pg rfl rfl rfl (WO.pg rfl rfl rfl ?_)
                                                              refine WO.guard_bl rfl rfl (fun c28 => ?_) (fun c28 => ?_)
                                                              · first
                                                                | (exfalso; omega)
                                                                | (refine WO.no rfl rfl (WO.no rfl rfl (WO.no rfl rfl (WO.no rfl rfl (WO.no rfl rfl (WO.no rfl rfl (WO.no rfl rfl (WO.pg rfl rfl rfl (WO.pg rfl rfl rfl (WO.p rfl rfl ?_)))))))))
                                                                   refine WO.nil ?_
                                                                   refine W.cond_t rfl ?_
                                                                   refine W.sreg ?_
                                                                   refine WO.p rfl rfl ?_
                                                                   refine WO.nil ?_
                                                                   refine W.ret ?_
                                                                   first | exact fin.ret (Res.one rfl (RV.tmp rfl)) rfl | (exfalso; simp_all; done) | (exfalso; simp_all; omega))
                                                              · first
                                                                | (exfalso; omega)
                                                                | (refine WO.pg rfl rfl rfl (WO.pg rfl rfl rfl ?_)
                                                                   refine WO.guard_bl rfl rfl (fun c29 => ?_) (fun c29 => ?_)
                                                                   · first
                                                                     | (exfalso; omega)
                                                                     | (refine WO.pg rfl rfl rfl (WO.pg rfl rfl rfl (WO.go' rfl ?_))
                                                                        refine' WO.len (n := _) rfl rfl ?hs rfl ?_
                                                                        case hs => (first | exact hU.sl)
                                                                        refine WO.pg rfl rfl rfl (WO.pg rfl rfl rfl (WO.pg rfl rfl rfl (WO.pg rfl rfl rfl (WO.p rfl rfl ?_))))
                                                                        refine WO.nil ?_
                                                                        refine W.cond_bl rfl (fun c30 => ?_) (fun c30 => ?_)
                                                                        · first
                                                                          | (exfalso; omega)
                                                                          | (refine W.sreg ?_
                                                                             refine WO.p rfl rfl ?_
                                                                             refine WO.nil ?_
                                                                             refine W.ret ?_
                                                                             first | exact fin.ret (Res.one rfl (RV.tmp rfl)) rfl | (exfalso; simp_all; done) | (exfalso; simp_all; omega))
                                                                        · first
                                                                          | (exfalso; omega)
                                                                          | (refine W.skip ?_
                                                                             refine W.sreg ?_
                                                                             refine WO.callR rfl Try.call15 (fun L w hi => l_Works w) rfl ?_
                                                                             refine WO.p rfl rfl ?_
                                                                             refine WO.nil ?_
                                                                             refine W.ret ?_
                                                                             first | exact fin.ret (Res.one rfl (RV.tmp rfl)) rfl | (exfalso; simp_all; done) | (exfalso; simp_all; omega)))
                                                                   · first
                                                                     | (exfalso; omega)
                                                                     | (refine WO.no rfl rfl (WO.no rfl rfl (WO.no rfl rfl (WO.no rfl rfl (WO.pg rfl rfl rfl (WO.pg rfl rfl rfl (WO.pg rfl rfl rfl (WO.p rfl rfl ?_)))))))
                                                                        refine WO.nil ?_
                                                                        refine W.cond_f rfl ?_
                                                                        refine W.skip ?_
                                                                        refine W.sreg ?_
                                                                        refine WO.callR rfl Try.call15 (fun L w hi => l_Works w) rfl ?_
                                                                        refine WO.p rfl rfl ?_
                                                                        refine WO.nil ?_
                                                                        refine W.ret ?_
                                                                        first | exact fin.ret (Res.one rfl (RV.tmp rfl)) rfl | (exfalso; simp_all; done) | (exfalso; simp_all; omega))))
                                                         · first
                                                           | (exfalso; omega)
                                                           | (refine WO.no rfl rfl (WO.no rfl rfl (WO.no rfl rfl (WO.no rfl rfl (WO.no rfl rfl (WO.no rfl rfl (WO.no rfl rfl (WO.no rfl rfl (WO.no rfl rfl (WO.no rfl rfl (WO.no rfl rfl (WO.no rfl rfl ?_)))))))))))
                                                              refine WO.no rfl rfl (WO.pg rfl rfl rfl (WO.p rfl rfl ?_))
                                                              refine WO.nil ?_
                                                              refine W.cond_f rfl ?_
                                                              refine W.skip ?_
                                                              refine W.sreg ?_
                                                              refine WO.callR rfl Try.call15 (fun L w hi => l_Works w) rfl ?_
                                                              refine WO.p rfl rfl ?_
                                                              refine WO.nil ?_
                                                              refine W.ret ?_
                                                              first | exact fin.ret (Res.one rfl (RV.tmp rfl)) rfl | (exfalso; simp_all; done) | (exfalso; simp_all; omega))))
                                               · first
                                                 | (exfalso; omega)
                                                 | (refine WO.no rfl rfl (WO.no rfl rfl (WO.no rfl rfl (WO.no rfl rfl (WO.no rfl rfl (WO.no rfl rfl (WO.no rfl rfl (WO.no rfl rfl (WO.no rfl rfl (WO.no rfl rfl (WO.no rfl rfl (WO.p rfl rfl ?_)))))))))))
                                                    refine WO.p rfl rfl (WO.pg rfl rfl rfl (WO.pg rfl rfl rfl (WO.pg rfl rfl rfl ?_)))
                                                    refine WO.guard_bl rfl rfl (fun c31 => ?_) (fun c31 => ?_)
                                                    · first
                                                      | (exfalso; omega)
                                                      | (refine WO.pg rfl rfl rfl (WO.pg rfl rfl rfl (WO.go' rfl ?_))
                                                         refine' WO.len (n := _) rfl rfl ?hs rfl ?_
                                                         case hs => (first | exact hsl1)
                                                         refine WO.pg rfl rfl rfl (WO.pg rfl rfl rfl ?_)
                                                         refine WO.guard_bl rfl rfl (fun c32 => ?_) (fun c32 => ?_)
                                                         · first
                                                           | (exfalso; omega)
                                                           | (refine WO.no rfl rfl (WO.no rfl rfl (WO.no rfl rfl (WO.no rfl rfl (WO.no rfl rfl (WO.no rfl rfl (WO.no rfl rfl (WO.pg rfl rfl rfl (WO.pg rfl rfl rfl (WO.p rfl rfl ?_)))))))))
                                                              refine WO.nil ?_
                                                              refine W.cond_t rfl ?_
                                                              refine W.sreg ?_
                                                              refine WO.p rfl rfl ?_
                                                              refine WO.nil ?_
                                                              refine W.ret ?_
                                                              first | exact fin.ret (Res.one rfl (RV.tmp rfl)) rfl | (exfalso; simp_all; done) | (exfalso; simp_all; omega))
                                                         · first
                                                           | (exfalso; omega)
                                                           | (refine WO.pg rfl rfl rfl (WO.pg rfl rfl rfl ?_)
                                                              refine WO.guard_bl rfl rfl (fun c33 => ?_) (fun c33 => ?_)
                                                              · first
                                                                | (exfalso; omega)
                                                                | (refine WO.pg rfl rfl rfl (WO.pg rfl rfl rfl (WO.go' rfl ?_))
                                                                   refine' WO.len (n := _) rfl rfl ?hs rfl ?_
                                                                   case hs => (first | exact hU.sl)
                                                                   refine WO.pg rfl rfl rfl (WO.pg rfl rfl rfl (WO.pg rfl rfl rfl (WO.pg rfl rfl rfl (WO.p rfl rfl ?_))))
                                                                   refine WO.nil ?_
                                                                   refine W.cond_bl rfl (fun c34 => ?_) (fun c34 => ?_)
                                                                   · first
                                                                     | (exfalso; omega)
                                                                     | (refine W.sreg ?_
                                                                        refine WO.p rfl rfl ?_
                                                                        refine WO.nil ?_
                                                                        refine W.ret ?_
                                                                        first | exact fin.ret (Res.one rfl (RV.tmp rfl)) rfl | (exfalso; simp_all; done) | (exfalso; simp_all; omega))
                                                                   · first
                                                                     | (exfalso; omega)
                                                                     | (refine W.skip ?_
                                                                        refine W.sreg ?_
                                                                        refine WO.callR rfl Try.call15 (fun L w hi => l_Works w) rfl ?_
                                                                        refine WO.p rfl rfl ?_
                                                                        refine WO.nil ?_
                                                                        refine W.ret ?_
                                                                        first | exact fin.ret (Res.one rfl (RV.tmp rfl)) rfl | (exfalso; simp_all; done) | (exfalso; simp_all; omega)))
                                                              · first
                                                                | (exfalso; omega)
                                                                | (refine WO.no rfl rfl (WO.no rfl rfl (WO.no rfl rfl (WO.no rfl rfl (WO.pg rfl rfl rfl (WO.pg rfl rfl rfl (WO.pg rfl rfl rfl (WO.p rfl rfl ?_)))))))
                                                                   refine WO.nil ?_
                                                                   refine W.cond_f rfl ?_
                                                                   refine W.skip ?_
                                                                   refine W.sreg ?_
                                                                   refine WO.callR rfl Try.call15 (fun L w hi => l_Works w) rfl ?_
                                                                   refine WO.p rfl rfl ?_
                                                                   refine WO.nil ?_
                                                                   refine W.ret ?_
                                                                   first | exact fin.ret (Res.one rfl (RV.tmp rfl)) rfl | (exfalso; simp_all; done) | (exfalso; simp_all; omega))))
                                                    · first
                                                      | (exfalso; omega)
                                                      | (refine WO.no rfl rfl (WO.no rfl rfl (WO.no rfl rfl (WO.no rfl rfl (WO.no rfl rfl (WO.no rfl rfl (WO.no rfl rfl (WO.no rfl rfl (WO.no rfl rfl (WO.no rfl rfl (WO.no rfl rfl (WO.no rfl rfl ?_)))))))))))
                                                         refine WO.no rfl rfl (WO.pg rfl rfl rfl (WO.p rfl rfl ?_))
                                                         refine WO.nil ?_
                                                         refine W.cond_f rfl ?_
                                                         refine W.skip ?_
                                                         refine W.sreg ?_
                                                         refine WO.callR rfl Try.call15 (fun L w hi => l_Works w) rfl ?_
                                                         refine WO.p rfl rfl ?_
                                                         refine WO.nil ?_
                                                         refine W.ret ?_
                                                         first | exact fin.ret (Res.one rfl (RV.tmp rfl)) rfl | (exfalso; simp_all; done) | (exfalso; simp_all; omega))))))))))))
end Go.Proofs.Ytingkbglkaojdaa
