/-
  What is proved here: CheckLabels of the reference. Conditions: none; each contract states its own.
  What is proved here: the law of labels. Conditions: none; each contract states its own.
-/
import Derived.Test.YtpecakgebhmnfaaM5
import Derived.Test.YtpecakgebhmnfaaM23
import Derived.Test.YtpecakgebhmnfaaM6
set_option linter.unusedVariables false
set_option linter.unusedSimpArgs false
namespace Go.Proofs.Ytpecakgebhmnfaa
open Go Go.TH
attribute [local irreducible] W WO pt
set_option maxRecDepth 10000
set_option maxHeartbeats 1000000
theorem ref_CheckLabels (w : World) (v : Value) (l : List (Int × Int)) (t : Int) (lv : Value) (labs : List Int) (hR : RdF encP 2 w.heap.size w v l) (hL : RdF encI 1 w.heap.size w lv labs) : Ret Try.prog 26 [.agg #[v, .int .i64 t], lv].toArray w (.tuple #[.int .i64 (lkV l t labs), .int .i64 (lkE l t labs)]) := by
  refine Ret.of mixed tyTab Try.func26 rfl rfl ?_
  replace hR : RdF encP 2 (fnCx mixed tyTab Try.f26.ntmps w).B (fnCx mixed tyTab Try.f26.ntmps w).w0 v l := hR
  replace hL : RdF encI 1 (fnCx mixed tyTab Try.f26.ntmps w).B (fnCx mixed tyTab Try.f26.ntmps w).w0 lv labs := hL
  have hoc := hR.sl.oc
  have hll := hL.sl.le
  have hle := hR.sl.le
  refine W.sreg ?_
  refine WO.boxA rfl rfl (fun b1 hb1 => ?_)
  refine WO.p rfl rfl (WO.p rfl rfl ?_)
  refine WO.nil ?_
  refine W.seq ?_
  refine W.sreg ?_
  refine WO.loadA rfl rfl (Cells.own Pick.head) rfl rfl ?_
  refine WO.callR rfl Try.call19 (fun L w hi => ref_CheckSpots w v l t (hR.later hi)) rfl ?_
  refine WO.p rfl rfl ?_
  refine WO.nil ?_
  refine W.cond_bl rfl (fun c1 => ?_) (fun c1 => ?_)
  · first
    | (exfalso; omega)
    | (refine W.sreg ?_
       refine WO.loadA rfl rfl (Cells.own Pick.head) rfl rfl ?_
       refine WO.callR rfl Try.call19 (fun L w hi => ref_CheckSpots w v l t (hR.later hi)) rfl ?_
       refine WO.p rfl rfl (WO.p rfl rfl ?_)
       refine WO.nil ?_
       refine W.ret ?_
       first | (obtain ⟨e1, e2⟩ := lk0 (labs := labs) (show chkF l t ≠ 0 by assumption); rw [e1, e2]; exact fin.ret (Res.two rfl (RV.tmp rfl) (RV.tmp rfl)) rfl) | (obtain ⟨e1, e2⟩ := lk1 (l := l) (t := t) (labs := labs) (by omega) (by omega); rw [e1, e2]; exact fin.ret (Res.two rfl (RV.tmp rfl) (RV.tmp rfl)) rfl) | (obtain ⟨e1, e2⟩ := lk2 (l := l) (t := t) (labs := labs) (by omega) (by omega) hbad; rw [e1, e2]; exact fin.ret (Res.two rfl (RV.tmp rfl) (RV.tmp rfl)) rfl) | (obtain ⟨e1, e2⟩ := bad_lk (i := i) hg hc0 hl hb (by omega) hbad; rw [e1, e2]; exact fin.ret (Res.two rfl (RV.tmp rfl) (RV.tmp rfl)) rfl) | (obtain ⟨e1, e2⟩ := hbn.fin hg hc0 hl hb hgd; rw [e1, e2]; exact fin.ret (Res.two rfl (RV.tmp rfl) (RV.tmp rfl)) rfl))
  · first
    | (exfalso; omega)
    | (refine W.skip ?_
       have hcf := chkF0.1 (show chkF l t = 0 by omega)
       have hc0 : chkF l t = 0 := by omega
       have hC : OkC 1 t := ⟨.inr rfl, hcf.2.1⟩
       have hg := hcf.2.2
       have hal := allL_len hg hcf.1.2
       refine W.sreg ?_
       refine WO.loadA rfl rfl (Cells.own Pick.head) rfl rfl ?_
       refine WO.call rfl Try.call49 (fun L w hi => ref_States w v l t (hR.later hi) hg hcf.1.2 hcf.1.1) rfl ?_
       rintro rv _ ⟨_, rfl, rfl⟩
       refine WO.fact (OwE.sl (enc := encRs) (e := 87) (sz := 4) (v := rv) (xs := allR l) Pick.head) (fun hrv => ?_)
       rw [allR_len] at hrv
       refine WO.p rfl rfl ?_
       refine WO.nil ?_
       refine W.seq ?_
       refine W.sreg ?_
       refine WO.p rfl rfl ?_
       refine' WO.len (n := _) rfl rfl ?hs rfl ?_
       case hs => (first | exact hL.sl)
       refine WO.p rfl rfl ?_
       refine' WO.len (n := _) rfl rfl ?hs rfl ?_
       case hs => (first | exact hrv)
       refine WO.p rfl rfl ?_
       refine WO.nil ?_
       refine W.cond_bl rfl (fun c2 => ?_) (fun c2 => ?_)
       · first
         | (exfalso; omega)
         | (refine W.sreg ?_
            refine WO.p rfl rfl (WO.p rfl rfl ?_)
            refine WO.nil ?_
            refine W.ret ?_
            first | (obtain ⟨e1, e2⟩ := lk0 (labs := labs) (show chkF l t ≠ 0 by assumption); rw [e1, e2]; exact fin.ret (Res.two rfl (RV.tmp rfl) (RV.tmp rfl)) rfl) | (obtain ⟨e1, e2⟩ := lk1 (l := l) (t := t) (labs := labs) (by omega) (by omega); rw [e1, e2]; exact fin.ret (Res.two rfl (RV.tmp rfl) (RV.tmp rfl)) rfl) | (obtain ⟨e1, e2⟩ := lk2 (l := l) (t := t) (labs := labs) (by omega) (by omega) hbad; rw [e1, e2]; exact fin.ret (Res.two rfl (RV.tmp rfl) (RV.tmp rfl)) rfl) | (obtain ⟨e1, e2⟩ := bad_lk (i := i) hg hc0 hl hb (by omega) hbad; rw [e1, e2]; exact fin.ret (Res.two rfl (RV.tmp rfl) (RV.tmp rfl)) rfl) | (obtain ⟨e1, e2⟩ := hbn.fin hg hc0 hl hb hgd; rw [e1, e2]; exact fin.ret (Res.two rfl (RV.tmp rfl) (RV.tmp rfl)) rfl))
       · first
         | (exfalso; omega)
         | (refine W.skip ?_
            refine W.seq ?_
            refine W.sreg ?_
            refine WO.p rfl rfl ?_
            refine WO.nil ?_
            refine W.block ?_
            refine W.loop (fun (j : Nat) => j ≤ labs.length ∧ ∀ i, i < j → 0 ≤ labs.getD i 0 ∧ labs.getD i 0 ≤ 1099511627776)
              (fun (j : Nat) => [(1, lv), (2, .pointer (some ⟨b1, 0, none⟩)), (6, rv), (7, .int .i64 (j : Int))])
              (fun (j : Nat) => [pt b1 (.cells #[v, .int .i64 t] 24 (0, 0)), OwE encRs 87 4 rv (allR l)])
              (fun (j : Nat) => labs.length - j) 0
              (by exact ⟨Nat.zero_le _, fun i hi => absurd hi (Nat.not_lt_zero i)⟩) ⟨rfl, rfl, rfl, rfl, trivial⟩ (by repeat (first | exact Sub.nil | refine Sub.cons (by repeat (first | exact Pick.head | apply Pick.tail)) ?_)) ?_
            rintro j ⟨hj, hjb⟩
            refine W.seq ?_
            refine W.sreg ?_
            refine WO.p rfl rfl (WO.p rfl rfl ?_)
            refine' WO.len (n := _) rfl rfl ?hs rfl ?_
            case hs => (first | exact hL.sl)
            refine WO.p rfl rfl ?_
            refine WO.nil ?_
            refine W.cond_bl rfl (fun c3 => ?_) (fun c3 => ?_)
            · first
              | (exfalso; omega)
              | (refine W.skip ?_
                 refine W.seq ?_
                 refine W.block ?_
                 refine W.sreg ?_
                 refine WO.p rfl rfl (WO.p rfl rfl ?_)
                 refine' WO.indexAddr (n := _) (i := _) rfl rfl rfl ?hs ?h1 rfl ?_
                 case hs => (first | exact hL.sl)
                 case h1 => (first | omega | (simp; omega))
                 refine' WO.load (v := _) rfl rfl ?hc rfl ?_
                 case hc => (first | (refine hL.cell0 (i := j) (by omega) 0 ?_; rfl))
                 refine WO.p rfl rfl (WO.p rfl rfl ?_)
                 refine WO.guard_bl rfl rfl (fun c4 => ?_) (fun c4 => ?_)
                 · first
                   | (exfalso; omega)
                   | (refine WO.no rfl rfl (WO.no rfl rfl (WO.no rfl rfl (WO.no rfl rfl (WO.no rfl rfl (WO.p rfl rfl ?_)))))
                      refine WO.nil ?_
                      refine W.cond_t rfl ?_
                      have hbad : ¬ (∀ x ∈ labs, 0 ≤ x ∧ x ≤ 1099511627776) := fun h => by have := h _ (List.mem_of_getElem? (labs_get (labs := labs) (i := j) (by omega))); omega
                      refine W.sreg ?_
                      refine WO.p rfl rfl (WO.p rfl rfl ?_)
                      refine WO.nil ?_
                      refine W.ret ?_
                      first | (obtain ⟨e1, e2⟩ := lk0 (labs := labs) (show chkF l t ≠ 0 by assumption); rw [e1, e2]; exact fin.ret (Res.two rfl (RV.tmp rfl) (RV.tmp rfl)) rfl) | (obtain ⟨e1, e2⟩ := lk1 (l := l) (t := t) (labs := labs) (by omega) (by omega); rw [e1, e2]; exact fin.ret (Res.two rfl (RV.tmp rfl) (RV.tmp rfl)) rfl) | (obtain ⟨e1, e2⟩ := lk2 (l := l) (t := t) (labs := labs) (by omega) (by omega) hbad; rw [e1, e2]; exact fin.ret (Res.two rfl (RV.tmp rfl) (RV.tmp rfl)) rfl) | (obtain ⟨e1, e2⟩ := bad_lk (i := i) hg hc0 hl hb (by omega) hbad; rw [e1, e2]; exact fin.ret (Res.two rfl (RV.tmp rfl) (RV.tmp rfl)) rfl) | (obtain ⟨e1, e2⟩ := hbn.fin hg hc0 hl hb hgd; rw [e1, e2]; exact fin.ret (Res.two rfl (RV.tmp rfl) (RV.tmp rfl)) rfl))
                 · first
                   | (exfalso; omega)
                   | (refine WO.pg rfl rfl rfl (WO.pg rfl rfl rfl (WO.go' rfl ?_))
                      refine' WO.indexAddr (n := _) (i := _) rfl rfl rfl ?hs ?h1 rfl ?_
                      case hs => (first | exact hL.sl)
                      case h1 => (first | omega | (simp; omega))
                      refine WO.go' rfl ?_
                      refine' WO.load (v := _) rfl rfl ?hc rfl ?_
                      case hc => (first | (refine hL.cell0 (i := j) (by omega) 0 ?_; rfl))
                      refine WO.pg rfl rfl rfl (WO.p rfl rfl ?_)
                      refine WO.nil ?_
                      refine W.cond_bl rfl (fun c5 => ?_) (fun c5 => ?_)
                      · first
                        | (exfalso; omega)
                        | (have hbad : ¬ (∀ x ∈ labs, 0 ≤ x ∧ x ≤ 1099511627776) := fun h => by have := h _ (List.mem_of_getElem? (labs_get (labs := labs) (i := j) (by omega))); omega
                           refine W.sreg ?_
                           refine WO.p rfl rfl (WO.p rfl rfl ?_)
                           refine WO.nil ?_
                           refine W.ret ?_
                           first | (obtain ⟨e1, e2⟩ := lk0 (labs := labs) (show chkF l t ≠ 0 by assumption); rw [e1, e2]; exact fin.ret (Res.two rfl (RV.tmp rfl) (RV.tmp rfl)) rfl) | (obtain ⟨e1, e2⟩ := lk1 (l := l) (t := t) (labs := labs) (by omega) (by omega); rw [e1, e2]; exact fin.ret (Res.two rfl (RV.tmp rfl) (RV.tmp rfl)) rfl) | (obtain ⟨e1, e2⟩ := lk2 (l := l) (t := t) (labs := labs) (by omega) (by omega) hbad; rw [e1, e2]; exact fin.ret (Res.two rfl (RV.tmp rfl) (RV.tmp rfl)) rfl) | (obtain ⟨e1, e2⟩ := bad_lk (i := i) hg hc0 hl hb (by omega) hbad; rw [e1, e2]; exact fin.ret (Res.two rfl (RV.tmp rfl) (RV.tmp rfl)) rfl) | (obtain ⟨e1, e2⟩ := hbn.fin hg hc0 hl hb hgd; rw [e1, e2]; exact fin.ret (Res.two rfl (RV.tmp rfl) (RV.tmp rfl)) rfl))
                      · first
                        | (exfalso; omega)
                        | (refine W.skip ?_
                           refine W.region ?_
                           refine WO.p rfl rfl (WO.ar rfl rfl rfl (by (first | (unfold in64; omega) | (unfold in64; omega))) rfl (WO.p rfl rfl ?_))
                           refine WO.nil ?_
                           refine' ⟨j + 1, ?hp, ?hmu, ⟨rfl, rfl, rfl, rfl, trivial⟩, ?hS⟩
                           case hS => repeat (first | exact Sub.nil | refine Sub.cons (by repeat (first | exact Pick.head | apply Pick.tail)) ?_)
                           case hp => exact ⟨by omega, fun i hi => by rcases Nat.lt_or_ge i j with g | g; exact hjb i g; obtain rfl : i = j := (by omega); omega⟩
                           case hmu => omega)))
            · first
              | (exfalso; omega)
              | (refine W.exit (blk_same ?_)
                 have hb : ∀ x ∈ labs, 0 ≤ x ∧ x ≤ 1099511627776 := fun x hx => by obtain ⟨i, hi⟩ := List.getElem?_of_mem hx; have h1 := (List.getElem?_eq_some_iff.1 hi).1; have h2 := hjb i (by omega); rw [List.getD_eq_getElem?_getD, hi] at h2; exact h2
                 have hl : labs.length = (allL l).length := by omega
                 refine W.sreg ?_
                 refine WO.p rfl rfl ?_
                 refine WO.nil ?_
                 refine W.sreg ?_
                 refine WO.p rfl rfl ?_
                 refine WO.nil ?_
                 refine W.seq ?_
                 refine W.sreg ?_
                 refine WO.p rfl rfl ?_
                 refine WO.nil ?_
                 refine W.block ?_
                 refine W.loop3 (fun (i : Nat) (bnd : Int) (fnd : Bool) => i ≤ (allL l).length ∧ BnI l labs i bnd fnd ∧ ∀ j, j < i → GdA l t labs j)
                   (fun (i : Nat) (bnd : Int) (fnd : Bool) => [(1, lv), (2, .pointer (some ⟨b1, 0, none⟩)), (6, rv), (8, .int .i64 bnd), (9, .bool fnd), (10, .int .i64 (i : Int))])
                   (fun (i : Nat) (bnd : Int) (fnd : Bool) => [pt b1 (.cells #[v, .int .i64 t] 24 (0, 0)), OwE encRs 87 4 rv (allR l)])
                   (fun (i : Nat) (bnd : Int) (fnd : Bool) => (allL l).length - i) 0 0 false
                   (by exact ⟨Nat.zero_le _, BnI.zero, fun i hi => absurd hi (Nat.not_lt_zero i)⟩) ⟨rfl, rfl, rfl, rfl, rfl, rfl, trivial⟩ (by repeat (first | exact Sub.nil | refine Sub.cons (by repeat (first | exact Pick.head | apply Pick.tail)) ?_)) ?_
                 rintro i bnd fnd ⟨hi, hbn, hgd⟩
                 refine W.seq ?_
                 refine W.sreg ?_
                 refine WO.p rfl rfl (WO.p rfl rfl ?_)
                 refine' WO.len (n := _) rfl rfl ?hs rfl ?_
                 case hs => (first | exact hrv)
                 refine WO.p rfl rfl ?_
                 refine WO.nil ?_
                 refine W.cond_bl rfl (fun c4 => ?_) (fun c4 => ?_)
                 · first
                   | (exfalso; omega)
                   | (refine W.skip ?_
                      refine W.seq ?_
                      refine W.block ?_
                      refine W.seq ?_
                      have hoki := kAt_ok (l := l) (i := i) (by omega)
                      have hki : (kAt l i).1 < l.length := hoki.2.1
                      have hli := hb _ (List.mem_of_getElem? (labs_get (labs := labs) (i := i) (by omega)))
                      refine W.sreg ?_
                      refine WO.p rfl rfl (WO.p rfl rfl ?_)
                      refine' WO.indexAddr (n := _) (i := _) rfl rfl rfl ?hs ?h1 rfl ?_
                      case hs => (first | exact hrv)
                      case h1 => (first | omega | (simp; omega))
                      refine WO.field0 rfl rfl rfl ?_
                      refine' WO.load (v := _) rfl rfl ?hc rfl ?_
                      case hc => (first | (refine OwR.c0 (l := l) (j := i) ?_ (by omega); exact (by repeat (first | exact Sub.nil | refine Sub.cons (by repeat (first | exact Pick.head | apply Pick.tail)) ?_))))
                      refine WO.p rfl rfl (WO.p rfl rfl ?_)
                      refine WO.guard_bl rfl rfl (fun c5 => ?_) (fun c5 => ?_)
                      · first
                        | (exfalso; omega)
                        | (refine WO.pg rfl rfl rfl (WO.pg rfl rfl rfl (WO.go' rfl ?_))
                           refine' WO.indexAddr (n := _) (i := _) rfl rfl rfl ?hs ?h1 rfl ?_
                           case hs => (first | exact hrv)
                           case h1 => (first | omega | (simp; omega))
                           refine WO.go' rfl (WO.field rfl rfl rfl (WO.go' rfl ?_))
                           refine' WO.load (v := _) rfl rfl ?hc rfl ?_
                           case hc => (first | (refine OwR.c3 (l := l) (j := i) ?_ (by omega); exact (by repeat (first | exact Sub.nil | refine Sub.cons (by repeat (first | exact Pick.head | apply Pick.tail)) ?_))))
                           refine WO.pg rfl rfl rfl (WO.p rfl rfl (WO.p rfl rfl ?_))
                           refine WO.guard_bl rfl rfl (fun c6 => ?_) (fun c6 => ?_)
                           · first
                             | (exfalso; omega)
                             | (refine WO.pg rfl rfl rfl (WO.pg rfl rfl rfl (WO.go' rfl ?_))
                                refine' WO.indexAddr (n := _) (i := _) rfl rfl rfl ?hs ?h1 rfl ?_
                                case hs => (first | exact hL.sl)
                                case h1 => (first | omega | (simp; omega))
                                refine WO.go' rfl ?_
                                refine' WO.load (v := _) rfl rfl ?hc rfl ?_
                                case hc => (first | (refine hL.cell0 (i := i) (by omega) 0 ?_; rfl))
                                refine WO.pg rfl rfl rfl (WO.p rfl rfl ?_)
                                refine WO.nil ?_
                                refine W.cond_bl rfl (fun c7 => ?_) (fun c7 => ?_)
                                · first
                                  | (exfalso; omega)
                                  | (have hbad : ¬ GdA l t labs i := fun h => by have := h.1 ⟨by omega, by omega⟩; omega
                                     refine W.sreg ?_
                                     refine WO.p rfl rfl (WO.p rfl rfl ?_)
                                     refine WO.nil ?_
                                     refine W.ret ?_
                                     first | (obtain ⟨e1, e2⟩ := lk0 (labs := labs) (show chkF l t ≠ 0 by assumption); rw [e1, e2]; exact fin.ret (Res.two rfl (RV.tmp rfl) (RV.tmp rfl)) rfl) | (obtain ⟨e1, e2⟩ := lk1 (l := l) (t := t) (labs := labs) (by omega) (by omega); rw [e1, e2]; exact fin.ret (Res.two rfl (RV.tmp rfl) (RV.tmp rfl)) rfl) | (obtain ⟨e1, e2⟩ := lk2 (l := l) (t := t) (labs := labs) (by omega) (by omega) hbad; rw [e1, e2]; exact fin.ret (Res.two rfl (RV.tmp rfl) (RV.tmp rfl)) rfl) | (obtain ⟨e1, e2⟩ := bad_lk (i := i) hg hc0 hl hb (by omega) hbad; rw [e1, e2]; exact fin.ret (Res.two rfl (RV.tmp rfl) (RV.tmp rfl)) rfl) | (obtain ⟨e1, e2⟩ := hbn.fin hg hc0 hl hb hgd; rw [e1, e2]; exact fin.ret (Res.two rfl (RV.tmp rfl) (RV.tmp rfl)) rfl))
                                · first
                                  | (exfalso; omega)
                                  | (refine W.skip ?_
                                     refine W.seq ?_
                                     have hst : (kAt l i).1 = 1 ∧ (kAt l i).2.2.2 = 0 → labs.getD i 0 = 0 := by intro h; omega
                                     refine W.sreg ?_
                                     refine WO.p rfl rfl (WO.ar rfl rfl rfl (by (first | (unfold in64; omega) | (unfold in64; omega))) rfl (WO.p rfl rfl ?_))
                                     refine WO.nil ?_
                                     refine W.block ?_
                                     refine W.loop (fun (K : Nat) => i < K ∧ K ≤ (allL l).length ∧ ∀ K', i < K' → K' < K → (ldAt l t i K').isSome = true → labs.getD K' 0 ≤ labs.getD i 0 + (ldAt l t i K').getD 0)
                                       (fun (K : Nat) => [(1, lv), (2, .pointer (some ⟨b1, 0, none⟩)), (6, rv), (8, .int .i64 bnd), (9, .bool fnd), (10, .int .i64 (i : Int)), (11, .int .i64 (K : Int))])
                                       (fun (K : Nat) => [pt b1 (.cells #[v, .int .i64 t] 24 (0, 0)), OwE encRs 87 4 rv (allR l)])
                                       (fun (K : Nat) => (allL l).length - K) (i + 1)
                                       (by exact ⟨by omega, by omega, fun K' h1 h2 => by omega⟩) ⟨rfl, rfl, rfl, rfl, rfl, rfl, rfl, trivial⟩ (by repeat (first | exact Sub.nil | refine Sub.cons (by repeat (first | exact Pick.head | apply Pick.tail)) ?_)) ?_
                                     rintro K ⟨hK1, hK2, hKs⟩
                                     refine W.seq ?_
                                     refine W.seq ?_
                                     refine W.drawD 16 [.r 0 [], .r 1 [], .r 2 [], .r 3 [], .r 4 [], .r 5 [], .r 6 [], .r 7 [], .r 8 [], .b 9 [], .r 10 [], .r 11 [], .r 12 [], .r 13 [], .b 14 [], .r 15 []] [] (A0 := []) (Sub.refl _) (by kernel_rfl) ?_ ?_
                                     · exact (ALok.r (ALok.r (ALok.r (ALok.r (ALok.r (ALok.r (ALok.r (ALok.r (ALok.r (ALok.b (ALok.r (ALok.r (ALok.r (ALok.r (ALok.b (ALok.r ALok.nil))))))))))))))))
                                     refine' DT.r rfl rfl rfl ?hq ?_
                                     case hq =>
                                       refine WO.p rfl rfl ?_
                                       exact WO.nil ⟨rfl, rfl⟩
                                     refine' DT.r rfl rfl rfl ?hq ?_
                                     case hq =>
                                       refine WO.p rfl rfl ?_
                                       exact WO.nil ⟨rfl, rfl⟩
                                     refine' DT.r rfl rfl rfl ?hq ?_
                                     case hq =>
                                       refine' WO.len (n := _) rfl rfl ?hs rfl ?_
                                       case hs => (first | exact hrv)
                                       exact WO.nil ⟨rfl, rfl⟩
                                     refine' DT.r rfl rfl rfl ?hq ?_
                                     case hq =>
                                       refine WO.p rfl rfl ?_
                                       exact WO.nil ⟨rfl, rfl⟩
                                     refine' DT.rB rfl rfl rfl ?hq (fun c8 => ?_) (fun c8 => ?_)
                                     case hq =>
                                       refine WO.p rfl rfl ?_
                                       exact WO.nil ⟨rfl, rfl⟩
                                     · first
                                       | (exfalso; omega)
                                       | (refine' DT.r rfl rfl rfl ?hq ?_
                                          case hq =>
                                            refine WO.pg rfl rfl rfl ?_
                                            exact WO.nil ⟨rfl, rfl⟩
                                          refine' DT.r rfl rfl rfl ?hq ?_
                                          case hq =>
                                            refine WO.pg rfl rfl rfl ?_
                                            exact WO.nil ⟨rfl, rfl⟩
                                          refine' DT.r rfl rfl rfl ?hq ?_
                                          case hq =>
                                            refine WO.go' rfl ?_
                                            refine' WO.indexAddr (n := _) (i := _) rfl rfl rfl ?hs ?h1 rfl ?_
                                            case hs => (first | exact hrv)
                                            case h1 => (first | omega | (simp; omega))
                                            exact WO.nil ⟨rfl, rfl⟩
                                          refine' DT.r rfl rfl rfl ?hq ?_
                                          case hq =>
                                            refine WO.go' rfl (WO.field0 rfl rfl rfl ?_)
                                            exact WO.nil ⟨rfl, rfl⟩
                                          refine' DT.b rfl rfl rfl ?hq ?_
                                          case hq =>
                                            refine WO.go' rfl ?_
                                            refine' WO.load (v := _) rfl rfl ?hc rfl ?_
                                            case hc => (first | (refine OwR.c0 (l := l) (j := K) ?_ (by omega); exact (by repeat (first | exact Sub.nil | refine Sub.cons (by repeat (first | exact Pick.head | apply Pick.tail)) ?_))))
                                            exact WO.nil ⟨rfl, rfl⟩
                                          refine' DT.r rfl rfl rfl ?hq ?_
                                          case hq =>
                                            refine WO.pg rfl rfl rfl ?_
                                            exact WO.nil ⟨rfl, rfl⟩
                                          refine' DT.r rfl rfl rfl ?hq ?_
                                          case hq =>
                                            refine WO.pg rfl rfl rfl ?_
                                            exact WO.nil ⟨rfl, rfl⟩
                                          refine' DT.r rfl rfl rfl ?hq ?_
                                          case hq =>
                                            refine WO.go' rfl ?_
                                            refine' WO.indexAddr (n := _) (i := _) rfl rfl rfl ?hs ?h1 rfl ?_
                                            case hs => (first | exact hrv)
                                            case h1 => (first | omega | (simp; omega))
                                            exact WO.nil ⟨rfl, rfl⟩
                                          refine' DT.r rfl rfl rfl ?hq ?_
                                          case hq =>
                                            refine WO.go' rfl (WO.field0 rfl rfl rfl ?_)
                                            exact WO.nil ⟨rfl, rfl⟩
                                          refine' DT.b rfl rfl rfl ?hq ?_
                                          case hq =>
                                            refine WO.go' rfl ?_
                                            refine' WO.load (v := _) rfl rfl ?hc rfl ?_
                                            case hc => (first | (refine OwR.c0 (l := l) (j := i) ?_ (by omega); exact (by repeat (first | exact Sub.nil | refine Sub.cons (by repeat (first | exact Pick.head | apply Pick.tail)) ?_))))
                                            exact WO.nil ⟨rfl, rfl⟩
                                          refine' DT.r rfl rfl rfl ?hq ?_
                                          case hq =>
                                            refine WO.go' rfl (WO.ar rfl rfl rfl (by (first | (unfold in64; omega) | (unfold in64; omega))) rfl ?_)
                                            exact WO.nil ⟨rfl, rfl⟩
                                          refine DT.nil [_, _] rfl ?_
                                          refine WO.pg rfl rfl rfl (WO.p rfl rfl ?_)
                                          refine WO.nil ?_
                                          refine W.cond_bl rfl (fun c9 => ?_) (fun c9 => ?_)
                                          · first
                                            | (exfalso; omega)
                                            | (refine W.skip ?_
                                               refine W.seq ?_
                                               refine W.block ?_
                                               refine W.seq ?_
                                               have hbi := kAt_bd hg hoki
                                               have hbK := kAt_bd hg (kAt_ok (l := l) (i := K) (by omega))
                                               have hss := hoki.2.2.2.2
                                               have hlb := ldAt_bd hg hC (i := i) (K := K) (by omega) (by omega)
                                               refine W.drawD 14 [.b 0 [], .r 1 [], .r 2 [], .r 3 [], .b 4 [], .r 5 [], .r 6 [], .r 7 [], .b 8 [], .b 9 [], .r 10 [], .r 11 [], .r 12 [], .r 13 []] [] (A0 := []) (Sub.refl _) (by kernel_rfl) ?_ ?_
                                               · exact (ALok.b (ALok.r (ALok.r (ALok.r (ALok.b (ALok.r (ALok.r (ALok.r (ALok.b (ALok.b (ALok.r (ALok.r (ALok.r (ALok.r ALok.nil))))))))))))))
                                               refine' DT.b rfl rfl rfl ?hq ?_
                                               case hq =>
                                                 refine WO.loadA rfl rfl (Cells.own Pick.head) rfl rfl ?_
                                                 exact WO.nil ⟨rfl, rfl⟩
                                               refine' DT.r rfl rfl rfl ?hq ?_
                                               case hq =>
                                                 refine WO.p rfl rfl ?_
                                                 exact WO.nil ⟨rfl, rfl⟩
                                               refine' DT.r rfl rfl rfl ?hq ?_
                                               case hq =>
                                                 refine WO.p rfl rfl ?_
                                                 exact WO.nil ⟨rfl, rfl⟩
                                               refine' DT.r rfl rfl rfl ?hq ?_
                                               case hq =>
                                                 refine' WO.indexAddr (n := _) (i := _) rfl rfl rfl ?hs ?h1 rfl ?_
                                                 case hs => (first | exact hrv)
                                                 case h1 => (first | omega | (simp; omega))
                                                 exact WO.nil ⟨rfl, rfl⟩
                                               refine' DT.b rfl rfl rfl ?hq ?_
                                               case hq =>
                                                 refine' WO.loadA (vs := _) rfl rfl ?hc ?hl rfl ?_
                                                 case hc => (first | (refine OwR.cells (l := l) (j := i) ?_ (by omega); exact (by repeat (first | exact Sub.nil | refine Sub.cons (by repeat (first | exact Pick.head | apply Pick.tail)) ?_))))
                                                 case hl => rfl
                                                 exact WO.nil ⟨rfl, rfl⟩
                                               refine' DT.r rfl rfl rfl ?hq ?_
                                               case hq =>
                                                 refine WO.p rfl rfl ?_
                                                 exact WO.nil ⟨rfl, rfl⟩
                                               refine' DT.r rfl rfl rfl ?hq ?_
                                               case hq =>
                                                 refine WO.p rfl rfl ?_
                                                 exact WO.nil ⟨rfl, rfl⟩
                                               refine' DT.r rfl rfl rfl ?hq ?_
                                               case hq =>
                                                 refine' WO.indexAddr (n := _) (i := _) rfl rfl rfl ?hs ?h1 rfl ?_
                                                 case hs => (first | exact hrv)
                                                 case h1 => (first | omega | (simp; omega))
                                                 exact WO.nil ⟨rfl, rfl⟩
                                               refine' DT.b rfl rfl rfl ?hq ?_
                                               case hq =>
                                                 refine' WO.loadA (vs := _) rfl rfl ?hc ?hl rfl ?_
                                                 case hc => (first | (refine OwR.cells (l := l) (j := K) ?_ (by omega); exact (by repeat (first | exact Sub.nil | refine Sub.cons (by repeat (first | exact Pick.head | apply Pick.tail)) ?_))))
                                                 case hl => rfl
                                                 exact WO.nil ⟨rfl, rfl⟩
                                               refine' DT.b rfl rfl rfl ?hq ?_
                                               case hq =>
                                                 refine WO.callR (r := .tuple #[.int .i64 ((ldAt l t i K).getD 0), .bool (bl ((ldAt l t i K).isSome = true))]) rfl Try.call50 (fun L w hi => by rw [bl_isSome]; exact ref_Leads w v t hoc (kAt l i).1 (kAt l K).1 (kAt l i).2.2.2 (kAt l K).2.2.2 (rsK l (kAt l i)).2.1 (rsK l (kAt l i)).2.2.1 (rsK l (kAt l K)).2.1 (rsK l (kAt l K)).2.2.1 hcf.2.1 (by omega) hbi.1 hbi.2 hbK.2 (by omega)) rfl ?_
                                                 exact WO.nil ⟨rfl, rfl⟩
                                               refine' DT.r rfl rfl rfl ?hq ?_
                                               case hq =>
                                                 refine WO.p rfl rfl ?_
                                                 exact WO.nil ⟨rfl, rfl⟩
                                               refine' DT.r rfl rfl rfl ?hq ?_
                                               case hq =>
                                                 refine WO.p rfl rfl ?_
                                                 exact WO.nil ⟨rfl, rfl⟩
                                               refine' DT.r rfl rfl rfl ?hq ?_
                                               case hq =>
                                                 refine WO.p rfl rfl ?_
                                                 exact WO.nil ⟨rfl, rfl⟩
                                               refine' DT.r rfl rfl rfl ?hq ?_
                                               case hq =>
                                                 refine WO.p rfl rfl ?_
                                                 exact WO.nil ⟨rfl, rfl⟩
                                               refine DT.nil [_, _] rfl ?_
                                               refine WO.p rfl rfl ?_
                                               refine WO.nil ?_
                                               refine W.seq ?_
                                               refine W.drawD 12 [.r 0 [], .r 1 [], .r 2 [], .r 3 [], .r 4 [], .b 5 [], .r 6 [], .r 7 [], .r 8 [], .b 9 [], .r 10 [], .r 11 []] [] (A0 := []) (Sub.refl _) (by kernel_rfl) ?_ ?_
                                               · exact (ALok.r (ALok.r (ALok.r (ALok.r (ALok.r (ALok.b (ALok.r (ALok.r (ALok.r (ALok.b (ALok.r (ALok.r ALok.nil))))))))))))
                                               refine' DT.r rfl rfl rfl ?hq ?_
                                               case hq =>
                                                 refine WO.p rfl rfl ?_
                                                 exact WO.nil ⟨rfl, rfl⟩
                                               refine' DT.rB rfl rfl rfl ?hq (fun c10 => ?_) (fun c10 => ?_)
                                               case hq =>
                                                 refine WO.p rfl rfl ?_
                                                 exact WO.nil ⟨rfl, rfl⟩
                                               · first
                                                 | (exfalso; omega)
                                                 | (refine' DT.r rfl rfl rfl ?hq ?_
                                                    case hq =>
                                                      refine WO.pg rfl rfl rfl ?_
                                                      exact WO.nil ⟨rfl, rfl⟩
                                                    refine' DT.r rfl rfl rfl ?hq ?_
                                                    case hq =>
                                                      refine WO.pg rfl rfl rfl ?_
                                                      exact WO.nil ⟨rfl, rfl⟩
                                                    refine' DT.r rfl rfl rfl ?hq ?_
                                                    case hq =>
                                                      refine WO.go' rfl ?_
                                                      refine' WO.indexAddr (n := _) (i := _) rfl rfl rfl ?hs ?h1 rfl ?_
                                                      case hs => (first | exact hL.sl)
                                                      case h1 => (first | omega | (simp; omega))
                                                      exact WO.nil ⟨rfl, rfl⟩
                                                    refine' DT.b rfl rfl rfl ?hq ?_
                                                    case hq =>
                                                      refine WO.go' rfl ?_
                                                      refine' WO.load (v := _) rfl rfl ?hc rfl ?_
                                                      case hc => (first | (refine hL.cell0 (i := K) (by omega) 0 ?_; rfl))
                                                      exact WO.nil ⟨rfl, rfl⟩
                                                    refine' DT.r rfl rfl rfl ?hq ?_
                                                    case hq =>
                                                      refine WO.pg rfl rfl rfl ?_
                                                      exact WO.nil ⟨rfl, rfl⟩
                                                    refine' DT.r rfl rfl rfl ?hq ?_
                                                    case hq =>
                                                      refine WO.pg rfl rfl rfl ?_
                                                      exact WO.nil ⟨rfl, rfl⟩
                                                    refine' DT.r rfl rfl rfl ?hq ?_
                                                    case hq =>
                                                      refine WO.go' rfl ?_
                                                      refine' WO.indexAddr (n := _) (i := _) rfl rfl rfl ?hs ?h1 rfl ?_
                                                      case hs => (first | exact hL.sl)
                                                      case h1 => (first | omega | (simp; omega))
                                                      exact WO.nil ⟨rfl, rfl⟩
                                                    refine' DT.b rfl rfl rfl ?hq ?_
                                                    case hq =>
                                                      refine WO.go' rfl ?_
                                                      refine' WO.load (v := _) rfl rfl ?hc rfl ?_
                                                      case hc => (first | (refine hL.cell0 (i := i) (by omega) 0 ?_; rfl))
                                                      exact WO.nil ⟨rfl, rfl⟩
                                                    refine' DT.r rfl rfl rfl ?hq ?_
                                                    case hq =>
                                                      refine WO.pg rfl rfl rfl ?_
                                                      exact WO.nil ⟨rfl, rfl⟩
                                                    refine' DT.r rfl rfl rfl ?hq ?_
                                                    case hq =>
                                                      refine WO.go' rfl (WO.ar rfl rfl rfl (by (first | (unfold in64; omega) | (unfold in64; omega))) rfl ?_)
                                                      exact WO.nil ⟨rfl, rfl⟩
                                                    refine DT.nil [_, _] rfl ?_
                                                    refine WO.pg rfl rfl rfl (WO.p rfl rfl ?_)
                                                    refine WO.nil ?_
                                                    refine W.cond_bl rfl (fun c11 => ?_) (fun c11 => ?_)
                                                    · first
                                                      | (exfalso; omega)
                                                      | (have hbad : ¬ GdA l t labs i := fun h => by have := h.2 K (by omega) (by omega) (by assumption); omega
                                                         refine W.sreg ?_
                                                         refine WO.p rfl rfl (WO.p rfl rfl ?_)
                                                         refine WO.nil ?_
                                                         refine W.ret ?_
                                                         first | (obtain ⟨e1, e2⟩ := lk0 (labs := labs) (show chkF l t ≠ 0 by assumption); rw [e1, e2]; exact fin.ret (Res.two rfl (RV.tmp rfl) (RV.tmp rfl)) rfl) | (obtain ⟨e1, e2⟩ := lk1 (l := l) (t := t) (labs := labs) (by omega) (by omega); rw [e1, e2]; exact fin.ret (Res.two rfl (RV.tmp rfl) (RV.tmp rfl)) rfl) | (obtain ⟨e1, e2⟩ := lk2 (l := l) (t := t) (labs := labs) (by omega) (by omega) hbad; rw [e1, e2]; exact fin.ret (Res.two rfl (RV.tmp rfl) (RV.tmp rfl)) rfl) | (obtain ⟨e1, e2⟩ := bad_lk (i := i) hg hc0 hl hb (by omega) hbad; rw [e1, e2]; exact fin.ret (Res.two rfl (RV.tmp rfl) (RV.tmp rfl)) rfl) | (obtain ⟨e1, e2⟩ := hbn.fin hg hc0 hl hb hgd; rw [e1, e2]; exact fin.ret (Res.two rfl (RV.tmp rfl) (RV.tmp rfl)) rfl))
                                                    · first
                                                      | (exfalso; omega)
                                                      | (refine W.skip ?_
                                                         refine W.region ?_
                                                         refine WO.p rfl rfl (WO.ar rfl rfl rfl (by (first | (unfold in64; omega) | (unfold in64; omega))) rfl (WO.p rfl rfl ?_))
                                                         refine WO.nil ?_
                                                         refine' ⟨K + 1, ?hp, ?hmu, ⟨rfl, rfl, rfl, rfl, rfl, rfl, rfl, trivial⟩, ?hS⟩
                                                         case hS => repeat (first | exact Sub.nil | refine Sub.cons (by repeat (first | exact Pick.head | apply Pick.tail)) ?_)
                                                         case hp => exact ⟨by omega, by omega, fun K' h1 h2 h3 => by rcases Nat.lt_or_ge K' K with g | g; exact hKs K' h1 g h3; obtain rfl : K' = K := (by omega); first | omega | exact absurd h3 (by assumption)⟩
                                                         case hmu => omega))
                                               · first
                                                 | (exfalso; omega)
                                                 | (refine' DT.r rfl rfl rfl ?hq ?_
                                                    case hq =>
                                                      refine WO.no rfl rfl ?_
                                                      exact WO.nil ⟨rfl, rfl⟩
                                                    refine' DT.r rfl rfl rfl ?hq ?_
                                                    case hq =>
                                                      refine WO.no rfl rfl ?_
                                                      exact WO.nil ⟨rfl, rfl⟩
                                                    refine' DT.r rfl rfl rfl ?hq ?_
                                                    case hq =>
                                                      refine WO.no rfl rfl ?_
                                                      exact WO.nil ⟨rfl, rfl⟩
                                                    refine' DT.b rfl rfl rfl ?hq ?_
                                                    case hq =>
                                                      refine WO.no rfl rfl ?_
                                                      exact WO.nil ⟨rfl, rfl⟩
                                                    refine' DT.r rfl rfl rfl ?hq ?_
                                                    case hq =>
                                                      refine WO.no rfl rfl ?_
                                                      exact WO.nil ⟨rfl, rfl⟩
                                                    refine' DT.r rfl rfl rfl ?hq ?_
                                                    case hq =>
                                                      refine WO.no rfl rfl ?_
                                                      exact WO.nil ⟨rfl, rfl⟩
                                                    refine' DT.r rfl rfl rfl ?hq ?_
                                                    case hq =>
                                                      refine WO.no rfl rfl ?_
                                                      exact WO.nil ⟨rfl, rfl⟩
                                                    refine' DT.b rfl rfl rfl ?hq ?_
                                                    case hq =>
                                                      refine WO.no rfl rfl ?_
                                                      exact WO.nil ⟨rfl, rfl⟩
                                                    refine' DT.r rfl rfl rfl ?hq ?_
                                                    case hq =>
                                                      refine WO.no rfl rfl ?_
                                                      exact WO.nil ⟨rfl, rfl⟩
                                                    refine' DT.r rfl rfl rfl ?hq ?_
                                                    case hq =>
                                                      refine WO.no rfl rfl ?_
                                                      exact WO.nil ⟨rfl, rfl⟩
                                                    refine DT.nil [_, _] rfl ?_
                                                    refine WO.no rfl rfl (WO.p rfl rfl ?_)
                                                    refine WO.nil ?_
                                                    refine W.cond_f rfl ?_
                                                    refine W.skip ?_
                                                    refine W.region ?_
                                                    refine WO.p rfl rfl (WO.ar rfl rfl rfl (by (first | (unfold in64; omega) | (unfold in64; omega))) rfl (WO.p rfl rfl ?_))
                                                    refine WO.nil ?_
                                                    refine' ⟨K + 1, ?hp, ?hmu, ⟨rfl, rfl, rfl, rfl, rfl, rfl, rfl, trivial⟩, ?hS⟩
                                                    case hS => repeat (first | exact Sub.nil | refine Sub.cons (by repeat (first | exact Pick.head | apply Pick.tail)) ?_)
                                                    case hp => exact ⟨by omega, by omega, fun K' h1 h2 h3 => by rcases Nat.lt_or_ge K' K with g | g; exact hKs K' h1 g h3; obtain rfl : K' = K := (by omega); first | omega | exact absurd h3 (by assumption)⟩
                                                    case hmu => omega))
                                          · first
                                            | (exfalso; omega)
                                            | (refine W.exit (blk_same ?_)
                                               refine W.seq ?_
                                               have hG : GdA l t labs i := ⟨hst, fun K' h1 h2 h3 => by rcases Nat.lt_or_ge K' K with g | g; exact hKs K' h1 g h3; have h5 := all_mono (kAt_get (l := l) (i := K) (by omega)) (kAt_get (l := l) (i := K') (by omega)) g; have h6 : ldAt l t i K' = none := ld_none1 (.inl (by show (kAt l K').1 ≠ (kAt l i).1 + 1; omega)); rw [h6] at h3; cases h3⟩
                                               refine W.drawD 9 [.r 0 [], .r 1 [], .r 2 [], .r 3 [], .b 4 [], .r 5 [], .b 6 [], .r 7 [], .r 8 []] [] (A0 := []) (Sub.refl _) (by kernel_rfl) ?_ ?_
                                               · exact (ALok.r (ALok.r (ALok.r (ALok.r (ALok.b (ALok.r (ALok.b (ALok.r (ALok.r ALok.nil)))))))))
                                               refine' DT.r rfl rfl rfl ?hq ?_
                                               case hq =>
                                                 refine WO.p rfl rfl ?_
                                                 exact WO.nil ⟨rfl, rfl⟩
                                               refine' DT.r rfl rfl rfl ?hq ?_
                                               case hq =>
                                                 refine WO.p rfl rfl ?_
                                                 exact WO.nil ⟨rfl, rfl⟩
                                               refine' DT.r rfl rfl rfl ?hq ?_
                                               case hq =>
                                                 refine' WO.indexAddr (n := _) (i := _) rfl rfl rfl ?hs ?h1 rfl ?_
                                                 case hs => (first | exact hrv)
                                                 case h1 => (first | omega | (simp; omega))
                                                 exact WO.nil ⟨rfl, rfl⟩
                                               refine' DT.r rfl rfl rfl ?hq ?_
                                               case hq =>
                                                 refine WO.field0 rfl rfl rfl ?_
                                                 exact WO.nil ⟨rfl, rfl⟩
                                               refine' DT.b rfl rfl rfl ?hq ?_
                                               case hq =>
                                                 refine' WO.load (v := _) rfl rfl ?hc rfl ?_
                                                 case hc => (first | (refine OwR.c0 (l := l) (j := i) ?_ (by omega); exact (by repeat (first | exact Sub.nil | refine Sub.cons (by repeat (first | exact Pick.head | apply Pick.tail)) ?_))))
                                                 exact WO.nil ⟨rfl, rfl⟩
                                               refine' DT.r rfl rfl rfl ?hq ?_
                                               case hq =>
                                                 refine WO.field0 rfl rfl rfl ?_
                                                 exact WO.nil ⟨rfl, rfl⟩
                                               refine' DT.b rfl rfl rfl ?hq ?_
                                               case hq =>
                                                 refine WO.load rfl rfl (Cell.own Pick.head rfl) rfl ?_
                                                 exact WO.nil ⟨rfl, rfl⟩
                                               refine' DT.r rfl rfl rfl ?hq ?_
                                               case hq =>
                                                 refine' WO.len (n := _) rfl rfl ?hs rfl ?_
                                                 case hs => (first | exact hR.sl)
                                                 exact WO.nil ⟨rfl, rfl⟩
                                               refine' DT.r rfl rfl rfl ?hq ?_
                                               case hq =>
                                                 refine WO.ar rfl rfl rfl (by (first | (unfold in64; omega) | (unfold in64; omega))) rfl ?_
                                                 exact WO.nil ⟨rfl, rfl⟩
                                               refine DT.nil [_, _] rfl ?_
                                               refine WO.p rfl rfl ?_
                                               refine WO.nil ?_
                                               refine W.cond_bl rfl (fun c10 => ?_) (fun c10 => ?_)
                                               · first
                                                 | (exfalso; omega)
                                                 | (refine W.seq ?_
                                                    refine W.sreg ?_
                                                    refine WO.p rfl rfl (WO.p rfl rfl (WO.p rfl rfl ?_))
                                                    refine WO.guard_b rfl rfl (fun c11 => ?_) (fun c11 => ?_)
                                                    · first
                                                      | (exfalso; omega)
                                                      | (refine WO.no rfl rfl (WO.no rfl rfl (WO.no rfl rfl (WO.no rfl rfl (WO.no rfl rfl (WO.no rfl rfl (WO.p rfl rfl ?_))))))
                                                         refine WO.nil ?_
                                                         refine W.cond_t rfl ?_
                                                         refine W.region ?_
                                                         refine WO.p rfl rfl (WO.p rfl rfl ?_)
                                                         refine' WO.indexAddr (n := _) (i := _) rfl rfl rfl ?hs ?h1 rfl ?_
                                                         case hs => (first | exact hL.sl)
                                                         case h1 => (first | omega | (simp; omega))
                                                         refine' WO.load (v := _) rfl rfl ?hc rfl ?_
                                                         case hc => (first | (refine hL.cell0 (i := i) (by omega) 0 ?_; rfl))
                                                         refine WO.p rfl rfl ?_
                                                         refine WO.nil ?_
                                                         refine W.region ?_
                                                         refine WO.p rfl rfl ?_
                                                         refine WO.nil ?_
                                                         refine W.region ?_
                                                         refine WO.p rfl rfl (WO.ar rfl rfl rfl (by (first | (unfold in64; omega) | (unfold in64; omega))) rfl (WO.p rfl rfl ?_))
                                                         refine WO.nil ?_
                                                         refine' ⟨i + 1, _, _, ?hp, ?hmu, ⟨rfl, rfl, rfl, rfl, rfl, rfl, trivial⟩, ?hS⟩
                                                         case hS => repeat (first | exact Sub.nil | refine Sub.cons (by repeat (first | exact Pick.head | apply Pick.tail)) ?_)
                                                         case hp => exact ⟨by omega, by first | exact hbn.skip hl (by omega) (by omega) | exact hbn.take hl hb (by omega) (by omega) (.inr (by assumption)) | exact hbn.take hl hb (by omega) (by omega) (.inl (by have := ‹(!fnd) = true›; simpa using this)) | exact hbn.leave hl (by omega) (by omega) (by have := ‹(!fnd) = false›; simpa using this) (by assumption), fun j hj => by rcases Nat.lt_or_ge j i with g | g; exact hgd j g; obtain rfl : j = i := (by omega); exact hG⟩
                                                         case hmu => omega)
                                                    · first
                                                      | (exfalso; omega)
                                                      | (refine WO.pg rfl rfl rfl (WO.pg rfl rfl rfl (WO.go' rfl ?_))
                                                         refine' WO.indexAddr (n := _) (i := _) rfl rfl rfl ?hs ?h1 rfl ?_
                                                         case hs => (first | exact hL.sl)
                                                         case h1 => (first | omega | (simp; omega))
                                                         refine WO.go' rfl ?_
                                                         refine' WO.load (v := _) rfl rfl ?hc rfl ?_
                                                         case hc => (first | (refine hL.cell0 (i := i) (by omega) 0 ?_; rfl))
                                                         refine WO.pg rfl rfl rfl (WO.pg rfl rfl rfl (WO.p rfl rfl ?_))
                                                         refine WO.nil ?_
                                                         refine W.cond_bl rfl (fun c12 => ?_) (fun c12 => ?_)
                                                         · first
                                                           | (exfalso; omega)
                                                           | (refine W.region ?_
                                                              refine WO.p rfl rfl (WO.p rfl rfl ?_)
                                                              refine' WO.indexAddr (n := _) (i := _) rfl rfl rfl ?hs ?h1 rfl ?_
                                                              case hs => (first | exact hL.sl)
                                                              case h1 => (first | omega | (simp; omega))
                                                              refine' WO.load (v := _) rfl rfl ?hc rfl ?_
                                                              case hc => (first | (refine hL.cell0 (i := i) (by omega) 0 ?_; rfl))
                                                              refine WO.p rfl rfl ?_
                                                              refine WO.nil ?_
                                                              refine W.region ?_
                                                              refine WO.p rfl rfl ?_
                                                              refine WO.nil ?_
                                                              refine W.region ?_
                                                              refine WO.p rfl rfl (WO.ar rfl rfl rfl (by (first | (unfold in64; omega) | (unfold in64; omega))) rfl (WO.p rfl rfl ?_))
                                                              refine WO.nil ?_
                                                              refine' ⟨i + 1, _, _, ?hp, ?hmu, ⟨rfl, rfl, rfl, rfl, rfl, rfl, trivial⟩, ?hS⟩
                                                              case hS => repeat (first | exact Sub.nil | refine Sub.cons (by repeat (first | exact Pick.head | apply Pick.tail)) ?_)
                                                              case hp => exact ⟨by omega, by first | exact hbn.skip hl (by omega) (by omega) | exact hbn.take hl hb (by omega) (by omega) (.inr (by assumption)) | exact hbn.take hl hb (by omega) (by omega) (.inl (by have := ‹(!fnd) = true›; simpa using this)) | exact hbn.leave hl (by omega) (by omega) (by have := ‹(!fnd) = false›; simpa using this) (by assumption), fun j hj => by rcases Nat.lt_or_ge j i with g | g; exact hgd j g; obtain rfl : j = i := (by omega); exact hG⟩
                                                              case hmu => omega)
                                                         · first
                                                           | (exfalso; omega)
                                                           | (refine W.skip ?_
                                                              refine W.region ?_
                                                              refine WO.p rfl rfl ?_
                                                              refine WO.nil ?_
                                                              refine W.region ?_
                                                              refine WO.p rfl rfl (WO.ar rfl rfl rfl (by (first | (unfold in64; omega) | (unfold in64; omega))) rfl (WO.p rfl rfl ?_))
                                                              refine WO.nil ?_
                                                              refine' ⟨i + 1, _, _, ?hp, ?hmu, ⟨rfl, rfl, rfl, rfl, rfl, rfl, trivial⟩, ?hS⟩
                                                              case hS => repeat (first | exact Sub.nil | refine Sub.cons (by repeat (first | exact Pick.head | apply Pick.tail)) ?_)
                                                              case hp => exact ⟨by omega, by first | exact hbn.skip hl (by omega) (by omega) | exact hbn.take hl hb (by omega) (by omega) (.inr (by assumption)) | exact hbn.take hl hb (by omega) (by omega) (.inl (by have := ‹(!fnd) = true›; simpa using this)) | exact hbn.leave hl (by omega) (by omega) (by have := ‹(!fnd) = false›; simpa using this) (by assumption), fun j hj => by rcases Nat.lt_or_ge j i with g | g; exact hgd j g; obtain rfl : j = i := (by omega); exact hG⟩
                                                              case hmu => omega)))
                                               · first
                                                 | (exfalso; omega)
                                                 | (refine W.skip ?_
                                                    refine W.region ?_
                                                    refine WO.p rfl rfl (WO.ar rfl rfl rfl (by (first | (unfold in64; omega) | (unfold in64; omega))) rfl (WO.p rfl rfl ?_))
                                                    refine WO.nil ?_
                                                    refine' ⟨i + 1, _, _, ?hp, ?hmu, ⟨rfl, rfl, rfl, rfl, rfl, rfl, trivial⟩, ?hS⟩
                                                    case hS => repeat (first | exact Sub.nil | refine Sub.cons (by repeat (first | exact Pick.head | apply Pick.tail)) ?_)
                                                    case hp => exact ⟨by omega, by first | exact hbn.skip hl (by omega) (by omega) | exact hbn.take hl hb (by omega) (by omega) (.inr (by assumption)) | exact hbn.take hl hb (by omega) (by omega) (.inl (by have := ‹(!fnd) = true›; simpa using this)) | exact hbn.leave hl (by omega) (by omega) (by have := ‹(!fnd) = false›; simpa using this) (by assumption), fun j hj => by rcases Nat.lt_or_ge j i with g | g; exact hgd j g; obtain rfl : j = i := (by omega); exact hG⟩
                                                    case hmu => omega)))
                                     · first
                                       | (exfalso; omega)
                                       | (refine' DT.r rfl rfl rfl ?hq ?_
                                          case hq =>
                                            refine WO.no rfl rfl ?_
                                            exact WO.nil ⟨rfl, rfl⟩
                                          refine' DT.r rfl rfl rfl ?hq ?_
                                          case hq =>
                                            refine WO.no rfl rfl ?_
                                            exact WO.nil ⟨rfl, rfl⟩
                                          refine' DT.r rfl rfl rfl ?hq ?_
                                          case hq =>
                                            refine WO.no rfl rfl ?_
                                            exact WO.nil ⟨rfl, rfl⟩
                                          refine' DT.r rfl rfl rfl ?hq ?_
                                          case hq =>
                                            refine WO.no rfl rfl ?_
                                            exact WO.nil ⟨rfl, rfl⟩
                                          refine' DT.b rfl rfl rfl ?hq ?_
                                          case hq =>
                                            refine WO.no rfl rfl ?_
                                            exact WO.nil ⟨rfl, rfl⟩
                                          refine' DT.r rfl rfl rfl ?hq ?_
                                          case hq =>
                                            refine WO.no rfl rfl ?_
                                            exact WO.nil ⟨rfl, rfl⟩
                                          refine' DT.r rfl rfl rfl ?hq ?_
                                          case hq =>
                                            refine WO.no rfl rfl ?_
                                            exact WO.nil ⟨rfl, rfl⟩
                                          refine' DT.r rfl rfl rfl ?hq ?_
                                          case hq =>
                                            refine WO.no rfl rfl ?_
                                            exact WO.nil ⟨rfl, rfl⟩
                                          refine' DT.r rfl rfl rfl ?hq ?_
                                          case hq =>
                                            refine WO.no rfl rfl ?_
                                            exact WO.nil ⟨rfl, rfl⟩
                                          refine' DT.b rfl rfl rfl ?hq ?_
                                          case hq =>
                                            refine WO.no rfl rfl ?_
                                            exact WO.nil ⟨rfl, rfl⟩
                                          refine' DT.r rfl rfl rfl ?hq ?_
                                          case hq =>
                                            refine WO.no rfl rfl ?_
                                            exact WO.nil ⟨rfl, rfl⟩
                                          refine DT.nil [_, _] rfl ?_
                                          refine WO.no rfl rfl (WO.p rfl rfl ?_)
                                          refine WO.nil ?_
                                          refine W.cond_f rfl ?_
                                          refine W.exit (blk_same ?_)
                                          refine W.seq ?_
                                          have hG : GdA l t labs i := ⟨hst, fun K' h1 h2 h3 => by rcases Nat.lt_or_ge K' K with g | g; exact hKs K' h1 g h3; have h5 := all_mono (kAt_get (l := l) (i := K) (by omega)) (kAt_get (l := l) (i := K') (by omega)) g; have h6 : ldAt l t i K' = none := ld_none1 (.inl (by show (kAt l K').1 ≠ (kAt l i).1 + 1; omega)); rw [h6] at h3; cases h3⟩
                                          refine W.drawD 9 [.r 0 [], .r 1 [], .r 2 [], .r 3 [], .b 4 [], .r 5 [], .b 6 [], .r 7 [], .r 8 []] [] (A0 := []) (Sub.refl _) (by kernel_rfl) ?_ ?_
                                          · exact (ALok.r (ALok.r (ALok.r (ALok.r (ALok.b (ALok.r (ALok.b (ALok.r (ALok.r ALok.nil)))))))))
                                          refine' DT.r rfl rfl rfl ?hq ?_
                                          case hq =>
                                            refine WO.p rfl rfl ?_
                                            exact WO.nil ⟨rfl, rfl⟩
                                          refine' DT.r rfl rfl rfl ?hq ?_
                                          case hq =>
                                            refine WO.p rfl rfl ?_
                                            exact WO.nil ⟨rfl, rfl⟩
                                          refine' DT.r rfl rfl rfl ?hq ?_
                                          case hq =>
                                            refine' WO.indexAddr (n := _) (i := _) rfl rfl rfl ?hs ?h1 rfl ?_
                                            case hs => (first | exact hrv)
                                            case h1 => (first | omega | (simp; omega))
                                            exact WO.nil ⟨rfl, rfl⟩
                                          refine' DT.r rfl rfl rfl ?hq ?_
                                          case hq =>
                                            refine WO.field0 rfl rfl rfl ?_
                                            exact WO.nil ⟨rfl, rfl⟩
                                          refine' DT.b rfl rfl rfl ?hq ?_
                                          case hq =>
                                            refine' WO.load (v := _) rfl rfl ?hc rfl ?_
                                            case hc => (first | (refine OwR.c0 (l := l) (j := i) ?_ (by omega); exact (by repeat (first | exact Sub.nil | refine Sub.cons (by repeat (first | exact Pick.head | apply Pick.tail)) ?_))))
                                            exact WO.nil ⟨rfl, rfl⟩
                                          refine' DT.r rfl rfl rfl ?hq ?_
                                          case hq =>
                                            refine WO.field0 rfl rfl rfl ?_
                                            exact WO.nil ⟨rfl, rfl⟩
                                          refine' DT.b rfl rfl rfl ?hq ?_
                                          case hq =>
                                            refine WO.load rfl rfl (Cell.own Pick.head rfl) rfl ?_
                                            exact WO.nil ⟨rfl, rfl⟩
                                          refine' DT.r rfl rfl rfl ?hq ?_
                                          case hq =>
                                            refine' WO.len (n := _) rfl rfl ?hs rfl ?_
                                            case hs => (first | exact hR.sl)
                                            exact WO.nil ⟨rfl, rfl⟩
                                          refine' DT.r rfl rfl rfl ?hq ?_
                                          case hq =>
                                            refine WO.ar rfl rfl rfl (by (first | (unfold in64; omega) | (unfold in64; omega))) rfl ?_
                                            exact WO.nil ⟨rfl, rfl⟩
                                          refine DT.nil [_, _] rfl ?_
                                          refine WO.p rfl rfl ?_
                                          refine WO.nil ?_
                                          refine W.cond_bl rfl (fun c9 => ?_) (fun c9 => ?_)
                                          · first
                                            | (exfalso; omega)
                                            | (refine W.seq ?_
                                               refine W.sreg ?_
                                               refine WO.p rfl rfl (WO.p rfl rfl (WO.p rfl rfl ?_))
                                               refine WO.guard_b rfl rfl (fun c10 => ?_) (fun c10 => ?_)
                                               · first
                                                 | (exfalso; omega)
                                                 | (refine WO.no rfl rfl (WO.no rfl rfl (WO.no rfl rfl (WO.no rfl rfl (WO.no rfl rfl (WO.no rfl rfl (WO.p rfl rfl ?_))))))
                                                    refine WO.nil ?_
                                                    refine W.cond_t rfl ?_
                                                    refine W.region ?_
                                                    refine WO.p rfl rfl (WO.p rfl rfl ?_)
                                                    refine' WO.indexAddr (n := _) (i := _) rfl rfl rfl ?hs ?h1 rfl ?_
                                                    case hs => (first | exact hL.sl)
                                                    case h1 => (first | omega | (simp; omega))
                                                    refine' WO.load (v := _) rfl rfl ?hc rfl ?_
                                                    case hc => (first | (refine hL.cell0 (i := i) (by omega) 0 ?_; rfl))
                                                    refine WO.p rfl rfl ?_
                                                    refine WO.nil ?_
                                                    refine W.region ?_
                                                    refine WO.p rfl rfl ?_
                                                    refine WO.nil ?_
                                                    refine W.region ?_
                                                    refine WO.p rfl rfl (WO.ar rfl rfl rfl (by (first | (unfold in64; omega) | (unfold in64; omega))) rfl (WO.p rfl rfl ?_))
                                                    refine WO.nil ?_
                                                    refine' ⟨i + 1, _, _, ?hp, ?hmu, ⟨rfl, rfl, rfl, rfl, rfl, rfl, trivial⟩, ?hS⟩
                                                    case hS => repeat (first | exact Sub.nil | refine Sub.cons (by repeat (first | exact Pick.head | apply Pick.tail)) ?_)
                                                    case hp => exact ⟨by omega, by first | exact hbn.skip hl (by omega) (by omega) | exact hbn.take hl hb (by omega) (by omega) (.inr (by assumption)) | exact hbn.take hl hb (by omega) (by omega) (.inl (by have := ‹(!fnd) = true›; simpa using this)) | exact hbn.leave hl (by omega) (by omega) (by have := ‹(!fnd) = false›; simpa using this) (by assumption), fun j hj => by rcases Nat.lt_or_ge j i with g | g; exact hgd j g; obtain rfl : j = i := (by omega); exact hG⟩
                                                    case hmu => omega)
                                               · first
                                                 | (exfalso; omega)
                                                 | (refine WO.pg rfl rfl rfl (WO.pg rfl rfl rfl (WO.go' rfl ?_))
                                                    refine' WO.indexAddr (n := _) (i := _) rfl rfl rfl ?hs ?h1 rfl ?_
                                                    case hs => (first | exact hL.sl)
                                                    case h1 => (first | omega | (simp; omega))
                                                    refine WO.go' rfl ?_
                                                    refine' WO.load (v := _) rfl rfl ?hc rfl ?_
                                                    case hc => (first | (refine hL.cell0 (i := i) (by omega) 0 ?_; rfl))
                                                    refine WO.pg rfl rfl rfl (WO.pg rfl rfl rfl (WO.p rfl rfl ?_))
                                                    refine WO.nil ?_
                                                    refine W.cond_bl rfl (fun c11 => ?_) (fun c11 => ?_)
                                                    · first
                                                      | (exfalso; omega)
                                                      | (refine W.region ?_
                                                         refine WO.p rfl rfl (WO.p rfl rfl ?_)
                                                         refine' WO.indexAddr (n := _) (i := _) rfl rfl rfl ?hs ?h1 rfl ?_
                                                         case hs => (first | exact hL.sl)
                                                         case h1 => (first | omega | (simp; omega))
                                                         refine' WO.load (v := _) rfl rfl ?hc rfl ?_
                                                         case hc => (first | (refine hL.cell0 (i := i) (by omega) 0 ?_; rfl))
                                                         refine WO.p rfl rfl ?_
                                                         refine WO.nil ?_
                                                         refine W.region ?_
                                                         refine WO.p rfl rfl ?_
                                                         refine WO.nil ?_
                                                         refine W.region ?_
                                                         refine WO.p rfl rfl (WO.ar rfl rfl rfl (by (first | (unfold in64; omega) | (unfold in64; omega))) rfl (WO.p rfl rfl ?_))
                                                         refine WO.nil ?_
                                                         refine' ⟨i + 1, _, _, ?hp, ?hmu, ⟨rfl, rfl, rfl, rfl, rfl, rfl, trivial⟩, ?hS⟩
                                                         case hS => repeat (first | exact Sub.nil | refine Sub.cons (by repeat (first | exact Pick.head | apply Pick.tail)) ?_)
                                                         case hp => exact ⟨by omega, by first | exact hbn.skip hl (by omega) (by omega) | exact hbn.take hl hb (by omega) (by omega) (.inr (by assumption)) | exact hbn.take hl hb (by omega) (by omega) (.inl (by have := ‹(!fnd) = true›; simpa using this)) | exact hbn.leave hl (by omega) (by omega) (by have := ‹(!fnd) = false›; simpa using this) (by assumption), fun j hj => by rcases Nat.lt_or_ge j i with g | g; exact hgd j g; obtain rfl : j = i := (by omega); exact hG⟩
                                                         case hmu => omega)
                                                    · first
                                                      | (exfalso; omega)
                                                      | (refine W.skip ?_
                                                         refine W.region ?_
                                                         refine WO.p rfl rfl ?_
                                                         refine WO.nil ?_
                                                         refine W.region ?_
                                                         refine WO.p rfl rfl (WO.ar rfl rfl rfl (by (first | (unfold in64; omega) | (unfold in64; omega))) rfl (WO.p rfl rfl ?_))
                                                         refine WO.nil ?_
                                                         refine' ⟨i + 1, _, _, ?hp, ?hmu, ⟨rfl, rfl, rfl, rfl, rfl, rfl, trivial⟩, ?hS⟩
                                                         case hS => repeat (first | exact Sub.nil | refine Sub.cons (by repeat (first | exact Pick.head | apply Pick.tail)) ?_)
                                                         case hp => exact ⟨by omega, by first | exact hbn.skip hl (by omega) (by omega) | exact hbn.take hl hb (by omega) (by omega) (.inr (by assumption)) | exact hbn.take hl hb (by omega) (by omega) (.inl (by have := ‹(!fnd) = true›; simpa using this)) | exact hbn.leave hl (by omega) (by omega) (by have := ‹(!fnd) = false›; simpa using this) (by assumption), fun j hj => by rcases Nat.lt_or_ge j i with g | g; exact hgd j g; obtain rfl : j = i := (by omega); exact hG⟩
                                                         case hmu => omega)))
                                          · first
                                            | (exfalso; omega)
                                            | (refine W.skip ?_
                                               refine W.region ?_
                                               refine WO.p rfl rfl (WO.ar rfl rfl rfl (by (first | (unfold in64; omega) | (unfold in64; omega))) rfl (WO.p rfl rfl ?_))
                                               refine WO.nil ?_
                                               refine' ⟨i + 1, _, _, ?hp, ?hmu, ⟨rfl, rfl, rfl, rfl, rfl, rfl, trivial⟩, ?hS⟩
                                               case hS => repeat (first | exact Sub.nil | refine Sub.cons (by repeat (first | exact Pick.head | apply Pick.tail)) ?_)
                                               case hp => exact ⟨by omega, by first | exact hbn.skip hl (by omega) (by omega) | exact hbn.take hl hb (by omega) (by omega) (.inr (by assumption)) | exact hbn.take hl hb (by omega) (by omega) (.inl (by have := ‹(!fnd) = true›; simpa using this)) | exact hbn.leave hl (by omega) (by omega) (by have := ‹(!fnd) = false›; simpa using this) (by assumption), fun j hj => by rcases Nat.lt_or_ge j i with g | g; exact hgd j g; obtain rfl : j = i := (by omega); exact hG⟩
                                               case hmu => omega))))
                           · first
                             | (exfalso; omega)
                             | (refine WO.no rfl rfl (WO.no rfl rfl (WO.no rfl rfl (WO.no rfl rfl (WO.no rfl rfl (WO.p rfl rfl ?_)))))
                                refine WO.nil ?_
                                refine W.cond_f rfl ?_
                                refine W.skip ?_
                                refine W.seq ?_
                                have hst : (kAt l i).1 = 1 ∧ (kAt l i).2.2.2 = 0 → labs.getD i 0 = 0 := by intro h; omega
                                refine W.sreg ?_
                                refine WO.p rfl rfl (WO.ar rfl rfl rfl (by (first | (unfold in64; omega) | (unfold in64; omega))) rfl (WO.p rfl rfl ?_))
                                refine WO.nil ?_
                                refine W.block ?_
                                refine W.loop (fun (K : Nat) => i < K ∧ K ≤ (allL l).length ∧ ∀ K', i < K' → K' < K → (ldAt l t i K').isSome = true → labs.getD K' 0 ≤ labs.getD i 0 + (ldAt l t i K').getD 0)
                                  (fun (K : Nat) => [(1, lv), (2, .pointer (some ⟨b1, 0, none⟩)), (6, rv), (8, .int .i64 bnd), (9, .bool fnd), (10, .int .i64 (i : Int)), (11, .int .i64 (K : Int))])
                                  (fun (K : Nat) => [pt b1 (.cells #[v, .int .i64 t] 24 (0, 0)), OwE encRs 87 4 rv (allR l)])
                                  (fun (K : Nat) => (allL l).length - K) (i + 1)
                                  (by exact ⟨by omega, by omega, fun K' h1 h2 => by omega⟩) ⟨rfl, rfl, rfl, rfl, rfl, rfl, rfl, trivial⟩ (by repeat (first | exact Sub.nil | refine Sub.cons (by repeat (first | exact Pick.head | apply Pick.tail)) ?_)) ?_
                                rintro K ⟨hK1, hK2, hKs⟩
                                refine W.seq ?_
                                refine W.seq ?_
                                refine W.drawD 16 [.r 0 [], .r 1 [], .r 2 [], .r 3 [], .r 4 [], .r 5 [], .r 6 [], .r 7 [], .r 8 [], .b 9 [], .r 10 [], .r 11 [], .r 12 [], .r 13 [], .b 14 [], .r 15 []] [] (A0 := []) (Sub.refl _) (by kernel_rfl) ?_ ?_
                                · exact (ALok.r (ALok.r (ALok.r (ALok.r (ALok.r (ALok.r (ALok.r (ALok.r (ALok.r (ALok.b (ALok.r (ALok.r (ALok.r (ALok.r (ALok.b (ALok.r ALok.nil))))))))))))))))
                                refine' DT.r rfl rfl rfl ?hq ?_
                                case hq =>
                                  refine WO.p rfl rfl ?_
                                  exact WO.nil ⟨rfl, rfl⟩
                                refine' DT.r rfl rfl rfl ?hq ?_
                                case hq =>
                                  refine WO.p rfl rfl ?_
                                  exact WO.nil ⟨rfl, rfl⟩
                                refine' DT.r rfl rfl rfl ?hq ?_
                                case hq =>
                                  refine' WO.len (n := _) rfl rfl ?hs rfl ?_
                                  case hs => (first | exact hrv)
                                  exact WO.nil ⟨rfl, rfl⟩
                                refine' DT.r rfl rfl rfl ?hq ?_
                                case hq =>
                                  refine WO.p rfl rfl ?_
                                  exact WO.nil ⟨rfl, rfl⟩
                                refine' DT.rB rfl rfl rfl ?hq (fun c7 => ?_) (fun c7 => ?_)
                                case hq =>
                                  refine WO.p rfl rfl ?_
                                  exact WO.nil ⟨rfl, rfl⟩
                                · first
                                  | (exfalso; omega)
                                  | (refine' DT.r rfl rfl rfl ?hq ?_
                                     case hq =>
                                       refine WO.pg rfl rfl rfl ?_
                                       exact WO.nil ⟨rfl, rfl⟩
                                     refine' DT.r rfl rfl rfl ?hq ?_
                                     case hq =>
                                       refine WO.pg rfl rfl rfl ?_
                                       exact WO.nil ⟨rfl, rfl⟩
                                     refine' DT.r rfl rfl rfl ?hq ?_
                                     case hq =>
                                       refine WO.go' rfl ?_
                                       refine' WO.indexAddr (n := _) (i := _) rfl rfl rfl ?hs ?h1 rfl ?_
                                       case hs => (first | exact hrv)
                                       case h1 => (first | omega | (simp; omega))
                                       exact WO.nil ⟨rfl, rfl⟩
                                     refine' DT.r rfl rfl rfl ?hq ?_
                                     case hq =>
                                       refine WO.go' rfl (WO.field0 rfl rfl rfl ?_)
                                       exact WO.nil ⟨rfl, rfl⟩
                                     refine' DT.b rfl rfl rfl ?hq ?_
                                     case hq =>
                                       refine WO.go' rfl ?_
                                       refine' WO.load (v := _) rfl rfl ?hc rfl ?_
                                       case hc => (first | (refine OwR.c0 (l := l) (j := K) ?_ (by omega); exact (by repeat (first | exact Sub.nil | refine Sub.cons (by repeat (first | exact Pick.head | apply Pick.tail)) ?_))))
                                       exact WO.nil ⟨rfl, rfl⟩
                                     refine' DT.r rfl rfl rfl ?hq ?_
                                     case hq =>
                                       refine WO.pg rfl rfl rfl ?_
                                       exact WO.nil ⟨rfl, rfl⟩
                                     refine' DT.r rfl rfl rfl ?hq ?_
                                     case hq =>
                                       refine WO.pg rfl rfl rfl ?_
                                       exact WO.nil ⟨rfl, rfl⟩
                                     refine' DT.r rfl rfl rfl ?hq ?_
                                     case hq =>
                                       refine WO.go' rfl ?_
                                       refine' WO.indexAddr (n := _) (i := _) rfl rfl rfl ?hs ?h1 rfl ?_
                                       case hs => (first | exact hrv)
                                       case h1 => (first | omega | (simp; omega))
                                       exact WO.nil ⟨rfl, rfl⟩
                                     refine' DT.r rfl rfl rfl ?hq ?_
                                     case hq =>
                                       refine WO.go' rfl (WO.field0 rfl rfl rfl ?_)
                                       exact WO.nil ⟨rfl, rfl⟩
                                     refine' DT.b rfl rfl rfl ?hq ?_
                                     case hq =>
                                       refine WO.go' rfl ?_
                                       refine' WO.load (v := _) rfl rfl ?hc rfl ?_
                                       case hc => (first | (refine OwR.c0 (l := l) (j := i) ?_ (by omega); exact (by repeat (first | exact Sub.nil | refine Sub.cons (by repeat (first | exact Pick.head | apply Pick.tail)) ?_))))
                                       exact WO.nil ⟨rfl, rfl⟩
                                     refine' DT.r rfl rfl rfl ?hq ?_
                                     case hq =>
                                       refine WO.go' rfl (WO.ar rfl rfl rfl (by (first | (unfold in64; omega) | (unfold in64; omega))) rfl ?_)
                                       exact WO.nil ⟨rfl, rfl⟩
                                     refine DT.nil [_, _] rfl ?_
                                     refine WO.pg rfl rfl rfl (WO.p rfl rfl ?_)
                                     refine WO.nil ?_
                                     refine W.cond_bl rfl (fun c8 => ?_) (fun c8 => ?_)
                                     · first
                                       | (exfalso; omega)
                                       | (refine W.skip ?_
                                          refine W.seq ?_
                                          refine W.block ?_
                                          refine W.seq ?_
                                          have hbi := kAt_bd hg hoki
                                          have hbK := kAt_bd hg (kAt_ok (l := l) (i := K) (by omega))
                                          have hss := hoki.2.2.2.2
                                          have hlb := ldAt_bd hg hC (i := i) (K := K) (by omega) (by omega)
                                          refine W.drawD 14 [.b 0 [], .r 1 [], .r 2 [], .r 3 [], .b 4 [], .r 5 [], .r 6 [], .r 7 [], .b 8 [], .b 9 [], .r 10 [], .r 11 [], .r 12 [], .r 13 []] [] (A0 := []) (Sub.refl _) (by kernel_rfl) ?_ ?_
                                          · exact (ALok.b (ALok.r (ALok.r (ALok.r (ALok.b (ALok.r (ALok.r (ALok.r (ALok.b (ALok.b (ALok.r (ALok.r (ALok.r (ALok.r ALok.nil))))))))))))))
                                          refine' DT.b rfl rfl rfl ?hq ?_
                                          case hq =>
                                            refine WO.loadA rfl rfl (Cells.own Pick.head) rfl rfl ?_
                                            exact WO.nil ⟨rfl, rfl⟩
                                          refine' DT.r rfl rfl rfl ?hq ?_
                                          case hq =>
                                            refine WO.p rfl rfl ?_
                                            exact WO.nil ⟨rfl, rfl⟩
                                          refine' DT.r rfl rfl rfl ?hq ?_
                                          case hq =>
                                            refine WO.p rfl rfl ?_
                                            exact WO.nil ⟨rfl, rfl⟩
                                          refine' DT.r rfl rfl rfl ?hq ?_
                                          case hq =>
                                            refine' WO.indexAddr (n := _) (i := _) rfl rfl rfl ?hs ?h1 rfl ?_
                                            case hs => (first | exact hrv)
                                            case h1 => (first | omega | (simp; omega))
                                            exact WO.nil ⟨rfl, rfl⟩
                                          refine' DT.b rfl rfl rfl ?hq ?_
                                          case hq =>
                                            refine' WO.loadA (vs := _) rfl rfl ?hc ?hl rfl ?_
                                            case hc => (first | (refine OwR.cells (l := l) (j := i) ?_ (by omega); exact (by repeat (first | exact Sub.nil | refine Sub.cons (by repeat (first | exact Pick.head | apply Pick.tail)) ?_))))
                                            case hl => rfl
                                            exact WO.nil ⟨rfl, rfl⟩
                                          refine' DT.r rfl rfl rfl ?hq ?_
                                          case hq =>
                                            refine WO.p rfl rfl ?_
                                            exact WO.nil ⟨rfl, rfl⟩
                                          refine' DT.r rfl rfl rfl ?hq ?_
                                          case hq =>
                                            refine WO.p rfl rfl ?_
                                            exact WO.nil ⟨rfl, rfl⟩
                                          refine' DT.r rfl rfl rfl ?hq ?_
                                          case hq =>
                                            refine' WO.indexAddr (n := _) (i := _) rfl rfl rfl ?hs ?h1 rfl ?_
                                            case hs => (first | exact hrv)
                                            case h1 => (first | omega | (simp; omega))
                                            exact WO.nil ⟨rfl, rfl⟩
                                          refine' DT.b rfl rfl rfl ?hq ?_
                                          case hq =>
                                            refine' WO.loadA (vs := _) rfl rfl ?hc ?hl rfl ?_
                                            case hc => (first | (refine OwR.cells (l := l) (j := K) ?_ (by omega); exact (by repeat (first | exact Sub.nil | refine Sub.cons (by repeat (first | exact Pick.head | apply Pick.tail)) ?_))))
                                            case hl => rfl
                                            exact WO.nil ⟨rfl, rfl⟩
                                          refine' DT.b rfl rfl rfl ?hq ?_
                                          case hq =>
                                            refine WO.callR (r := .tuple #[.int .i64 ((ldAt l t i K).getD 0), .bool (bl ((ldAt l t i K).isSome = true))]) rfl Try.call50 (fun L w hi => by rw [bl_isSome]; exact ref_Leads w v t hoc (kAt l i).1 (kAt l K).1 (kAt l i).2.2.2 (kAt l K).2.2.2 (rsK l (kAt l i)).2.1 (rsK l (kAt l i)).2.2.1 (rsK l (kAt l K)).2.1 (rsK l (kAt l K)).2.2.1 hcf.2.1 (by omega) hbi.1 hbi.2 hbK.2 (by omega)) rfl ?_
                                            exact WO.nil ⟨rfl, rfl⟩
                                          refine' DT.r rfl rfl rfl ?hq ?_
                                          case hq =>
                                            refine WO.p rfl rfl ?_
                                            exact WO.nil ⟨rfl, rfl⟩
                                          refine' DT.r rfl rfl rfl ?hq ?_
                                          case hq =>
                                            refine WO.p rfl rfl ?_
                                            exact WO.nil ⟨rfl, rfl⟩
                                          refine' DT.r rfl rfl rfl ?hq ?_
                                          case hq =>
                                            refine WO.p rfl rfl ?_
                                            exact WO.nil ⟨rfl, rfl⟩
                                          refine' DT.r rfl rfl rfl ?hq ?_
                                          case hq =>
                                            refine WO.p rfl rfl ?_
                                            exact WO.nil ⟨rfl, rfl⟩
                                          refine DT.nil [_, _] rfl ?_
                                          refine WO.p rfl rfl ?_
                                          refine WO.nil ?_
                                          refine W.seq ?_
                                          refine W.drawD 12 [.r 0 [], .r 1 [], .r 2 [], .r 3 [], .r 4 [], .b 5 [], .r 6 [], .r 7 [], .r 8 [], .b 9 [], .r 10 [], .r 11 []] [] (A0 := []) (Sub.refl _) (by kernel_rfl) ?_ ?_
                                          · exact (ALok.r (ALok.r (ALok.r (ALok.r (ALok.r (ALok.b (ALok.r (ALok.r (ALok.r (ALok.b (ALok.r (ALok.r ALok.nil))))))))))))
                                          refine' DT.r rfl rfl rfl ?hq ?_
                                          case hq =>
                                            refine WO.p rfl rfl ?_
                                            exact WO.nil ⟨rfl, rfl⟩
                                          refine' DT.rB rfl rfl rfl ?hq (fun c9 => ?_) (fun c9 => ?_)
                                          case hq =>
                                            refine WO.p rfl rfl ?_
                                            exact WO.nil ⟨rfl, rfl⟩
                                          · first
                                            | (exfalso; omega)
                                            | (refine' DT.r rfl rfl rfl ?hq ?_
                                               case hq =>
                                                 refine WO.pg rfl rfl rfl ?_
                                                 exact WO.nil ⟨rfl, rfl⟩
                                               refine' DT.r rfl rfl rfl ?hq ?_
                                               case hq =>
                                                 refine WO.pg rfl rfl rfl ?_
                                                 exact WO.nil ⟨rfl, rfl⟩
                                               refine' DT.r rfl rfl rfl ?hq ?_
                                               case hq =>
                                                 refine WO.go' rfl ?_
                                                 refine' WO.indexAddr (n := _) (i := _) rfl rfl rfl ?hs ?h1 rfl ?_
                                                 case hs => (first | exact hL.sl)
                                                 case h1 => (first | omega | (simp; omega))
                                                 exact WO.nil ⟨rfl, rfl⟩
                                               refine' DT.b rfl rfl rfl ?hq ?_
                                               case hq =>
                                                 refine WO.go' rfl ?_
                                                 refine' WO.load (v := _) rfl rfl ?hc rfl ?_
                                                 case hc => (first | (refine hL.cell0 (i := K) (by omega) 0 ?_; rfl))
                                                 exact WO.nil ⟨rfl, rfl⟩
                                               refine' DT.r rfl rfl rfl ?hq ?_
                                               case hq =>
                                                 refine WO.pg rfl rfl rfl ?_
                                                 exact WO.nil ⟨rfl, rfl⟩
                                               refine' DT.r rfl rfl rfl ?hq ?_
                                               case hq =>
                                                 refine WO.pg rfl rfl rfl ?_
                                                 exact WO.nil ⟨rfl, rfl⟩
                                               refine' DT.r rfl rfl rfl ?hq ?_
                                               case hq =>
                                                 refine WO.go' rfl ?_
                                                 refine' WO.indexAddr (n := _) (i := _) rfl rfl rfl ?hs ?h1 rfl ?_
                                                 case hs => (first | exact hL.sl)
                                                 case h1 => (first | omega | (simp; omega))
                                                 exact WO.nil ⟨rfl, rfl⟩
                                               refine' DT.b rfl rfl rfl ?hq ?_
                                               case hq =>
                                                 refine WO.go' rfl ?_
                                                 refine' WO.load (v := _) rfl rfl ?hc rfl ?_
                                                 case hc => (first | (refine hL.cell0 (i := i) (by omega) 0 ?_; rfl))
                                                 exact WO.nil ⟨rfl, rfl⟩
                                               refine' DT.r rfl rfl rfl ?hq ?_
                                               case hq =>
                                                 refine WO.pg rfl rfl rfl ?_
                                                 exact WO.nil ⟨rfl, rfl⟩
                                               refine' DT.r rfl rfl rfl ?hq ?_
                                               case hq =>
                                                 refine WO.go' rfl (WO.ar rfl rfl rfl (by (first | (unfold in64; omega) | (unfold in64; omega))) rfl ?_)
                                                 exact WO.nil ⟨rfl, rfl⟩
                                               refine DT.nil [_, _] rfl ?_
                                               refine WO.pg rfl rfl rfl (WO.p rfl rfl ?_)
                                               refine WO.nil ?_
                                               refine W.cond_bl rfl (fun c10 => ?_) (fun c10 => ?_)
                                               · first
                                                 | (exfalso; omega)
                                                 | (have hbad : ¬ GdA l t labs i := fun h => by have := h.2 K (by omega) (by omega) (by assumption); omega
                                                    refine W.sreg ?_
                                                    refine WO.p rfl rfl (WO.p rfl rfl ?_)
                                                    refine WO.nil ?_
                                                    refine W.ret ?_
                                                    first | (obtain ⟨e1, e2⟩ := lk0 (labs := labs) (show chkF l t ≠ 0 by assumption); rw [e1, e2]; exact fin.ret (Res.two rfl (RV.tmp rfl) (RV.tmp rfl)) rfl) | (obtain ⟨e1, e2⟩ := lk1 (l := l) (t := t) (labs := labs) (by omega) (by omega); rw [e1, e2]; exact fin.ret (Res.two rfl (RV.tmp rfl) (RV.tmp rfl)) rfl) | (obtain ⟨e1, e2⟩ := lk2 (l := l) (t := t) (labs := labs) (by omega) (by omega) hbad; rw [e1, e2]; exact fin.ret (Res.two rfl (RV.tmp rfl) (RV.tmp rfl)) rfl) | (obtain ⟨e1, e2⟩ := bad_lk (i := i) hg hc0 hl hb (by omega) hbad; rw [e1, e2]; exact fin.ret (Res.two rfl (RV.tmp rfl) (RV.tmp rfl)) rfl) | (obtain ⟨e1, e2⟩ := hbn.fin hg hc0 hl hb hgd; rw [e1, e2]; exact fin.ret (Res.two rfl (RV.tmp rfl) (RV.tmp rfl)) rfl))
                                               · first
                                                 | (exfalso; omega)
                                                 | (refine W.skip ?_
                                                    refine W.region ?_
                                                    refine WO.p rfl rfl (WO.ar rfl rfl rfl (by (first | (unfold in64; omega) | (unfold in64; omega))) rfl (WO.p rfl rfl ?_))
                                                    refine WO.nil ?_
                                                    refine' ⟨K + 1, ?hp, ?hmu, ⟨rfl, rfl, rfl, rfl, rfl, rfl, rfl, trivial⟩, ?hS⟩
                                                    case hS => repeat (first | exact Sub.nil | refine Sub.cons (by repeat (first | exact Pick.head | apply Pick.tail)) ?_)
                                                    case hp => exact ⟨by omega, by omega, fun K' h1 h2 h3 => by rcases Nat.lt_or_ge K' K with g | g; exact hKs K' h1 g h3; obtain rfl : K' = K := (by omega); first | omega | exact absurd h3 (by assumption)⟩
                                                    case hmu => omega))
                                          · first
                                            | (exfalso; omega)
                                            | (refine' DT.r rfl rfl rfl ?hq ?_
                                               case hq =>
                                                 refine WO.no rfl rfl ?_
                                                 exact WO.nil ⟨rfl, rfl⟩
                                               refine' DT.r rfl rfl rfl ?hq ?_
                                               case hq =>
                                                 refine WO.no rfl rfl ?_
                                                 exact WO.nil ⟨rfl, rfl⟩
                                               refine' DT.r rfl rfl rfl ?hq ?_
                                               case hq =>
                                                 refine WO.no rfl rfl ?_
                                                 exact WO.nil ⟨rfl, rfl⟩
                                               refine' DT.b rfl rfl rfl ?hq ?_
                                               case hq =>
                                                 refine WO.no rfl rfl ?_
                                                 exact WO.nil ⟨rfl, rfl⟩
                                               refine' DT.r rfl rfl rfl ?hq ?_
                                               case hq =>
                                                 refine WO.no rfl rfl ?_
                                                 exact WO.nil ⟨rfl, rfl⟩
                                               refine' DT.r rfl rfl rfl ?hq ?_
                                               case hq =>
                                                 refine WO.no rfl rfl ?_
                                                 exact WO.nil ⟨rfl, rfl⟩
                                               refine' DT.r rfl rfl rfl ?hq ?_
                                               case hq =>
                                                 refine WO.no rfl rfl ?_
                                                 exact WO.nil ⟨rfl, rfl⟩
                                               refine' DT.b rfl rfl rfl ?hq ?_
                                               case hq =>
                                                 refine WO.no rfl rfl ?_
                                                 exact WO.nil ⟨rfl, rfl⟩
                                               refine' DT.r rfl rfl rfl ?hq ?_
                                               case hq =>
                                                 refine WO.no rfl rfl ?_
                                                 exact WO.nil ⟨rfl, rfl⟩
                                               refine' DT.r rfl rfl rfl ?hq ?_
                                               case hq =>
                                                 refine WO.no rfl rfl ?_
                                                 exact WO.nil ⟨rfl, rfl⟩
                                               refine DT.nil [_, _] rfl ?_
                                               refine WO.no rfl rfl (WO.p rfl rfl ?_)
                                               refine WO.nil ?_
                                               refine W.cond_f rfl ?_
                                               refine W.skip ?_
                                               refine W.region ?_
                                               refine WO.p rfl rfl (WO.ar rfl rfl rfl (by (first | (unfold in64; omega) | (unfold in64; omega))) rfl (WO.p rfl rfl ?_))
                                               refine WO.nil ?_
                                               refine' ⟨K + 1, ?hp, ?hmu, ⟨rfl, rfl, rfl, rfl, rfl, rfl, rfl, trivial⟩, ?hS⟩
                                               case hS => repeat (first | exact Sub.nil | refine Sub.cons (by repeat (first | exact Pick.head | apply Pick.tail)) ?_)
                                               case hp => exact ⟨by omega, by omega, fun K' h1 h2 h3 => by rcases Nat.lt_or_ge K' K with g | g; exact hKs K' h1 g h3; obtain rfl : K' = K := (by omega); first | omega | exact absurd h3 (by assumption)⟩
                                               case hmu => omega))
                                     · first
                                       | (exfalso; omega)
                                       | (refine W.exit (blk_same ?_)
                                          refine W.seq ?_
                                          have hG : GdA l t labs i := ⟨hst, fun K' h1 h2 h3 => by rcases Nat.lt_or_ge K' K with g | g; exact hKs K' h1 g h3; have h5 := all_mono (kAt_get (l := l) (i := K) (by omega)) (kAt_get (l := l) (i := K') (by omega)) g; have h6 : ldAt l t i K' = none := ld_none1 (.inl (by show (kAt l K').1 ≠ (kAt l i).1 + 1; omega)); rw [h6] at h3; cases h3⟩
                                          refine W.drawD 9 [.r 0 [], .r 1 [], .r 2 [], .r 3 [], .b 4 [], .r 5 [], .b 6 [], .r 7 [], .r 8 []] [] (A0 := []) (Sub.refl _) (by kernel_rfl) ?_ ?_
                                          · exact (ALok.r (ALok.r (ALok.r (ALok.r (ALok.b (ALok.r (ALok.b (ALok.r (ALok.r ALok.nil)))))))))
                                          refine' DT.r rfl rfl rfl ?hq ?_
                                          case hq =>
                                            refine WO.p rfl rfl ?_
                                            exact WO.nil ⟨rfl, rfl⟩
                                          refine' DT.r rfl rfl rfl ?hq ?_
                                          case hq =>
                                            refine WO.p rfl rfl ?_
                                            exact WO.nil ⟨rfl, rfl⟩
                                          refine' DT.r rfl rfl rfl ?hq ?_
                                          case hq =>
                                            refine' WO.indexAddr (n := _) (i := _) rfl rfl rfl ?hs ?h1 rfl ?_
                                            case hs => (first | exact hrv)
                                            case h1 => (first | omega | (simp; omega))
                                            exact WO.nil ⟨rfl, rfl⟩
                                          refine' DT.r rfl rfl rfl ?hq ?_
                                          case hq =>
                                            refine WO.field0 rfl rfl rfl ?_
                                            exact WO.nil ⟨rfl, rfl⟩
                                          refine' DT.b rfl rfl rfl ?hq ?_
                                          case hq =>
                                            refine' WO.load (v := _) rfl rfl ?hc rfl ?_
                                            case hc => (first | (refine OwR.c0 (l := l) (j := i) ?_ (by omega); exact (by repeat (first | exact Sub.nil | refine Sub.cons (by repeat (first | exact Pick.head | apply Pick.tail)) ?_))))
                                            exact WO.nil ⟨rfl, rfl⟩
                                          refine' DT.r rfl rfl rfl ?hq ?_
                                          case hq =>
                                            refine WO.field0 rfl rfl rfl ?_
                                            exact WO.nil ⟨rfl, rfl⟩
                                          refine' DT.b rfl rfl rfl ?hq ?_
                                          case hq =>
                                            refine WO.load rfl rfl (Cell.own Pick.head rfl) rfl ?_
                                            exact WO.nil ⟨rfl, rfl⟩
                                          refine' DT.r rfl rfl rfl ?hq ?_
                                          case hq =>
                                            refine' WO.len (n := _) rfl rfl ?hs rfl ?_
                                            case hs => (first | exact hR.sl)
                                            exact WO.nil ⟨rfl, rfl⟩
                                          refine' DT.r rfl rfl rfl ?hq ?_
                                          case hq =>
                                            refine WO.ar rfl rfl rfl (by (first | (unfold in64; omega) | (unfold in64; omega))) rfl ?_
                                            exact WO.nil ⟨rfl, rfl⟩
                                          refine DT.nil [_, _] rfl ?_
                                          refine WO.p rfl rfl ?_
                                          refine WO.nil ?_
                                          refine W.cond_bl rfl (fun c9 => ?_) (fun c9 => ?_)
                                          · first
                                            | (exfalso; omega)
                                            | (refine W.seq ?_
                                               refine W.sreg ?_
                                               refine WO.p rfl rfl (WO.p rfl rfl (WO.p rfl rfl ?_))
                                               refine WO.guard_b rfl rfl (fun c10 => ?_) (fun c10 => ?_)
                                               · first
                                                 | (exfalso; omega)
                                                 | (refine WO.no rfl rfl (WO.no rfl rfl (WO.no rfl rfl (WO.no rfl rfl (WO.no rfl rfl (WO.no rfl rfl (WO.p rfl rfl ?_))))))
                                                    refine WO.nil ?_
                                                    refine W.cond_t rfl ?_
                                                    refine W.region ?_
                                                    refine WO.p rfl rfl (WO.p rfl rfl ?_)
                                                    refine' WO.indexAddr (n := _) (i := _) rfl rfl rfl ?hs ?h1 rfl ?_
                                                    case hs => (first | exact hL.sl)
                                                    case h1 => (first | omega | (simp; omega))
                                                    refine' WO.load (v := _) rfl rfl ?hc rfl ?_
                                                    case hc => (first | (refine hL.cell0 (i := i) (by omega) 0 ?_; rfl))
                                                    refine WO.p rfl rfl ?_
                                                    refine WO.nil ?_
                                                    refine W.region ?_
                                                    refine WO.p rfl rfl ?_
                                                    refine WO.nil ?_
                                                    refine W.region ?_
                                                    refine WO.p rfl rfl (WO.ar rfl rfl rfl (by (first | (unfold in64; omega) | (unfold in64; omega))) rfl (WO.p rfl rfl ?_))
                                                    refine WO.nil ?_
                                                    refine' ⟨i + 1, _, _, ?hp, ?hmu, ⟨rfl, rfl, rfl, rfl, rfl, rfl, trivial⟩, ?hS⟩
                                                    case hS => repeat (first | exact Sub.nil | refine Sub.cons (by repeat (first | exact Pick.head | apply Pick.tail)) ?_)
                                                    case hp => exact ⟨by omega, by first | exact hbn.skip hl (by omega) (by omega) | exact hbn.take hl hb (by omega) (by omega) (.inr (by assumption)) | exact hbn.take hl hb (by omega) (by omega) (.inl (by have := ‹(!fnd) = true›; simpa using this)) | exact hbn.leave hl (by omega) (by omega) (by have := ‹(!fnd) = false›; simpa using this) (by assumption), fun j hj => by rcases Nat.lt_or_ge j i with g | g; exact hgd j g; obtain rfl : j = i := (by omega); exact hG⟩
                                                    case hmu => omega)
                                               · first
                                                 | (exfalso; omega)
                                                 | (refine WO.pg rfl rfl rfl (WO.pg rfl rfl rfl (WO.go' rfl ?_))
                                                    refine' WO.indexAddr (n := _) (i := _) rfl rfl rfl ?hs ?h1 rfl ?_
                                                    case hs => (first | exact hL.sl)
                                                    case h1 => (first | omega | (simp; omega))
                                                    refine WO.go' rfl ?_
                                                    refine' WO.load (v := _) rfl rfl ?hc rfl ?_
                                                    case hc => (first | (refine hL.cell0 (i := i) (by omega) 0 ?_; rfl))
                                                    refine WO.pg rfl rfl rfl (WO.pg rfl rfl rfl (WO.p rfl rfl ?_))
                                                    refine WO.nil ?_
                                                    refine W.cond_bl rfl (fun c11 => ?_) (fun c11 => ?_)
                                                    · first
                                                      | (exfalso; omega)
                                                      | (refine W.region ?_
                                                         refine WO.p rfl rfl (WO.p rfl rfl ?_)
                                                         refine' WO.indexAddr (n := _) (i := _) rfl rfl rfl ?hs ?h1 rfl ?_
                                                         case hs => (first | exact hL.sl)
                                                         case h1 => (first | omega | (simp; omega))
                                                         refine' WO.load (v := _) rfl rfl ?hc rfl ?_
                                                         case hc => (first | (refine hL.cell0 (i := i) (by omega) 0 ?_; rfl))
                                                         refine WO.p rfl rfl ?_
                                                         refine WO.nil ?_
                                                         refine W.region ?_
                                                         refine WO.p rfl rfl ?_
                                                         refine WO.nil ?_
                                                         refine W.region ?_
                                                         refine WO.p rfl rfl (WO.ar rfl rfl rfl (by (first | (unfold in64; omega) | (unfold in64; omega))) rfl (WO.p rfl rfl ?_))
                                                         refine WO.nil ?_
                                                         refine' ⟨i + 1, _, _, ?hp, ?hmu, ⟨rfl, rfl, rfl, rfl, rfl, rfl, trivial⟩, ?hS⟩
                                                         case hS => repeat (first | exact Sub.nil | refine Sub.cons (by repeat (first | exact Pick.head | apply Pick.tail)) ?_)
                                                         case hp => exact ⟨by omega, by first | exact hbn.skip hl (by omega) (by omega) | exact hbn.take hl hb (by omega) (by omega) (.inr (by assumption)) | exact hbn.take hl hb (by omega) (by omega) (.inl (by have := ‹(!fnd) = true›; simpa using this)) | exact hbn.leave hl (by omega) (by omega) (by have := ‹(!fnd) = false›; simpa using this) (by assumption), fun j hj => by rcases Nat.lt_or_ge j i with g | g; exact hgd j g; obtain rfl : j = i := (by omega); exact hG⟩
                                                         case hmu => omega)
                                                    · first
                                                      | (exfalso; omega)
                                                      | (refine W.skip ?_
                                                         refine W.region ?_
                                                         refine WO.p rfl rfl ?_
                                                         refine WO.nil ?_
                                                         refine W.region ?_
                                                         refine WO.p rfl rfl (WO.ar rfl rfl rfl (by (first | (unfold in64; omega) | (unfold in64; omega))) rfl (WO.p rfl rfl ?_))
                                                         refine WO.nil ?_
                                                         refine' ⟨i + 1, _, _, ?hp, ?hmu, ⟨rfl, rfl, rfl, rfl, rfl, rfl, trivial⟩, ?hS⟩
                                                         case hS => repeat (first | exact Sub.nil | refine Sub.cons (by repeat (first | exact Pick.head | apply Pick.tail)) ?_)
                                                         case hp => exact ⟨by omega, by first | exact hbn.skip hl (by omega) (by omega) | exact hbn.take hl hb (by omega) (by omega) (.inr (by assumption)) | exact hbn.take hl hb (by omega) (by omega) (.inl (by have := ‹(!fnd) = true›; simpa using this)) | exact hbn.leave hl (by omega) (by omega) (by have := ‹(!fnd) = false›; simpa using this) (by assumption), fun j hj => by rcases Nat.lt_or_ge j i with g | g; exact hgd j g; obtain rfl : j = i := (by omega); exact hG⟩
                                                         case hmu => omega)))
                                          · first
                                            | (exfalso; omega)
                                            | (refine W.skip ?_
                                               refine W.region ?_
                                               refine WO.p rfl rfl (WO.ar rfl rfl rfl (by (first | (unfold in64; omega) | (unfold in64; omega))) rfl (WO.p rfl rfl ?_))
                                               refine WO.nil ?_
                                               refine' ⟨i + 1, _, _, ?hp, ?hmu, ⟨rfl, rfl, rfl, rfl, rfl, rfl, trivial⟩, ?hS⟩
                                               case hS => repeat (first | exact Sub.nil | refine Sub.cons (by repeat (first | exact Pick.head | apply Pick.tail)) ?_)
                                               case hp => exact ⟨by omega, by first | exact hbn.skip hl (by omega) (by omega) | exact hbn.take hl hb (by omega) (by omega) (.inr (by assumption)) | exact hbn.take hl hb (by omega) (by omega) (.inl (by have := ‹(!fnd) = true›; simpa using this)) | exact hbn.leave hl (by omega) (by omega) (by have := ‹(!fnd) = false›; simpa using this) (by assumption), fun j hj => by rcases Nat.lt_or_ge j i with g | g; exact hgd j g; obtain rfl : j = i := (by omega); exact hG⟩
                                               case hmu => omega)))
                                · first
                                  | (exfalso; omega)
                                  | (refine' DT.r rfl rfl rfl ?hq ?_
                                     case hq =>
                                       refine WO.no rfl rfl ?_
                                       exact WO.nil ⟨rfl, rfl⟩
                                     refine' DT.r rfl rfl rfl ?hq ?_
                                     case hq =>
                                       refine WO.no rfl rfl ?_
                                       exact WO.nil ⟨rfl, rfl⟩
                                     refine' DT.r rfl rfl rfl ?hq ?_
                                     case hq =>
                                       refine WO.no rfl rfl ?_
                                       exact WO.nil ⟨rfl, rfl⟩
                                     refine' DT.r rfl rfl rfl ?hq ?_
                                     case hq =>
                                       refine WO.no rfl rfl ?_
                                       exact WO.nil ⟨rfl, rfl⟩
                                     refine' DT.b rfl rfl rfl ?hq ?_
                                     case hq =>
                                       refine WO.no rfl rfl ?_
                                       exact WO.nil ⟨rfl, rfl⟩
                                     refine' DT.r rfl rfl rfl ?hq ?_
                                     case hq =>
                                       refine WO.no rfl rfl ?_
                                       exact WO.nil ⟨rfl, rfl⟩
                                     refine' DT.r rfl rfl rfl ?hq ?_
                                     case hq =>
                                       refine WO.no rfl rfl ?_
                                       exact WO.nil ⟨rfl, rfl⟩
                                     refine' DT.r rfl rfl rfl ?hq ?_
                                     case hq =>
                                       refine WO.no rfl rfl ?_
                                       exact WO.nil ⟨rfl, rfl⟩
                                     refine' DT.r rfl rfl rfl ?hq ?_
                                     case hq =>
                                       refine WO.no rfl rfl ?_
                                       exact WO.nil ⟨rfl, rfl⟩
                                     refine' DT.b rfl rfl rfl ?hq ?_
                                     case hq =>
                                       refine WO.no rfl rfl ?_
                                       exact WO.nil ⟨rfl, rfl⟩
                                     refine' DT.r rfl rfl rfl ?hq ?_
                                     case hq =>
                                       refine WO.no rfl rfl ?_
                                       exact WO.nil ⟨rfl, rfl⟩
                                     refine DT.nil [_, _] rfl ?_
                                     refine WO.no rfl rfl (WO.p rfl rfl ?_)
                                     refine WO.nil ?_
                                     refine W.cond_f rfl ?_
                                     refine W.exit (blk_same ?_)
                                     refine W.seq ?_
                                     have hG : GdA l t labs i := ⟨hst, fun K' h1 h2 h3 => by rcases Nat.lt_or_ge K' K with g | g; exact hKs K' h1 g h3; have h5 := all_mono (kAt_get (l := l) (i := K) (by omega)) (kAt_get (l := l) (i := K') (by omega)) g; have h6 : ldAt l t i K' = none := ld_none1 (.inl (by show (kAt l K').1 ≠ (kAt l i).1 + 1; omega)); rw [h6] at h3; cases h3⟩
                                     refine W.drawD 9 [.r 0 [], .r 1 [], .r 2 [], .r 3 [], .b 4 [], .r 5 [], .b 6 [], .r 7 [], .r 8 []] [] (A0 := []) (Sub.refl _) (by kernel_rfl) ?_ ?_
                                     · exact (ALok.r (ALok.r (ALok.r (ALok.r (ALok.b (ALok.r (ALok.b (ALok.r (ALok.r ALok.nil)))))))))
                                     refine' DT.r rfl rfl rfl ?hq ?_
                                     case hq =>
                                       refine WO.p rfl rfl ?_
                                       exact WO.nil ⟨rfl, rfl⟩
                                     refine' DT.r rfl rfl rfl ?hq ?_
                                     case hq =>
                                       refine WO.p rfl rfl ?_
                                       exact WO.nil ⟨rfl, rfl⟩
                                     refine' DT.r rfl rfl rfl ?hq ?_
                                     case hq =>
                                       refine' WO.indexAddr (n := _) (i := _) rfl rfl rfl ?hs ?h1 rfl ?_
                                       case hs => (first | exact hrv)
                                       case h1 => (first | omega | (simp; omega))
                                       exact WO.nil ⟨rfl, rfl⟩
                                     refine' DT.r rfl rfl rfl ?hq ?_
                                     case hq =>
                                       refine WO.field0 rfl rfl rfl ?_
                                       exact WO.nil ⟨rfl, rfl⟩
                                     refine' DT.b rfl rfl rfl ?hq ?_
                                     case hq =>
                                       refine' WO.load (v := _) rfl rfl ?hc rfl ?_
                                       case hc => (first | (refine OwR.c0 (l := l) (j := i) ?_ (by omega); exact (by repeat (first | exact Sub.nil | refine Sub.cons (by repeat (first | exact Pick.head | apply Pick.tail)) ?_))))
                                       exact WO.nil ⟨rfl, rfl⟩
                                     refine' DT.r rfl rfl rfl ?hq ?_
                                     case hq =>
                                       refine WO.field0 rfl rfl rfl ?_
                                       exact WO.nil ⟨rfl, rfl⟩
                                     refine' DT.b rfl rfl rfl ?hq ?_
                                     case hq =>
                                       refine WO.load rfl rfl (Cell.own Pick.head rfl) rfl ?_
                                       exact WO.nil ⟨rfl, rfl⟩
                                     refine' DT.r rfl rfl rfl ?hq ?_
                                     case hq =>
                                       refine' WO.len (n := _) rfl rfl ?hs rfl ?_
                                       case hs => (first | exact hR.sl)
                                       exact WO.nil ⟨rfl, rfl⟩
                                     refine' DT.r rfl rfl rfl ?hq ?_
                                     case hq =>
                                       refine WO.ar rfl rfl rfl (by (first | (unfold in64; omega) | (unfold in64; omega))) rfl ?_
                                       exact WO.nil ⟨rfl, rfl⟩
                                     refine DT.nil [_, _] rfl ?_
                                     refine WO.p rfl rfl ?_
                                     refine WO.nil ?_
                                     refine W.cond_bl rfl (fun c8 => ?_) (fun c8 => ?_)
                                     · first
                                       | (exfalso; omega)
                                       | (refine W.seq ?_
                                          refine W.sreg ?_
                                          refine WO.p rfl rfl (WO.p rfl rfl (WO.p rfl rfl ?_))
                                          refine WO.guard_b rfl rfl (fun c9 => ?_) (fun c9 => ?_)
                                          · first
                                            | (exfalso; omega)
                                            | (refine WO.no rfl rfl (WO.no rfl rfl (WO.no rfl rfl (WO.no rfl rfl (WO.no rfl rfl (WO.no rfl rfl (WO.p rfl rfl ?_))))))
                                               refine WO.nil ?_
                                               refine W.cond_t rfl ?_
                                               refine W.region ?_
                                               refine WO.p rfl rfl (WO.p rfl rfl ?_)
                                               refine' WO.indexAddr (n := _) (i := _) rfl rfl rfl ?hs ?h1 rfl ?_
                                               case hs => (first | exact hL.sl)
                                               case h1 => (first | omega | (simp; omega))
                                               refine' WO.load (v := _) rfl rfl ?hc rfl ?_
                                               case hc => (first | (refine hL.cell0 (i := i) (by omega) 0 ?_; rfl))
                                               refine WO.p rfl rfl ?_
                                               refine WO.nil ?_
                                               refine W.region ?_
                                               refine WO.p rfl rfl ?_
                                               refine WO.nil ?_
                                               refine W.region ?_
                                               refine WO.p rfl rfl (WO.ar rfl rfl rfl (by (first | (unfold in64; omega) | (unfold in64; omega))) rfl (WO.p rfl rfl ?_))
                                               refine WO.nil ?_
                                               refine' ⟨i + 1, _, _, ?hp, ?hmu, ⟨rfl, rfl, rfl, rfl, rfl, rfl, trivial⟩, ?hS⟩
                                               case hS => repeat (first | exact Sub.nil | refine Sub.cons (by repeat (first | exact Pick.head | apply Pick.tail)) ?_)
                                               case hp => exact ⟨by omega, by first | exact hbn.skip hl (by omega) (by omega) | exact hbn.take hl hb (by omega) (by omega) (.inr (by assumption)) | exact hbn.take hl hb (by omega) (by omega) (.inl (by have := ‹(!fnd) = true›; simpa using this)) | exact hbn.leave hl (by omega) (by omega) (by have := ‹(!fnd) = false›; simpa using this) (by assumption), fun j hj => by rcases Nat.lt_or_ge j i with g | g; exact hgd j g; obtain rfl : j = i := (by omega); exact hG⟩
                                               case hmu => omega)
                                          · first
                                            | (exfalso; omega)
                                            | (refine WO.pg rfl rfl rfl (WO.pg rfl rfl rfl (WO.go' rfl ?_))
                                               refine' WO.indexAddr (n := _) (i := _) rfl rfl rfl ?hs ?h1 rfl ?_
                                               case hs => (first | exact hL.sl)
                                               case h1 => (first | omega | (simp; omega))
                                               refine WO.go' rfl ?_
                                               refine' WO.load (v := _) rfl rfl ?hc rfl ?_
                                               case hc => (first | (refine hL.cell0 (i := i) (by omega) 0 ?_; rfl))
                                               refine WO.pg rfl rfl rfl (WO.pg rfl rfl rfl (WO.p rfl rfl ?_))
                                               refine WO.nil ?_
                                               refine W.cond_bl rfl (fun c10 => ?_) (fun c10 => ?_)
                                               · first
                                                 | (exfalso; omega)
                                                 | (refine W.region ?_
                                                    refine WO.p rfl rfl (WO.p rfl rfl ?_)
                                                    refine' WO.indexAddr (n := _) (i := _) rfl rfl rfl ?hs ?h1 rfl ?_
                                                    case hs => (first | exact hL.sl)
                                                    case h1 => (first | omega | (simp; omega))
                                                    refine' WO.load (v := _) rfl rfl ?hc rfl ?_
                                                    case hc => (first | (refine hL.cell0 (i := i) (by omega) 0 ?_; rfl))
                                                    refine WO.p rfl rfl ?_
                                                    refine WO.nil ?_
                                                    refine W.region ?_
                                                    refine WO.p rfl rfl ?_
                                                    refine WO.nil ?_
                                                    refine W.region ?_
                                                    refine WO.p rfl rfl (WO.ar rfl rfl rfl (by (first | (unfold in64; omega) | (unfold in64; omega))) rfl (WO.p rfl rfl ?_))
                                                    refine WO.nil ?_
                                                    refine' ⟨i + 1, _, _, ?hp, ?hmu, ⟨rfl, rfl, rfl, rfl, rfl, rfl, trivial⟩, ?hS⟩
                                                    case hS => repeat (first | exact Sub.nil | refine Sub.cons (by repeat (first | exact Pick.head | apply Pick.tail)) ?_)
                                                    case hp => exact ⟨by omega, by first | exact hbn.skip hl (by omega) (by omega) | exact hbn.take hl hb (by omega) (by omega) (.inr (by assumption)) | exact hbn.take hl hb (by omega) (by omega) (.inl (by have := ‹(!fnd) = true›; simpa using this)) | exact hbn.leave hl (by omega) (by omega) (by have := ‹(!fnd) = false›; simpa using this) (by assumption), fun j hj => by rcases Nat.lt_or_ge j i with g | g; exact hgd j g; obtain rfl : j = i := (by omega); exact hG⟩
                                                    case hmu => omega)
                                               · first
                                                 | (exfalso; omega)
                                                 | (refine W.skip ?_
                                                    refine W.region ?_
                                                    refine WO.p rfl rfl ?_
                                                    refine WO.nil ?_
                                                    refine W.region ?_
                                                    refine WO.p rfl rfl (WO.ar rfl rfl rfl (by (first | (unfold in64; omega) | (unfold in64; omega))) rfl (WO.p rfl rfl ?_))
                                                    refine WO.nil ?_
                                                    refine' ⟨i + 1, _, _, ?hp, ?hmu, ⟨rfl, rfl, rfl, rfl, rfl, rfl, trivial⟩, ?hS⟩
                                                    case hS => repeat (first | exact Sub.nil | refine Sub.cons (by repeat (first | exact Pick.head | apply Pick.tail)) ?_)
                                                    case hp => exact ⟨by omega, by first | exact hbn.skip hl (by omega) (by omega) | exact hbn.take hl hb (by omega) (by omega) (.inr (by assumption)) | exact hbn.take hl hb (by omega) (by omega) (.inl (by have := ‹(!fnd) = true›; simpa using this)) | exact hbn.leave hl (by omega) (by omega) (by have := ‹(!fnd) = false›; simpa using this) (by assumption), fun j hj => by rcases Nat.lt_or_ge j i with g | g; exact hgd j g; obtain rfl : j = i := (by omega); exact hG⟩
                                                    case hmu => omega)))
                                     · first
                                       | (exfalso; omega)
                                       | (refine W.skip ?_
                                          refine W.region ?_
                                          refine WO.p rfl rfl (WO.ar rfl rfl rfl (by (first | (unfold in64; omega) | (unfold in64; omega))) rfl (WO.p rfl rfl ?_))
                                          refine WO.nil ?_
                                          refine' ⟨i + 1, _, _, ?hp, ?hmu, ⟨rfl, rfl, rfl, rfl, rfl, rfl, trivial⟩, ?hS⟩
                                          case hS => repeat (first | exact Sub.nil | refine Sub.cons (by repeat (first | exact Pick.head | apply Pick.tail)) ?_)
                                          case hp => exact ⟨by omega, by first | exact hbn.skip hl (by omega) (by omega) | exact hbn.take hl hb (by omega) (by omega) (.inr (by assumption)) | exact hbn.take hl hb (by omega) (by omega) (.inl (by have := ‹(!fnd) = true›; simpa using this)) | exact hbn.leave hl (by omega) (by omega) (by have := ‹(!fnd) = false›; simpa using this) (by assumption), fun j hj => by rcases Nat.lt_or_ge j i with g | g; exact hgd j g; obtain rfl : j = i := (by omega); exact hG⟩
                                          case hmu => omega))))
                      · first
                        | (exfalso; omega)
                        | (refine WO.no rfl rfl (WO.no rfl rfl (WO.no rfl rfl (WO.no rfl rfl (WO.no rfl rfl (WO.no rfl rfl (WO.p rfl rfl (WO.p rfl rfl (WO.no rfl rfl (WO.no rfl rfl (WO.no rfl rfl (WO.no rfl rfl ?_)))))))))))
                           refine WO.no rfl rfl (WO.p rfl rfl ?_)
                           refine WO.nil ?_
                           refine W.cond_f rfl ?_
                           refine W.skip ?_
                           refine W.seq ?_
                           have hst : (kAt l i).1 = 1 ∧ (kAt l i).2.2.2 = 0 → labs.getD i 0 = 0 := by intro h; omega
                           refine W.sreg ?_
                           refine WO.p rfl rfl (WO.ar rfl rfl rfl (by (first | (unfold in64; omega) | (unfold in64; omega))) rfl (WO.p rfl rfl ?_))
                           refine WO.nil ?_
                           refine W.block ?_
                           refine W.loop (fun (K : Nat) => i < K ∧ K ≤ (allL l).length ∧ ∀ K', i < K' → K' < K → (ldAt l t i K').isSome = true → labs.getD K' 0 ≤ labs.getD i 0 + (ldAt l t i K').getD 0)
                             (fun (K : Nat) => [(1, lv), (2, .pointer (some ⟨b1, 0, none⟩)), (6, rv), (8, .int .i64 bnd), (9, .bool fnd), (10, .int .i64 (i : Int)), (11, .int .i64 (K : Int))])
                             (fun (K : Nat) => [pt b1 (.cells #[v, .int .i64 t] 24 (0, 0)), OwE encRs 87 4 rv (allR l)])
                             (fun (K : Nat) => (allL l).length - K) (i + 1)
                             (by exact ⟨by omega, by omega, fun K' h1 h2 => by omega⟩) ⟨rfl, rfl, rfl, rfl, rfl, rfl, rfl, trivial⟩ (by repeat (first | exact Sub.nil | refine Sub.cons (by repeat (first | exact Pick.head | apply Pick.tail)) ?_)) ?_
                           rintro K ⟨hK1, hK2, hKs⟩
                           refine W.seq ?_
                           refine W.seq ?_
                           refine W.drawD 16 [.r 0 [], .r 1 [], .r 2 [], .r 3 [], .r 4 [], .r 5 [], .r 6 [], .r 7 [], .r 8 [], .b 9 [], .r 10 [], .r 11 [], .r 12 [], .r 13 [], .b 14 [], .r 15 []] [] (A0 := []) (Sub.refl _) (by kernel_rfl) ?_ ?_
                           · exact (ALok.r (ALok.r (ALok.r (ALok.r (ALok.r (ALok.r (ALok.r (ALok.r (ALok.r (ALok.b (ALok.r (ALok.r (ALok.r (ALok.r (ALok.b (ALok.r ALok.nil))))))))))))))))
                           refine' DT.r rfl rfl rfl ?hq ?_
                           case hq =>
                             refine WO.p rfl rfl ?_
                             exact WO.nil ⟨rfl, rfl⟩
                           refine' DT.r rfl rfl rfl ?hq ?_
                           case hq =>
                             refine WO.p rfl rfl ?_
                             exact WO.nil ⟨rfl, rfl⟩
                           refine' DT.r rfl rfl rfl ?hq ?_
                           case hq =>
                             refine' WO.len (n := _) rfl rfl ?hs rfl ?_
                             case hs => (first | exact hrv)
                             exact WO.nil ⟨rfl, rfl⟩
                           refine' DT.r rfl rfl rfl ?hq ?_
                           case hq =>
                             refine WO.p rfl rfl ?_
                             exact WO.nil ⟨rfl, rfl⟩
                           refine' DT.rB rfl rfl rfl ?hq (fun c6 => ?_) (fun c6 => ?_)
                           case hq =>
                             refine WO.p rfl rfl ?_
                             exact WO.nil ⟨rfl, rfl⟩
                           · first
                             | (exfalso; omega)
                             | (refine' DT.r rfl rfl rfl ?hq ?_
                                case hq =>
                                  refine WO.pg rfl rfl rfl ?_
                                  exact WO.nil ⟨rfl, rfl⟩
                                refine' DT.r rfl rfl rfl ?hq ?_
                                case hq =>
                                  refine WO.pg rfl rfl rfl ?_
                                  exact WO.nil ⟨rfl, rfl⟩
                                refine' DT.r rfl rfl rfl ?hq ?_
                                case hq =>
                                  refine WO.go' rfl ?_
                                  refine' WO.indexAddr (n := _) (i := _) rfl rfl rfl ?hs ?h1 rfl ?_
                                  case hs => (first | exact hrv)
                                  case h1 => (first | omega | (simp; omega))
                                  exact WO.nil ⟨rfl, rfl⟩
                                refine' DT.r rfl rfl rfl ?hq ?_
                                case hq =>
                                  refine WO.go' rfl (WO.field0 rfl rfl rfl ?_)
                                  exact WO.nil ⟨rfl, rfl⟩
                                refine' DT.b rfl rfl rfl ?hq ?_
                                case hq =>
                                  refine WO.go' rfl ?_
                                  refine' WO.load (v := _) rfl rfl ?hc rfl ?_
                                  case hc => (first | (refine OwR.c0 (l := l) (j := K) ?_ (by omega); exact (by repeat (first | exact Sub.nil | refine Sub.cons (by repeat (first | exact Pick.head | apply Pick.tail)) ?_))))
                                  exact WO.nil ⟨rfl, rfl⟩
                                refine' DT.r rfl rfl rfl ?hq ?_
                                case hq =>
                                  refine WO.pg rfl rfl rfl ?_
                                  exact WO.nil ⟨rfl, rfl⟩
                                refine' DT.r rfl rfl rfl ?hq ?_
                                case hq =>
                                  refine WO.pg rfl rfl rfl ?_
                                  exact WO.nil ⟨rfl, rfl⟩
                                refine' DT.r rfl rfl rfl ?hq ?_
                                case hq =>
                                  refine WO.go' rfl ?_
                                  refine' WO.indexAddr (n := _) (i := _) rfl rfl rfl ?hs ?h1 rfl ?_
                                  case hs => (first | exact hrv)
                                  case h1 => (first | omega | (simp; omega))
                                  exact WO.nil ⟨rfl, rfl⟩
                                refine' DT.r rfl rfl rfl ?hq ?_
                                case hq =>
                                  refine WO.go' rfl (WO.field0 rfl rfl rfl ?_)
                                  exact WO.nil ⟨rfl, rfl⟩
                                refine' DT.b rfl rfl rfl ?hq ?_
                                case hq =>
                                  refine WO.go' rfl ?_
                                  refine' WO.load (v := _) rfl rfl ?hc rfl ?_
                                  case hc => (first | (refine OwR.c0 (l := l) (j := i) ?_ (by omega); exact (by repeat (first | exact Sub.nil | refine Sub.cons (by repeat (first | exact Pick.head | apply Pick.tail)) ?_))))
                                  exact WO.nil ⟨rfl, rfl⟩
                                refine' DT.r rfl rfl rfl ?hq ?_
                                case hq =>
                                  refine WO.go' rfl (WO.ar rfl rfl rfl (by (first | (unfold in64; omega) | (unfold in64; omega))) rfl ?_)
                                  exact WO.nil ⟨rfl, rfl⟩
                                refine DT.nil [_, _] rfl ?_
                                refine WO.pg rfl rfl rfl (WO.p rfl rfl ?_)
                                refine WO.nil ?_
                                refine W.cond_bl rfl (fun c7 => ?_) (fun c7 => ?_)
                                · first
                                  | (exfalso; omega)
                                  | (refine W.skip ?_
                                     refine W.seq ?_
                                     refine W.block ?_
                                     refine W.seq ?_
                                     have hbi := kAt_bd hg hoki
                                     have hbK := kAt_bd hg (kAt_ok (l := l) (i := K) (by omega))
                                     have hss := hoki.2.2.2.2
                                     have hlb := ldAt_bd hg hC (i := i) (K := K) (by omega) (by omega)
                                     refine W.drawD 14 [.b 0 [], .r 1 [], .r 2 [], .r 3 [], .b 4 [], .r 5 [], .r 6 [], .r 7 [], .b 8 [], .b 9 [], .r 10 [], .r 11 [], .r 12 [], .r 13 []] [] (A0 := []) (Sub.refl _) (by kernel_rfl) ?_ ?_
                                     · exact (ALok.b (ALok.r (ALok.r (ALok.r (ALok.b (ALok.r (ALok.r (ALok.r (ALok.b (ALok.b (ALok.r (ALok.r (ALok.r (ALok.r ALok.nil))))))))))))))
                                     refine' DT.b rfl rfl rfl ?hq ?_
                                     case hq =>
                                       refine WO.loadA rfl rfl (Cells.own Pick.head) rfl rfl ?_
                                       exact WO.nil ⟨rfl, rfl⟩
                                     refine' DT.r rfl rfl rfl ?hq ?_
                                     case hq =>
                                       refine WO.p rfl rfl ?_
                                       exact WO.nil ⟨rfl, rfl⟩
                                     refine' DT.r rfl rfl rfl ?hq ?_
                                     case hq =>
                                       refine WO.p rfl rfl ?_
                                       exact WO.nil ⟨rfl, rfl⟩
                                     refine' DT.r rfl rfl rfl ?hq ?_
                                     case hq =>
                                       refine' WO.indexAddr (n := _) (i := _) rfl rfl rfl ?hs ?h1 rfl ?_
                                       case hs => (first | exact hrv)
                                       case h1 => (first | omega | (simp; omega))
                                       exact WO.nil ⟨rfl, rfl⟩
                                     refine' DT.b rfl rfl rfl ?hq ?_
                                     case hq =>
                                       refine' WO.loadA (vs := _) rfl rfl ?hc ?hl rfl ?_
                                       case hc => (first | (refine OwR.cells (l := l) (j := i) ?_ (by omega); exact (by repeat (first | exact Sub.nil | refine Sub.cons (by repeat (first | exact Pick.head | apply Pick.tail)) ?_))))
                                       case hl => rfl
                                       exact WO.nil ⟨rfl, rfl⟩
                                     refine' DT.r rfl rfl rfl ?hq ?_
                                     case hq =>
                                       refine WO.p rfl rfl ?_
                                       exact WO.nil ⟨rfl, rfl⟩
                                     refine' DT.r rfl rfl rfl ?hq ?_
                                     case hq =>
                                       refine WO.p rfl rfl ?_
                                       exact WO.nil ⟨rfl, rfl⟩
                                     refine' DT.r rfl rfl rfl ?hq ?_
                                     case hq =>
                                       refine' WO.indexAddr (n := _) (i := _) rfl rfl rfl ?hs ?h1 rfl ?_
                                       case hs => (first | exact hrv)
                                       case h1 => (first | omega | (simp; omega))
                                       exact WO.nil ⟨rfl, rfl⟩
                                     refine' DT.b rfl rfl rfl ?hq ?_
                                     case hq =>
                                       refine' WO.loadA (vs := _) rfl rfl ?hc ?hl rfl ?_
                                       case hc => (first | (refine OwR.cells (l := l) (j := K) ?_ (by omega); exact (by repeat (first | exact Sub.nil | refine Sub.cons (by repeat (first | exact Pick.head | apply Pick.tail)) ?_))))
                                       case hl => rfl
                                       exact WO.nil ⟨rfl, rfl⟩
                                     refine' DT.b rfl rfl rfl ?hq ?_
                                     case hq =>
                                       refine WO.callR (r := .tuple #[.int .i64 ((ldAt l t i K).getD 0), .bool (bl ((ldAt l t i K).isSome = true))]) rfl Try.call50 (fun L w hi => by rw [bl_isSome]; exact ref_Leads w v t hoc (kAt l i).1 (kAt l K).1 (kAt l i).2.2.2 (kAt l K).2.2.2 (rsK l (kAt l i)).2.1 (rsK l (kAt l i)).2.2.1 (rsK l (kAt l K)).2.1 (rsK l (kAt l K)).2.2.1 hcf.2.1 (by omega) hbi.1 hbi.2 hbK.2 (by omega)) rfl ?_
                                       exact WO.nil ⟨rfl, rfl⟩
                                     refine' DT.r rfl rfl rfl ?hq ?_
                                     case hq =>
                                       refine WO.p rfl rfl ?_
                                       exact WO.nil ⟨rfl, rfl⟩
                                     refine' DT.r rfl rfl rfl ?hq ?_
                                     case hq =>
                                       refine WO.p rfl rfl ?_
                                       exact WO.nil ⟨rfl, rfl⟩
                                     refine' DT.r rfl rfl rfl ?hq ?_
                                     case hq =>
                                       refine WO.p rfl rfl ?_
                                       exact WO.nil ⟨rfl, rfl⟩
                                     refine' DT.r rfl rfl rfl ?hq ?_
                                     case hq =>
                                       refine WO.p rfl rfl ?_
                                       exact WO.nil ⟨rfl, rfl⟩
                                     refine DT.nil [_, _] rfl ?_
                                     refine WO.p rfl rfl ?_
                                     refine WO.nil ?_
                                     refine W.seq ?_
                                     refine W.drawD 12 [.r 0 [], .r 1 [], .r 2 [], .r 3 [], .r 4 [], .b 5 [], .r 6 [], .r 7 [], .r 8 [], .b 9 [], .r 10 [], .r 11 []] [] (A0 := []) (Sub.refl _) (by kernel_rfl) ?_ ?_
                                     · exact (ALok.r (ALok.r (ALok.r (ALok.r (ALok.r (ALok.b (ALok.r (ALok.r (ALok.r (ALok.b (ALok.r (ALok.r ALok.nil))))))))))))
                                     refine' DT.r rfl rfl rfl ?hq ?_
                                     case hq =>
                                       refine WO.p rfl rfl ?_
                                       exact WO.nil ⟨rfl, rfl⟩
                                     refine' DT.rB rfl rfl rfl ?hq (fun c8 => ?_) (fun c8 => ?_)
                                     case hq =>
                                       refine WO.p rfl rfl ?_
                                       exact WO.nil ⟨rfl, rfl⟩
                                     · first
                                       | (exfalso; omega)
                                       | (refine' DT.r rfl rfl rfl ?hq ?_
                                          case hq =>
                                            refine WO.pg rfl rfl rfl ?_
                                            exact WO.nil ⟨rfl, rfl⟩
                                          refine' DT.r rfl rfl rfl ?hq ?_
                                          case hq =>
                                            refine WO.pg rfl rfl rfl ?_
                                            exact WO.nil ⟨rfl, rfl⟩
                                          refine' DT.r rfl rfl rfl ?hq ?_
                                          case hq =>
                                            refine WO.go' rfl ?_
                                            refine' WO.indexAddr (n := _) (i := _) rfl rfl rfl ?hs ?h1 rfl ?_
                                            case hs => (first | exact hL.sl)
                                            case h1 => (first | omega | (simp; omega))
                                            exact WO.nil ⟨rfl, rfl⟩
                                          refine' DT.b rfl rfl rfl ?hq ?_
                                          case hq =>
                                            refine WO.go' rfl ?_
                                            refine' WO.load (v := _) rfl rfl ?hc rfl ?_
                                            case hc => (first | (refine hL.cell0 (i := K) (by omega) 0 ?_; rfl))
                                            exact WO.nil ⟨rfl, rfl⟩
                                          refine' DT.r rfl rfl rfl ?hq ?_
                                          case hq =>
                                            refine WO.pg rfl rfl rfl ?_
                                            exact WO.nil ⟨rfl, rfl⟩
                                          refine' DT.r rfl rfl rfl ?hq ?_
                                          case hq =>
                                            refine WO.pg rfl rfl rfl ?_
                                            exact WO.nil ⟨rfl, rfl⟩
                                          refine' DT.r rfl rfl rfl ?hq ?_
                                          case hq =>
                                            refine WO.go' rfl ?_
                                            refine' WO.indexAddr (n := _) (i := _) rfl rfl rfl ?hs ?h1 rfl ?_
                                            case hs => (first | exact hL.sl)
                                            case h1 => (first | omega | (simp; omega))
                                            exact WO.nil ⟨rfl, rfl⟩
                                          refine' DT.b rfl rfl rfl ?hq ?_
                                          case hq =>
                                            refine WO.go' rfl ?_
                                            refine' WO.load (v := _) rfl rfl ?hc rfl ?_
                                            case hc => (first | (refine hL.cell0 (i := i) (by omega) 0 ?_; rfl))
                                            exact WO.nil ⟨rfl, rfl⟩
                                          refine' DT.r rfl rfl rfl ?hq ?_
                                          case hq =>
                                            refine WO.pg rfl rfl rfl ?_
                                            exact WO.nil ⟨rfl, rfl⟩
                                          refine' DT.r rfl rfl rfl ?hq ?_
                                          case hq =>
                                            refine WO.go' rfl (WO.ar rfl rfl rfl (by (first | (unfold in64; omega) | (unfold in64; omega))) rfl ?_)
                                            exact WO.nil ⟨rfl, rfl⟩
                                          refine DT.nil [_, _] rfl ?_
                                          refine WO.pg rfl rfl rfl (WO.p rfl rfl ?_)
                                          refine WO.nil ?_
                                          refine W.cond_bl rfl (fun c9 => ?_) (fun c9 => ?_)
                                          · first
                                            | (exfalso; omega)
                                            | (have hbad : ¬ GdA l t labs i := fun h => by have := h.2 K (by omega) (by omega) (by assumption); omega
                                               refine W.sreg ?_
                                               refine WO.p rfl rfl (WO.p rfl rfl ?_)
                                               refine WO.nil ?_
                                               refine W.ret ?_
                                               first | (obtain ⟨e1, e2⟩ := lk0 (labs := labs) (show chkF l t ≠ 0 by assumption); rw [e1, e2]; exact fin.ret (Res.two rfl (RV.tmp rfl) (RV.tmp rfl)) rfl) | (obtain ⟨e1, e2⟩ := lk1 (l := l) (t := t) (labs := labs) (by omega) (by omega); rw [e1, e2]; exact fin.ret (Res.two rfl (RV.tmp rfl) (RV.tmp rfl)) rfl) | (obtain ⟨e1, e2⟩ := lk2 (l := l) (t := t) (labs := labs) (by omega) (by omega) hbad; rw [e1, e2]; exact fin.ret (Res.two rfl (RV.tmp rfl) (RV.tmp rfl)) rfl) | (obtain ⟨e1, e2⟩ := bad_lk (i := i) hg hc0 hl hb (by omega) hbad; rw [e1, e2]; exact fin.ret (Res.two rfl (RV.tmp rfl) (RV.tmp rfl)) rfl) | (obtain ⟨e1, e2⟩ := hbn.fin hg hc0 hl hb hgd; rw [e1, e2]; exact fin.ret (Res.two rfl (RV.tmp rfl) (RV.tmp rfl)) rfl))
                                          · first
                                            | (exfalso; omega)
                                            | (refine W.skip ?_
                                               refine W.region ?_
                                               refine WO.p rfl rfl (WO.ar rfl rfl rfl (by (first | (unfold in64; omega) | (unfold in64; omega))) rfl (WO.p rfl rfl ?_))
                                               refine WO.nil ?_
                                               refine' ⟨K + 1, ?hp, ?hmu, ⟨rfl, rfl, rfl, rfl, rfl, rfl, rfl, trivial⟩, ?hS⟩
                                               case hS => repeat (first | exact Sub.nil | refine Sub.cons (by repeat (first | exact Pick.head | apply Pick.tail)) ?_)
                                               case hp => exact ⟨by omega, by omega, fun K' h1 h2 h3 => by rcases Nat.lt_or_ge K' K with g | g; exact hKs K' h1 g h3; obtain rfl : K' = K := (by omega); first | omega | exact absurd h3 (by assumption)⟩
                                               case hmu => omega))
                                     · first
                                       | (exfalso; omega)
                                       | (refine' DT.r rfl rfl rfl ?hq ?_
                                          case hq =>
                                            refine WO.no rfl rfl ?_
                                            exact WO.nil ⟨rfl, rfl⟩
                                          refine' DT.r rfl rfl rfl ?hq ?_
                                          case hq =>
                                            refine WO.no rfl rfl ?_
                                            exact WO.nil ⟨rfl, rfl⟩
                                          refine' DT.r rfl rfl rfl ?hq ?_
                                          case hq =>
                                            refine WO.no rfl rfl ?_
                                            exact WO.nil ⟨rfl, rfl⟩
                                          refine' DT.b rfl rfl rfl ?hq ?_
                                          case hq =>
                                            refine WO.no rfl rfl ?_
                                            exact WO.nil ⟨rfl, rfl⟩
                                          refine' DT.r rfl rfl rfl ?hq ?_
                                          case hq =>
                                            refine WO.no rfl rfl ?_
                                            exact WO.nil ⟨rfl, rfl⟩
                                          refine' DT.r rfl rfl rfl ?hq ?_
                                          case hq =>
                                            refine WO.no rfl rfl ?_
                                            exact WO.nil ⟨rfl, rfl⟩
                                          refine' DT.r rfl rfl rfl ?hq ?_
                                          case hq =>
                                            refine WO.no rfl rfl ?_
                                            exact WO.nil ⟨rfl, rfl⟩
                                          refine' DT.b rfl rfl rfl ?hq ?_
                                          case hq =>
                                            refine WO.no rfl rfl ?_
                                            exact WO.nil ⟨rfl, rfl⟩
                                          refine' DT.r rfl rfl rfl ?hq ?_
                                          case hq =>
                                            refine WO.no rfl rfl ?_
                                            exact WO.nil ⟨rfl, rfl⟩
                                          refine' DT.r rfl rfl rfl ?hq ?_
                                          case hq =>
                                            refine WO.no rfl rfl ?_
                                            exact WO.nil ⟨rfl, rfl⟩
                                          refine DT.nil [_, _] rfl ?_
                                          refine WO.no rfl rfl (WO.p rfl rfl ?_)
                                          refine WO.nil ?_
                                          refine W.cond_f rfl ?_
                                          refine W.skip ?_
                                          refine W.region ?_
                                          refine WO.p rfl rfl (WO.ar rfl rfl rfl (by (first | (unfold in64; omega) | (unfold in64; omega))) rfl (WO.p rfl rfl ?_))
                                          refine WO.nil ?_
                                          refine' ⟨K + 1, ?hp, ?hmu, ⟨rfl, rfl, rfl, rfl, rfl, rfl, rfl, trivial⟩, ?hS⟩
                                          case hS => repeat (first | exact Sub.nil | refine Sub.cons (by repeat (first | exact Pick.head | apply Pick.tail)) ?_)
                                          case hp => exact ⟨by omega, by omega, fun K' h1 h2 h3 => by rcases Nat.lt_or_ge K' K with g | g; exact hKs K' h1 g h3; obtain rfl : K' = K := (by omega); first | omega | exact absurd h3 (by assumption)⟩
                                          case hmu => omega))
                                · first
                                  | (exfalso; omega)
                                  | (refine W.exit (blk_same ?_)
                                     refine W.seq ?_
                                     have hG : GdA l t labs i := ⟨hst, fun K' h1 h2 h3 => by rcases Nat.lt_or_ge K' K with g | g; exact hKs K' h1 g h3; have h5 := all_mono (kAt_get (l := l) (i := K) (by omega)) (kAt_get (l := l) (i := K') (by omega)) g; have h6 : ldAt l t i K' = none := ld_none1 (.inl (by show (kAt l K').1 ≠ (kAt l i).1 + 1; omega)); rw [h6] at h3; cases h3⟩
                                     refine W.drawD 9 [.r 0 [], .r 1 [], .r 2 [], .r 3 [], .b 4 [], .r 5 [], .b 6 [], .r 7 [], .r 8 []] [] (A0 := []) (Sub.refl _) (by kernel_rfl) ?_ ?_
                                     · exact (ALok.r (ALok.r (ALok.r (ALok.r (ALok.b (ALok.r (ALok.b (ALok.r (ALok.r ALok.nil)))))))))
                                     refine' DT.r rfl rfl rfl ?hq ?_
                                     case hq =>
                                       refine WO.p rfl rfl ?_
                                       exact WO.nil ⟨rfl, rfl⟩
                                     refine' DT.r rfl rfl rfl ?hq ?_
                                     case hq =>
                                       refine WO.p rfl rfl ?_
                                       exact WO.nil ⟨rfl, rfl⟩
                                     refine' DT.r rfl rfl rfl ?hq ?_
                                     case hq =>
                                       refine' WO.indexAddr (n := _) (i := _) rfl rfl rfl ?hs ?h1 rfl ?_
                                       case hs => (first | exact hrv)
                                       case h1 => (first | omega | (simp; omega))
                                       exact WO.nil ⟨rfl, rfl⟩
                                     refine' DT.r rfl rfl rfl ?hq ?_
                                     case hq =>
                                       refine WO.field0 rfl rfl rfl ?_
                                       exact WO.nil ⟨rfl, rfl⟩
                                     refine' DT.b rfl rfl rfl ?hq ?_
                                     case hq =>
                                       refine' WO.load (v := _) rfl rfl ?hc rfl ?_
                                       case hc => (first | (refine OwR.c0 (l := l) (j := i) ?_ (by omega); exact (by repeat (first | exact Sub.nil | refine Sub.cons (by repeat (first | exact Pick.head | apply Pick.tail)) ?_))))
                                       exact WO.nil ⟨rfl, rfl⟩
                                     refine' DT.r rfl rfl rfl ?hq ?_
                                     case hq =>
                                       refine WO.field0 rfl rfl rfl ?_
                                       exact WO.nil ⟨rfl, rfl⟩
                                     refine' DT.b rfl rfl rfl ?hq ?_
                                     case hq =>
                                       refine WO.load rfl rfl (Cell.own Pick.head rfl) rfl ?_
                                       exact WO.nil ⟨rfl, rfl⟩
                                     refine' DT.r rfl rfl rfl ?hq ?_
                                     case hq =>
                                       refine' WO.len (n := _) rfl rfl ?hs rfl ?_
                                       case hs => (first | exact hR.sl)
                                       exact WO.nil ⟨rfl, rfl⟩
                                     refine' DT.r rfl rfl rfl ?hq ?_
                                     case hq =>
                                       refine WO.ar rfl rfl rfl (by (first | (unfold in64; omega) | (unfold in64; omega))) rfl ?_
                                       exact WO.nil ⟨rfl, rfl⟩
                                     refine DT.nil [_, _] rfl ?_
                                     refine WO.p rfl rfl ?_
                                     refine WO.nil ?_
                                     refine W.cond_bl rfl (fun c8 => ?_) (fun c8 => ?_)
                                     · first
                                       | (exfalso; omega)
                                       | (refine W.seq ?_
                                          refine W.sreg ?_
                                          refine WO.p rfl rfl (WO.p rfl rfl (WO.p rfl rfl ?_))
                                          refine WO.guard_b rfl rfl (fun c9 => ?_) (fun c9 => ?_)
                                          · first
                                            | (exfalso; omega)
                                            | (refine WO.no rfl rfl (WO.no rfl rfl (WO.no rfl rfl (WO.no rfl rfl (WO.no rfl rfl (WO.no rfl rfl (WO.p rfl rfl ?_))))))
                                               refine WO.nil ?_
                                               refine W.cond_t rfl ?_
                                               refine W.region ?_
                                               refine WO.p rfl rfl (WO.p rfl rfl ?_)
                                               refine' WO.indexAddr (n := _) (i := _) rfl rfl rfl ?hs ?h1 rfl ?_
                                               case hs => (first | exact hL.sl)
                                               case h1 => (first | omega | (simp; omega))
                                               refine' WO.load (v := _) rfl rfl ?hc rfl ?_
                                               case hc => (first | (refine hL.cell0 (i := i) (by omega) 0 ?_; rfl))
                                               refine WO.p rfl rfl ?_
                                               refine WO.nil ?_
                                               refine W.region ?_
                                               refine WO.p rfl rfl ?_
                                               refine WO.nil ?_
                                               refine W.region ?_
                                               refine WO.p rfl rfl (WO.ar rfl rfl rfl (by (first | (unfold in64; omega) | (unfold in64; omega))) rfl (WO.p rfl rfl ?_))
                                               refine WO.nil ?_
                                               refine' ⟨i + 1, _, _, ?hp, ?hmu, ⟨rfl, rfl, rfl, rfl, rfl, rfl, trivial⟩, ?hS⟩
                                               case hS => repeat (first | exact Sub.nil | refine Sub.cons (by repeat (first | exact Pick.head | apply Pick.tail)) ?_)
                                               case hp => exact ⟨by omega, by first | exact hbn.skip hl (by omega) (by omega) | exact hbn.take hl hb (by omega) (by omega) (.inr (by assumption)) | exact hbn.take hl hb (by omega) (by omega) (.inl (by have := ‹(!fnd) = true›; simpa using this)) | exact hbn.leave hl (by omega) (by omega) (by have := ‹(!fnd) = false›; simpa using this) (by assumption), fun j hj => by rcases Nat.lt_or_ge j i with g | g; exact hgd j g; obtain rfl : j = i := (by omega); exact hG⟩
                                               case hmu => omega)
                                          · first
                                            | (exfalso; omega)
                                            | (refine WO.pg rfl rfl rfl (WO.pg rfl rfl rfl (WO.go' rfl ?_))
                                               refine' WO.indexAddr (n := _) (i := _) rfl rfl rfl ?hs ?h1 rfl ?_
                                               case hs => (first | exact hL.sl)
                                               case h1 => (first | omega | (simp; omega))
                                               refine WO.go' rfl ?_
                                               refine' WO.load (v := _) rfl rfl ?hc rfl ?_
                                               case hc => (first | (refine hL.cell0 (i := i) (by omega) 0 ?_; rfl))
                                               refine WO.pg rfl rfl rfl (WO.pg rfl rfl rfl (WO.p rfl rfl ?_))
                                               refine WO.nil ?_
                                               refine W.cond_bl rfl (fun c10 => ?_) (fun c10 => ?_)
                                               · first
                                                 | (exfalso; omega)
                                                 | (refine W.region ?_
                                                    refine WO.p rfl rfl (WO.p rfl rfl ?_)
                                                    refine' WO.indexAddr (n := _) (i := _) rfl rfl rfl ?hs ?h1 rfl ?_
                                                    case hs => (first | exact hL.sl)
                                                    case h1 => (first | omega | (simp; omega))
                                                    refine' WO.load (v := _) rfl rfl ?hc rfl ?_
                                                    case hc => (first | (refine hL.cell0 (i := i) (by omega) 0 ?_; rfl))
                                                    refine WO.p rfl rfl ?_
                                                    refine WO.nil ?_
                                                    refine W.region ?_
                                                    refine WO.p rfl rfl ?_
                                                    refine WO.nil ?_
                                                    refine W.region ?_
                                                    refine WO.p rfl rfl (WO.ar rfl rfl rfl (by (first | (unfold in64; omega) | (unfold in64; omega))) rfl (WO.p rfl rfl ?_))
                                                    refine WO.nil ?_
                                                    refine' ⟨i + 1, _, _, ?hp, ?hmu, ⟨rfl, rfl, rfl, rfl, rfl, rfl, trivial⟩, ?hS⟩
                                                    case hS => repeat (first | exact Sub.nil | refine Sub.cons (by repeat (first | exact Pick.head | apply Pick.tail)) ?_)
                                                    case hp => exact ⟨by omega, by first | exact hbn.skip hl (by omega) (by omega) | exact hbn.take hl hb (by omega) (by omega) (.inr (by assumption)) | exact hbn.take hl hb (by omega) (by omega) (.inl (by have := ‹(!fnd) = true›; simpa using this)) | exact hbn.leave hl (by omega) (by omega) (by have := ‹(!fnd) = false›; simpa using this) (by assumption), fun j hj => by rcases Nat.lt_or_ge j i with g | g; exact hgd j g; obtain rfl : j = i := (by omega); exact hG⟩
                                                    case hmu => omega)
                                               · first
                                                 | (exfalso; omega)
                                                 | (refine W.skip ?_
                                                    refine W.region ?_
                                                    refine WO.p rfl rfl ?_
                                                    refine WO.nil ?_
                                                    refine W.region ?_
                                                    refine WO.p rfl rfl (WO.ar rfl rfl rfl (by (first | (unfold in64; omega) | (unfold in64; omega))) rfl (WO.p rfl rfl ?_))
                                                    refine WO.nil ?_
                                                    refine' ⟨i + 1, _, _, ?hp, ?hmu, ⟨rfl, rfl, rfl, rfl, rfl, rfl, trivial⟩, ?hS⟩
                                                    case hS => repeat (first | exact Sub.nil | refine Sub.cons (by repeat (first | exact Pick.head | apply Pick.tail)) ?_)
                                                    case hp => exact ⟨by omega, by first | exact hbn.skip hl (by omega) (by omega) | exact hbn.take hl hb (by omega) (by omega) (.inr (by assumption)) | exact hbn.take hl hb (by omega) (by omega) (.inl (by have := ‹(!fnd) = true›; simpa using this)) | exact hbn.leave hl (by omega) (by omega) (by have := ‹(!fnd) = false›; simpa using this) (by assumption), fun j hj => by rcases Nat.lt_or_ge j i with g | g; exact hgd j g; obtain rfl : j = i := (by omega); exact hG⟩
                                                    case hmu => omega)))
                                     · first
                                       | (exfalso; omega)
                                       | (refine W.skip ?_
                                          refine W.region ?_
                                          refine WO.p rfl rfl (WO.ar rfl rfl rfl (by (first | (unfold in64; omega) | (unfold in64; omega))) rfl (WO.p rfl rfl ?_))
                                          refine WO.nil ?_
                                          refine' ⟨i + 1, _, _, ?hp, ?hmu, ⟨rfl, rfl, rfl, rfl, rfl, rfl, trivial⟩, ?hS⟩
                                          case hS => repeat (first | exact Sub.nil | refine Sub.cons (by repeat (first | exact Pick.head | apply Pick.tail)) ?_)
                                          case hp => exact ⟨by omega, by first | exact hbn.skip hl (by omega) (by omega) | exact hbn.take hl hb (by omega) (by omega) (.inr (by assumption)) | exact hbn.take hl hb (by omega) (by omega) (.inl (by have := ‹(!fnd) = true›; simpa using this)) | exact hbn.leave hl (by omega) (by omega) (by have := ‹(!fnd) = false›; simpa using this) (by assumption), fun j hj => by rcases Nat.lt_or_ge j i with g | g; exact hgd j g; obtain rfl : j = i := (by omega); exact hG⟩
                                          case hmu => omega)))
                           · first
                             | (exfalso; omega)
                             | (refine' DT.r rfl rfl rfl ?hq ?_
                                case hq =>
                                  refine WO.no rfl rfl ?_
                                  exact WO.nil ⟨rfl, rfl⟩
                                refine' DT.r rfl rfl rfl ?hq ?_
                                case hq =>
                                  refine WO.no rfl rfl ?_
                                  exact WO.nil ⟨rfl, rfl⟩
                                refine' DT.r rfl rfl rfl ?hq ?_
                                case hq =>
                                  refine WO.no rfl rfl ?_
                                  exact WO.nil ⟨rfl, rfl⟩
                                refine' DT.r rfl rfl rfl ?hq ?_
                                case hq =>
                                  refine WO.no rfl rfl ?_
                                  exact WO.nil ⟨rfl, rfl⟩
                                refine' DT.b rfl rfl rfl ?hq ?_
                                case hq =>
                                  refine WO.no rfl rfl ?_
                                  exact WO.nil ⟨rfl, rfl⟩
                                refine' DT.r rfl rfl rfl ?hq ?_
                                case hq =>
                                  refine WO.no rfl rfl ?_
                                  exact WO.nil ⟨rfl, rfl⟩
                                refine' DT.r rfl rfl rfl ?hq ?_
                                case hq =>
                                  refine WO.no rfl rfl ?_
                                  exact WO.nil ⟨rfl, rfl⟩
                                refine' DT.r rfl rfl rfl ?hq ?_
                                case hq =>
                                  refine WO.no rfl rfl ?_
                                  exact WO.nil ⟨rfl, rfl⟩
                                refine' DT.r rfl rfl rfl ?hq ?_
                                case hq =>
                                  refine WO.no rfl rfl ?_
                                  exact WO.nil ⟨rfl, rfl⟩
                                refine' DT.b rfl rfl rfl ?hq ?_
                                case hq =>
                                  refine WO.no rfl rfl ?_
                                  exact WO.nil ⟨rfl, rfl⟩
                                refine' DT.r rfl rfl rfl ?hq ?_
                                case hq =>
                                  refine WO.no rfl rfl ?_
                                  exact WO.nil ⟨rfl, rfl⟩
                                refine DT.nil [_, _] rfl ?_
                                refine WO.no rfl rfl (WO.p rfl rfl ?_)
                                refine WO.nil ?_
                                refine W.cond_f rfl ?_
                                refine W.exit (blk_same ?_)
                                refine W.seq ?_
                                have hG : GdA l t labs i := ⟨hst, fun K' h1 h2 h3 => by rcases Nat.lt_or_ge K' K with g | g; exact hKs K' h1 g h3; have h5 := all_mono (kAt_get (l := l) (i := K) (by omega)) (kAt_get (l := l) (i := K') (by omega)) g; have h6 : ldAt l t i K' = none := ld_none1 (.inl (by show (kAt l K').1 ≠ (kAt l i).1 + 1; omega)); rw [h6] at h3; cases h3⟩
                                refine W.drawD 9 [.r 0 [], .r 1 [], .r 2 [], .r 3 [], .b 4 [], .r 5 [], .b 6 [], .r 7 [], .r 8 []] [] (A0 := []) (Sub.refl _) (by kernel_rfl) ?_ ?_
                                · exact (ALok.r (ALok.r (ALok.r (ALok.r (ALok.b (ALok.r (ALok.b (ALok.r (ALok.r ALok.nil)))))))))
                                refine' DT.r rfl rfl rfl ?hq ?_
                                case hq =>
                                  refine WO.p rfl rfl ?_
                                  exact WO.nil ⟨rfl, rfl⟩
                                refine' DT.r rfl rfl rfl ?hq ?_
                                case hq =>
                                  refine WO.p rfl rfl ?_
                                  exact WO.nil ⟨rfl, rfl⟩
                                refine' DT.r rfl rfl rfl ?hq ?_
                                case hq =>
                                  refine' WO.indexAddr (n := _) (i := _) rfl rfl rfl ?hs ?h1 rfl ?_
                                  case hs => (first | exact hrv)
                                  case h1 => (first | omega | (simp; omega))
                                  exact WO.nil ⟨rfl, rfl⟩
                                refine' DT.r rfl rfl rfl ?hq ?_
                                case hq =>
                                  refine WO.field0 rfl rfl rfl ?_
                                  exact WO.nil ⟨rfl, rfl⟩
                                refine' DT.b rfl rfl rfl ?hq ?_
                                case hq =>
                                  refine' WO.load (v := _) rfl rfl ?hc rfl ?_
                                  case hc => (first | (refine OwR.c0 (l := l) (j := i) ?_ (by omega); exact (by repeat (first | exact Sub.nil | refine Sub.cons (by repeat (first | exact Pick.head | apply Pick.tail)) ?_))))
                                  exact WO.nil ⟨rfl, rfl⟩
                                refine' DT.r rfl rfl rfl ?hq ?_
                                case hq =>
                                  refine WO.field0 rfl rfl rfl ?_
                                  exact WO.nil ⟨rfl, rfl⟩
                                refine' DT.b rfl rfl rfl ?hq ?_
                                case hq =>
                                  refine WO.load rfl rfl (Cell.own Pick.head rfl) rfl ?_
                                  exact WO.nil ⟨rfl, rfl⟩
                                refine' DT.r rfl rfl rfl ?hq ?_
                                case hq =>
                                  refine' WO.len (n := _) rfl rfl ?hs rfl ?_
                                  case hs => (first | exact hR.sl)
                                  exact WO.nil ⟨rfl, rfl⟩
                                refine' DT.r rfl rfl rfl ?hq ?_
                                case hq =>
                                  refine WO.ar rfl rfl rfl (by (first | (unfold in64; omega) | (unfold in64; omega))) rfl ?_
                                  exact WO.nil ⟨rfl, rfl⟩
                                refine DT.nil [_, _] rfl ?_
                                refine WO.p rfl rfl ?_
                                refine WO.nil ?_
                                refine W.cond_bl rfl (fun c7 => ?_) (fun c7 => ?_)
                                · first
                                  | (exfalso; omega)
                                  | (refine W.seq ?_
                                     refine W.sreg ?_
                                     refine WO.p rfl rfl (WO.p rfl rfl (WO.p rfl rfl ?_))
                                     refine WO.guard_b rfl rfl (fun c8 => ?_) (fun c8 => ?_)
                                     · first
                                       | (exfalso; omega)
                                       | (refine WO.no rfl rfl (WO.no rfl rfl (WO.no rfl rfl (WO.no rfl rfl (WO.no rfl rfl (WO.no rfl rfl (WO.p rfl rfl ?_))))))
                                          refine WO.nil ?_
                                          refine W.cond_t rfl ?_
                                          refine W.region ?_
                                          refine WO.p rfl rfl (WO.p rfl rfl ?_)
                                          refine' WO.indexAddr (n := _) (i := _) rfl rfl rfl ?hs ?h1 rfl ?_
                                          case hs => (first | exact hL.sl)
                                          case h1 => (first | omega | (simp; omega))
                                          refine' WO.load (v := _) rfl rfl ?hc rfl ?_
                                          case hc => (first | (refine hL.cell0 (i := i) (by omega) 0 ?_; rfl))
                                          refine WO.p rfl rfl ?_
                                          refine WO.nil ?_
                                          refine W.region ?_
                                          refine WO.p rfl rfl ?_
                                          refine WO.nil ?_
                                          refine W.region ?_
                                          refine WO.p rfl rfl (WO.ar rfl rfl rfl (by (first | (unfold in64; omega) | (unfold in64; omega))) rfl (WO.p rfl rfl ?_))
                                          refine WO.nil ?_
                                          refine' ⟨i + 1, _, _, ?hp, ?hmu, ⟨rfl, rfl, rfl, rfl, rfl, rfl, trivial⟩, ?hS⟩
                                          case hS => repeat (first | exact Sub.nil | refine Sub.cons (by repeat (first | exact Pick.head | apply Pick.tail)) ?_)
                                          case hp => exact ⟨by omega, by first | exact hbn.skip hl (by omega) (by omega) | exact hbn.take hl hb (by omega) (by omega) (.inr (by assumption)) | exact hbn.take hl hb (by omega) (by omega) (.inl (by have := ‹(!fnd) = true›; simpa using this)) | exact hbn.leave hl (by omega) (by omega) (by have := ‹(!fnd) = false›; simpa using this) (by assumption), fun j hj => by rcases Nat.lt_or_ge j i with g | g; exact hgd j g; obtain rfl : j = i := (by omega); exact hG⟩
                                          case hmu => omega)
                                     · first
                                       | (exfalso; omega)
                                       | (refine WO.pg rfl rfl rfl (WO.pg rfl rfl rfl (WO.go' rfl ?_))
                                          refine' WO.indexAddr (n := _) (i := _) rfl rfl rfl ?hs ?h1 rfl ?_
                                          case hs => (first | exact hL.sl)
                                          case h1 => (first | omega | (simp; omega))
                                          refine WO.go' rfl ?_
                                          refine' WO.load (v := _) rfl rfl ?hc rfl ?_
                                          case hc => (first | (refine hL.cell0 (i := i) (by omega) 0 ?_; rfl))
                                          refine WO.pg rfl rfl rfl (WO.pg rfl rfl rfl (WO.p rfl rfl ?_))
                                          refine WO.nil ?_
                                          refine W.cond_bl rfl (fun c9 => ?_) (fun c9 => ?_)
                                          · first
                                            | (exfalso; omega)
                                            | (refine W.region ?_
                                               refine WO.p rfl rfl (WO.p rfl rfl ?_)
                                               refine' WO.indexAddr (n := _) (i := _) rfl rfl rfl ?hs ?h1 rfl ?_
                                               case hs => (first | exact hL.sl)
                                               case h1 => (first | omega | (simp; omega))
                                               refine' WO.load (v := _) rfl rfl ?hc rfl ?_
                                               case hc => (first | (refine hL.cell0 (i := i) (by omega) 0 ?_; rfl))
                                               refine WO.p rfl rfl ?_
                                               refine WO.nil ?_
                                               refine W.region ?_
                                               refine WO.p rfl rfl ?_
                                               refine WO.nil ?_
                                               refine W.region ?_
                                               refine WO.p rfl rfl (WO.ar rfl rfl rfl (by (first | (unfold in64; omega) | (unfold in64; omega))) rfl (WO.p rfl rfl ?_))
                                               refine WO.nil ?_
                                               refine' ⟨i + 1, _, _, ?hp, ?hmu, ⟨rfl, rfl, rfl, rfl, rfl, rfl, trivial⟩, ?hS⟩
                                               case hS => repeat (first | exact Sub.nil | refine Sub.cons (by repeat (first | exact Pick.head | apply Pick.tail)) ?_)
                                               case hp => exact ⟨by omega, by first | exact hbn.skip hl (by omega) (by omega) | exact hbn.take hl hb (by omega) (by omega) (.inr (by assumption)) | exact hbn.take hl hb (by omega) (by omega) (.inl (by have := ‹(!fnd) = true›; simpa using this)) | exact hbn.leave hl (by omega) (by omega) (by have := ‹(!fnd) = false›; simpa using this) (by assumption), fun j hj => by rcases Nat.lt_or_ge j i with g | g; exact hgd j g; obtain rfl : j = i := (by omega); exact hG⟩
                                               case hmu => omega)
                                          · first
                                            | (exfalso; omega)
                                            | (refine W.skip ?_
                                               refine W.region ?_
                                               refine WO.p rfl rfl ?_
                                               refine WO.nil ?_
                                               refine W.region ?_
                                               refine WO.p rfl rfl (WO.ar rfl rfl rfl (by (first | (unfold in64; omega) | (unfold in64; omega))) rfl (WO.p rfl rfl ?_))
                                               refine WO.nil ?_
                                               refine' ⟨i + 1, _, _, ?hp, ?hmu, ⟨rfl, rfl, rfl, rfl, rfl, rfl, trivial⟩, ?hS⟩
                                               case hS => repeat (first | exact Sub.nil | refine Sub.cons (by repeat (first | exact Pick.head | apply Pick.tail)) ?_)
                                               case hp => exact ⟨by omega, by first | exact hbn.skip hl (by omega) (by omega) | exact hbn.take hl hb (by omega) (by omega) (.inr (by assumption)) | exact hbn.take hl hb (by omega) (by omega) (.inl (by have := ‹(!fnd) = true›; simpa using this)) | exact hbn.leave hl (by omega) (by omega) (by have := ‹(!fnd) = false›; simpa using this) (by assumption), fun j hj => by rcases Nat.lt_or_ge j i with g | g; exact hgd j g; obtain rfl : j = i := (by omega); exact hG⟩
                                               case hmu => omega)))
                                · first
                                  | (exfalso; omega)
                                  | (refine W.skip ?_
                                     refine W.region ?_
                                     refine WO.p rfl rfl (WO.ar rfl rfl rfl (by (first | (unfold in64; omega) | (unfold in64; omega))) rfl (WO.p rfl rfl ?_))
                                     refine WO.nil ?_
                                     refine' ⟨i + 1, _, _, ?hp, ?hmu, ⟨rfl, rfl, rfl, rfl, rfl, rfl, trivial⟩, ?hS⟩
                                     case hS => repeat (first | exact Sub.nil | refine Sub.cons (by repeat (first | exact Pick.head | apply Pick.tail)) ?_)
                                     case hp => exact ⟨by omega, by first | exact hbn.skip hl (by omega) (by omega) | exact hbn.take hl hb (by omega) (by omega) (.inr (by assumption)) | exact hbn.take hl hb (by omega) (by omega) (.inl (by have := ‹(!fnd) = true›; simpa using this)) | exact hbn.leave hl (by omega) (by omega) (by have := ‹(!fnd) = false›; simpa using this) (by assumption), fun j hj => by rcases Nat.lt_or_ge j i with g | g; exact hgd j g; obtain rfl : j = i := (by omega); exact hG⟩
                                     case hmu => omega))))
                 · first
                   | (exfalso; omega)
                   | (refine W.exit (blk_same ?_)
                      obtain rfl : i = (allL l).length := by omega
                      refine W.sreg ?_
                      refine WO.p rfl rfl (WO.p rfl rfl (WO.p rfl rfl ?_))
                      refine WO.nil ?_
                      refine W.ret ?_
                      first | (obtain ⟨e1, e2⟩ := lk0 (labs := labs) (show chkF l t ≠ 0 by assumption); rw [e1, e2]; exact fin.ret (Res.two rfl (RV.tmp rfl) (RV.tmp rfl)) rfl) | (obtain ⟨e1, e2⟩ := lk1 (l := l) (t := t) (labs := labs) (by omega) (by omega); rw [e1, e2]; exact fin.ret (Res.two rfl (RV.tmp rfl) (RV.tmp rfl)) rfl) | (obtain ⟨e1, e2⟩ := lk2 (l := l) (t := t) (labs := labs) (by omega) (by omega) hbad; rw [e1, e2]; exact fin.ret (Res.two rfl (RV.tmp rfl) (RV.tmp rfl)) rfl) | (obtain ⟨e1, e2⟩ := bad_lk (i := i) hg hc0 hl hb (by omega) hbad; rw [e1, e2]; exact fin.ret (Res.two rfl (RV.tmp rfl) (RV.tmp rfl)) rfl) | (obtain ⟨e1, e2⟩ := hbn.fin hg hc0 hl hb hgd; rw [e1, e2]; exact fin.ret (Res.two rfl (RV.tmp rfl) (RV.tmp rfl)) rfl)))))
end Go.Proofs.Ytpecakgebhmnfaa
namespace Go.Proofs.Ytpecakgebhmnfaa
open Go Go.TH
attribute [local irreducible] W WO pt
set_option maxRecDepth 10000
set_option maxHeartbeats 1000000
theorem law_FairLabels (w : World) (o v : Value) (l : List (Int × Int)) (t : Int) (labs : List Int) (hR : RdF encP 2 w.heap.size w o l) (hX : RdF encI 1 w.heap.size w v labs) : Ret Try.prog 5 [.agg #[o, .int .i64 t], v].toArray w (.bool true) := by
  refine Ret.of mixed tyTab Try.func5 rfl rfl ?_
  replace hR : RdF encP 2 (fnCx mixed tyTab Try.f5.ntmps w).B (fnCx mixed tyTab Try.f5.ntmps w).w0 o l := hR
  replace hX : RdF encI 1 (fnCx mixed tyTab Try.f5.ntmps w).B (fnCx mixed tyTab Try.f5.ntmps w).w0 v labs := hX
  have hoc := hR.sl.oc
  refine W.sreg ?_
  refine WO.boxA rfl rfl (fun b1 hb1 => ?_)
  refine WO.p rfl rfl ?_
  refine WO.nil ?_
  refine W.seq ?_
  refine W.sreg ?_
  refine WO.loadA rfl rfl (Cells.own Pick.head) rfl rfl ?_
  refine WO.callR rfl Try.call24 (fun L w hi => law_few w o l t (hR.later hi)) rfl ?_
  refine WO.p rfl rfl (WO.p rfl rfl ?_)
  refine WO.guard_nbl rfl rfl (fun c1 => ?_) (fun c1 => ?_)
  · first
    | (exfalso; omega)
    | (refine WO.no rfl rfl (WO.no rfl rfl (WO.no rfl rfl (WO.p rfl rfl ?_)))
       refine WO.nil ?_
       refine W.cond_t rfl ?_
       refine W.sreg ?_
       refine WO.callR rfl Try.call13 (fun L w hi => l_Works w) rfl ?_
       refine WO.p rfl rfl ?_
       refine WO.nil ?_
       refine W.ret ?_
       exact fin.ret (Res.one rfl (RV.tmp rfl)) rfl)
  · first
    | (exfalso; omega)
    | (refine WO.pg rfl rfl rfl (WO.go' rfl ?_)
       refine' WO.len (n := _) rfl rfl ?hs rfl ?_
       case hs => (first | exact hX.sl)
       refine WO.pg rfl rfl rfl (WO.p rfl rfl ?_)
       refine WO.nil ?_
       refine W.cond_bl rfl (fun c2 => ?_) (fun c2 => ?_)
       · first
         | (exfalso; omega)
         | (refine W.sreg ?_
            refine WO.callR rfl Try.call13 (fun L w hi => l_Works w) rfl ?_
            refine WO.p rfl rfl ?_
            refine WO.nil ?_
            refine W.ret ?_
            exact fin.ret (Res.one rfl (RV.tmp rfl)) rfl)
       · first
         | (exfalso; omega)
         | (refine W.skip ?_
            refine W.sreg ?_
            refine WO.loadA rfl rfl (Cells.own Pick.head) rfl rfl (WO.p rfl rfl ?_)
            refine WO.callR rfl Try.call25 (fun L w hi => c_CheckLabels w o l t v labs (hR.later hi) (hX.later hi)) rfl ?_
            refine WO.p rfl rfl (WO.p rfl rfl (WO.p rfl rfl (WO.p rfl rfl (WO.p rfl rfl ?_))))
            refine WO.nil ?_
            refine W.sreg ?_
            refine WO.loadA rfl rfl (Cells.own Pick.head) rfl rfl (WO.p rfl rfl ?_)
            refine WO.callR rfl Try.call26 (fun L w hi => ref_CheckLabels w o l t v labs (hR.later hi) (hX.later hi)) rfl ?_
            refine WO.p rfl rfl (WO.p rfl rfl (WO.p rfl rfl (WO.p rfl rfl (WO.p rfl rfl ?_))))
            refine WO.nil ?_
            refine W.sreg ?_
            refine WO.loadA rfl rfl (Cells.own Pick.head) rfl rfl ?_
            refine WO.call rfl Try.call27 (fun L w hi => c_Labels w o l t (hR.later hi)) rfl ?_
            rintro _ _ ⟨r1, rfl, rfl⟩
            refine WO.fact (OwE.sl (enc := encI) (e := 2) (sz := 1) (v := r1) (xs := lbL l t) Pick.head) (fun hls => ?_)
            refine WO.p rfl rfl (WO.p rfl rfl (WO.p rfl rfl (WO.p rfl rfl (WO.p rfl rfl ?_))))
            refine WO.nil ?_
            refine W.seq ?_
            refine W.sreg ?_
            refine WO.p rfl rfl (WO.p rfl rfl (WO.p rfl rfl (WO.p rfl rfl ?_)))
            refine WO.guard_bl rfl rfl (fun c3 => ?_) (fun c3 => ?_)
            · first
              | (exfalso; omega)
              | (refine WO.no rfl rfl (WO.no rfl rfl (WO.no rfl rfl (WO.p rfl rfl (WO.p rfl rfl (WO.no rfl rfl (WO.no rfl rfl (WO.no rfl rfl (WO.no rfl rfl (WO.p rfl rfl ?_)))))))))
                 refine WO.nil ?_
                 refine W.cond_t rfl ?_
                 refine W.sreg ?_
                 refine WO.p rfl rfl ?_
                 refine WO.nil ?_
                 refine W.ret ?_
                 exact fin.ret (Res.one rfl (RV.tmp rfl)) rfl)
            · first
              | (exfalso; omega)
              | (refine WO.pg rfl rfl rfl (WO.pg rfl rfl rfl (WO.pg rfl rfl rfl (WO.p rfl rfl (WO.p rfl rfl ?_))))
                 refine WO.guard_bl rfl rfl (fun c4 => ?_) (fun c4 => ?_)
                 · first
                   | (exfalso; omega)
                   | (refine WO.no rfl rfl (WO.no rfl rfl (WO.no rfl rfl (WO.no rfl rfl (WO.p rfl rfl ?_))))
                      refine WO.nil ?_
                      refine W.cond_t rfl ?_
                      refine W.sreg ?_
                      refine WO.p rfl rfl ?_
                      refine WO.nil ?_
                      refine W.ret ?_
                      exact fin.ret (Res.one rfl (RV.tmp rfl)) rfl)
                 · first
                   | (exfalso; omega)
                   | (refine WO.pg rfl rfl rfl (WO.go' rfl (WO.loadA rfl rfl (Cells.own (Pick.tail (Pick.head))) rfl rfl (WO.go' rfl ?_)))
                      refine WO.callR rfl Try.call19 (fun L w hi => ref_CheckSpots w o l t (hR.later hi)) rfl ?_
                      refine WO.pg rfl rfl rfl (WO.p rfl rfl ?_)
                      refine WO.nil ?_
                      refine W.cond_bl rfl (fun c5 => ?_) (fun c5 => ?_)
                      · first
                        | (exfalso; omega)
                        | (refine W.sreg ?_
                           refine WO.p rfl rfl ?_
                           refine WO.nil ?_
                           refine W.ret ?_
                           exact fin.ret (Res.one rfl (RV.tmp rfl)) rfl)
                      · first
                        | (exfalso; omega)
                        | (refine W.skip ?_
                           refine W.seq ?_
                           refine W.sreg ?_
                           refine WO.p rfl rfl (WO.p rfl rfl ?_)
                           refine WO.nil ?_
                           refine W.cond_bl rfl (fun c6 => ?_) (fun c6 => ?_)
                           · first
                             | (exfalso; omega)
                             | (have hl0 : (lbL l t).length = 0 := by rw [show lbL l t = [] from if_neg (by assumption)]; rfl
                                refine W.sreg ?_
                                refine WO.p rfl rfl ?_
                                refine' WO.len (n := _) rfl rfl ?hs rfl ?_
                                case hs => (first | exact hls)
                                refine WO.p rfl rfl (WO.p rfl rfl ?_)
                                refine WO.guard_bl rfl rfl (fun c7 => ?_) (fun c7 => ?_)
                                · first
                                  | (exfalso; omega)
                                  | (refine WO.go' rfl ?_
                                     refine WO.callR rfl Try.call13 (fun L w hi => l_Works w) rfl ?_
                                     refine WO.p rfl rfl (WO.p rfl rfl ?_)
                                     refine WO.nil ?_
                                     refine W.ret ?_
                                     exact fin.ret (Res.one rfl (RV.tmp rfl)) rfl)
                                · first
                                  | (exfalso; omega)
                                  | (refine WO.no rfl rfl (WO.p rfl rfl (WO.p rfl rfl ?_))
                                     refine WO.nil ?_
                                     refine W.ret ?_
                                     exact fin.ret (Res.one rfl (RV.tmp rfl)) rfl))
                           · first
                             | (exfalso; omega)
                             | (refine W.skip ?_
                                have hc0 : chkF l t = 0 := by omega
                                have hcf := chkF0.1 hc0
                                refine W.sreg ?_
                                refine WO.p rfl rfl (WO.loadA rfl rfl (Cells.own (Pick.tail (Pick.head))) rfl rfl ?_)
                                refine WO.call rfl Try.call28 (fun L w hi => ref_Labels w o l t (hR.later hi) hc0) rfl ?_
                                rintro r2 _ ⟨_, rfl, rfl⟩
                                rw [(lab_eq hcf.2.2 hcf.1.2 ⟨.inr rfl, hcf.2.1⟩).resolve_right (fun h => h hc0)]
                                refine WO.callR (r := .bool true) rfl Try.call23 (fun L w hi => longs_t (law_longs w r1 r2 (lbL l t) (lbL l t) (RdF.of_ow (e := 2) encI_ok (by repeat (first | exact Pick.head | apply Pick.tail)) hi) (RdF.of_ow (e := 2) encI_ok (by repeat (first | exact Pick.head | apply Pick.tail)) hi)) rfl) rfl ?_
                                refine WO.p rfl rfl (WO.go' rfl ?_)
                                refine WO.callR rfl Try.call13 (fun L w hi => l_Works w) rfl ?_
                                refine WO.p rfl rfl (WO.p rfl rfl ?_)
                                refine WO.nil ?_
                                refine W.ret ?_
                                exact fin.ret (Res.one rfl (RV.tmp rfl)) rfl))))))
end Go.Proofs.Ytpecakgebhmnfaa
