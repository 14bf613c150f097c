/-
  What is proved here: the reference: equal lists, and the period of a register. Conditions: none; each contract states its own.
  What is proved here: maps whose keys are states. Conditions: none; each rule states its own.
  What is proved here: full registers (no program in sight). Conditions: none; each theorem states its own.
  What is proved here: all full registers of a length. Conditions: none; each contract states its own.
  What is proved here: the reference: all full registers of a length. Conditions: none; each contract states its own.
  What is proved here: spectra. Conditions: none; each contract states its own.
  What is proved here: the small functions of the laws, and the examples of the chapter. Conditions: none; each contract states its own.
-/
import Derived.Test.YtingkbglkaojdaaM4
import Derived.WideKeyRuns
set_option linter.unusedVariables false
set_option linter.unusedSimpArgs false
namespace Go.Proofs.Ytingkbglkaojdaa
open Go Go.TH Go.TH.Wv
attribute [local irreducible] W WO pt
set_option maxRecDepth 10000
set_option maxHeartbeats 1000000
theorem eq_of_bt {xs ys : List Int} (hl : xs.length = ys.length) (h : ∀ i, i < xs.length → xs.getD i 0 = ys.getD i 0) : xs = ys := ext_getD 0 hl h
theorem ref_same (w : World) (v u : Value) (xs ys : List Int) (hR : RdF encI 1 w.heap.size w v xs) (hU : RdF encI 1 w.heap.size w u ys) : Ret Try.prog 65 [v, u].toArray w (.bool (bl (xs = ys))) := by
  refine Ret.of mixed tyTab Try.func65 rfl rfl ?_
  replace hR : RdF encI 1 (fnCx mixed tyTab Try.f65.ntmps w).B (fnCx mixed tyTab Try.f65.ntmps w).w0 v xs := hR
  replace hU : RdF encI 1 (fnCx mixed tyTab Try.f65.ntmps w).B (fnCx mixed tyTab Try.f65.ntmps w).w0 u ys := hU
  have hle := hR.sl.le
  refine W.sreg ?_
  refine WO.p rfl rfl ?_
  refine WO.nil ?_
  refine W.seq ?_
  refine W.sreg ?_
  refine WO.p rfl rfl ?_
  refine' WO.len (n := _) rfl rfl ?hs rfl ?_
  case hs => (first | exact hR.sl)
  refine WO.p rfl rfl ?_
  refine' WO.len (n := _) rfl rfl ?hs rfl ?_
  case hs => (first | exact hU.sl)
  refine WO.p rfl rfl ?_
  refine WO.nil ?_
  refine W.cond_bl rfl (fun c1 => ?_) (fun c1 => ?_)
  · first
    | (exfalso; omega)
    | (refine W.sreg ?_
       refine WO.p rfl rfl ?_
       refine WO.nil ?_
       refine W.ret ?_
       refine fin.ret (Res.one rfl (RV.tmp rfl)) (congrArg Value.bool ?_)
       first | (have q := hal; rw [bl_t.2 (eq_of_bt (by omega) (fun j hj => hal j (by omega)))]; done) | (symm; rw [bl_f]; intro e; subst e; simp_all; done) | (symm; rw [bl_f]; intro e; subst e; omega))
  · first
    | (exfalso; omega)
    | (refine W.skip ?_
       refine W.seq ?_
       refine W.sreg ?_
       refine WO.p rfl rfl ?_
       refine WO.nil ?_
       refine W.block ?_
       refine W.loop (fun (i : Nat) => i ≤ xs.length ∧ ∀ j, j < i → xs.getD j 0 = ys.getD j 0)
         (fun (i : Nat) => [(5, .int .i64 (i : Int)), (0, v), (1, u)])
         (fun (i : Nat) => [])
         (fun (i : Nat) => xs.length - i) 0
         (by exact ⟨by omega, fun j hj => by omega⟩) ⟨rfl, rfl, rfl, trivial⟩ (by repeat (first | exact Sub.nil | refine Sub.cons (by repeat (first | exact Pick.head | apply Pick.tail)) ?_)) ?_
       rintro i ⟨hi0, hal⟩
       refine W.seq ?_
       refine W.sreg ?_
       refine WO.p rfl rfl (WO.p rfl rfl ?_)
       refine' WO.len (n := _) rfl rfl ?hs rfl ?_
       case hs => (first | exact hR.sl)
       refine WO.p rfl rfl ?_
       refine WO.nil ?_
       refine W.cond_bl rfl (fun c2 => ?_) (fun c2 => ?_)
       · first
         | (exfalso; omega)
         | (refine W.skip ?_
            refine W.seq ?_
            refine W.block ?_
            refine W.seq ?_
            refine W.drawD 8 [.r 0 [], .r 1 [], .r 2 [], .b 3 [], .r 4 [], .r 5 [], .r 6 [], .b 7 []] [] (A0 := []) (Sub.refl _) (by kernel_rfl) ?_ ?_
            · exact (ALok.r (ALok.r (ALok.r (ALok.b (ALok.r (ALok.r (ALok.r (ALok.b ALok.nil))))))))
            refine' DT.r rfl rfl rfl ?hq ?_
            case hq =>
              refine WO.p rfl rfl ?_
              exact WO.nil ⟨rfl, rfl⟩
            refine' DT.r rfl rfl rfl ?hq ?_
            case hq =>
              refine WO.p rfl rfl ?_
              exact WO.nil ⟨rfl, rfl⟩
            refine' DT.r rfl rfl rfl ?hq ?_
            case hq =>
              refine' WO.indexAddr (n := _) (i := _) rfl rfl rfl ?hs ?h1 rfl ?_
              case hs => (first | exact hR.sl)
              case h1 => (first | omega | (simp; omega))
              exact WO.nil ⟨rfl, rfl⟩
            refine' DT.b rfl rfl rfl ?hq ?_
            case hq =>
              refine' WO.load (v := _) rfl rfl ?hc rfl ?_
              case hc => (first | (refine hR.cell0 (i := i) ?_ 0 ?_ <;> first | rfl | omega))
              exact WO.nil ⟨rfl, rfl⟩
            refine' DT.r rfl rfl rfl ?hq ?_
            case hq =>
              refine WO.p rfl rfl ?_
              exact WO.nil ⟨rfl, rfl⟩
            refine' DT.r rfl rfl rfl ?hq ?_
            case hq =>
              refine WO.p rfl rfl ?_
              exact WO.nil ⟨rfl, rfl⟩
            refine' DT.r rfl rfl rfl ?hq ?_
            case hq =>
              refine' WO.indexAddr (n := _) (i := _) rfl rfl rfl ?hs ?h1 rfl ?_
              case hs => (first | exact hU.sl)
              case h1 => (first | omega | (simp; omega))
              exact WO.nil ⟨rfl, rfl⟩
            refine' DT.b rfl rfl rfl ?hq ?_
            case hq =>
              refine' WO.load (v := _) rfl rfl ?hc rfl ?_
              case hc => (first | (refine hU.cell0 (i := i) ?_ 0 ?_ <;> first | rfl | omega))
              exact WO.nil ⟨rfl, rfl⟩
            refine DT.nil [] rfl ?_
            refine WO.p rfl rfl ?_
            refine WO.nil ?_
            refine W.cond_bl rfl (fun c3 => ?_) (fun c3 => ?_)
            · first
              | (exfalso; omega)
              | (refine W.sreg ?_
                 refine WO.p rfl rfl ?_
                 refine WO.nil ?_
                 refine W.ret ?_
                 refine fin.ret (Res.one rfl (RV.tmp rfl)) (congrArg Value.bool ?_)
                 first | (have q := hal; rw [bl_t.2 (eq_of_bt (by omega) (fun j hj => hal j (by omega)))]; done) | (symm; rw [bl_f]; intro e; subst e; simp_all; done) | (symm; rw [bl_f]; intro e; subst e; omega))
            · first
              | (exfalso; omega)
              | (refine W.skip ?_
                 refine W.region ?_
                 refine WO.p rfl rfl (WO.ar rfl rfl rfl (by (first | (unfold in64; omega) | (unfold in64; omega))) rfl (WO.p rfl rfl ?_))
                 refine WO.nil ?_
                 refine' ⟨i + 1, ?hp, ?hmu, ⟨rfl, rfl, rfl, trivial⟩, ?hS⟩
                 case hS => repeat (first | exact Sub.nil | refine Sub.cons (by repeat (first | exact Pick.head | apply Pick.tail)) ?_)
                 case hp => exact ⟨by omega, fun j hj => by (rcases Nat.lt_or_ge j i with g | g; exact hal j g; (obtain rfl : j = i := (by omega)); omega)⟩
                 case hmu => omega))
       · first
         | (exfalso; omega)
         | (refine W.exit (blk_same ?_)
            refine W.sreg ?_
            refine WO.p rfl rfl ?_
            refine WO.nil ?_
            refine W.ret ?_
            refine fin.ret (Res.one rfl (RV.tmp rfl)) (congrArg Value.bool ?_)
            first | (have q := hal; rw [bl_t.2 (eq_of_bt (by omega) (fun j hj => hal j (by omega)))]; done) | (symm; rw [bl_f]; intro e; subst e; simp_all; done) | (symm; rw [bl_f]; intro e; subst e; omega)))
theorem l_ints (w : World) (v u : Value) (xs ys : List Int) (hR : RdF encI 1 w.heap.size w v xs) (hU : RdF encI 1 w.heap.size w u ys) : Ret Try.prog 19 [v, u].toArray w (.bool (bl (xs = ys))) := by
  refine Ret.of mixed tyTab Try.func19 rfl rfl ?_
  replace hR : RdF encI 1 (fnCx mixed tyTab Try.f19.ntmps w).B (fnCx mixed tyTab Try.f19.ntmps w).w0 v xs := hR
  replace hU : RdF encI 1 (fnCx mixed tyTab Try.f19.ntmps w).B (fnCx mixed tyTab Try.f19.ntmps w).w0 u ys := hU
  have hle := hR.sl.le
  refine W.sreg ?_
  refine WO.p rfl rfl ?_
  refine WO.nil ?_
  refine W.seq ?_
  refine W.sreg ?_
  refine WO.p rfl rfl ?_
  refine' WO.len (n := _) rfl rfl ?hs rfl ?_
  case hs => (first | exact hR.sl)
  refine WO.p rfl rfl ?_
  refine' WO.len (n := _) rfl rfl ?hs rfl ?_
  case hs => (first | exact hU.sl)
  refine WO.p rfl rfl ?_
  refine WO.nil ?_
  refine W.cond_bl rfl (fun c1 => ?_) (fun c1 => ?_)
  · first
    | (exfalso; omega)
    | (refine W.sreg ?_
       refine WO.p rfl rfl ?_
       refine WO.nil ?_
       refine W.ret ?_
       refine fin.ret (Res.one rfl (RV.tmp rfl)) (congrArg Value.bool ?_)
       first | (have q := hal; rw [bl_t.2 (eq_of_bt (by omega) (fun j hj => hal j (by omega)))]; done) | (symm; rw [bl_f]; intro e; subst e; simp_all; done) | (symm; rw [bl_f]; intro e; subst e; omega))
  · first
    | (exfalso; omega)
    | (refine W.skip ?_
       refine W.seq ?_
       refine W.sreg ?_
       refine WO.p rfl rfl ?_
       refine WO.nil ?_
       refine W.block ?_
       refine W.loop (fun (i : Nat) => i ≤ xs.length ∧ ∀ j, j < i → xs.getD j 0 = ys.getD j 0)
         (fun (i : Nat) => [(5, .int .i64 (i : Int)), (0, v), (1, u)])
         (fun (i : Nat) => [])
         (fun (i : Nat) => xs.length - i) 0
         (by exact ⟨by omega, fun j hj => by omega⟩) ⟨rfl, rfl, rfl, trivial⟩ (by repeat (first | exact Sub.nil | refine Sub.cons (by repeat (first | exact Pick.head | apply Pick.tail)) ?_)) ?_
       rintro i ⟨hi0, hal⟩
       refine W.seq ?_
       refine W.sreg ?_
       refine WO.p rfl rfl (WO.p rfl rfl ?_)
       refine' WO.len (n := _) rfl rfl ?hs rfl ?_
       case hs => (first | exact hR.sl)
       refine WO.p rfl rfl ?_
       refine WO.nil ?_
       refine W.cond_bl rfl (fun c2 => ?_) (fun c2 => ?_)
       · first
         | (exfalso; omega)
         | (refine W.skip ?_
            refine W.seq ?_
            refine W.block ?_
            refine W.seq ?_
            refine W.drawD 8 [.r 0 [], .r 1 [], .r 2 [], .b 3 [], .r 4 [], .r 5 [], .r 6 [], .b 7 []] [] (A0 := []) (Sub.refl _) (by kernel_rfl) ?_ ?_
            · exact (ALok.r (ALok.r (ALok.r (ALok.b (ALok.r (ALok.r (ALok.r (ALok.b ALok.nil))))))))
            refine' DT.r rfl rfl rfl ?hq ?_
            case hq =>
              refine WO.p rfl rfl ?_
              exact WO.nil ⟨rfl, rfl⟩
            refine' DT.r rfl rfl rfl ?hq ?_
            case hq =>
              refine WO.p rfl rfl ?_
              exact WO.nil ⟨rfl, rfl⟩
            refine' DT.r rfl rfl rfl ?hq ?_
            case hq =>
              refine' WO.indexAddr (n := _) (i := _) rfl rfl rfl ?hs ?h1 rfl ?_
              case hs => (first | exact hR.sl)
              case h1 => (first | omega | (simp; omega))
              exact WO.nil ⟨rfl, rfl⟩
            refine' DT.b rfl rfl rfl ?hq ?_
            case hq =>
              refine' WO.load (v := _) rfl rfl ?hc rfl ?_
              case hc => (first | (refine hR.cell0 (i := i) ?_ 0 ?_ <;> first | rfl | omega))
              exact WO.nil ⟨rfl, rfl⟩
            refine' DT.r rfl rfl rfl ?hq ?_
            case hq =>
              refine WO.p rfl rfl ?_
              exact WO.nil ⟨rfl, rfl⟩
            refine' DT.r rfl rfl rfl ?hq ?_
            case hq =>
              refine WO.p rfl rfl ?_
              exact WO.nil ⟨rfl, rfl⟩
            refine' DT.r rfl rfl rfl ?hq ?_
            case hq =>
              refine' WO.indexAddr (n := _) (i := _) rfl rfl rfl ?hs ?h1 rfl ?_
              case hs => (first | exact hU.sl)
              case h1 => (first | omega | (simp; omega))
              exact WO.nil ⟨rfl, rfl⟩
            refine' DT.b rfl rfl rfl ?hq ?_
            case hq =>
              refine' WO.load (v := _) rfl rfl ?hc rfl ?_
              case hc => (first | (refine hU.cell0 (i := i) ?_ 0 ?_ <;> first | rfl | omega))
              exact WO.nil ⟨rfl, rfl⟩
            refine DT.nil [] rfl ?_
            refine WO.p rfl rfl ?_
            refine WO.nil ?_
            refine W.cond_bl rfl (fun c3 => ?_) (fun c3 => ?_)
            · first
              | (exfalso; omega)
              | (refine W.sreg ?_
                 refine WO.p rfl rfl ?_
                 refine WO.nil ?_
                 refine W.ret ?_
                 refine fin.ret (Res.one rfl (RV.tmp rfl)) (congrArg Value.bool ?_)
                 first | (have q := hal; rw [bl_t.2 (eq_of_bt (by omega) (fun j hj => hal j (by omega)))]; done) | (symm; rw [bl_f]; intro e; subst e; simp_all; done) | (symm; rw [bl_f]; intro e; subst e; omega))
            · first
              | (exfalso; omega)
              | (refine W.skip ?_
                 refine W.region ?_
                 refine WO.p rfl rfl (WO.ar rfl rfl rfl (by (first | (unfold in64; omega) | (unfold in64; omega))) rfl (WO.p rfl rfl ?_))
                 refine WO.nil ?_
                 refine' ⟨i + 1, ?hp, ?hmu, ⟨rfl, rfl, rfl, trivial⟩, ?hS⟩
                 case hS => repeat (first | exact Sub.nil | refine Sub.cons (by repeat (first | exact Pick.head | apply Pick.tail)) ?_)
                 case hp => exact ⟨by omega, fun j hj => by (rcases Nat.lt_or_ge j i with g | g; exact hal j g; (obtain rfl : j = i := (by omega)); omega)⟩
                 case hmu => omega))
       · first
         | (exfalso; omega)
         | (refine W.exit (blk_same ?_)
            refine W.sreg ?_
            refine WO.p rfl rfl ?_
            refine WO.nil ?_
            refine W.ret ?_
            refine fin.ret (Res.one rfl (RV.tmp rfl)) (congrArg Value.bool ?_)
            first | (have q := hal; rw [bl_t.2 (eq_of_bt (by omega) (fun j hj => hal j (by omega)))]; done) | (symm; rw [bl_f]; intro e; subst e; simp_all; done) | (symm; rw [bl_f]; intro e; subst e; omega)))
/-- all but the first of one's own -/
theorem OwE.cellsDrop {C : Cx Try.prog} {e L c : Nat} {a : Option Addr} {xs : List Int} {H H' : List HP} (p : Pick (OwE encI e 1 (.slice a L c) xs) H H') (hc : L ≤ c) : Cells C H (base (.slice (if c = 1 then a else ofs a (1 * 1)) (L - 1) (c - 1))) ((xs.drop 1).flatMap encI) := by
  intro j u hu L0 w hi
  obtain ⟨q, g⟩ := OwC.open (hi.pickL p)
  rw [flat_encI, List.map_drop, List.getElem?_drop, ← flat_encI] at hu
  have h1 := OwC.cells (C := C) p (1 + j) u hu L0 w hi
  have hlt := (List.getElem?_eq_some_iff.1 hu).1
  rcases g with ⟨e1, e2, _⟩ | ⟨b, cap, cur, e1, g1, _⟩
  · rw [e2] at q; omega
  · injection e1 with e1 e2 e3
    subst e1
    have hx : L = xs.length := e2
    rw [if_neg (by omega)]
    simp only [base, ofs, Option.map_some, Addr.add_lit] at h1 ⊢
    rw [show 0 + 1 * 1 + j = 0 + (1 + j) by omega]
    exact h1
theorem subSl {a : Option Addr} {L c : Nat} (h : IsSl (.slice a L c) L) (hc : L ≤ c) (h0 : 0 < L) : IsSl (.slice (if c = 1 then a else ofs a (1 * 1)) (L - 1) (c - 1)) (L - 1) := by
  obtain ⟨h1, a', c', e, h2⟩ := h
  injection e with e1 e2 e3
  subst e1
  refine ⟨by omega, _, _, rfl, fun h3 => ?_⟩
  obtain ⟨b, o, rfl⟩ := h2 h0
  rw [if_neg (by omega)]
  exact ⟨b, o + 1 * 1, by simp [ofs, Addr.add_lit]⟩
theorem per_nil {taps start : List Int} (h : taps.length = 0) (hl : start.length = 0) : IsPer taps start 1 := by
  refine ⟨by omega, ?_, fun m h1 h2 => by omega⟩
  have e1 : winL taps start 1 = [] := List.eq_nil_of_length_eq_zero (by rw [win_len]; omega)
  have e2 : start = [] := List.eq_nil_of_length_eq_zero hl
  rw [e1, e2]
theorem ref_period (w : World) (v u : Value) (taps start : List Int) (hR : RdF encI 1 w.heap.size w v taps) (hU : RdF encI 1 w.heap.size w u start) (ht : OkBs taps) (hs : OkBs start) (hl : start.length = taps.length) (h12 : taps.length ≤ 12) (hlast : LastOk taps) : Ret Try.prog 49 [v, u].toArray w (.int .i64 (per taps start : Int)) := by
  refine Ret.of mixed tyTab Try.func49 rfl rfl ?_
  replace hR : RdF encI 1 (fnCx mixed tyTab Try.f49.ntmps w).B (fnCx mixed tyTab Try.f49.ntmps w).w0 v taps := hR
  replace hU : RdF encI 1 (fnCx mixed tyTab Try.f49.ntmps w).B (fnCx mixed tyTab Try.f49.ntmps w).w0 u start := hU
  obtain ⟨q, hq1, hq⟩ := per_ex hs hl hlast
  have hq2 : q ≤ 4096 := Nat.le_trans hq1 (Nat.le_trans (Nat.pow_le_pow_right (by decide) h12) (by decide))
  refine W.sreg ?_
  refine WO.p rfl rfl ?_
  refine WO.nil ?_
  refine W.seq ?_
  refine W.sreg ?_
  refine WO.p rfl rfl ?_
  refine' WO.len (n := _) rfl rfl ?hs rfl ?_
  case hs => (first | exact hR.sl)
  refine WO.p rfl rfl ?_
  refine WO.nil ?_
  refine W.cond_bl rfl (fun c1 => ?_) (fun c1 => ?_)
  · first
    | (exfalso; omega)
    | (refine W.sreg ?_
       refine WO.p rfl rfl ?_
       refine WO.nil ?_
       refine W.ret ?_
       refine fin.ret (Res.one rfl (RV.tmp rfl)) (congrArg (Value.int .i64) ?_)
       first | (have q1 := hn0; rw [per_eq hq, per_at hq (by omega) hn0 (by assumption)]; done) | (rw [per_eq (per_nil (by omega) (by omega))]; rfl))
  · first
    | (exfalso; omega)
    | (refine W.skip ?_
       refine W.sreg ?_
       refine WO.buildSl0 rfl rfl (fun b0 => ?_)
       refine WO.p rfl rfl ?_
       refine WO.appendEZ (enc := encI) (m := start.length) (xs := []) (ys := start) encI_ok rfl rfl rfl rfl rfl (by repeat (first | exact Pick.head | apply Pick.tail)) hU.sl rfl (hU.flat encI_ok) (by simp only [List.length_nil]; omega) (by simp only [List.length_nil]; omega) rfl (fun v1 => ?_)
       refine WO.p rfl rfl ?_
       refine WO.nil ?_
       refine W.sreg ?_
       refine WO.p rfl rfl ?_
       refine WO.nil ?_
       refine W.seq ?_
       refine W.block ?_
       refine W.loop2 (fun (n : Nat) (x : Value) => n ≤ q)
         (fun (n : Nat) (x : Value) => [(6, .int .i64 (n : Int)), (5, x), (0, v), (1, u)])
         (fun (n : Nat) (x : Value) => [OwE encI 3 1 x (winL taps start n)])
         (fun (n : Nat) (x : Value) => q - n) 0 _
         (by omega) ⟨rfl, rfl, rfl, rfl, trivial⟩ (by repeat (first | exact Sub.nil | refine Sub.cons (by repeat (first | exact Pick.head | apply Pick.tail)) ?_)) ?_
       rintro n x hn0
       refine W.seq ?_
       refine W.sreg ?_
       refine WO.p rfl rfl (WO.p rfl rfl (WO.p rfl rfl ?_))
       refine WO.guard_bl rfl rfl (fun c2 => ?_) (fun c2 => ?_)
       · first
         | (exfalso; omega)
         | (refine WO.no rfl rfl (WO.no rfl rfl (WO.no rfl rfl (WO.no rfl rfl (WO.p rfl rfl ?_))))
            refine WO.nil ?_
            refine W.cond_t rfl ?_
            refine W.skip ?_
            refine W.block ?_
            have hlt : n < q := (by first | exact per_lt hq hn0 (by assumption) | (have := hq.1; omega))
            refine W.fact (p := HasCap x (winL taps start n).length ∧ IsSl x (winL taps start n).length) (fun L w hi => ⟨HasCap.of_ow (enc := encI) (e := 3) (sz := 1) (by repeat (first | exact Pick.head | apply Pick.tail)) hi, OwE.sl (enc := encI) (e := 3) (sz := 1) (by repeat (first | exact Pick.head | apply Pick.tail)) L w hi⟩) ?_
            rintro ⟨⟨xa, xc, rfl, hxc⟩, hxs⟩
            rw [win_len] at hxc hxs ⊢
            refine W.sreg ?_
            refine WO.buildSl0 rfl rfl (fun b0 => ?_)
            refine WO.p rfl rfl ?_
            refine WO.slSl (lo := 1) (hi := start.length) (mx := xc) rfl rfl (bnd.at rfl) bnd.no bnd.no (by simp) (by omega) (by omega) (by omega) rfl ?_
            refine WO.appendEZ (enc := encI) (m := start.length - 1) (xs := []) (ys := (winL taps start n).drop 1) encI_ok rfl rfl rfl rfl rfl Pick.head (subSl hxs hxc (by omega)) (by rw [List.length_drop, win_len]) (OwE.cellsDrop (by repeat (first | exact Pick.head | apply Pick.tail)) hxc) (by simp only [List.length_nil]; omega) (by simp only [List.length_nil]; omega) rfl (fun v2 => ?_)
            refine WO.p rfl rfl (WO.p rfl rfl ?_)
            refine WO.callR (r := .int .i64 (nx (winL taps start n) taps)) rfl Try.call51 (fun L w hi => ref_next w _ _ (winL taps start n) taps (RdF.of_ow (e := 3) encI_ok (by repeat (first | exact Pick.head | apply Pick.tail)) hi) (hR.later hi) (by rw [win_len]; omega) (win_ok hs n) ht) rfl ?_
            refine' WO.buildSl (cs := _) rfl rfl rfl rfl ?hf rfl rfl ?hl rfl (fun v1 => ?_)
            case hf => (conv => lhs; simp [-List.getD_eq_getElem?_getD, fillL, vcl, wrl, TTab.pl?.lget']) <;> rfl
            case hl => rfl
            refine' WO.appendE (enc := encI) (m := 1) (xs := [] ++ (winL taps start n).drop 1) (ys := [nx (winL taps start n) taps]) encI_ok rfl rfl rfl rfl rfl (by repeat (first | exact Pick.head | apply Pick.tail)) (isSl_lit (by omega) (fun _ => ⟨_, _, rfl⟩)) (by omega) rfl (OwC.cells (by repeat (first | exact Pick.head | apply Pick.tail))) (by rw [List.nil_append, List.length_drop, win_len]; omega) (by rw [List.nil_append, List.length_drop, win_len]; omega) rfl (fun g c => ?_)
            rw [List.nil_append, show (winL taps start n).drop 1 ++ [nx (winL taps start n) taps] = winL taps start (n + 1) from (win_step (by omega) hl n).symm]
            refine WO.p rfl rfl ?_
            refine WO.nil ?_
            refine W.region ?_
            refine WO.p rfl rfl (WO.ar rfl rfl rfl (by (first | (unfold in64; omega) | (unfold in64; omega))) rfl (WO.p rfl rfl ?_))
            refine WO.nil ?_
            refine' ⟨n + 1, _, ?hp, ?hmu, ⟨rfl, rfl, rfl, rfl, trivial⟩, ?hS⟩
            case hS => repeat (first | exact Sub.nil | refine Sub.cons (by repeat (first | exact Pick.head | apply Pick.tail)) ?_)
            case hp => omega
            case hmu => omega)
       · first
         | (exfalso; omega)
         | (refine WO.pg rfl rfl rfl (WO.pg rfl rfl rfl (WO.go' rfl ?_))
            refine WO.callR (r := .bool (bl (winL taps start n = start))) rfl Try.call65 (fun L w hi => ref_same w _ _ (winL taps start n) start (RdF.of_ow (e := 3) encI_ok (by repeat (first | exact Pick.head | apply Pick.tail)) hi) (hU.later hi)) rfl ?_
            refine WO.pg rfl rfl rfl (WO.p rfl rfl ?_)
            refine WO.nil ?_
            refine W.cond_nbl rfl (fun c3 => ?_) (fun c3 => ?_)
            · first
              | (exfalso; omega)
              | (refine W.skip ?_
                 refine W.block ?_
                 have hlt : n < q := (by first | exact per_lt hq hn0 (by assumption) | (have := hq.1; omega))
                 refine W.fact (p := HasCap x (winL taps start n).length ∧ IsSl x (winL taps start n).length) (fun L w hi => ⟨HasCap.of_ow (enc := encI) (e := 3) (sz := 1) (by repeat (first | exact Pick.head | apply Pick.tail)) hi, OwE.sl (enc := encI) (e := 3) (sz := 1) (by repeat (first | exact Pick.head | apply Pick.tail)) L w hi⟩) ?_
                 rintro ⟨⟨xa, xc, rfl, hxc⟩, hxs⟩
                 rw [win_len] at hxc hxs ⊢
                 refine W.sreg ?_
                 refine WO.buildSl0 rfl rfl (fun b0 => ?_)
                 refine WO.p rfl rfl ?_
                 refine WO.slSl (lo := 1) (hi := start.length) (mx := xc) rfl rfl (bnd.at rfl) bnd.no bnd.no (by simp) (by omega) (by omega) (by omega) rfl ?_
                 refine WO.appendEZ (enc := encI) (m := start.length - 1) (xs := []) (ys := (winL taps start n).drop 1) encI_ok rfl rfl rfl rfl rfl Pick.head (subSl hxs hxc (by omega)) (by rw [List.length_drop, win_len]) (OwE.cellsDrop (by repeat (first | exact Pick.head | apply Pick.tail)) hxc) (by simp only [List.length_nil]; omega) (by simp only [List.length_nil]; omega) rfl (fun v2 => ?_)
                 refine WO.p rfl rfl (WO.p rfl rfl ?_)
                 refine WO.callR (r := .int .i64 (nx (winL taps start n) taps)) rfl Try.call51 (fun L w hi => ref_next w _ _ (winL taps start n) taps (RdF.of_ow (e := 3) encI_ok (by repeat (first | exact Pick.head | apply Pick.tail)) hi) (hR.later hi) (by rw [win_len]; omega) (win_ok hs n) ht) rfl ?_
                 refine' WO.buildSl (cs := _) rfl rfl rfl rfl ?hf rfl rfl ?hl rfl (fun v2 => ?_)
                 case hf => (conv => lhs; simp [-List.getD_eq_getElem?_getD, fillL, vcl, wrl, TTab.pl?.lget']) <;> rfl
                 case hl => rfl
                 refine' WO.appendE (enc := encI) (m := 1) (xs := [] ++ (winL taps start n).drop 1) (ys := [nx (winL taps start n) taps]) encI_ok rfl rfl rfl rfl rfl (by repeat (first | exact Pick.head | apply Pick.tail)) (isSl_lit (by omega) (fun _ => ⟨_, _, rfl⟩)) (by omega) rfl (OwC.cells (by repeat (first | exact Pick.head | apply Pick.tail))) (by rw [List.nil_append, List.length_drop, win_len]; omega) (by rw [List.nil_append, List.length_drop, win_len]; omega) rfl (fun g c => ?_)
                 rw [List.nil_append, show (winL taps start n).drop 1 ++ [nx (winL taps start n) taps] = winL taps start (n + 1) from (win_step (by omega) hl n).symm]
                 refine WO.p rfl rfl ?_
                 refine WO.nil ?_
                 refine W.region ?_
                 refine WO.p rfl rfl (WO.ar rfl rfl rfl (by (first | (unfold in64; omega) | (unfold in64; omega))) rfl (WO.p rfl rfl ?_))
                 refine WO.nil ?_
                 refine' ⟨n + 1, _, ?hp, ?hmu, ⟨rfl, rfl, rfl, rfl, trivial⟩, ?hS⟩
                 case hS => repeat (first | exact Sub.nil | refine Sub.cons (by repeat (first | exact Pick.head | apply Pick.tail)) ?_)
                 case hp => omega
                 case hmu => omega)
            · first
              | (exfalso; omega)
              | (refine W.exit (blk_same ?_)
                 refine W.sreg ?_
                 refine WO.p rfl rfl (WO.p rfl rfl ?_)
                 refine WO.nil ?_
                 refine W.ret ?_
                 refine fin.ret (Res.one rfl (RV.tmp rfl)) (congrArg (Value.int .i64) ?_)
                 first | (have q1 := hn0; rw [per_eq hq, per_at hq (by omega) hn0 (by assumption)]; done) | (rw [per_eq (per_nil (by omega) (by omega))]; rfl))))
theorem ref_Period (w : World) (v u : Value) (taps start : List Int) (hR : RdF encI 1 w.heap.size w v taps) (hU : RdF encI 1 w.heap.size w u start) : Ret Try.prog 22 [v, u].toArray w (perV taps start) := by
  refine Ret.of mixed tyTab Try.func22 rfl rfl ?_
  replace hR : RdF encI 1 (fnCx mixed tyTab Try.f22.ntmps w).B (fnCx mixed tyTab Try.f22.ntmps w).w0 v taps := hR
  replace hU : RdF encI 1 (fnCx mixed tyTab Try.f22.ntmps w).B (fnCx mixed tyTab Try.f22.ntmps w).w0 u start := hU
  refine W.sreg ?_
  refine WO.p rfl rfl (WO.p rfl rfl ?_)
  refine WO.nil ?_
  refine W.seq ?_
  refine W.sreg ?_
  refine WO.p rfl rfl (WO.p rfl rfl ?_)
  refine WO.callR rfl Try.call48 (fun L w hi => ref_started w v u taps start (hR.later hi) (hU.later hi)) rfl ?_
  refine WO.p rfl rfl ?_
  refine WO.nil ?_
  refine W.cond_bl rfl (fun c1 => ?_) (fun c1 => ?_)
  · first
    | (exfalso; omega)
    | (refine W.sreg ?_
       refine WO.p rfl rfl (WO.p rfl rfl ?_)
       refine WO.callR rfl Try.call48 (fun L w hi => ref_started w v u taps start (hR.later hi) (hU.later hi)) rfl ?_
       refine WO.p rfl rfl (WO.p rfl rfl ?_)
       refine WO.nil ?_
       refine W.ret ?_
       refine fin.ret (Res.two rfl (RV.tmp rfl) (RV.tmp rfl)) ?_
       first | (have q1 := hlast; obtain ⟨q, _, hq⟩ := per_ex h2.2 hln hlast; rw [per_eq hq]; exact perV_ok hpe hq) | exact perV_err (perE_a (by assumption)) (by assumption) | exact perV_err (perE_b (by omega) (by omega)) (by decide) | exact perV_err (perE_c (by omega) (by omega) (per_last' (by omega) (by assumption))) (by decide))
  · first
    | (exfalso; omega)
    | (refine W.skip ?_
       refine W.seq ?_
       refine W.sreg ?_
       refine WO.p rfl rfl ?_
       refine' WO.len (n := _) rfl rfl ?hs rfl ?_
       case hs => (first | exact hR.sl)
       refine WO.p rfl rfl ?_
       refine WO.nil ?_
       refine W.cond_bl rfl (fun c2 => ?_) (fun c2 => ?_)
       · first
         | (exfalso; omega)
         | (refine W.sreg ?_
            refine WO.p rfl rfl (WO.p rfl rfl ?_)
            refine WO.nil ?_
            refine W.ret ?_
            refine fin.ret (Res.two rfl (RV.tmp rfl) (RV.tmp rfl)) ?_
            first | (have q1 := hlast; obtain ⟨q, _, hq⟩ := per_ex h2.2 hln hlast; rw [per_eq hq]; exact perV_ok hpe hq) | exact perV_err (perE_a (by assumption)) (by assumption) | exact perV_err (perE_b (by omega) (by omega)) (by decide) | exact perV_err (perE_c (by omega) (by omega) (per_last' (by omega) (by assumption))) (by decide))
       · first
         | (exfalso; omega)
         | (refine W.skip ?_
            refine W.seq ?_
            refine W.sreg ?_
            refine WO.p rfl rfl ?_
            refine' WO.len (n := _) rfl rfl ?hs rfl ?_
            case hs => (first | exact hR.sl)
            refine WO.p rfl rfl (WO.p rfl rfl ?_)
            refine WO.guard_bl rfl rfl (fun c3 => ?_) (fun c3 => ?_)
            · first
              | (exfalso; omega)
              | (refine WO.pg rfl rfl rfl (WO.pg rfl rfl rfl (WO.go' rfl ?_))
                 refine' WO.len (n := _) rfl rfl ?hs rfl ?_
                 case hs => (first | exact hR.sl)
                 refine WO.go' rfl (WO.ar rfl rfl rfl (by (first | (unfold in64; omega) | (unfold in64; omega))) rfl (WO.go' rfl ?_))
                 refine' WO.indexAddrZ (n := _) rfl rfl rfl ?hs ?h00 ?h1 rfl ?_
                 case hs => (first | exact hR.sl)
                 case h00 => omega
                 case h1 => (first | omega | (simp; omega))
                 refine WO.go' rfl ?_
                 refine' WO.load (v := _) rfl rfl ?hc rfl ?_
                 case hc => (first | (refine hR.cell0 (i := ((taps.length : Int) - 1).toNat) ?_ 0 ?_ <;> first | rfl | omega))
                 refine WO.pg rfl rfl rfl (WO.p rfl rfl ?_)
                 refine WO.nil ?_
                 refine W.cond_bl rfl (fun c4 => ?_) (fun c4 => ?_)
                 · first
                   | (exfalso; omega)
                   | (refine W.sreg ?_
                      refine WO.p rfl rfl (WO.p rfl rfl ?_)
                      refine WO.nil ?_
                      refine W.ret ?_
                      refine fin.ret (Res.two rfl (RV.tmp rfl) (RV.tmp rfl)) ?_
                      first | (have q1 := hlast; obtain ⟨q, _, hq⟩ := per_ex h2.2 hln hlast; rw [per_eq hq]; exact perV_ok hpe hq) | exact perV_err (perE_a (by assumption)) (by assumption) | exact perV_err (perE_b (by omega) (by omega)) (by decide) | exact perV_err (perE_c (by omega) (by omega) (per_last' (by omega) (by assumption))) (by decide))
                 · first
                   | (exfalso; omega)
                   | (refine W.skip ?_
                      have hpe : perE taps start = 0 := perE_d (by omega) (by omega) (per_last (by first | (right; assumption) | (left; omega)))
                      obtain ⟨hok, h12, hlast⟩ := perE_0 hpe
                      have h1 := chkB0.1 (chkS0.1 hok).1.1
                      have h2 := chkB0.1 (chkS0.1 hok).1.2
                      have hln := (chkS0.1 hok).2
                      refine W.sreg ?_
                      refine WO.p rfl rfl (WO.p rfl rfl ?_)
                      refine WO.callR (r := .int .i64 (per taps start : Int)) rfl Try.call49 (fun L w hi => ref_period w _ _ taps start (hR.later hi) (hU.later hi) h1.2 h2.2 hln h12 hlast) rfl ?_
                      refine WO.p rfl rfl (WO.p rfl rfl ?_)
                      refine WO.nil ?_
                      refine W.ret ?_
                      refine fin.ret (Res.two rfl (RV.tmp rfl) (RV.tmp rfl)) ?_
                      first | (have q1 := hlast; obtain ⟨q, _, hq⟩ := per_ex h2.2 hln hlast; rw [per_eq hq]; exact perV_ok hpe hq) | exact perV_err (perE_a (by assumption)) (by assumption) | exact perV_err (perE_b (by omega) (by omega)) (by decide) | exact perV_err (perE_c (by omega) (by omega) (per_last' (by omega) (by assumption))) (by decide)))
            · first
              | (exfalso; omega)
              | (refine WO.no rfl rfl (WO.no rfl rfl (WO.no rfl rfl (WO.no rfl rfl (WO.no rfl rfl (WO.no rfl rfl (WO.no rfl rfl (WO.p rfl rfl ?_)))))))
                 refine WO.nil ?_
                 refine W.cond_f rfl ?_
                 refine W.skip ?_
                 have hpe : perE taps start = 0 := perE_d (by omega) (by omega) (per_last (by first | (right; assumption) | (left; omega)))
                 obtain ⟨hok, h12, hlast⟩ := perE_0 hpe
                 have h1 := chkB0.1 (chkS0.1 hok).1.1
                 have h2 := chkB0.1 (chkS0.1 hok).1.2
                 have hln := (chkS0.1 hok).2
                 refine W.sreg ?_
                 refine WO.p rfl rfl (WO.p rfl rfl ?_)
                 refine WO.callR (r := .int .i64 (per taps start : Int)) rfl Try.call49 (fun L w hi => ref_period w _ _ taps start (hR.later hi) (hU.later hi) h1.2 h2.2 hln h12 hlast) rfl ?_
                 refine WO.p rfl rfl (WO.p rfl rfl ?_)
                 refine WO.nil ?_
                 refine W.ret ?_
                 refine fin.ret (Res.two rfl (RV.tmp rfl) (RV.tmp rfl)) ?_
                 first | (have q1 := hlast; obtain ⟨q, _, hq⟩ := per_ex h2.2 hln hlast; rw [per_eq hq]; exact perV_ok hpe hq) | exact perV_err (perE_a (by assumption)) (by assumption) | exact perV_err (perE_b (by omega) (by omega)) (by decide) | exact perV_err (perE_c (by omega) (by omega) (per_last' (by omega) (by assumption))) (by decide))))
end Go.Proofs.Ytingkbglkaojdaa
namespace Go.Proofs.Ytingkbglkaojdaa
open Go Go.TH Go.TH.Wv
attribute [local irreducible] W WO pt
set_option maxRecDepth 10000
set_option maxHeartbeats 1000000
/-- a map with these states as keys -/
def SetP (b : Nat) (ks : List Nat) : HP := fun h => ∃ (es : Array MapEntry) (clk : Nat), es.toList.map (·.key) = ks.map stateV ∧ pt b (.map es clk) h
theorem run_eq67 (w : World) (a b : Nat) : (Op.equal 67 (stateV a) (stateV b)).run Try.prog w = .ok (bl (a = b)) w := by
  unfold stateV
  simp [Op.equal, Op.maxDepth, go_sem, Try.underlying67]
  by_cases h1 : a = b
  · subst h1; simp [bl_eq]
  · have h2 : ¬ (a : Int) = (b : Int) := by omega
    simp [h1, h2, bl_eq]
theorem run_check62 (w : World) (e : Bool) (n : Nat) (v : Value) : (Instr.checkKey e (n + 1) 62 v).run Try.prog w = .ok () w := by
  unfold Instr.checkKey
  simp [run_underlying Try.underlying62]
theorem run_check67 (w : World) (e : Bool) (a : Nat) : (Instr.checkKey e 10000 67 (stateV a)).run Try.prog w = .ok () w := by
  unfold stateV
  rw [show (10000 : Nat) = 9998 + 1 + 1 from rfl]
  unfold Instr.checkKey
  simp [go_sem, run_underlying Try.underlying67, run_check62]
theorem find67 (w : World) (k : Nat) : ∀ (es : List MapEntry) (ks : List Nat) (i : Nat), es.map (·.key) = ks.map stateV →
    (k ∈ ks ∧ ∃ j v, (Instr.findAsking 67 (stateV k) es i).run Try.prog w = .ok (some (i + j, v)) w ∧ (es.eraseIdx j).map (·.key) = (ks.erase k).map stateV) ∨ (k ∉ ks ∧ (Instr.findAsking 67 (stateV k) es i).run Try.prog w = .ok none w)
  | [], ks, i, h => by
    obtain rfl : ks = [] := by cases ks with
      | nil => rfl
      | cons a r => simp at h
    exact .inr ⟨by simp, by simp [Instr.findAsking]⟩
  | e :: es, [], i, h => by simp at h
  | e :: es, a :: r, i, h => by
    simp only [List.map_cons, List.cons.injEq] at h
    obtain ⟨h1, h2⟩ := h
    by_cases g : k = a
    · subst g
      refine .inl ⟨by simp, 0, e.val, ?_, ?_⟩
      · simp [Instr.findAsking, h1, run_eq67, bl_eq]
      · simpa using h2
    · rcases find67 w k es r (i + 1) h2 with ⟨q1, j, v, q2, q3⟩ | ⟨q1, q2⟩
      · refine .inl ⟨by simp [q1], j + 1, v, ?_, ?_⟩
        · simp [Instr.findAsking, h1, run_eq67, bl_eq, g, q2]
          omega
        · rw [List.eraseIdx_cons_succ, List.map_cons, q3, List.erase_cons_tail (by simp; exact fun e => g e.symm), List.map_cons, h1]
      · exact .inr ⟨by simp [g, q1], by simp [Instr.findAsking, h1, run_eq67, bl_eq, g, q2]⟩
theorem key67 (w : World) (k : Nat) (es : List MapEntry) : (Instr.findKey 67 (stateV k) es).run Try.prog w = (Instr.findAsking 67 (stateV k) es).run Try.prog w := run_findKey_eq w (by simp [Try.underlying67]) _ _
theorem setP_nil {b : Nat} {H H' : List HP} (p : Pick (pt b (.map #[] 0)) H H') : ∀ h, sat H h → sat (SetP b [] :: H') h := fun h hs => by
  obtain ⟨h1, h2, s, a, r⟩ := p.sat hs
  exact ⟨h1, h2, s, ⟨#[], 0, rfl, a⟩, r⟩
section
variable {C : Cx Try.prog} {E : Env} {H : List HP}
variable {ops : Array Oper} {K : KP} {rest : List Oper} {d : Nat} {ty : TypeId} {pos : String} {af : Array Edge} {x y z : Operand} {T : TypeId}
theorem SetP.open {w0 w : World} {M : List Nat} {L H' : List HP} {b : Nat} {ks : List Nat} (p : Pick (SetP b ks) H H') (hi : TH.Inv w0 M (L ++ H) w) : ∃ (es : Array MapEntry) (clk : Nat), es.toList.map (·.key) = ks.map stateV ∧ TH.Inv w0 M (pt b (.map es clk) :: (L ++ H')) w := by
  have h1 := (hi.pickL p).perm List.perm_middle
  obtain ⟨ha, hb, s, ⟨es, clk, e, q⟩, hr⟩ := h1.mine
  exact ⟨es, clk, e, h1.os, h1.tape, h1.output, h1.size, h1.keep, ha, hb, s, q, hr⟩
theorem SetP.shut {w0 w : World} {M : List Nat} {L H' : List HP} {b clk : Nat} {es : Array MapEntry} {ks : List Nat} (e : es.toList.map (·.key) = ks.map stateV) (hi : TH.Inv w0 M (pt b (.map es clk) :: (L ++ H')) w) : TH.Inv w0 M (L ++ SetP b ks :: H') w := by
  have h2 : TH.Inv w0 M (SetP b ks :: (L ++ H')) w := ⟨hi.os, hi.tape, hi.output, hi.size, hi.keep, sat_mono (fun h q => ⟨es, clk, e, q⟩) hi.mine⟩
  exact h2.perm (List.perm_middle (l₁ := L) (l₂ := H')).symm
/-- a new state is put in -/
theorem WO.setIn {b k : Nat} {ks : List Nat} {u : Value} {H' : List HP} {et : TypeId} (hT : Try.prog.underlying T = some (.map 67 et)) (hm : ev E x = some (.map (some b))) (hk : ev E y = some (stateV k)) (hu : ev E z = some u) (p : Pick (SetP b ks) H H') (hn : k ∉ ks)
    (h : WO C ops rest K E (SetP b (ks ++ [k]) :: H')) : WO C ops (⟨none, .mapUpdate T x y z, ty, pos, af, none⟩ :: rest) K E H := by
  refine WO.step0 rfl rfl (XO.run (by simp) fun L a w hfr hi => ?_)
  obtain ⟨es, clk, he, hi'⟩ := SetP.open p hi
  have hl := (hi'.look .head).1
  have hlt : b < w.heap.size := (Array.getElem?_eq_some_iff.1 hl).1
  have hf : (Instr.findKey 67 (stateV k) es.toList).run Try.prog w = .ok none w := by
    rw [key67]
    rcases find67 w k es.toList ks 0 he with ⟨q, _⟩ | ⟨_, q⟩
    · exact absurd q hn
    · exact q
  refine ⟨undef, { w with heap := w.heap.setIfInBounds b (.map (es.push { key := stateV k, val := u, born := clk }) (clk + 1)) }, _, .inr ⟨?_, rfl⟩, h, ?_⟩
  · have hr : (Instr.mapUpdate T (.map (some b)) (stateV k) u).run Try.prog w = .ok () { w with heap := w.heap.setIfInBounds b (.map (es.push { key := stateV k, val := u, born := clk }) (clk + 1)) } := by
      simp [Instr.mapUpdate, run_underlying hT, getMap_run hl, run_check67, hf]
      simp [setObj, Sem.run, hl, Result.andThen]
    simp [execOp, hfr.eval hm, hfr.eval hk, hfr.eval hu, hr]
  · have hs := hi'.set (o' := .map (es.push { key := stateV k, val := u, born := clk }) (clk + 1)) .head (w' := { w with heap := w.heap.setIfInBounds b (.map (es.push { key := stateV k, val := u, born := clk }) (clk + 1)) }) rfl rfl rfl (by simp) (by simp [hlt]) (fun k hk => by simp [Array.getElem?_setIfInBounds_ne (Ne.symm hk)])
    exact SetP.shut (by simp [he]) hs
/-- a state is taken out -/
theorem WO.setOut {b k : Nat} {ks : List Nat} {H' : List HP} {et : TypeId} {ts : Array TypeId} (hts : ts[0]? = some T) (hT : Try.prog.underlying T = some (.map 67 et)) (hm : ev E x = some (.map (some b))) (hk : ev E y = some (stateV k)) (p : Pick (SetP b ks) H H')
    (h : WO C ops rest K E (SetP b (ks.erase k) :: H')) : WO C ops (⟨none, .call ⟨.builtin .delete, #[x, y], ts⟩, ty, pos, af, none⟩ :: rest) K E H := by
  refine WO.step0 rfl rfl (XO.run (by simp) fun L a w hfr hi => ?_)
  obtain ⟨es, clk, he, hi'⟩ := SetP.open p hi
  have hl := (hi'.look .head).1
  have hlt : b < w.heap.size := (Array.getElem?_eq_some_iff.1 hl).1
  obtain ⟨es', he', hr⟩ : ∃ es' : Array MapEntry, es'.toList.map (·.key) = (ks.erase k).map stateV ∧ (Builtin.delete_ ts ty #[.map (some b), stateV k]).run Try.prog w = .ok (.tuple #[]) { w with heap := w.heap.setIfInBounds b (.map es' clk) } := by
    rcases find67 w k es.toList ks 0 he with ⟨_, j, v, q2, q3⟩ | ⟨q1, q2⟩
    · rw [← key67] at q2
      refine ⟨es.eraseIdxIfInBounds j, ?_, ?_⟩
      · rw [Array.toList_eraseIdxIfInBounds]; exact q3
      · simp [Builtin.delete_, hts, run_underlying hT, getMap_run hl, run_check67, q2]
        simp [setObj, Sem.run, hl, Result.andThen]
    · rw [← key67] at q2
      refine ⟨es, by rw [List.erase_of_not_mem q1]; exact he, ?_⟩
      simp [Builtin.delete_, hts, run_underlying hT, getMap_run hl, run_check67, q2]
      simp [setObj, Sem.run, hl, Result.andThen]
  refine ⟨.tuple #[], { w with heap := w.heap.setIfInBounds b (.map es' clk) }, _, .inl ?_, h, ?_⟩
  · simp [execOp, resolve, hfr.eval hm, hfr.eval hk, Deferred.ofValue, invoke, builtin, hr]
  · have hs := hi'.set (o' := .map es' clk) .head (w' := { w with heap := w.heap.setIfInBounds b (.map es' clk) }) rfl rfl rfl (by simp) (by simp [hlt]) (fun k hk => by simp [Array.getElem?_setIfInBounds_ne (Ne.symm hk)])
    exact SetP.shut he' hs
/-- how many there are -/
theorem WO.setLen {b : Nat} {ks : List Nat} {H' : List HP} {kt et : TypeId} {ts : Array TypeId} (hts : ts[0]? = some T) (hT : Try.prog.underlying T = some (.map kt et)) (hm : ev E x = some (.map (some b))) (p : Pick (SetP b ks) H H') (hN : Nat.blt d C.N = true)
    (h : WO C ops rest K ((d, .int .i64 (ks.length : Int)) :: E) (SetP b ks :: H')) : WO C ops (⟨some d, .call ⟨.builtin .len, #[x], ts⟩, ty, pos, af, none⟩ :: rest) K E H := by
  refine WO.step rfl rfl hN (XO.run (by simp) fun L a w hfr hi => ?_)
  obtain ⟨es, clk, he, hi'⟩ := SetP.open p hi
  have hl := (hi'.look .head).1
  have hsz : es.size = ks.length := by have := congrArg List.length he; simpa using this
  have hr : (Builtin.len_ ts ty #[.map (some b)]).run Try.prog w = .ok (.int .i64 (ks.length : Int)) w := by
    simp [Builtin.len_, hts, run_underlying hT, getMap_run hl, hsz, goInt]
  refine ⟨_, w, _, .inl ?_, h, SetP.shut he hi'⟩
  simp [execOp, resolve, hfr.eval hm, Deferred.ofValue, invoke, builtin, hr]
end
end Go.Proofs.Ytingkbglkaojdaa
namespace Go.Proofs.Ytingkbglkaojdaa
open Go Go.TH Go.TH.Wv
set_option maxRecDepth 10000
set_option maxHeartbeats 1000000
/-- the state 1 -/
def oneL (L : Nat) : List Int := (List.replicate L 0).set 0 1
theorem oneL_len (L : Nat) : (oneL L).length = L := by unfold oneL; simp
theorem oneL_bt {L : Nat} (h : 0 < L) (i : Nat) : bt (oneL L) i = if i = 0 then 1 else 0 := by
  unfold oneL bt
  simp only [List.getD_eq_getElem?_getD, List.getElem?_set, List.getElem?_replicate, List.length_replicate]
  by_cases g : i = 0
  · subst g; simp [h]
  · have : ¬ 0 = i := fun e => g e.symm
    rw [if_neg this, if_neg g]
    by_cases g2 : i < L <;> simp [g2]
theorem oneL_ok (L : Nat) : OkBs (oneL L) := fun x hx => by
  unfold oneL at hx
  rcases List.mem_or_eq_of_mem_set hx with h | h
  · left; exact List.eq_of_mem_replicate h
  · right; exact h
theorem sN_one {L : Nat} (h : 0 < L) : sN (oneL L) = 1 := cfb fun i => by
  rw [sN_bit (oneL_ok L), oneL_bt h]
  have := one_bit 0 i
  rw [Nat.shiftLeft_zero] at this
  rw [this]
  by_cases g : i = 0
  · subst g; simp
  · have : ¬ 0 = i := fun e => g e.symm
    simp [g, this]
/-- the states that are not yet seen -/
def leftL (taps start : List Int) (M : Nat) : Nat → List Nat
  | 0 => (List.range M).map (· + 1)
  | m + 1 => (leftL taps start M m).erase (sN (winL taps start m))
theorem left_nodup (taps start : List Int) (M : Nat) : ∀ m, (leftL taps start M m).Nodup
  | 0 => by
    unfold leftL
    exact List.Pairwise.map _ (fun a b h => by simpa using h) List.nodup_range
  | m + 1 => (left_nodup taps start M m).erase _
theorem left_mem {taps start : List Int} {M : Nat} : ∀ m v, v ∈ leftL taps start M m ↔ (1 ≤ v ∧ v ≤ M) ∧ ∀ k, k < m → v ≠ sN (winL taps start k)
  | 0, v => by
    unfold leftL
    rw [List.mem_map]
    constructor
    · rintro ⟨a, ha, rfl⟩
      have := List.mem_range.1 ha
      exact ⟨by omega, fun k hk => by omega⟩
    · rintro ⟨h, _⟩
      exact ⟨v - 1, List.mem_range.2 (by omega), by omega⟩
  | m + 1, v => by
    unfold leftL
    rw [(left_nodup taps start M m).mem_erase_iff, left_mem m v]
    constructor
    · rintro ⟨h1, h2, h3⟩
      refine ⟨h2, fun k hk => ?_⟩
      rcases Nat.lt_or_ge k m with g | g
      · exact h3 k g
      · obtain rfl : k = m := by omega
        exact h1
    · rintro ⟨h1, h2⟩
      exact ⟨h2 m (by omega), h1, fun k hk => h2 k (by omega)⟩
theorem left_nil {taps start : List Int} {M m : Nat} : leftL taps start M m = [] ↔ ∀ v, 1 ≤ v → v ≤ M → ∃ k, k < m ∧ sN (winL taps start k) = v := by
  constructor
  · intro h v h1 h2
    refine Classical.byContradiction fun g => ?_
    have : v ∈ leftL taps start M m := (left_mem m v).2 ⟨⟨h1, h2⟩, fun k hk e => g ⟨k, hk, e.symm⟩⟩
    rw [h] at this; cases this
  · intro h
    refine List.eq_nil_iff_forall_not_mem.2 fun v hv => ?_
    obtain ⟨⟨h1, h2⟩, h3⟩ := (left_mem m v).1 hv
    obtain ⟨k, hk, e⟩ := h v h1 h2
    exact h3 k hk e.symm
/-! ### the windows of a start that has a 1 -/
theorem nx_zero {taps l : List Int} (h : ∀ i, bt l i = 0) : nx l taps = 0 := by
  unfold nx pre
  rw [sm_zero (fun j _ => by rw [h]; omega)]
  rfl
def HasOne (l : List Int) : Prop := ∃ i, bt l i = 1
theorem sN_zero {l : List Int} (h : OkBs l) : sN l = 0 ↔ ¬ HasOne l := by
  constructor
  · rintro e ⟨i, hi⟩
    have := sN_bit h i
    rw [e, hi] at this
    simp at this
  · intro g
    refine cfb fun i => ?_
    rw [sN_bit h]
    have : ¬ bt l i = 1 := fun e => g ⟨i, e⟩
    simp [this]
theorem stepW_has {taps l : List Int} (h : OkBs l) (hl : l.length = taps.length) (h0 : 0 < taps.length) (hlast : bt taps (taps.length - 1) = 1) (ho : HasOne l) : HasOne (stepW taps l) := by
  refine Classical.byContradiction fun g => ?_
  have hz : OkBs (List.replicate taps.length (0 : Int)) := fun x hx => .inl (List.eq_of_mem_replicate hx)
  have hbz : ∀ i, bt (List.replicate taps.length (0 : Int)) i = 0 := fun i => by unfold bt; by_cases g : i < taps.length <;> simp [g]
  have e0 : ∀ i, bt (stepW taps l) i = 0 := fun i => by
    have := bt_ok (stepW_ok (taps := taps) h) i
    rcases this with q | q
    · exact q
    · exact absurd ⟨i, q⟩ g
  have e1 : ∀ i, bt (stepW taps (List.replicate taps.length (0 : Int))) i = 0 := fun i => by
    rw [stepW_bt (by simpa using h0), nx_zero hbz, hbz]
    split
    · rfl
    · split <;> rfl
  have e : stepW taps l = stepW taps (List.replicate taps.length (0 : Int)) := ext_getD 0 (by rw [stepW_len (by omega), stepW_len (by simpa using h0)]; simpa using hl) fun i _ => by
    show bt _ i = bt _ i
    rw [e0, e1]
  have := stepW_inj h hz hl (by simp) h0 hlast e
  obtain ⟨i, hi⟩ := ho
  rw [this, hbz] at hi
  cases hi
theorem win_has {taps start : List Int} (hs : OkBs start) (hl : start.length = taps.length) (h0 : 0 < taps.length) (hlast : bt taps (taps.length - 1) = 1) (ho : HasOne start) : ∀ k, HasOne (winL taps start k)
  | 0 => ho
  | k + 1 => by
    rw [win_step (by omega) hl]
    exact stepW_has (win_ok hs k) (by rw [win_len]; exact hl) h0 hlast (win_has hs hl h0 hlast ho k)
theorem sN_lt {l : List Int} (h : OkBs l) : sN l < 2 ^ l.length := accS_lt h _
/-- the period of a start that has a 1 -/
theorem per_le {taps start : List Int} {q : Nat} (hs : OkBs start) (hl : start.length = taps.length) (h0 : 0 < taps.length) (hlast : bt taps (taps.length - 1) = 1) (ho : HasOne start) (hq : IsPer taps start q) : q ≤ 2 ^ taps.length - 1 := by
  have hp : 2 ≤ 2 ^ taps.length := by
    have := Nat.pow_le_pow_right (show 0 < 2 by decide) h0
    simpa using this
  obtain ⟨i, j, hij, hj, e⟩ := php (2 ^ taps.length - 1) (fun k => sN (winL taps start k) - 1) (fun k _ => by
    have h1 := sN_lt (win_ok (taps := taps) hs k)
    rw [win_len, hl] at h1
    show sN _ - 1 < _
    omega)
  have hne : ∀ k, sN (winL taps start k) ≠ 0 := fun k e => (sN_zero (win_ok hs k)).1 e (win_has hs hl h0 hlast ho k)
  have h1 := hne i
  have h2 := hne j
  have e1 : sN (winL taps start i) = sN (winL taps start j) := by
    have : sN (winL taps start i) - 1 = sN (winL taps start j) - 1 := e
    omega
  have e2 := sN_inj (win_ok hs i) (win_ok hs j) (by rw [win_len, win_len]) e1
  have e3 := win_back hs hl h0 hlast i (j - i) (by rw [show i + (j - i) = j by omega]; exact e2.symm)
  rcases Nat.lt_or_ge (j - i) q with g | g
  · exact absurd e3 (hq.2.2 _ (by omega) g)
  · omega
theorem win_add {taps start : List Int} (hl : start.length = taps.length) (h0 : 0 < taps.length) {q : Nat} (e : winL taps start q = start) : ∀ k, winL taps start (k + q) = winL taps start k
  | 0 => by rw [Nat.zero_add]; exact e
  | k + 1 => by
    rw [show k + 1 + q = k + q + 1 by omega, win_step (by omega) hl, win_add hl h0 e k, ← win_step (by omega) hl]
theorem win_mod {taps start : List Int} (hl : start.length = taps.length) (h0 : 0 < taps.length) {q : Nat} (hq : 0 < q) (e : winL taps start q = start) : ∀ k, ∃ r, r < q ∧ r ≤ k ∧ winL taps start k = winL taps start r := by
  intro k
  induction k using Nat.strongRecOn with
  | ind k ih =>
    rcases Nat.lt_or_ge k q with g | g
    · exact ⟨k, g, Nat.le_refl _, rfl⟩
    · obtain ⟨r, h1, h2, h3⟩ := ih (k - q) (by omega)
      refine ⟨r, h1, by omega, ?_⟩
      rw [← h3]
      have := win_add hl h0 e (k - q)
      rwa [show k - q + q = k by omega] at this
theorem win_dist {taps start : List Int} (hs : OkBs start) (hl : start.length = taps.length) (h0 : 0 < taps.length) (hlast : bt taps (taps.length - 1) = 1) {q i j : Nat} (hq : IsPer taps start q) (hij : i < j) (hj : j < q) : sN (winL taps start i) ≠ sN (winL taps start j) := fun e => by
  have e2 := sN_inj (win_ok hs i) (win_ok hs j) (by rw [win_len, win_len]) e
  have e3 := win_back hs hl h0 hlast i (j - i) (by rw [show i + (j - i) = j by omega]; exact e2.symm)
  exact hq.2.2 (j - i) (by omega) (by omega) e3
/-- all states but that of zeros are seen just if the period is as long -/
theorem full_iff {taps start : List Int} {q : Nat} (hs : OkBs start) (hl : start.length = taps.length) (h0 : 0 < taps.length) (hlast : bt taps (taps.length - 1) = 1) (ho : HasOne start) (hq : IsPer taps start q) :
    leftL taps start (2 ^ taps.length - 1) (2 ^ taps.length) = [] ↔ q = 2 ^ taps.length - 1 := by
  have hp : 2 ≤ 2 ^ taps.length := by
    have := Nat.pow_le_pow_right (show 0 < 2 by decide) h0
    simpa using this
  have hle := per_le hs hl h0 hlast ho hq
  rw [left_nil]
  constructor
  · intro h
    rcases Nat.lt_or_ge q (2 ^ taps.length - 1) with g | g
    · have hg : ∀ v, ∃ k, 1 ≤ v → v ≤ 2 ^ taps.length - 1 → k < q ∧ sN (winL taps start k) = v := fun v => by
        by_cases h1 : 1 ≤ v ∧ v ≤ 2 ^ taps.length - 1
        · obtain ⟨k, _, e⟩ := h v h1.1 h1.2
          obtain ⟨r, q1, _, q2⟩ := win_mod hl h0 hq.1 hq.2.1 k
          exact ⟨r, fun _ _ => ⟨q1, by rw [← q2]; exact e⟩⟩
        · exact ⟨0, fun a b => absurd ⟨a, b⟩ h1⟩
      obtain ⟨i, j, hij, hj, e⟩ := php q (fun i => Classical.choose (hg (i + 1))) (fun i hi => (Classical.choose_spec (hg (i + 1)) (by omega) (by omega)).1)
      have e1 := (Classical.choose_spec (hg (i + 1)) (by omega) (by omega)).2
      have e2 := (Classical.choose_spec (hg (j + 1)) (by omega) (by omega)).2
      have e3 : Classical.choose (hg (i + 1)) = Classical.choose (hg (j + 1)) := e
      rw [e3, e2] at e1
      omega
    · omega
  · intro e v h1 h2
    refine Classical.byContradiction fun g => ?_
    have hno : ∀ k, k < 2 ^ taps.length → sN (winL taps start k) ≠ v := fun k hk e => g ⟨k, hk, e⟩
    have hne : ∀ k, sN (winL taps start k) ≠ 0 := fun k e => (sN_zero (win_ok hs k)).1 e (win_has hs hl h0 hlast ho k)
    obtain ⟨i, j, hij, hj, e1⟩ := php (2 ^ taps.length - 1) (fun k => if k < q then sN (winL taps start k) - 1 else v - 1) (fun k _ => by
      have h3 := sN_lt (win_ok (taps := taps) hs k)
      rw [win_len, hl] at h3
      show (if k < q then sN (winL taps start k) - 1 else v - 1) < _
      split <;> omega)
    have e2 : (if i < q then sN (winL taps start i) - 1 else v - 1) = (if j < q then sN (winL taps start j) - 1 else v - 1) := e1
    have hi := hne i
    have hj0 := hne j
    rw [if_pos (show i < q by omega)] at e2
    by_cases gj : j < q
    · rw [if_pos gj] at e2
      exact win_dist hs hl h0 hlast hq hij gj (by omega)
    · rw [if_neg gj] at e2
      exact hno i (by omega) (by omega)
/-! ### the taps of a number -/
def tapsF (L n : Nat) : List Int := (List.range L).map fun j => ((n >>> (L - 1 - j) % 2 : Nat) : Int)
theorem tapsF_len (L n : Nat) : (tapsF L n).length = L := by unfold tapsF; simp
theorem tapsF_ok (L n : Nat) : OkBs (tapsF L n) := fun x hx => by
  unfold tapsF at hx
  obtain ⟨j, _, rfl⟩ := List.mem_map.1 hx
  show _ = 0 ∨ _ = 1
  omega
theorem tapsF_last {L n : Nat} (h : 0 < L) : bt (tapsF L n) (L - 1) = ((n % 2 : Nat) : Int) := by
  unfold tapsF bt
  rw [mapR_get 0 (by omega), show L - 1 - (L - 1) = 0 by omega, Nat.shiftRight_zero]
/-- whether a number is that of a full register -/
def fullB (L n : Nat) : Bool := decide (n % 2 = 1 ∧ leftL (tapsF L n) (oneL L) (2 ^ L - 1) (2 ^ L) = [])
def fullU (L m : Nat) : List (List Int) := ((List.range m).filter (fullB L)).map (tapsF L)
def fullL (L : Nat) : List (List Int) := fullU L (2 ^ L)
theorem fullU_yes {L m : Nat} (h : fullB L m = true) : fullU L (m + 1) = fullU L m ++ [tapsF L m] := by
  unfold fullU
  rw [List.range_succ, List.filter_append, List.map_append]
  simp [h]
theorem fullU_no {L m : Nat} (h : fullB L m = false) : fullU L (m + 1) = fullU L m := by
  unfold fullU
  rw [List.range_succ, List.filter_append, List.map_append]
  simp [h]
theorem fullB_even {L m : Nat} (h : m % 2 = 0) : fullB L m = false := by unfold fullB; simp; omega
theorem fullU_len (L m : Nat) : (fullU L m).length ≤ m := by
  unfold fullU
  rw [List.length_map]
  have := List.length_filter_le (fullB L) (List.range m)
  simpa using this
theorem one_has {L : Nat} (h : 0 < L) : HasOne (oneL L) := ⟨0, by rw [oneL_bt h]; rfl⟩
/-- the reference's answer -/
theorem fullB_per {L n : Nat} (h : 0 < L) (hlast : n % 2 = 1) : fullB L n = true ↔ per (tapsF L n) (oneL L) = 2 ^ L - 1 := by
  have hl : (oneL L).length = (tapsF L n).length := by rw [oneL_len, tapsF_len]
  have h1 : bt (tapsF L n) ((tapsF L n).length - 1) = 1 := by rw [tapsF_len, tapsF_last h]; omega
  obtain ⟨q, _, hq⟩ := per_ex (oneL_ok L) hl (.inr h1)
  have := full_iff (oneL_ok L) hl (by rw [tapsF_len]; exact h) h1 (one_has h) hq
  rw [tapsF_len] at this
  rw [per_eq hq, ← this]
  unfold fullB
  rw [decide_eq_true_eq]
  exact ⟨fun h => h.2, fun h => ⟨hlast, h⟩⟩
end Go.Proofs.Ytingkbglkaojdaa
namespace Go.Proofs.Ytingkbglkaojdaa
open Go Go.TH Go.TH.Wv
attribute [local irreducible] W WO pt
set_option maxRecDepth 10000
set_option maxHeartbeats 2000000
def fullE (long : Int) : Int := if long < 1 ∨ 8 < long then 2 else 0
def fullR (long : Int) : List (List Int) := if fullE long = 0 then fullL long.toNat else []
theorem shl_one (L : Nat) : 1 <<< L = 2 ^ L := by rw [Nat.shiftLeft_eq, Nat.one_mul]
theorem fitsP {L : Nat} (h : L ≤ 8) : Fits .i64 (1 <<< L) := by
  rw [shl_one]
  exact Nat.lt_of_le_of_lt (Nat.pow_le_pow_right (by decide) h) (by decide)
theorem fits_i {a : Nat} (h : a < 9223372036854775808) : Fits .i64 a := h
theorem tapsF_step {L n i : Nat} (h : i < L) : ((tapsF L n).take i ++ List.replicate (L - i) 0).set i (((n >>> (L - 1 - i)) &&& 1 : Nat) : Int) = (tapsF L n).take (i + 1) ++ List.replicate (L - (i + 1)) 0 := by
  have hl : ((tapsF L n).take i).length = i := by rw [List.length_take, tapsF_len]; omega
  rw [List.set_append_right _ _ (by rw [hl]; exact Nat.le_refl i), hl, Nat.sub_self, show L - i = (L - (i + 1)) + 1 by omega, List.replicate_succ, List.set_cons_zero, take_succ_getD (by rw [tapsF_len]; exact h) 0, List.append_assoc]
  have e : (tapsF L n).getD i 0 = ((n >>> (L - 1 - i) % 2 : Nat) : Int) := mapR_get 0 h
  rw [e, Nat.and_one_is_mod]
  rfl
theorem left_all (taps start : List Int) (M : Nat) : (List.range M).map (· + 1) = leftL taps start M 0 := rfl
theorem range_in {m : Nat} (h : 0 < m) : (List.range (m - 1)).map (· + 1) ++ [m] = (List.range m).map (· + 1) := by
  obtain ⟨k, rfl⟩ : ∃ k, m = k + 1 := ⟨m - 1, by omega⟩
  rw [List.range_succ, List.map_append]; rfl
theorem range_no {m : Nat} : m ∉ (List.range (m - 1)).map (· + 1) := fun h => by
  obtain ⟨a, ha, e⟩ := List.mem_map.1 h
  have := List.mem_range.1 ha
  omega
theorem pow_le {L : Nat} (h : L ≤ 8) : 2 ^ L ≤ 256 := Nat.le_trans (Nat.pow_le_pow_right (by decide) h) (by decide)
theorem full_yes {L n : Nat} (h : n % 2 = 1) (h2 : ((leftL (tapsF L n) (oneL L) (2 ^ L - 1) (2 ^ L)).length : Int) = 0) : fullB L n = true := by
  unfold fullB
  rw [decide_eq_true_eq]
  exact ⟨h, List.eq_nil_of_length_eq_zero (by omega)⟩
theorem full_no {L n : Nat} (h2 : ¬ ((leftL (tapsF L n) (oneL L) (2 ^ L - 1) (2 ^ L)).length : Int) = 0) : fullB L n = false := by
  unfold fullB
  rw [decide_eq_false_iff_not]
  rintro ⟨_, e⟩
  rw [e] at h2
  exact h2 rfl
theorem full_two {L n : Nat} (h : n % 2 = 1) (h2 : fullB L n = true) : fullU L (n + 2) = fullU L n ++ [tapsF L n] := by
  rw [show n + 2 = n + 1 + 1 by omega, fullU_no (fullB_even (by omega)), fullU_yes h2]
theorem full_skip {L n : Nat} (h : n % 2 = 1) (h2 : fullB L n = false) : fullU L (n + 2) = fullU L n := by
  rw [show n + 2 = n + 1 + 1 by omega, fullU_no (fullB_even (by omega)), fullU_no h2]
theorem pow_even {L : Nat} (h : 0 < L) : 2 ^ L % 2 = 0 := by
  obtain ⟨k, rfl⟩ : ∃ k, L = k + 1 := ⟨L - 1, by omega⟩
  rw [Nat.pow_succ]; omega
theorem full_end {L : Nat} (h : 0 < L) : fullU L (2 ^ L + 1) = fullL L := fullU_no (fullB_even (pow_even h))
theorem fullE_0 {L : Nat} (h : 1 ≤ L) (h2 : L ≤ 8) : fullE (L : Int) = 0 := by unfold fullE; rw [if_neg (by omega)]
theorem fullR_ok {L : Nat} (h : 1 ≤ L) (h2 : L ≤ 8) : fullR (L : Int) = fullL L := by unfold fullR; rw [if_pos (fullE_0 h h2)]; rfl
theorem full_err {long : Int} {H : List HP} (h : long < 1 ∨ 8 < long) : ∃ Z : Value × List Value, Value.tuple #[.slice none 0 0, .int .i64 2] = .tuple #[Z.1, .int .i64 (fullE long)] ∧ ∀ h, sat H h → sat [OwC 22 1 Z.1 (fullR long).length Z.2, RowsE encI 3 1 Z.2 (fullR long)] h := by
  have e : fullE long = 2 := if_pos h
  have e2 : fullR long = [] := by unfold fullR; rw [e]; rfl
  refine ⟨(.slice none 0 0, []), by rw [e], fun h hs => ?_⟩
  rw [e2]
  exact Sub.sat (.cons .head (.cons .head .nil)) (owcNil (e := 22) (sz := 1) h (rowsNil (enc := encI) (e := 3) (sz := 1) h hs))
theorem c_Full (w : World) (long : Int) : Ct Try.prog 23 [.int .i64 long].toArray w fun r w' => ∃ Hq, (∃ Z : Value × List Value, r = .tuple #[Z.1, .int .i64 (fullE long)] ∧ Hq = [OwC 22 1 Z.1 (fullR long).length Z.2, RowsE encI 3 1 Z.2 (fullR long)]) ∧ Inv w [] Hq w' := by
  refine Ct.ofI mixed tyTab Try.func23 rfl rfl ?_
  refine W.sreg ?_
  refine WO.p rfl rfl (WO.p rfl rfl ?_)
  refine WO.nil ?_
  refine W.seq ?_
  refine W.sreg ?_
  refine WO.p rfl rfl (WO.p rfl rfl (WO.p rfl rfl ?_))
  refine WO.guard_bl rfl rfl (fun c1 => ?_) (fun c1 => ?_)
  · first
    | (exfalso; omega)
    | (refine WO.no rfl rfl (WO.no rfl rfl (WO.p rfl rfl ?_))
       refine WO.nil ?_
       refine W.cond_t rfl ?_
       refine W.sreg ?_
       refine WO.p rfl rfl (WO.p rfl rfl ?_)
       refine WO.nil ?_
       refine W.ret ?_
       refine fin.ret (Res.two rfl (RV.tmp rfl) (RV.tmp rfl)) ?_
       first | (have q := hn1; have h2 := pow_even (show 0 < L by omega); obtain rfl : n = 2 ^ L + 1 := (by omega); refine ⟨(o, rv), by rw [fullE_0 (by omega) (by omega)], fun h hs => ?_⟩; rw [fullR_ok (by omega) (by omega), ← full_end (show 0 < L by omega)]; exact Sub.sat (by repeat (first | exact Sub.nil | refine Sub.cons (by repeat (first | exact Pick.head | apply Pick.tail)) ?_)) hs) | exact full_err (by omega))
  · first
    | (exfalso; omega)
    | (refine WO.pg rfl rfl rfl (WO.pg rfl rfl rfl (WO.p rfl rfl ?_))
       refine WO.nil ?_
       refine W.cond_bl rfl (fun c2 => ?_) (fun c2 => ?_)
       · first
         | (exfalso; omega)
         | (refine W.sreg ?_
            refine WO.p rfl rfl (WO.p rfl rfl ?_)
            refine WO.nil ?_
            refine W.ret ?_
            refine fin.ret (Res.two rfl (RV.tmp rfl) (RV.tmp rfl)) ?_
            first | (have q := hn1; have h2 := pow_even (show 0 < L by omega); obtain rfl : n = 2 ^ L + 1 := (by omega); refine ⟨(o, rv), by rw [fullE_0 (by omega) (by omega)], fun h hs => ?_⟩; rw [fullR_ok (by omega) (by omega), ← full_end (show 0 < L by omega)]; exact Sub.sat (by repeat (first | exact Sub.nil | refine Sub.cons (by repeat (first | exact Pick.head | apply Pick.tail)) ?_)) hs) | exact full_err (by omega))
       · first
         | (exfalso; omega)
         | (refine W.skip ?_
            obtain ⟨L, rfl⟩ : ∃ L : Nat, long = (L : Int) := ⟨long.toNat, by omega⟩
            have hp := pow_le (show L ≤ 8 by omega)
            have hp1 := shl_one L
            have hp0 : 1 ≤ 2 ^ L := Nat.one_le_two_pow
            rw [← hp1] at hp hp0
            refine W.sreg ?_
            refine WO.p rfl rfl ?_
            refine WO.nil ?_
            refine W.seq ?_
            refine W.sreg ?_
            refine WO.p rfl rfl ?_
            refine WO.nil ?_
            refine W.block ?_
            refine W.chg (owcNil (e := 22) (sz := 1)) ?_
            refine W.chg (rowsNil (enc := encI) (e := 3) (sz := 1)) ?_
            refine W.loop3 (fun (n : Nat) (o : Value) (rv : List Value) => n % 2 = 1 ∧ n ≤ 1 <<< L + 1)
              (fun (n : Nat) (o : Value) (rv : List Value) => [(5, .int .i64 (n : Int)), (4, o), (0, .int .i64 (L : Int))])
              (fun (n : Nat) (o : Value) (rv : List Value) => [OwC 22 1 o (fullU L n).length rv, RowsE encI 3 1 rv (fullU L n)])
              (fun (n : Nat) (o : Value) (rv : List Value) => 1 <<< L + 1 - n) 1 (.slice none 0 0) []
              (by exact ⟨rfl, by omega⟩) ⟨rfl, rfl, rfl, trivial⟩ (by repeat (first | exact Sub.nil | refine Sub.cons (by repeat (first | exact Pick.head | apply Pick.tail)) ?_)) ?_
            rintro n o rv ⟨hn1, hn2⟩
            refine W.seq ?_
            refine W.sreg ?_
            refine WO.p rfl rfl (WO.p rfl rfl ?_)
            refine WO.shlN (a := 1) (s := L) rfl rfl (show L ≤ 64 by omega) (fitsP (by omega)) rfl ?_
            refine WO.p rfl rfl ?_
            refine WO.nil ?_
            refine W.cond_bl rfl (fun c3 => ?_) (fun c3 => ?_)
            · first
              | (exfalso; omega)
              | (refine W.skip ?_
                 refine W.seq ?_
                 refine W.block ?_
                 refine W.sreg ?_
                 refine WO.p rfl rfl ?_
                 refine WO.makeI (n := L) rfl rfl rfl rfl (by omega) (by omega) rfl (fun tb => ?_)
                 refine WO.p rfl rfl ?_
                 refine WO.nil ?_
                 refine W.seq ?_
                 refine W.sreg ?_
                 refine WO.p rfl rfl ?_
                 refine' WO.len (n := _) rfl rfl ?hs rfl ?_
                 case hs => (first | exact isSl_lit (n := L) (by omega) (fun _ => ⟨_, _, rfl⟩))
                 refine WO.p rfl rfl ?_
                 refine WO.nil ?_
                 refine W.block ?_
                 refine W.loop (fun (i : Nat) => i ≤ L)
                   (fun (i : Nat) => [(28, .int .i64 (i : Int)), (27, .int .i64 (L : Int)), (6, .slice (some ⟨tb, 0, none⟩) L L), (5, .int .i64 (n : Int)), (4, o), (0, .int .i64 (L : Int))])
                   (fun (i : Nat) => [OwE encI 3 1 (.slice (some ⟨tb, 0, none⟩) L L) ((tapsF L n).take i ++ List.replicate (L - i) 0), OwC 22 1 o (fullU L n).length rv, RowsE encI 3 1 rv (fullU L n)])
                   (fun (i : Nat) => L - i) 0
                   (by omega) ⟨rfl, rfl, rfl, rfl, rfl, rfl, trivial⟩ (by repeat (first | exact Sub.nil | refine Sub.cons (by repeat (first | exact Pick.head | apply Pick.tail)) ?_)) ?_
                 rintro i hi0
                 refine W.sreg ?_
                 refine WO.p rfl rfl ?_
                 refine WO.nil ?_
                 refine W.seq ?_
                 refine W.cond_bl rfl (fun c4 => ?_) (fun c4 => ?_)
                 · first
                   | (exfalso; omega)
                   | (refine W.skip ?_
                      refine W.seq ?_
                      refine W.block ?_
                      refine W.sreg ?_
                      refine WO.p rfl rfl (WO.p rfl rfl ?_)
                      refine WO.nil ?_
                      refine W.region ?_
                      refine WO.p rfl rfl (WO.p rfl rfl (WO.p rfl rfl (WO.p rfl rfl (WO.ar rfl rfl rfl (by (first | (unfold in64; omega) | (unfold in64; omega))) rfl (WO.p rfl rfl (WO.ar rfl rfl rfl (by (first | (unfold in64; omega) | (unfold in64; omega))) rfl ?_))))))
                      refine WO.shrN (a := n) (s := L - 1 - i) rfl (by rw [show ((L - 1 - i : Nat) : Int) = (L : Int) - 1 - (i : Int) by omega]; rfl) (show L - 1 - i ≤ 64 by omega) rfl ?_
                      refine WO.andN (a := n >>> (L - 1 - i)) (b := 1) rfl rfl ((fits_i (by omega)).shr) (fits01 (Nat.le_refl 1)) rfl ?_
                      refine' WO.indexAddr (n := _) (i := _) rfl rfl rfl ?hs ?h1 rfl ?_
                      case hs => (first | exact isSl_lit (n := L) (by omega) (fun _ => ⟨_, _, rfl⟩))
                      case h1 => (first | omega | (simp; omega))
                      refine WO.storeE encI_ok rfl rfl rfl rfl (by repeat (first | exact Pick.head | apply Pick.tail)) (by rw [List.length_append, List.length_take, tapsF_len, List.length_replicate]; omega) ?_
                      rw [tapsF_step (by omega)]
                      refine WO.nil ?_
                      refine W.region ?_
                      refine WO.ar rfl rfl rfl (by (first | (unfold in64; omega) | (unfold in64; omega))) rfl (WO.p rfl rfl ?_)
                      refine WO.nil ?_
                      refine' ⟨i + 1, ?hp, ?hmu, ⟨rfl, rfl, rfl, rfl, rfl, rfl, trivial⟩, ?hS⟩
                      case hS => repeat (first | exact Sub.nil | refine Sub.cons (by repeat (first | exact Pick.head | apply Pick.tail)) ?_)
                      case hp => omega
                      case hmu => omega)
                 · first
                   | (exfalso; omega)
                   | (refine W.exit (blk_same ?_)
                      obtain rfl : L = i := by omega
                      rw [Nat.sub_self, List.replicate_zero, List.append_nil, List.take_of_length_le (Nat.le_of_eq (tapsF_len L n))]
                      refine W.sreg ?_
                      refine WO.p rfl rfl ?_
                      refine WO.callR (r := stepV (tN (tapsF L n)) L) rfl Try.call45 (fun L1 w hi => by have h := c_newStep w _ (tapsF L n) (RdF.of_ow (e := 3) encI_ok (by repeat (first | exact Pick.head | apply Pick.tail)) hi) (tapsF_ok L n) (by rw [tapsF_len]; omega); rw [tapsF_len] at h; exact h) rfl ?_
                      refine WO.alloc rfl rfl rfl (fun b1 hb1 => ?_)
                      refine WO.storeA rfl rfl rfl rfl Pick.head rfl rfl ?_
                      refine WO.nil ?_
                      refine W.sreg ?_
                      refine WO.makeMap rfl (fun mb => ?_)
                      refine WO.chg (setP_nil .head) ?_
                      refine WO.p rfl rfl ?_
                      refine WO.nil ?_
                      refine W.seq ?_
                      refine W.sreg ?_
                      refine WO.p rfl rfl ?_
                      refine WO.nil ?_
                      refine W.block ?_
                      refine W.loop (fun (m : Nat) => 1 ≤ m ∧ m ≤ 1 <<< L)
                        (fun (m : Nat) => [(10, .int .i64 (m : Int)), (9, .map (some mb)), (8, .pointer (some ⟨b1, 0, none⟩)), (6, .slice (some ⟨tb, 0, none⟩) L L), (5, .int .i64 (n : Int)), (4, o), (0, .int .i64 (L : Int))])
                        (fun (m : Nat) => [pt b1 (.cells #[.int .u32 (tN (tapsF L n) : Int), .int .i64 (L : Int)] 64 (0, 0)), SetP mb ((List.range (m - 1)).map (· + 1)), OwE encI 3 1 (.slice (some ⟨tb, 0, none⟩) L L) (tapsF L n), OwC 22 1 o (fullU L n).length rv, RowsE encI 3 1 rv (fullU L n)])
                        (fun (m : Nat) => 1 <<< L - m) 1
                        (by exact ⟨by omega, by omega⟩) ⟨rfl, rfl, rfl, rfl, rfl, rfl, rfl, trivial⟩ (by repeat (first | exact Sub.nil | refine Sub.cons (by repeat (first | exact Pick.head | apply Pick.tail)) ?_)) ?_
                      rintro m ⟨hm1, hm2⟩
                      refine W.seq ?_
                      refine W.sreg ?_
                      refine WO.p rfl rfl (WO.p rfl rfl ?_)
                      refine WO.shlN (a := 1) (s := L) rfl rfl (show L ≤ 64 by omega) (fitsP (by omega)) rfl ?_
                      refine WO.p rfl rfl ?_
                      refine WO.nil ?_
                      refine W.cond_bl rfl (fun c5 => ?_) (fun c5 => ?_)
                      · first
                        | (exfalso; omega)
                        | (refine W.skip ?_
                           refine W.seq ?_
                           refine W.block ?_
                           refine W.region ?_
                           refine WO.p rfl rfl (WO.p rfl rfl ?_)
                           refine WO.convI (b := ((m : Nat) : Int)) rfl rfl rfl (wrap_nat (k := .u32) (show m < 2 ^ 32 by omega)) rfl ?_
                           refine' WO.build (cs := _) rfl rfl rfl ?hf rfl ?_
                           case hf => (conv => lhs; simp [-List.getD_eq_getElem?_getD, fillL, vcl, wrl, TTab.pl?.lget']) <;> rfl
                           refine WO.p rfl rfl ?_
                           refine WO.setIn (k := m) (ks := (List.range (m - 1)).map (· + 1)) Try.underlying71 rfl rfl rfl (by repeat (first | exact Pick.head | apply Pick.tail)) range_no ?_
                           rw [range_in (by omega)]
                           refine WO.nil ?_
                           refine W.region ?_
                           refine WO.p rfl rfl (WO.ar rfl rfl rfl (by (first | (unfold in64; omega) | (unfold in64; omega))) rfl (WO.p rfl rfl ?_))
                           refine WO.nil ?_
                           refine' ⟨m + 1, ?hp, ?hmu, ⟨rfl, rfl, rfl, rfl, rfl, rfl, rfl, trivial⟩, ?hS⟩
                           case hS => repeat (first | exact Sub.nil | refine Sub.cons (by repeat (first | exact Pick.head | apply Pick.tail)) ?_)
                           case hp => exact ⟨by omega, by omega⟩
                           case hmu => omega)
                      · first
                        | (exfalso; omega)
                        | (refine W.exit (blk_same ?_)
                           obtain rfl : m = 2 ^ L := by omega
                           rw [left_all (tapsF L n) (oneL L)]
                           refine W.sreg ?_
                           refine' WO.build (cs := _) rfl rfl rfl ?hf rfl ?_
                           case hf => (conv => lhs; simp [-List.getD_eq_getElem?_getD, fillL, vcl, wrl, TTab.pl?.lget']) <;> rfl
                           refine WO.alloc rfl rfl rfl (fun b2 hb2 => ?_)
                           refine WO.storeA rfl rfl rfl rfl Pick.head rfl rfl ?_
                           refine WO.nil ?_
                           refine W.seq ?_
                           refine W.sreg ?_
                           refine WO.p rfl rfl ?_
                           refine WO.shlN (a := 1) (s := L) rfl rfl (show L ≤ 64 by omega) (fitsP (by omega)) rfl ?_
                           refine WO.p rfl rfl ?_
                           refine WO.nil ?_
                           refine W.block ?_
                           refine W.loop2 (fun (m : Nat) (xv : Int) => m ≤ 1 <<< L ∧ xv = (sN (winL (tapsF L n) (oneL L) m) : Int))
                             (fun (m : Nat) (xv : Int) => [(59, .int .i64 (m : Int)), (58, .int .i64 ((1 <<< L : Nat) : Int)), (11, .pointer (some ⟨b2, 0, none⟩)), (9, .map (some mb)), (8, .pointer (some ⟨b1, 0, none⟩)), (6, .slice (some ⟨tb, 0, none⟩) L L), (5, .int .i64 (n : Int)), (4, o), (0, .int .i64 (L : Int))])
                             (fun (m : Nat) (xv : Int) => [pt b2 (.cells #[.int .u32 xv] 67 (0, 0)), pt b1 (.cells #[.int .u32 (tN (tapsF L n) : Int), .int .i64 (L : Int)] 64 (0, 0)), SetP mb (leftL (tapsF L n) (oneL L) (2 ^ L - 1) m), OwE encI 3 1 (.slice (some ⟨tb, 0, none⟩) L L) (tapsF L n), OwC 22 1 o (fullU L n).length rv, RowsE encI 3 1 rv (fullU L n)])
                             (fun (m : Nat) (xv : Int) => 1 <<< L - m) 0 1
                             (by exact ⟨by omega, by show (1 : Int) = (sN (oneL L) : Int); rw [sN_one (by omega)]; rfl⟩) ⟨rfl, rfl, rfl, rfl, rfl, rfl, rfl, rfl, rfl, trivial⟩ (by repeat (first | exact Sub.nil | refine Sub.cons (by repeat (first | exact Pick.head | apply Pick.tail)) ?_)) ?_
                           rintro m xv ⟨hm0, rfl⟩
                           refine W.sreg ?_
                           refine WO.p rfl rfl ?_
                           refine WO.nil ?_
                           refine W.seq ?_
                           refine W.cond_bl rfl (fun c6 => ?_) (fun c6 => ?_)
                           · first
                             | (exfalso; omega)
                             | (refine W.skip ?_
                                refine W.seq ?_
                                refine W.block ?_
                                refine W.sreg ?_
                                refine WO.p rfl rfl (WO.loadA rfl rfl (Cells.own Pick.head) rfl rfl ?_)
                                refine WO.setOut (k := sN (winL (tapsF L n) (oneL L) m)) rfl Try.underlying71 rfl rfl (by repeat (first | exact Pick.head | apply Pick.tail)) ?_
                                refine WO.nil ?_
                                refine W.region ?_
                                refine WO.loadA rfl rfl (Cells.own (Pick.tail (Pick.tail (Pick.head)))) rfl rfl (WO.loadA rfl rfl (Cells.own (Pick.tail (Pick.head))) rfl rfl ?_)
                                have hl : (oneL L).length = (tapsF L n).length := by rw [oneL_len, tapsF_len]
                                refine WO.callR (r := stateV (sN (winL (tapsF L n) (oneL L) (m + 1)))) rfl Try.call47 (fun L1 w hi => by have h := c_on w (tapsF L n) (winL (tapsF L n) (oneL L) m) (tapsF_ok L n) (win_ok (oneL_ok L) m) (by rw [win_len]; exact hl) (by rw [tapsF_len]; omega); rw [on_win hl, tapsF_len] at h; exact h) rfl ?_
                                refine WO.storeA rfl rfl rfl rfl (Pick.tail (Pick.head)) rfl rfl ?_
                                refine WO.nil ?_
                                refine W.region ?_
                                refine WO.ar rfl rfl rfl (by (first | (unfold in64; omega) | (unfold in64; omega))) rfl (WO.p rfl rfl ?_)
                                refine WO.nil ?_
                                refine' ⟨m + 1, _, ?hp, ?hmu, ⟨rfl, rfl, rfl, rfl, rfl, rfl, rfl, rfl, rfl, trivial⟩, ?hS⟩
                                case hS => repeat (first | exact Sub.nil | refine Sub.cons (by repeat (first | exact Pick.head | apply Pick.tail)) ?_)
                                case hp => exact ⟨by omega, rfl⟩
                                case hmu => omega)
                           · first
                             | (exfalso; omega)
                             | (refine W.exit (blk_same ?_)
                                obtain rfl : m = 2 ^ L := by omega
                                refine W.sreg ?_
                                refine WO.p rfl rfl ?_
                                refine WO.setLen rfl Try.underlying71 rfl (by repeat (first | exact Pick.head | apply Pick.tail)) rfl ?_
                                refine WO.p rfl rfl ?_
                                refine WO.nil ?_
                                refine W.cond_bl rfl (fun c7 => ?_) (fun c7 => ?_)
                                · first
                                  | (exfalso; omega)
                                  | (refine W.region ?_
                                     refine WO.p rfl rfl (WO.p rfl rfl ?_)
                                     refine' WO.buildSl (cs := _) rfl rfl rfl rfl ?hf rfl rfl ?hl rfl (fun v3 => ?_)
                                     case hf => (conv => lhs; simp [-List.getD_eq_getElem?_getD, fillL, vcl, wrl, TTab.pl?.lget']) <;> rfl
                                     case hl => rfl
                                     have hyes : fullB L n = true := full_yes hn1 (by assumption)
                                     have hulen := fullU_len L n
                                     refine' WO.append (m := 1) (news := [.slice (some ⟨tb, 0, none⟩) L L]) rfl rfl rfl rfl rfl (by repeat (first | exact Pick.head | apply Pick.tail)) (isSl_lit (by omega) (fun _ => ⟨_, _, rfl⟩)) (by omega) (OwC.cells (by repeat (first | exact Pick.head | apply Pick.tail))) rfl (by simp [Value.oneCell']) (by omega) (by omega) rfl (fun g' c' => ?_)
                                     refine WO.chg (H' := OwC 22 1 (.slice (some ⟨g', 0, none⟩) ((fullU L n).length + 1) c') ((fullU L n).length + 1) (rv ++ [.slice (some ⟨tb, 0, none⟩) L L]) :: RowsE encI 3 1 rv (fullU L n) :: OwE encI 3 1 (.slice (some ⟨tb, 0, none⟩) L L) (tapsF L n) :: []) (fun h hs => Sub.sat (by repeat (first | exact Sub.nil | refine Sub.cons (by repeat (first | exact Pick.head | apply Pick.tail)) ?_)) hs) ?_
                                     refine WO.chg (rowsSnoc (enc := encI) (e := 3) (sz := 1) (rv := rv) (xss := fullU L n) (xs := tapsF L n) (r := .slice (some ⟨tb, 0, none⟩) L L) (.tail .head) (.tail .head)) ?_
                                     rw [← full_two hn1 hyes, show (fullU L n).length + 1 = (fullU L (n + 2)).length by rw [full_two hn1 hyes]; simp]
                                     refine WO.p rfl rfl ?_
                                     refine WO.nil ?_
                                     first | (have hno : fullB L n = false := full_no (by assumption); rw [show fullU L n = fullU L (n + 2) from (full_skip hn1 hno).symm]) | skip
                                     refine W.region ?_
                                     refine WO.p rfl rfl (WO.ar rfl rfl rfl (by (first | (unfold in64; omega) | (unfold in64; omega))) rfl (WO.p rfl rfl ?_))
                                     refine WO.nil ?_
                                     refine' ⟨n + 2, _, _, ?hp, ?hmu, ⟨rfl, rfl, rfl, trivial⟩, ?hS⟩
                                     case hS => repeat (first | exact Sub.nil | refine Sub.cons (by repeat (first | exact Pick.head | apply Pick.tail)) ?_)
                                     case hp => exact ⟨by omega, by omega⟩
                                     case hmu => omega)
                                · first
                                  | (exfalso; omega)
                                  | (refine W.skip ?_
                                     first | (have hno : fullB L n = false := full_no (by assumption); rw [show fullU L n = fullU L (n + 2) from (full_skip hn1 hno).symm]) | skip
                                     refine W.region ?_
                                     refine WO.p rfl rfl (WO.ar rfl rfl rfl (by (first | (unfold in64; omega) | (unfold in64; omega))) rfl (WO.p rfl rfl ?_))
                                     refine WO.nil ?_
                                     refine' ⟨n + 2, _, _, ?hp, ?hmu, ⟨rfl, rfl, rfl, trivial⟩, ?hS⟩
                                     case hS => repeat (first | exact Sub.nil | refine Sub.cons (by repeat (first | exact Pick.head | apply Pick.tail)) ?_)
                                     case hp => exact ⟨by omega, by omega⟩
                                     case hmu => omega)))))
            · first
              | (exfalso; omega)
              | (refine W.exit (blk_same ?_)
                 refine W.sreg ?_
                 refine WO.p rfl rfl (WO.p rfl rfl (WO.p rfl rfl ?_))
                 refine WO.nil ?_
                 refine W.ret ?_
                 refine fin.ret (Res.two rfl (RV.tmp rfl) (RV.tmp rfl)) ?_
                 first | (have q := hn1; have h2 := pow_even (show 0 < L by omega); obtain rfl : n = 2 ^ L + 1 := (by omega); refine ⟨(o, rv), by rw [fullE_0 (by omega) (by omega)], fun h hs => ?_⟩; rw [fullR_ok (by omega) (by omega), ← full_end (show 0 < L by omega)]; exact Sub.sat (by repeat (first | exact Sub.nil | refine Sub.cons (by repeat (first | exact Pick.head | apply Pick.tail)) ?_)) hs) | exact full_err (by omega))))
end Go.Proofs.Ytingkbglkaojdaa
namespace Go.Proofs.Ytingkbglkaojdaa
open Go Go.TH Go.TH.Wv
attribute [local irreducible] W WO pt
set_option maxRecDepth 10000
set_option maxHeartbeats 2000000
theorem one_set (L : Nat) : (List.replicate L (0 : Int)).set 0 1 = oneL L := rfl
theorem fullB_no {L n : Nat} (h : 0 < L) (h2 : ¬ bt (tapsF L n) (L - 1) = 1) : fullB L n = false := by
  rw [tapsF_last h] at h2
  exact fullB_even (by omega)
theorem fullB_is {L n : Nat} (h : 0 < L) (h2 : bt (tapsF L n) (L - 1) = 1) : (per (tapsF L n) (oneL L) : Int) = ((1 <<< L : Nat) : Int) - 1 ↔ fullB L n = true := by
  rw [tapsF_last h] at h2
  rw [fullB_per h (by omega), shl_one]
  have : 1 ≤ 2 ^ L := Nat.one_le_two_pow
  omega
theorem one_at {L n : Nat} (h : (tapsF L n).getD ((L : Int) - 1).toNat 0 = 1) : bt (tapsF L n) (L - 1) = 1 := by
  rw [show ((L : Int) - 1).toNat = L - 1 by omega] at h
  exact h
theorem one_not {L n : Nat} (h : ¬ (tapsF L n).getD ((L : Int) - 1).toNat 0 = 1) : ¬ bt (tapsF L n) (L - 1) = 1 := by
  rw [show ((L : Int) - 1).toNat = L - 1 by omega] at h
  exact h
theorem bl_iff {P : Prop} [Decidable P] {b : Bool} (h : P ↔ b = true) : bl P = b := by
  cases b with
  | true => exact bl_t.2 (h.2 rfl)
  | false => exact bl_f.2 fun p => by have := h.1 p; cases this
theorem ref_IsFull (w : World) (v : Value) (L n : Nat) (hR : RdF encI 1 w.heap.size w v (tapsF L n)) (h0 : 0 < L) (h8 : L ≤ 8) : Ret Try.prog 50 [v].toArray w (.bool (fullB L n)) := by
  refine Ret.of mixed tyTab Try.func50 rfl rfl ?_
  replace hR : RdF encI 1 (fnCx mixed tyTab Try.f50.ntmps w).B (fnCx mixed tyTab Try.f50.ntmps w).w0 v (tapsF L n) := hR
  have hl := tapsF_len L n
  have hsl := hR.sl
  rw [hl] at hsl
  have hp := pow_le h8
  have hp1 := shl_one L
  have hp0 : 1 ≤ 2 ^ L := Nat.one_le_two_pow
  rw [← hp1] at hp hp0
  refine W.sreg ?_
  refine WO.p rfl rfl ?_
  refine WO.nil ?_
  refine W.sreg ?_
  refine WO.p rfl rfl ?_
  refine' WO.len (n := _) rfl rfl ?hs rfl ?_
  case hs => (first | exact hsl)
  refine WO.makeI (n := L) rfl rfl rfl rfl (by omega) (by omega) rfl (fun sb => ?_)
  refine WO.p rfl rfl ?_
  refine WO.nil ?_
  refine W.sreg ?_
  refine WO.p rfl rfl ?_
  refine' WO.indexAddr (n := _) (i := 0) rfl rfl rfl ?hs ?h1 rfl ?_
  case hs => (first | exact isSl_lit (n := L) (by omega) (fun _ => ⟨_, _, rfl⟩))
  case h1 => (first | omega | (simp; omega))
  refine WO.storeE (n := 1) (i := 0) (xs := List.replicate L 0) encI_ok rfl rfl rfl rfl (by repeat (first | exact Pick.head | apply Pick.tail)) (by rw [List.length_replicate]; omega) ?_
  rw [one_set]
  refine WO.nil ?_
  refine W.seq ?_
  refine W.drawD 15 [.r 0 [], .r 1 [], .r 2 [], .r 3 [], .r 4 [], .b 5 [], .r 6 [], .r 7 [], .r 8 [], .r 9 [], .b 10 [], .r 11 [], .r 12 [], .r 13 [], .r 14 []] [] (A0 := []) (Sub.refl _) (by kernel_rfl) ?_ ?_
  · exact (ALok.r (ALok.r (ALok.r (ALok.r (ALok.r (ALok.b (ALok.r (ALok.r (ALok.r (ALok.r (ALok.b (ALok.r (ALok.r (ALok.r (ALok.r ALok.nil)))))))))))))))
  refine' DT.r rfl rfl rfl ?hq ?_
  case hq =>
    refine WO.p rfl rfl ?_
    exact WO.nil ⟨rfl, rfl⟩
  refine' DT.r rfl rfl rfl ?hq ?_
  case hq =>
    refine WO.p rfl rfl ?_
    exact WO.nil ⟨rfl, rfl⟩
  refine' DT.r rfl rfl rfl ?hq ?_
  case hq =>
    refine' WO.len (n := _) rfl rfl ?hs rfl ?_
    case hs => (first | exact hsl)
    exact WO.nil ⟨rfl, rfl⟩
  refine' DT.r rfl rfl rfl ?hq ?_
  case hq =>
    refine WO.ar rfl rfl rfl (by (first | (unfold in64; omega) | (unfold in64; omega))) rfl ?_
    exact WO.nil ⟨rfl, rfl⟩
  refine' DT.r rfl rfl rfl ?hq ?_
  case hq =>
    refine' WO.indexAddrZ (n := _) rfl rfl rfl ?hs ?h00 ?h1 rfl ?_
    case hs => (first | exact hsl)
    case h00 => omega
    case h1 => (first | omega | (simp; omega))
    exact WO.nil ⟨rfl, rfl⟩
  refine' DT.b rfl rfl rfl ?hq ?_
  case hq =>
    refine' WO.load (v := _) rfl rfl ?hc rfl ?_
    case hc => (first | (refine hR.cell0 (i := ((L : Int) - 1).toNat) ?_ 0 ?_ <;> first | rfl | omega))
    exact WO.nil ⟨rfl, rfl⟩
  refine' DT.r rfl rfl rfl ?hq ?_
  case hq =>
    refine WO.p rfl rfl ?_
    exact WO.nil ⟨rfl, rfl⟩
  refine' DT.rB rfl rfl rfl ?hq (fun c1 => ?_) (fun c1 => ?_)
  case hq =>
    refine WO.p rfl rfl ?_
    exact WO.nil ⟨rfl, rfl⟩
  · first
    | (exfalso; omega)
    | (refine' DT.r rfl rfl rfl ?hq ?_
       case hq =>
         refine WO.pg rfl rfl rfl ?_
         exact WO.nil ⟨rfl, rfl⟩
       refine' DT.r rfl rfl rfl ?hq ?_
       case hq =>
         refine WO.pg rfl rfl rfl ?_
         exact WO.nil ⟨rfl, rfl⟩
       refine' DT.b rfl rfl rfl ?hq ?_
       case hq =>
         refine WO.go' rfl ?_
         refine WO.callR (r := .int .i64 (per (tapsF L n) (oneL L) : Int)) rfl Try.call49 (fun L1 w hi => ref_period w _ _ (tapsF L n) (oneL L) (hR.later hi) (RdF.of_ow (e := 3) encI_ok (by repeat (first | exact Pick.head | apply Pick.tail)) hi) (tapsF_ok L n) (oneL_ok L) (by rw [oneL_len, hl]) (by omega) (.inr (by rw [hl]; exact one_at (by assumption)))) rfl ?_
         exact WO.nil ⟨rfl, rfl⟩
       refine' DT.r rfl rfl rfl ?hq ?_
       case hq =>
         refine WO.pg rfl rfl rfl ?_
         exact WO.nil ⟨rfl, rfl⟩
       refine' DT.r rfl rfl rfl ?hq ?_
       case hq =>
         refine WO.go' rfl ?_
         refine' WO.len (n := _) rfl rfl ?hs rfl ?_
         case hs => (first | exact hsl)
         exact WO.nil ⟨rfl, rfl⟩
       refine' DT.r rfl rfl rfl ?hq ?_
       case hq =>
         refine WO.go' rfl ?_
         refine WO.shlN (a := 1) (s := L) rfl rfl (show L ≤ 64 by omega) (fitsP h8) rfl ?_
         exact WO.nil ⟨rfl, rfl⟩
       refine' DT.r rfl rfl rfl ?hq ?_
       case hq =>
         refine WO.go' rfl (WO.ar rfl rfl rfl (by (first | (unfold in64; omega) | (unfold in64; omega))) rfl ?_)
         exact WO.nil ⟨rfl, rfl⟩
       refine DT.nil [_] rfl ?_
       refine WO.pg rfl rfl rfl (WO.p rfl rfl (WO.p rfl rfl ?_))
       refine WO.nil ?_
       refine W.ret ?_
       refine fin.ret (Res.one rfl (RV.tmp rfl)) (congrArg Value.bool ?_)
       first | exact bl_iff (fullB_is h0 (one_at (by assumption))) | exact (fullB_no h0 (fun e => absurd e (one_not (by assumption)))).symm)
  · first
    | (exfalso; omega)
    | (refine' DT.r rfl rfl rfl ?hq ?_
       case hq =>
         refine WO.no rfl rfl ?_
         exact WO.nil ⟨rfl, rfl⟩
       refine' DT.r rfl rfl rfl ?hq ?_
       case hq =>
         refine WO.no rfl rfl ?_
         exact WO.nil ⟨rfl, rfl⟩
       refine' DT.b rfl rfl rfl ?hq ?_
       case hq =>
         refine WO.no rfl rfl ?_
         exact WO.nil ⟨rfl, rfl⟩
       refine' DT.r rfl rfl rfl ?hq ?_
       case hq =>
         refine WO.no rfl rfl ?_
         exact WO.nil ⟨rfl, rfl⟩
       refine' DT.r rfl rfl rfl ?hq ?_
       case hq =>
         refine WO.no rfl rfl ?_
         exact WO.nil ⟨rfl, rfl⟩
       refine' DT.r rfl rfl rfl ?hq ?_
       case hq =>
         refine WO.no rfl rfl ?_
         exact WO.nil ⟨rfl, rfl⟩
       refine' DT.r rfl rfl rfl ?hq ?_
       case hq =>
         refine WO.no rfl rfl ?_
         exact WO.nil ⟨rfl, rfl⟩
       refine DT.nil [_] rfl ?_
       refine WO.no rfl rfl (WO.p rfl rfl (WO.p rfl rfl ?_))
       refine WO.nil ?_
       refine W.ret ?_
       refine fin.ret (Res.one rfl (RV.tmp rfl)) (congrArg Value.bool ?_)
       first | exact bl_iff (fullB_is h0 (one_at (by assumption))) | exact (fullB_no h0 (fun e => absurd e (one_not (by assumption)))).symm)
/-- the taps in the order in which they are told -/
def tapsD (L n i : Nat) : List Int := (tapsF L n).take i
theorem tapsD_step {L n i : Nat} (h : i < L) : tapsD L n i ++ [((n >>> (L - 1 - i) : Nat) : Int).tmod 2] = tapsD L n (i + 1) := by
  unfold tapsD
  rw [take_succ_getD (by rw [tapsF_len]; exact h) 0]
  have e : (tapsF L n).getD i 0 = ((n >>> (L - 1 - i) % 2 : Nat) : Int) := mapR_get 0 h
  rw [e, Int.tmod_eq_emod_of_nonneg (Int.natCast_nonneg _)]
  rfl
theorem ref_Full (w : World) (long : Int) : Ct Try.prog 24 [.int .i64 long].toArray w fun r w' => ∃ Hq, (∃ Z : Value × List Value, r = .tuple #[Z.1, .int .i64 (fullE long)] ∧ Hq = [OwC 22 1 Z.1 (fullR long).length Z.2, RowsE encI 3 1 Z.2 (fullR long)]) ∧ Inv w [] Hq w' := by
  refine Ct.ofI mixed tyTab Try.func24 rfl rfl ?_
  refine W.sreg ?_
  refine WO.p rfl rfl (WO.p rfl rfl ?_)
  refine WO.nil ?_
  refine W.seq ?_
  refine W.sreg ?_
  refine WO.p rfl rfl (WO.p rfl rfl (WO.p rfl rfl ?_))
  refine WO.guard_bl rfl rfl (fun c1 => ?_) (fun c1 => ?_)
  · first
    | (exfalso; omega)
    | (refine WO.no rfl rfl (WO.no rfl rfl (WO.p rfl rfl ?_))
       refine WO.nil ?_
       refine W.cond_t rfl ?_
       refine W.sreg ?_
       refine WO.p rfl rfl (WO.p rfl rfl ?_)
       refine WO.nil ?_
       refine W.ret ?_
       refine fin.ret (Res.two rfl (RV.tmp rfl) (RV.tmp rfl)) ?_
       first | (have q := hn2; obtain rfl : n = 2 ^ L := (by omega); refine ⟨(o, rv), by rw [fullE_0 (by omega) (by omega)], fun h hs => ?_⟩; rw [fullR_ok (by omega) (by omega)]; exact Sub.sat (by repeat (first | exact Sub.nil | refine Sub.cons (by repeat (first | exact Pick.head | apply Pick.tail)) ?_)) hs) | exact full_err (by omega))
  · first
    | (exfalso; omega)
    | (refine WO.pg rfl rfl rfl (WO.pg rfl rfl rfl (WO.p rfl rfl ?_))
       refine WO.nil ?_
       refine W.cond_bl rfl (fun c2 => ?_) (fun c2 => ?_)
       · first
         | (exfalso; omega)
         | (refine W.sreg ?_
            refine WO.p rfl rfl (WO.p rfl rfl ?_)
            refine WO.nil ?_
            refine W.ret ?_
            refine fin.ret (Res.two rfl (RV.tmp rfl) (RV.tmp rfl)) ?_
            first | (have q := hn2; obtain rfl : n = 2 ^ L := (by omega); refine ⟨(o, rv), by rw [fullE_0 (by omega) (by omega)], fun h hs => ?_⟩; rw [fullR_ok (by omega) (by omega)]; exact Sub.sat (by repeat (first | exact Sub.nil | refine Sub.cons (by repeat (first | exact Pick.head | apply Pick.tail)) ?_)) hs) | exact full_err (by omega))
       · first
         | (exfalso; omega)
         | (refine W.skip ?_
            obtain ⟨L, rfl⟩ : ∃ L : Nat, long = (L : Int) := ⟨long.toNat, by omega⟩
            have hp := pow_le (show L ≤ 8 by omega)
            have hp1 := shl_one L
            have hp0 : 1 ≤ 2 ^ L := Nat.one_le_two_pow
            rw [← hp1] at hp hp0
            refine W.sreg ?_
            refine WO.p rfl rfl ?_
            refine WO.nil ?_
            refine W.seq ?_
            refine W.sreg ?_
            refine WO.p rfl rfl ?_
            refine WO.nil ?_
            refine W.block ?_
            refine W.chg (owcNil (e := 22) (sz := 1)) ?_
            refine W.chg (rowsNil (enc := encI) (e := 3) (sz := 1)) ?_
            refine W.loop3 (fun (n : Nat) (o : Value) (rv : List Value) => n ≤ 1 <<< L)
              (fun (n : Nat) (o : Value) (rv : List Value) => [(5, .int .i64 (n : Int)), (4, o), (0, .int .i64 (L : Int))])
              (fun (n : Nat) (o : Value) (rv : List Value) => [OwC 22 1 o (fullU L n).length rv, RowsE encI 3 1 rv (fullU L n)])
              (fun (n : Nat) (o : Value) (rv : List Value) => 1 <<< L - n) 0 (.slice none 0 0) []
              (by exact Nat.zero_le _) ⟨rfl, rfl, rfl, trivial⟩ (by repeat (first | exact Sub.nil | refine Sub.cons (by repeat (first | exact Pick.head | apply Pick.tail)) ?_)) ?_
            rintro n o rv hn2
            refine W.seq ?_
            refine W.sreg ?_
            refine WO.p rfl rfl (WO.p rfl rfl ?_)
            refine WO.shlN (a := 1) (s := L) rfl rfl (show L ≤ 64 by omega) (fitsP (by omega)) rfl ?_
            refine WO.p rfl rfl ?_
            refine WO.nil ?_
            refine W.cond_bl rfl (fun c3 => ?_) (fun c3 => ?_)
            · first
              | (exfalso; omega)
              | (refine W.skip ?_
                 refine W.seq ?_
                 refine W.block ?_
                 refine W.sreg ?_
                 refine WO.p rfl rfl ?_
                 refine WO.nil ?_
                 refine W.seq ?_
                 refine W.sreg ?_
                 refine WO.p rfl rfl (WO.ar rfl rfl rfl (by (first | (unfold in64; omega) | (unfold in64; omega))) rfl (WO.p rfl rfl ?_))
                 refine WO.nil ?_
                 refine W.block ?_
                 refine W.chg (owNil (enc := encI) (e := 3) (sz := 1)) ?_
                 refine W.loop3 (fun (i : Nat) (j : Int) (tv : Value) => i ≤ L ∧ j = (L : Int) - 1 - (i : Int))
                   (fun (i : Nat) (j : Int) (tv : Value) => [(7, .int .i64 j), (6, tv), (5, .int .i64 (n : Int)), (4, o), (0, .int .i64 (L : Int))])
                   (fun (i : Nat) (j : Int) (tv : Value) => [OwE encI 3 1 tv (tapsD L n i), OwC 22 1 o (fullU L n).length rv, RowsE encI 3 1 rv (fullU L n)])
                   (fun (i : Nat) (j : Int) (tv : Value) => L - i) 0 _ (.slice none 0 0)
                   (by exact ⟨by omega, by omega⟩) ⟨rfl, rfl, rfl, rfl, rfl, trivial⟩ (by repeat (first | exact Sub.nil | refine Sub.cons (by repeat (first | exact Pick.head | apply Pick.tail)) ?_)) ?_
                 rintro i j tv ⟨hi0, hj⟩
                 refine W.seq ?_
                 refine W.sreg ?_
                 refine WO.p rfl rfl (WO.p rfl rfl ?_)
                 refine WO.nil ?_
                 refine W.cond_bl rfl (fun c4 => ?_) (fun c4 => ?_)
                 · first
                   | (exfalso; omega)
                   | (refine W.skip ?_
                      refine W.seq ?_
                      refine W.block ?_
                      refine W.region ?_
                      refine WO.p rfl rfl (WO.p rfl rfl (WO.p rfl rfl ?_))
                      refine WO.shrN (a := n) (s := L - 1 - i) rfl (by rw [show ((L - 1 - i : Nat) : Int) = j by omega]; rfl) (show L - 1 - i ≤ 64 by omega) rfl ?_
                      refine WO.rem rfl rfl (by first | omega | assumption) rfl ?_
                      refine' WO.buildSl (cs := _) rfl rfl rfl rfl ?hf rfl rfl ?hl rfl (fun v1 => ?_)
                      case hf => (conv => lhs; simp [-List.getD_eq_getElem?_getD, fillL, vcl, wrl, TTab.pl?.lget']) <;> rfl
                      case hl => rfl
                      refine' WO.appendE (enc := encI) (m := 1) (xs := tapsD L n i) (ys := [((n >>> (L - 1 - i) : Nat) : Int).tmod 2]) encI_ok rfl rfl rfl rfl rfl (by repeat (first | exact Pick.head | apply Pick.tail)) (isSl_lit (by omega) (fun _ => ⟨_, _, rfl⟩)) (by omega) rfl (OwC.cells (by repeat (first | exact Pick.head | apply Pick.tail))) (by unfold tapsD; rw [List.length_take, tapsF_len]; omega) (by unfold tapsD; rw [List.length_take, tapsF_len]; omega) rfl (fun g c => ?_)
                      rw [tapsD_step (by omega)]
                      refine WO.p rfl rfl ?_
                      refine WO.nil ?_
                      refine W.region ?_
                      refine WO.p rfl rfl (WO.ar rfl rfl rfl (by (first | (unfold in64; omega) | (unfold in64; omega))) rfl (WO.p rfl rfl ?_))
                      refine WO.nil ?_
                      refine' ⟨i + 1, _, _, ?hp, ?hmu, ⟨rfl, rfl, rfl, rfl, rfl, trivial⟩, ?hS⟩
                      case hS => repeat (first | exact Sub.nil | refine Sub.cons (by repeat (first | exact Pick.head | apply Pick.tail)) ?_)
                      case hp => exact ⟨by omega, by omega⟩
                      case hmu => omega)
                 · first
                   | (exfalso; omega)
                   | (refine W.exit (blk_same ?_)
                      obtain rfl : L = i := by omega
                      rw [show tapsD L n L = tapsF L n from List.take_of_length_le (Nat.le_of_eq (tapsF_len L n))]
                      refine W.sreg ?_
                      refine WO.p rfl rfl ?_
                      refine WO.callR (r := .bool (fullB L n)) rfl Try.call50 (fun L1 w hi => ref_IsFull w _ L n (RdF.of_ow (e := 3) encI_ok (by repeat (first | exact Pick.head | apply Pick.tail)) hi) (by omega) (by omega)) rfl ?_
                      refine WO.nil ?_
                      refine W.cond rfl (fun c5 => ?_) (fun c5 => ?_)
                      · first
                        | (exfalso; omega)
                        | (refine W.fact (OwE.form (enc := encI) (e := 3) (sz := 1) (v := tv) (xs := tapsF L n) (by repeat (first | exact Pick.head | apply Pick.tail))) ?_
                           rintro ⟨ta, tc, rfl⟩
                           rw [tapsF_len]
                           refine W.region ?_
                           refine WO.p rfl rfl (WO.p rfl rfl ?_)
                           refine' WO.buildSl (cs := _) rfl rfl rfl rfl ?hf rfl rfl ?hl rfl (fun v2 => ?_)
                           case hf => (conv => lhs; simp [-List.getD_eq_getElem?_getD, fillL, vcl, wrl, TTab.pl?.lget']) <;> rfl
                           case hl => rfl
                           have hyes : fullB L n = true := by assumption
                           have hulen := fullU_len L n
                           refine' WO.append (m := 1) (news := [.slice ta L tc]) rfl rfl rfl rfl rfl (by repeat (first | exact Pick.head | apply Pick.tail)) (isSl_lit (by omega) (fun _ => ⟨_, _, rfl⟩)) (by omega) (OwC.cells (by repeat (first | exact Pick.head | apply Pick.tail))) rfl (by simp [Value.oneCell']) (by omega) (by omega) rfl (fun g' c' => ?_)
                           refine WO.chg (H' := OwC 22 1 (.slice (some ⟨g', 0, none⟩) ((fullU L n).length + 1) c') ((fullU L n).length + 1) (rv ++ [.slice ta L tc]) :: RowsE encI 3 1 rv (fullU L n) :: OwE encI 3 1 (.slice ta L tc) (tapsF L n) :: []) (fun h hs => Sub.sat (by repeat (first | exact Sub.nil | refine Sub.cons (by repeat (first | exact Pick.head | apply Pick.tail)) ?_)) hs) ?_
                           refine WO.chg (rowsSnoc (enc := encI) (e := 3) (sz := 1) (rv := rv) (xss := fullU L n) (xs := tapsF L n) (r := .slice ta L tc) (.tail .head) (.tail .head)) ?_
                           rw [← fullU_yes hyes, show (fullU L n).length + 1 = (fullU L (n + 1)).length by rw [fullU_yes hyes]; simp]
                           refine WO.p rfl rfl ?_
                           refine WO.nil ?_
                           first | (have hno : fullB L n = false := (by assumption); rw [show fullU L n = fullU L (n + 1) from (fullU_no hno).symm]) | skip
                           refine W.region ?_
                           refine WO.p rfl rfl (WO.ar rfl rfl rfl (by (first | (unfold in64; omega) | (unfold in64; omega))) rfl (WO.p rfl rfl ?_))
                           refine WO.nil ?_
                           refine' ⟨n + 1, _, _, ?hp, ?hmu, ⟨rfl, rfl, rfl, trivial⟩, ?hS⟩
                           case hS => repeat (first | exact Sub.nil | refine Sub.cons (by repeat (first | exact Pick.head | apply Pick.tail)) ?_)
                           case hp => omega
                           case hmu => omega)
                      · first
                        | (exfalso; omega)
                        | (refine W.skip ?_
                           first | (have hno : fullB L n = false := (by assumption); rw [show fullU L n = fullU L (n + 1) from (fullU_no hno).symm]) | skip
                           refine W.region ?_
                           refine WO.p rfl rfl (WO.ar rfl rfl rfl (by (first | (unfold in64; omega) | (unfold in64; omega))) rfl (WO.p rfl rfl ?_))
                           refine WO.nil ?_
                           refine' ⟨n + 1, _, _, ?hp, ?hmu, ⟨rfl, rfl, rfl, trivial⟩, ?hS⟩
                           case hS => repeat (first | exact Sub.nil | refine Sub.cons (by repeat (first | exact Pick.head | apply Pick.tail)) ?_)
                           case hp => omega
                           case hmu => omega)))
            · first
              | (exfalso; omega)
              | (refine W.exit (blk_same ?_)
                 refine W.sreg ?_
                 refine WO.p rfl rfl (WO.p rfl rfl (WO.p rfl rfl ?_))
                 refine WO.nil ?_
                 refine W.ret ?_
                 refine fin.ret (Res.two rfl (RV.tmp rfl) (RV.tmp rfl)) ?_
                 first | (have q := hn2; obtain rfl : n = 2 ^ L := (by omega); refine ⟨(o, rv), by rw [fullE_0 (by omega) (by omega)], fun h hs => ?_⟩; rw [fullR_ok (by omega) (by omega)]; exact Sub.sat (by repeat (first | exact Sub.nil | refine Sub.cons (by repeat (first | exact Pick.head | apply Pick.tail)) ?_)) hs) | exact full_err (by omega))))
end Go.Proofs.Ytingkbglkaojdaa
namespace Go.Proofs.Ytingkbglkaojdaa
open Go Go.TH Go.TH.Wv
attribute [local irreducible] W WO pt
set_option maxRecDepth 10000
set_option maxHeartbeats 1000000
section
variable {P : Program} {C : Cx P} {E : Env} {H : List HP}
variable {ops : Array Oper} {K : KP} {rest : List Oper} {d : Nat} {ty : TypeId} {pos : String} {af : Array Edge} {x y : Operand} {T : TypeId}
/-- something is appended to a slice that has no room -/
theorem WO.appendFull {e sz by' n m : Nat} {a : Addr} {u zv : Value} {cs news : List Value} (hT : C.tt.sl? T = some (e, sz, by')) (hz : C.tt.z? e = some zv) (hzs : Nat.beq zv.cells.size sz = true)
    (hx : ev E x = some (.slice (some a) n n)) (hy : ev E y = some u) (hc0 : Cells C H a cs) (hcl : cs.length = n * sz) (hS : IsSl u m) (hm : 0 < m) (hc : Cells C H (base u) news) (hl : news.length = m * sz)
    (hb : (n + m) * by' ≤ 140737488355328) (h63 : n + m ≤ 9223372036854775807) (hN : Nat.blt d C.N = true)
    (h : ∀ g c, WO C ops rest K ((d, .slice (some ⟨g, 0, none⟩) (n + m) c) :: E) (OwC e sz (.slice (some ⟨g, 0, none⟩) (n + m) c) (n + m) (cs ++ news) :: H)) : WO C ops (⟨some d, .call ⟨.builtin .append, #[x, y], #[T, T]⟩, ty, pos, af, none⟩ :: rest) K E H := by
  refine WO.step rfl rfl hN (XO.run (by simp) fun L ac w hf hi => ?_)
  obtain ⟨i, hi1, hi2, hi3, hi4⟩ := sl_info hT hz
  subst hi2; subst hi3
  have hzs' := Nat.eq_of_beq_eq_true hzs
  have hmax : n + m ≤ maxLen := by simpa [maxLen] using h63
  obtain ⟨a0, c0, rfl, ha0⟩ := hS.is
  obtain ⟨b0, o0, rfl⟩ := ha0 hm
  have hnews : ∀ j v, news[j]? = some v → w.cell? ((⟨b0, o0, none⟩ : Addr).add j) = some v := fun j v hv => hc j v hv L w hi
  have holds : ∀ j v, cs[j]? = some v → w.cell? (a.add j) = some v := fun j v hv => hc0 j v hv L w hi
  have hr := run_append_grow (P := P) w T ty e i zv (SlT.of hT).u hi1 hi4 a n n cs hcl holds ⟨b0, o0, none⟩ m c0 news hl hnews (by omega) (by omega) (growslice_fits (by omega) hb)
  have hlen : (cs ++ news).length = (n + m) * i.size := by rw [List.length_append, hcl, hl, Nat.add_mul]
  have hrun : ∀ (v' : Value) (w' : World), (Builtin.append_ #[T, T] ty #[.slice (some a) n n, .slice (some ⟨b0, o0, none⟩) m c0]).run P w = .ok v' w' → (execOp ac.eval ⟨some d, .call ⟨.builtin .append, #[x, y], #[T, T]⟩, ty, pos, af, none⟩).run P w = .ok (.value v') w' := by
    intro v' w' hr
    simp [execOp, resolve, hf.eval hx, hf.eval hy, invoke, builtin, hr]
  have hinv : Inv C.w0 C.M (L ++ OwC e i.size (.slice (some ⟨w.heap.size, 0, none⟩) (n + m) (grownCap w (n + m) n e)) (n + m) (cs ++ news) :: H) (w.drew.alloc (.cells (cs.toArray ++ news.toArray ++ Builtin.zeroCells zv.cells (grownCap w (n + m) n e - (n + m))) e)) := by
    have hge := grownCap_ge w (n + m) n e
    have hcm : grownCap w (n + m) n e ≤ maxLen := grownCap_le_maxLen w (n + m) n e hmax
    have h2 := (hi.drawn).alloc' (.cells (cs.toArray ++ news.toArray ++ Builtin.zeroCells zv.cells (grownCap w (n + m) n e - (n + m))) e)
    have e1 : cs.toArray ++ news.toArray ++ Builtin.zeroCells zv.cells (grownCap w (n + m) n e - (n + m)) = ((cs ++ news) ++ (Builtin.zeroCells zv.cells (grownCap w (n + m) n e - (n + m))).toList).toArray := by
      apply Array.ext'; simp
    refine OwC.shut (cur := (cs ++ news) ++ (Builtin.zeroCells zv.cells (grownCap w (n + m) n e - (n + m))).toList) hlen hge hcm ?_ ?_ ?_
    · rw [List.length_append, hlen, Array.length_toList, size_zeroCells, hzs', ← Nat.add_mul]; congr 1; omega
    · rw [← hlen]; exact List.take_left
    · rw [← e1]; exact h2
  exact ⟨_, _, _, .inl (hrun _ _ hr), h _ _, hinv⟩
end
/-- twice what two bits differ by -/
def dx (l : List Int) (k i : Nat) : Int := 2 * ((bt l i + bt l ((i + k) % l.length)) % 2)
/-- a number of the spectrum -/
def sp (l : List Int) (k : Nat) : Int := (l.length : Int) - sm l.length (dx l k)
def specL (l : List Int) (k : Nat) : List Int := (List.range k).map (sp l)
def specE (l : List Int) : Int := if chkB l ≠ 0 then chkB l else if l.length = 0 then 5 else 0
def specR (l : List Int) : List Int := if specE l = 0 then specL l l.length else []
theorem specL_len (l : List Int) (k : Nat) : (specL l k).length = k := by unfold specL; simp
theorem specL_succ (l : List Int) (k : Nat) : specL l (k + 1) = specL l k ++ [sp l k] := by unfold specL; rw [List.range_succ, List.map_append]; rfl
theorem dx_01 (l : List Int) (k i : Nat) : dx l k i = 0 ∨ dx l k i = 2 := by unfold dx; omega
theorem smdx_le (l : List Int) (k : Nat) : ∀ n, 0 ≤ sm n (dx l k) ∧ sm n (dx l k) ≤ 2 * (n : Int)
  | 0 => by show (0 : Int) ≤ 0 ∧ (0 : Int) ≤ _; omega
  | n + 1 => by
    have h1 := smdx_le l k n
    have h2 := dx_01 l k n
    show 0 ≤ sm n (dx l k) + dx l k n ∧ sm n (dx l k) + dx l k n ≤ _
    omega
theorem twice_bt {l : List Int} {i : Nat} (h0 : 0 < l.length) (h : i < 2 * l.length) : (l ++ l).getD i 0 = bt l (i % l.length) := by
  unfold bt
  rcases Nat.lt_or_ge i l.length with g | g
  · rw [Nat.mod_eq_of_lt g, List.getD_eq_getElem?_getD, List.getElem?_append_left g, ← List.getD_eq_getElem?_getD]
  · rw [Nat.mod_eq_sub_mod g, Nat.mod_eq_of_lt (by omega), List.getD_eq_getElem?_getD, List.getElem?_append_right g, ← List.getD_eq_getElem?_getD]
theorem spec_err {l : List Int} {E : Int} {H : List HP} (h : specE l = E) (h0 : E ≠ 0) : ∃ x : Value, Value.tuple #[.slice none 0 0, .int .i64 E] = .tuple #[x, .int .i64 (specE l)] ∧ ∀ h, sat H h → sat [OwE encI 3 1 x (specR l)] h :=
  ⟨.slice none 0 0, by rw [h], fun h' hs => by unfold specR; rw [h, if_neg h0]; exact Sub.sat (.cons .head .nil) (owNil (enc := encI) (e := 3) (sz := 1) h' hs)⟩
theorem specE_a {l : List Int} (h : chkB l ≠ 0) : specE l = chkB l := if_pos h
theorem specE_b {l : List Int} (h : ¬ chkB l ≠ 0) (h2 : l.length = 0) : specE l = 5 := by unfold specE; rw [if_neg h, if_pos h2]
theorem specE_0 {l : List Int} (h : ¬ chkB l ≠ 0) (h2 : ¬ l.length = 0) : specE l = 0 := by unfold specE; rw [if_neg h, if_neg h2]
theorem dx_eq {l : List Int} {k i : Nat} (hm : ((i : Int) + (k : Int)).tmod (l.length : Int) = (((i + k) % l.length : Nat) : Int)) (h : l.getD i 0 = l.getD (((i : Int) + (k : Int)).tmod (l.length : Int)).toNat 0) : dx l k i = 0 := by
  rw [hm, Int.toNat_natCast] at h
  unfold dx bt
  rw [h]
  omega
theorem dx_ne {l : List Int} {k i : Nat} (hl : OkBs l) (hm : ((i : Int) + (k : Int)).tmod (l.length : Int) = (((i + k) % l.length : Nat) : Int)) (h : ¬ l.getD i 0 = l.getD (((i : Int) + (k : Int)).tmod (l.length : Int)).toNat 0) : dx l k i = 2 := by
  rw [hm, Int.toNat_natCast] at h
  have h1 := bt_ok hl i
  have h2 := bt_ok hl ((i + k) % l.length)
  unfold dx
  unfold bt at h1 h2 ⊢
  omega
theorem ref_Spectrum (w : World) (v : Value) (l : List Int) (hR : RdF encI 1 w.heap.size w v l) : Ct Try.prog 26 [v].toArray w fun r w' => ∃ Hq, (∃ x : Value, r = .tuple #[x, .int .i64 (specE l)] ∧ Hq = [OwE encI 3 1 x (specR l)]) ∧ Inv w [] Hq w' := by
  refine Ct.ofI mixed tyTab Try.func26 rfl rfl ?_
  replace hR : RdF encI 1 (fnCx mixed tyTab Try.f26.ntmps w).B (fnCx mixed tyTab Try.f26.ntmps w).w0 v l := hR
  have hle := hR.sl.le
  refine W.sreg ?_
  refine WO.p rfl rfl (WO.p rfl rfl ?_)
  refine WO.nil ?_
  refine W.seq ?_
  refine W.sreg ?_
  refine WO.p rfl rfl ?_
  refine WO.callR rfl Try.call34 (fun L w hi => ref_CheckBits w _ l (hR.later hi)) rfl ?_
  refine WO.p rfl rfl ?_
  refine WO.nil ?_
  refine W.cond_bl rfl (fun c1 => ?_) (fun c1 => ?_)
  · first
    | (exfalso; omega)
    | (refine W.sreg ?_
       refine WO.p rfl rfl ?_
       refine WO.callR rfl Try.call34 (fun L w hi => ref_CheckBits w _ l (hR.later hi)) rfl ?_
       refine WO.p rfl rfl (WO.p rfl rfl ?_)
       refine WO.nil ?_
       refine W.ret ?_
       refine fin.ret (Res.two rfl (RV.tmp rfl) (RV.tmp rfl)) ?_
       first | (have q := hok; refine ⟨x, by rw [specE_0 (by omega) (by omega)], fun h hs => ?_⟩; unfold specR; rw [if_pos (specE_0 (by omega) (by omega)), show l.length = k by omega]; exact Sub.sat (.cons .head .nil) hs) | exact spec_err (specE_a (by assumption)) (by assumption) | exact spec_err (specE_b (by assumption) (by omega)) (by decide))
  · first
    | (exfalso; omega)
    | (refine W.skip ?_
       refine W.seq ?_
       refine W.sreg ?_
       refine WO.p rfl rfl ?_
       refine' WO.len (n := _) rfl rfl ?hs rfl ?_
       case hs => (first | exact hR.sl)
       refine WO.p rfl rfl ?_
       refine WO.nil ?_
       refine W.cond_bl rfl (fun c2 => ?_) (fun c2 => ?_)
       · first
         | (exfalso; omega)
         | (refine W.sreg ?_
            refine WO.p rfl rfl (WO.p rfl rfl ?_)
            refine WO.nil ?_
            refine W.ret ?_
            refine fin.ret (Res.two rfl (RV.tmp rfl) (RV.tmp rfl)) ?_
            first | (have q := hok; refine ⟨x, by rw [specE_0 (by omega) (by omega)], fun h hs => ?_⟩; unfold specR; rw [if_pos (specE_0 (by omega) (by omega)), show l.length = k by omega]; exact Sub.sat (.cons .head .nil) hs) | exact spec_err (specE_a (by assumption)) (by assumption) | exact spec_err (specE_b (by assumption) (by omega)) (by decide))
       · first
         | (exfalso; omega)
         | (refine W.skip ?_
            have hok := chkB0.1 (show chkB l = 0 by omega)
            refine W.sreg ?_
            refine WO.p rfl rfl ?_
            refine WO.nil ?_
            refine W.seq ?_
            refine W.sreg ?_
            refine WO.p rfl rfl ?_
            refine WO.nil ?_
            refine W.block ?_
            refine W.chg (owNil (enc := encI) (e := 3) (sz := 1)) ?_
            refine W.loop2 (fun (k : Nat) (x : Value) => k ≤ l.length)
              (fun (k : Nat) (x : Value) => [(5, .int .i64 (k : Int)), (4, x), (0, v)])
              (fun (k : Nat) (x : Value) => [OwE encI 3 1 x (specL l k)])
              (fun (k : Nat) (x : Value) => l.length - k) 0 (.slice none 0 0)
              (by omega) ⟨rfl, rfl, rfl, trivial⟩ (by repeat (first | exact Sub.nil | refine Sub.cons (by repeat (first | exact Pick.head | apply Pick.tail)) ?_)) ?_
            rintro k x hk0
            refine W.seq ?_
            refine W.sreg ?_
            refine WO.p rfl rfl (WO.p rfl rfl ?_)
            refine' WO.len (n := _) rfl rfl ?hs rfl ?_
            case hs => (first | exact hR.sl)
            refine WO.p rfl rfl ?_
            refine WO.nil ?_
            refine W.cond_bl rfl (fun c3 => ?_) (fun c3 => ?_)
            · first
              | (exfalso; omega)
              | (refine W.skip ?_
                 refine W.seq ?_
                 refine W.block ?_
                 refine W.sreg ?_
                 refine WO.p rfl rfl ?_
                 refine WO.nil ?_
                 refine W.seq ?_
                 refine W.sreg ?_
                 refine WO.p rfl rfl ?_
                 refine WO.nil ?_
                 refine W.block ?_
                 refine W.loop2 (fun (i : Nat) (n : Int) => i ≤ l.length ∧ n = (i : Int) - sm i (dx l k))
                   (fun (i : Nat) (n : Int) => [(7, .int .i64 (i : Int)), (6, .int .i64 n), (5, .int .i64 (k : Int)), (4, x), (0, v)])
                   (fun (i : Nat) (n : Int) => [OwE encI 3 1 x (specL l k)])
                   (fun (i : Nat) (n : Int) => l.length - i) 0 0
                   (by exact ⟨by omega, rfl⟩) ⟨rfl, rfl, rfl, rfl, rfl, trivial⟩ (by repeat (first | exact Sub.nil | refine Sub.cons (by repeat (first | exact Pick.head | apply Pick.tail)) ?_)) ?_
                 rintro i n ⟨hi0, hn⟩
                 have hdb := smdx_le l k i
                 refine W.seq ?_
                 refine W.sreg ?_
                 refine WO.p rfl rfl (WO.p rfl rfl ?_)
                 refine' WO.len (n := _) rfl rfl ?hs rfl ?_
                 case hs => (first | exact hR.sl)
                 refine WO.p rfl rfl ?_
                 refine WO.nil ?_
                 refine W.cond_bl rfl (fun c4 => ?_) (fun c4 => ?_)
                 · first
                   | (exfalso; omega)
                   | (refine W.skip ?_
                      refine W.seq ?_
                      refine W.block ?_
                      refine W.seq ?_
                      have hmod : ((i : Int) + (k : Int)).tmod (l.length : Int) = (((i + k) % l.length : Nat) : Int) := by rw [Int.tmod_eq_emod_of_nonneg (by omega)]; simp
                      have hlt := Nat.mod_lt (i + k) (show 0 < l.length by omega)
                      refine W.drawD 13 [.r 0 [], .r 1 [], .r 2 [], .b 3 [], .r 4 [], .r 5 [], .r 6 [], .r 7 [], .r 8 [], .r 9 [], .r 10 [], .r 11 [], .b 12 []] [] (A0 := []) (Sub.refl _) (by kernel_rfl) ?_ ?_
                      · exact (ALok.r (ALok.r (ALok.r (ALok.b (ALok.r (ALok.r (ALok.r (ALok.r (ALok.r (ALok.r (ALok.r (ALok.r (ALok.b ALok.nil)))))))))))))
                      refine' DT.r rfl rfl rfl ?hq ?_
                      case hq =>
                        refine WO.p rfl rfl ?_
                        exact WO.nil ⟨rfl, rfl⟩
                      refine' DT.r rfl rfl rfl ?hq ?_
                      case hq =>
                        refine WO.p rfl rfl ?_
                        exact WO.nil ⟨rfl, rfl⟩
                      refine' DT.r rfl rfl rfl ?hq ?_
                      case hq =>
                        refine' WO.indexAddr (n := _) (i := _) rfl rfl rfl ?hs ?h1 rfl ?_
                        case hs => (first | exact hR.sl)
                        case h1 => (first | omega | (simp; omega))
                        exact WO.nil ⟨rfl, rfl⟩
                      refine' DT.b rfl rfl rfl ?hq ?_
                      case hq =>
                        refine' WO.load (v := _) rfl rfl ?hc rfl ?_
                        case hc => (first | (refine hR.cell0 (i := i) ?_ 0 ?_ <;> first | rfl | omega))
                        exact WO.nil ⟨rfl, rfl⟩
                      refine' DT.r rfl rfl rfl ?hq ?_
                      case hq =>
                        refine WO.p rfl rfl ?_
                        exact WO.nil ⟨rfl, rfl⟩
                      refine' DT.r rfl rfl rfl ?hq ?_
                      case hq =>
                        refine WO.p rfl rfl ?_
                        exact WO.nil ⟨rfl, rfl⟩
                      refine' DT.r rfl rfl rfl ?hq ?_
                      case hq =>
                        refine WO.p rfl rfl ?_
                        exact WO.nil ⟨rfl, rfl⟩
                      refine' DT.r rfl rfl rfl ?hq ?_
                      case hq =>
                        refine WO.ar rfl rfl rfl (by (first | (unfold in64; omega) | (unfold in64; omega))) rfl ?_
                        exact WO.nil ⟨rfl, rfl⟩
                      refine' DT.r rfl rfl rfl ?hq ?_
                      case hq =>
                        refine WO.p rfl rfl ?_
                        exact WO.nil ⟨rfl, rfl⟩
                      refine' DT.r rfl rfl rfl ?hq ?_
                      case hq =>
                        refine' WO.len (n := _) rfl rfl ?hs rfl ?_
                        case hs => (first | exact hR.sl)
                        exact WO.nil ⟨rfl, rfl⟩
                      refine' DT.r rfl rfl rfl ?hq ?_
                      case hq =>
                        refine WO.rem rfl rfl (by first | omega | assumption) rfl ?_
                        exact WO.nil ⟨rfl, rfl⟩
                      refine' DT.r rfl rfl rfl ?hq ?_
                      case hq =>
                        refine' WO.indexAddrZ (n := _) rfl rfl rfl ?hs ?h00 ?h1 rfl ?_
                        case hs => (first | exact hR.sl)
                        case h00 => omega
                        case h1 => (first | omega | (simp; omega))
                        exact WO.nil ⟨rfl, rfl⟩
                      refine' DT.b rfl rfl rfl ?hq ?_
                      case hq =>
                        refine' WO.load (v := _) rfl rfl ?hc rfl ?_
                        case hc => (first | (refine hR.cell0 (i := (((i : Int) + (k : Int)).tmod (l.length : Int)).toNat) ?_ 0 ?_ <;> first | rfl | omega))
                        exact WO.nil ⟨rfl, rfl⟩
                      refine DT.nil [_] rfl ?_
                      refine WO.p rfl rfl ?_
                      refine WO.nil ?_
                      refine W.cond_bl rfl (fun c5 => ?_) (fun c5 => ?_)
                      · first
                        | (exfalso; omega)
                        | (refine W.region ?_
                           refine WO.p rfl rfl (WO.ar rfl rfl rfl (by (first | (unfold in64; omega) | (unfold in64; omega))) rfl (WO.p rfl rfl ?_))
                           refine WO.nil ?_
                           refine W.region ?_
                           refine WO.p rfl rfl (WO.ar rfl rfl rfl (by (first | (unfold in64; omega) | (unfold in64; omega))) rfl (WO.p rfl rfl ?_))
                           refine WO.nil ?_
                           refine' ⟨i + 1, _, ?hp, ?hmu, ⟨rfl, rfl, rfl, rfl, rfl, trivial⟩, ?hS⟩
                           case hS => repeat (first | exact Sub.nil | refine Sub.cons (by repeat (first | exact Pick.head | apply Pick.tail)) ?_)
                           case hp => exact ⟨by omega, by (first | (have e := dx_eq (l := l) (k := k) (i := i) hmod (by assumption); show _ = _ - (sm i (dx l k) + dx l k i); rw [e]; omega) | (have e := dx_ne (l := l) (k := k) (i := i) hok.2 hmod (by assumption); show _ = _ - (sm i (dx l k) + dx l k i); rw [e]; omega))⟩
                           case hmu => omega)
                      · first
                        | (exfalso; omega)
                        | (refine W.region ?_
                           refine WO.p rfl rfl (WO.ar rfl rfl rfl (by (first | (unfold in64; omega) | (unfold in64; omega))) rfl (WO.p rfl rfl ?_))
                           refine WO.nil ?_
                           refine W.region ?_
                           refine WO.p rfl rfl (WO.ar rfl rfl rfl (by (first | (unfold in64; omega) | (unfold in64; omega))) rfl (WO.p rfl rfl ?_))
                           refine WO.nil ?_
                           refine' ⟨i + 1, _, ?hp, ?hmu, ⟨rfl, rfl, rfl, rfl, rfl, trivial⟩, ?hS⟩
                           case hS => repeat (first | exact Sub.nil | refine Sub.cons (by repeat (first | exact Pick.head | apply Pick.tail)) ?_)
                           case hp => exact ⟨by omega, by (first | (have e := dx_eq (l := l) (k := k) (i := i) hmod (by assumption); show _ = _ - (sm i (dx l k) + dx l k i); rw [e]; omega) | (have e := dx_ne (l := l) (k := k) (i := i) hok.2 hmod (by assumption); show _ = _ - (sm i (dx l k) + dx l k i); rw [e]; omega))⟩
                           case hmu => omega))
                 · first
                   | (exfalso; omega)
                   | (refine W.exit (blk_same ?_)
                      refine W.region ?_
                      refine WO.p rfl rfl (WO.p rfl rfl ?_)
                      refine' WO.buildSl (cs := _) rfl rfl rfl rfl ?hf rfl rfl ?hl rfl (fun v1 => ?_)
                      case hf => (conv => lhs; simp [-List.getD_eq_getElem?_getD, fillL, vcl, wrl, TTab.pl?.lget']) <;> rfl
                      case hl => rfl
                      obtain rfl : i = l.length := by omega
                      refine' WO.appendE (enc := encI) (m := 1) (xs := specL l k) (ys := [n]) encI_ok rfl rfl rfl rfl rfl (by repeat (first | exact Pick.head | apply Pick.tail)) (isSl_lit (by omega) (fun _ => ⟨_, _, rfl⟩)) (by omega) rfl (OwC.cells (by repeat (first | exact Pick.head | apply Pick.tail))) (by rw [specL_len]; omega) (by rw [specL_len]; omega) rfl (fun g c => ?_)
                      rw [hn, show (l.length : Int) - sm l.length (dx l k) = sp l k from rfl, ← specL_succ]
                      refine WO.p rfl rfl ?_
                      refine WO.nil ?_
                      refine W.region ?_
                      refine WO.p rfl rfl (WO.ar rfl rfl rfl (by (first | (unfold in64; omega) | (unfold in64; omega))) rfl (WO.p rfl rfl ?_))
                      refine WO.nil ?_
                      refine' ⟨k + 1, _, ?hp, ?hmu, ⟨rfl, rfl, rfl, trivial⟩, ?hS⟩
                      case hS => repeat (first | exact Sub.nil | refine Sub.cons (by repeat (first | exact Pick.head | apply Pick.tail)) ?_)
                      case hp => omega
                      case hmu => omega))
            · first
              | (exfalso; omega)
              | (refine W.exit (blk_same ?_)
                 refine W.sreg ?_
                 refine WO.p rfl rfl (WO.p rfl rfl (WO.p rfl rfl ?_))
                 refine WO.nil ?_
                 refine W.ret ?_
                 refine fin.ret (Res.two rfl (RV.tmp rfl) (RV.tmp rfl)) ?_
                 first | (have q := hok; refine ⟨x, by rw [specE_0 (by omega) (by omega)], fun h hs => ?_⟩; unfold specR; rw [if_pos (specE_0 (by omega) (by omega)), show l.length = k by omega]; exact Sub.sat (.cons .head .nil) hs) | exact spec_err (specE_a (by assumption)) (by assumption) | exact spec_err (specE_b (by assumption) (by omega)) (by decide))))
theorem spec_set {l : List Int} {k : Nat} {z z' : Int} (h : k < l.length) : (specL l k ++ z :: List.replicate (l.length - (k + 1)) 0).set k z' = specL l k ++ z' :: List.replicate (l.length - (k + 1)) 0 := by
  rw [List.set_append_right _ _ (by rw [specL_len]; exact Nat.le_refl k), specL_len, Nat.sub_self, List.set_cons_zero]
theorem spec_get {l : List Int} {k : Nat} {z : Int} : (specL l k ++ z :: List.replicate (l.length - (k + 1)) 0).getD k 0 = z := by
  rw [List.getD_eq_getElem?_getD, List.getElem?_append_right (by rw [specL_len]; exact Nat.le_refl k), specL_len, Nat.sub_self]; rfl
theorem spec_rep {l : List Int} {k : Nat} (h : k < l.length) : specL l k ++ List.replicate (l.length - k) 0 = specL l k ++ 0 :: List.replicate (l.length - (k + 1)) 0 := by
  rw [show l.length - k = (l.length - (k + 1)) + 1 by omega, List.replicate_succ]
theorem spec_end {l : List Int} {k : Nat} : specL l k ++ sp l k :: List.replicate (l.length - (k + 1)) 0 = specL l (k + 1) ++ List.replicate (l.length - (k + 1)) 0 := by
  rw [specL_succ, List.append_assoc]; rfl
theorem sl_some {a : Option Addr} {n c : Nat} (h : IsSl (.slice a n c) n) (h0 : 0 < n) : ∃ b o, a = some ⟨b, o, none⟩ := by
  obtain ⟨_, a', c', e, hb⟩ := h
  injection e with e1
  subst e1
  exact hb h0
theorem sl_full {a : Addr} {n : Nat} : Value.slice (if n = 0 then some a else ofs (some a) (0 * 1)) (n - 0) (n - 0) = .slice (some a) n n := by
  split <;> simp [ofs, addr_add_zero]
theorem cellI2 {C : Cx Try.prog} {H : List HP} {e i j : Nat} {v : Value} {xs : List Int} {z : Int} (s : Sub H [OwE encI e 1 v xs]) (h : i < xs.length) (hz : z = xs.getD i 0) (hj : j = i) : Cell C H (elt v j 1) (.int .i64 z) := by
  subst hj; subst hz
  cases s with
  | cons p _ => exact OwE.cell0 encI_ok p h 0 rfl
theorem c_Spectrum (w : World) (v : Value) (l : List Int) (hR : RdF encI 1 w.heap.size w v l) (hv : HasCap v l.length) : Ct Try.prog 25 [v].toArray w fun r w' => ∃ Hq, (∃ x : Value, r = .tuple #[x, .int .i64 (specE l)] ∧ Hq = [OwE encI 3 1 x (specR l)]) ∧ Inv w [] Hq w' := by
  refine Ct.ofI mixed tyTab Try.func25 rfl rfl ?_
  obtain ⟨va, vc, rfl, hcap⟩ := hv
  replace hR : RdF encI 1 (fnCx mixed tyTab Try.f25.ntmps w).B (fnCx mixed tyTab Try.f25.ntmps w).w0 (.slice va l.length vc) l := hR
  have hle := hR.sl.le
  refine W.sreg ?_
  refine WO.p rfl rfl (WO.p rfl rfl ?_)
  refine WO.nil ?_
  refine W.sreg ?_
  refine WO.p rfl rfl ?_
  refine WO.callR rfl Try.call33 (fun L w hi => c_CheckBits w _ l (hR.later hi)) rfl ?_
  refine WO.p rfl rfl ?_
  refine WO.nil ?_
  refine W.seq ?_
  refine W.block ?_
  refine W.sreg ?_
  refine WO.p rfl rfl (WO.p rfl rfl (WO.p rfl rfl ?_))
  refine WO.nil ?_
  refine W.cond_bl rfl (fun c1 => ?_) (fun c1 => ?_)
  · first
    | (exfalso; omega)
    | (refine W.sreg ?_
       refine WO.p rfl rfl (WO.p rfl rfl (WO.p rfl rfl ?_))
       refine WO.nil ?_
       refine W.ret ?_
       refine fin.ret (Res.two rfl (RV.tmp rfl) (RV.tmp rfl)) ?_
       first | (have q := hok; obtain rfl : k = l.length := (by omega); refine ⟨_, by rw [specE_0 (by omega) (by omega)], fun h hs => ?_⟩; unfold specR; rw [if_pos (specE_0 (by omega) (by omega))]; rw [Nat.sub_self, List.replicate_zero, List.append_nil] at hs; exact Sub.sat (.cons .head .nil) hs) | exact spec_err (specE_a (by assumption)) (by assumption) | exact spec_err (specE_b (by assumption) (by omega)) (by decide))
  · first
    | (exfalso; omega)
    | (refine W.sreg ?_
       refine WO.p rfl rfl ?_
       refine' WO.len (n := _) rfl rfl ?hs rfl ?_
       case hs => (first | exact hR.sl)
       refine WO.p rfl rfl (WO.p rfl rfl ?_)
       refine WO.nil ?_
       refine W.cond_bl rfl (fun c2 => ?_) (fun c2 => ?_)
       · first
         | (exfalso; omega)
         | (refine W.sreg ?_
            refine WO.p rfl rfl (WO.p rfl rfl ?_)
            refine WO.nil ?_
            refine W.ret ?_
            refine fin.ret (Res.two rfl (RV.tmp rfl) (RV.tmp rfl)) ?_
            first | (have q := hok; obtain rfl : k = l.length := (by omega); refine ⟨_, by rw [specE_0 (by omega) (by omega)], fun h hs => ?_⟩; unfold specR; rw [if_pos (specE_0 (by omega) (by omega))]; rw [Nat.sub_self, List.replicate_zero, List.append_nil] at hs; exact Sub.sat (.cons .head .nil) hs) | exact spec_err (specE_a (by assumption)) (by assumption) | exact spec_err (specE_b (by assumption) (by omega)) (by decide))
       · first
         | (exfalso; omega)
         | (refine W.skip ?_
            have hok := chkB0.1 (show chkB l = 0 by omega)
            have h0 : 0 < l.length := by omega
            obtain ⟨vb, vo, rfl⟩ := sl_some hR.sl h0
            refine W.sreg ?_
            refine WO.p rfl rfl (WO.p rfl rfl ?_)
            refine' WO.len (n := _) rfl rfl ?hs rfl ?_
            case hs => (first | exact hR.sl)
            refine WO.p rfl rfl ?_
            refine' WO.len (n := _) rfl rfl ?hs rfl ?_
            case hs => (first | exact hR.sl)
            refine WO.slSl (lo := 0) (hi := l.length) (mx := l.length) rfl rfl bnd.no (bnd.at rfl) (bnd.at rfl) (by simp) (by omega) (by omega) (by omega) rfl ?_
            rw [sl_full]
            refine WO.p rfl rfl ?_
            refine WO.appendFull (a := ⟨vb, vo, none⟩) (n := l.length) (m := l.length) (cs := l.flatMap encI) (news := l.flatMap encI) rfl rfl rfl rfl rfl (hR.flat encI_ok) (encI_ok.flat_len l) hR.sl h0 (hR.flat encI_ok) (encI_ok.flat_len l) (by omega) (by omega) rfl (fun g c => ?_)
            refine WO.chg (H' := [OwE encI 3 1 (.slice (some ⟨g, 0, none⟩) (l.length + l.length) c) (l ++ l)]) (fun h hs => ?_) ?_
            · unfold OwE; rw [List.length_append, List.flatMap_append]; exact hs
            refine WO.p rfl rfl ?_
            refine WO.nil ?_
            refine W.sreg ?_
            refine WO.p rfl rfl ?_
            refine' WO.len (n := _) rfl rfl ?hs rfl ?_
            case hs => (first | exact hR.sl)
            refine WO.makeI (n := l.length) rfl rfl rfl rfl (by omega) (by omega) rfl (fun ob => ?_)
            refine WO.p rfl rfl ?_
            refine WO.nil ?_
            refine W.seq ?_
            refine W.sreg ?_
            refine WO.p rfl rfl ?_
            refine' WO.len (n := _) rfl rfl ?hs rfl ?_
            case hs => (first | exact isSl_lit (n := l.length) (by omega) (fun _ => ⟨_, _, rfl⟩))
            refine WO.p rfl rfl ?_
            refine WO.nil ?_
            refine W.block ?_
            refine W.loop3 (fun (k : Nat) (tb : Nat) (tc : Nat) => k ≤ l.length)
              (fun (k : Nat) (tb : Nat) (tc : Nat) => [(33, .int .i64 (k : Int)), (32, .int .i64 (l.length : Int)), (6, .slice (some ⟨ob, 0, none⟩) l.length l.length), (5, .slice (some ⟨tb, 0, none⟩) (l.length + l.length) tc), (0, .slice (some ⟨vb, vo, none⟩) l.length vc)])
              (fun (k : Nat) (tb : Nat) (tc : Nat) => [OwE encI 3 1 (.slice (some ⟨ob, 0, none⟩) l.length l.length) (specL l k ++ List.replicate (l.length - k) 0), OwE encI 3 1 (.slice (some ⟨tb, 0, none⟩) (l.length + l.length) tc) (l ++ l)])
              (fun (k : Nat) (tb : Nat) (tc : Nat) => l.length - k) 0 _ _
              (by omega) ⟨rfl, rfl, rfl, rfl, rfl, trivial⟩ (by repeat (first | exact Sub.nil | refine Sub.cons (by repeat (first | exact Pick.head | apply Pick.tail)) ?_)) ?_
            rintro k tb tc hk0
            refine W.sreg ?_
            refine WO.p rfl rfl ?_
            refine WO.nil ?_
            refine W.seq ?_
            refine W.cond_bl rfl (fun c3 => ?_) (fun c3 => ?_)
            · first
              | (exfalso; omega)
              | (refine W.skip ?_
                 refine W.seq ?_
                 refine W.block ?_
                 refine W.sreg ?_
                 refine WO.p rfl rfl (WO.p rfl rfl ?_)
                 refine WO.nil ?_
                 refine W.sreg ?_
                 refine WO.p rfl rfl (WO.p rfl rfl (WO.p rfl rfl ?_))
                 refine' WO.len (n := _) rfl rfl ?hs rfl ?_
                 case hs => (first | exact hR.sl)
                 refine' WO.indexAddr (n := _) (i := _) rfl rfl rfl ?hs ?h1 rfl ?_
                 case hs => (first | exact isSl_lit (n := l.length) (by omega) (fun _ => ⟨_, _, rfl⟩))
                 case h1 => (first | omega | (simp; omega))
                 refine WO.storeE (n := (l.length : Int)) (i := k) encI_ok rfl rfl rfl rfl (by repeat (first | exact Pick.head | apply Pick.tail)) (by rw [List.length_append, specL_len]; simp; omega) ?_
                 rw [spec_rep (by omega), spec_set (by omega)]
                 refine WO.nil ?_
                 refine W.sreg ?_
                 refine WO.p rfl rfl ?_
                 refine' WO.len (n := _) rfl rfl ?hs rfl ?_
                 case hs => (first | exact hR.sl)
                 refine WO.p rfl rfl ?_
                 refine WO.nil ?_
                 refine W.block ?_
                 refine W.loop2 (fun (i : Nat) (z : Int) => i ≤ l.length ∧ z = (l.length : Int) - sm i (dx l k))
                   (fun (i : Nat) (z : Int) => [(43, .int .i64 (i : Int)), (42, .int .i64 (l.length : Int)), (41, .slice (some ⟨vb, vo, none⟩) l.length vc), (33, .int .i64 (k : Int)), (32, .int .i64 (l.length : Int)), (7, .int .i64 (k : Int)), (6, .slice (some ⟨ob, 0, none⟩) l.length l.length), (5, .slice (some ⟨tb, 0, none⟩) (l.length + l.length) tc), (0, .slice (some ⟨vb, vo, none⟩) l.length vc)])
                   (fun (i : Nat) (z : Int) => [OwE encI 3 1 (.slice (some ⟨ob, 0, none⟩) l.length l.length) (specL l k ++ z :: List.replicate (l.length - (k + 1)) 0), OwE encI 3 1 (.slice (some ⟨tb, 0, none⟩) (l.length + l.length) tc) (l ++ l)])
                   (fun (i : Nat) (z : Int) => l.length - i) 0 (l.length : Int)
                   (by exact ⟨by omega, by show _ = _ - (0 : Int); omega⟩) ⟨rfl, rfl, rfl, rfl, rfl, rfl, rfl, rfl, rfl, trivial⟩ (by repeat (first | exact Sub.nil | refine Sub.cons (by repeat (first | exact Pick.head | apply Pick.tail)) ?_)) ?_
                 rintro i z ⟨hi0, hz⟩
                 have hdb := smdx_le l k i
                 have hdx := dx_01 l k i
                 unfold dx at hdx
                 refine W.sreg ?_
                 refine WO.p rfl rfl ?_
                 refine WO.nil ?_
                 refine W.seq ?_
                 refine W.cond_bl rfl (fun c4 => ?_) (fun c4 => ?_)
                 · first
                   | (exfalso; omega)
                   | (refine W.skip ?_
                      refine W.seq ?_
                      refine W.block ?_
                      refine W.sreg ?_
                      refine WO.p rfl rfl ?_
                      refine' WO.indexAddr (n := _) (i := _) rfl rfl rfl ?hs ?h1 rfl ?_
                      case hs => (first | exact hR.sl)
                      case h1 => (first | omega | (simp; omega))
                      refine' WO.load (v := _) rfl rfl ?hc rfl ?_
                      case hc => (first | (refine hR.cell0 (i := i) ?_ 0 ?_ <;> first | rfl | omega))
                      refine WO.p rfl rfl (WO.p rfl rfl ?_)
                      refine WO.nil ?_
                      refine W.drawD 13 [.r 0 [], .r 1 [], .r 2 [], .b 3 [], .r 4 [], .r 5 [], .r 6 [], .r 7 [], .r 8 [], .r 9 [], .b 10 [], .r 11 [], .r 12 []] [] (A0 := []) (Sub.refl _) (by kernel_rfl) ?_ ?_
                      · exact (ALok.r (ALok.r (ALok.r (ALok.b (ALok.r (ALok.r (ALok.r (ALok.r (ALok.r (ALok.r (ALok.b (ALok.r (ALok.r ALok.nil)))))))))))))
                      refine' DT.r rfl rfl rfl ?hq ?_
                      case hq =>
                        refine WO.p rfl rfl ?_
                        exact WO.nil ⟨rfl, rfl⟩
                      refine' DT.r rfl rfl rfl ?hq ?_
                      case hq =>
                        refine WO.p rfl rfl ?_
                        exact WO.nil ⟨rfl, rfl⟩
                      refine' DT.r rfl rfl rfl ?hq ?_
                      case hq =>
                        refine' WO.indexAddr (n := _) (i := _) rfl rfl rfl ?hs ?h1 rfl ?_
                        case hs => (first | exact isSl_lit (n := l.length) (by omega) (fun _ => ⟨_, _, rfl⟩))
                        case h1 => (first | omega | (simp; omega))
                        exact WO.nil ⟨rfl, rfl⟩
                      refine' DT.b rfl rfl rfl ?hq ?_
                      case hq =>
                        refine' WO.load (v := _) rfl rfl ?hc rfl ?_
                        case hc => (first | (refine cellI2 (e := 3) (xs := specL l k ++ z :: List.replicate (l.length - (k + 1)) 0) (i := k) (j := k) (z := z) ?_ (by rw [List.length_append, specL_len]; simp) spec_get.symm rfl; repeat (first | exact Sub.nil | refine Sub.cons (by repeat (first | exact Pick.head | apply Pick.tail)) ?_)))
                        exact WO.nil ⟨rfl, rfl⟩
                      refine' DT.r rfl rfl rfl ?hq ?_
                      case hq =>
                        refine WO.p rfl rfl ?_
                        exact WO.nil ⟨rfl, rfl⟩
                      refine' DT.r rfl rfl rfl ?hq ?_
                      case hq =>
                        refine WO.p rfl rfl ?_
                        exact WO.nil ⟨rfl, rfl⟩
                      refine' DT.r rfl rfl rfl ?hq ?_
                      case hq =>
                        refine WO.p rfl rfl ?_
                        exact WO.nil ⟨rfl, rfl⟩
                      refine' DT.r rfl rfl rfl ?hq ?_
                      case hq =>
                        refine WO.p rfl rfl ?_
                        exact WO.nil ⟨rfl, rfl⟩
                      refine' DT.r rfl rfl rfl ?hq ?_
                      case hq =>
                        refine WO.ar rfl rfl rfl (by (first | (unfold in64; omega) | (unfold in64; omega))) rfl ?_
                        exact WO.nil ⟨rfl, rfl⟩
                      refine' DT.r rfl rfl rfl ?hq ?_
                      case hq =>
                        refine' WO.indexAddrZ (n := _) rfl rfl rfl ?hs ?h00 ?h1 rfl ?_
                        case hs => (first | exact isSl_lit (n := l.length + l.length) (by omega) (fun _ => ⟨_, _, rfl⟩))
                        case h00 => omega
                        case h1 => (first | omega | (simp; omega))
                        exact WO.nil ⟨rfl, rfl⟩
                      refine' DT.b rfl rfl rfl ?hq ?_
                      case hq =>
                        refine' WO.load (v := _) rfl rfl ?hc rfl ?_
                        case hc => (first | (refine cellI2 (e := 3) (xs := l ++ l) (i := i + k) (j := ((i : Int) + (k : Int)).toNat) (z := bt l ((i + k) % l.length)) ?_ (by rw [List.length_append]; omega) (twice_bt h0 (by omega)).symm (by omega); repeat (first | exact Sub.nil | refine Sub.cons (by repeat (first | exact Pick.head | apply Pick.tail)) ?_)))
                        exact WO.nil ⟨rfl, rfl⟩
                      refine' DT.r rfl rfl rfl ?hq ?_
                      case hq =>
                        refine WO.xor01 rfl rfl (bt_ok hok.2 i) (bt_ok hok.2 _) rfl ?_
                        exact WO.nil ⟨rfl, rfl⟩
                      refine' DT.r rfl rfl rfl ?hq ?_
                      case hq =>
                        refine WO.ar rfl rfl rfl (by (first | (unfold in64; omega) | (unfold in64; omega))) rfl ?_
                        exact WO.nil ⟨rfl, rfl⟩
                      refine DT.nil [_, _] rfl ?_
                      refine WO.ar rfl rfl rfl (by (first | (unfold in64; omega) | (unfold in64; omega))) rfl ?_
                      refine' WO.indexAddr (n := _) (i := _) rfl rfl rfl ?hs ?h1 rfl ?_
                      case hs => (first | exact isSl_lit (n := l.length) (by omega) (fun _ => ⟨_, _, rfl⟩))
                      case h1 => (first | omega | (simp; omega))
                      refine WO.storeE (n := z - 2 * ((bt l i + bt l ((i + k) % l.length)) % 2)) (i := k) encI_ok rfl rfl rfl rfl (by repeat (first | exact Pick.head | apply Pick.tail)) (by rw [List.length_append, specL_len]; simp) ?_
                      rw [spec_set (by omega)]
                      refine WO.nil ?_
                      refine W.region ?_
                      refine WO.ar rfl rfl rfl (by (first | (unfold in64; omega) | (unfold in64; omega))) rfl (WO.p rfl rfl ?_)
                      refine WO.nil ?_
                      refine' ⟨i + 1, _, ?hp, ?hmu, ⟨rfl, rfl, rfl, rfl, rfl, rfl, rfl, rfl, rfl, trivial⟩, ?hS⟩
                      case hS => repeat (first | exact Sub.nil | refine Sub.cons (by repeat (first | exact Pick.head | apply Pick.tail)) ?_)
                      case hp => exact ⟨by omega, by rw [hz]; show _ = _ - (sm i (dx l k) + dx l k i); unfold dx; omega⟩
                      case hmu => omega)
                 · first
                   | (exfalso; omega)
                   | (refine W.exit (blk_same ?_)
                      obtain rfl : i = l.length := by omega
                      rw [hz, show (l.length : Int) - sm l.length (dx l k) = sp l k from rfl, spec_end]
                      refine W.region ?_
                      refine WO.ar rfl rfl rfl (by (first | (unfold in64; omega) | (unfold in64; omega))) rfl (WO.p rfl rfl ?_)
                      refine WO.nil ?_
                      refine' ⟨k + 1, _, _, ?hp, ?hmu, ⟨rfl, rfl, rfl, rfl, rfl, trivial⟩, ?hS⟩
                      case hS => repeat (first | exact Sub.nil | refine Sub.cons (by repeat (first | exact Pick.head | apply Pick.tail)) ?_)
                      case hp => omega
                      case hmu => omega))
            · first
              | (exfalso; omega)
              | (refine W.exit (blk_same ?_)
                 refine W.sreg ?_
                 refine WO.p rfl rfl (WO.p rfl rfl (WO.p rfl rfl ?_))
                 refine WO.nil ?_
                 refine W.ret ?_
                 refine fin.ret (Res.two rfl (RV.tmp rfl) (RV.tmp rfl)) ?_
                 first | (have q := hok; obtain rfl : k = l.length := (by omega); refine ⟨_, by rw [specE_0 (by omega) (by omega)], fun h hs => ?_⟩; unfold specR; rw [if_pos (specE_0 (by omega) (by omega))]; rw [Nat.sub_self, List.replicate_zero, List.append_nil] at hs; exact Sub.sat (.cons .head .nil) hs) | exact spec_err (specE_a (by assumption)) (by assumption) | exact spec_err (specE_b (by assumption) (by omega)) (by decide))))
end Go.Proofs.Ytingkbglkaojdaa
namespace Go.Proofs.Ytingkbglkaojdaa
open Go Go.TH Go.TH.Wv
attribute [local irreducible] W WO pt
set_option maxRecDepth 10000
set_option maxHeartbeats 2000000
theorem l_same (w : World) (v u : Value) (rv ru : List Value) (xss yss : List (List Int)) (hR : RdR encI 1 w.heap.size w v rv xss) (hU : RdR encI 1 w.heap.size w u ru yss) : Ret Try.prog 27 [v, u].toArray w (.bool (bl (xss = yss))) := by
  refine Ret.of mixed tyTab Try.func27 rfl rfl ?_
  replace hR : RdR encI 1 (fnCx mixed tyTab Try.f27.ntmps w).B (fnCx mixed tyTab Try.f27.ntmps w).w0 v rv xss := hR
  replace hU : RdR encI 1 (fnCx mixed tyTab Try.f27.ntmps w).B (fnCx mixed tyTab Try.f27.ntmps w).w0 u ru yss := hU
  have hle := hR.sl.le
  refine W.sreg ?_
  refine WO.p rfl rfl ?_
  refine WO.nil ?_
  refine W.seq ?_
  refine W.sreg ?_
  refine WO.p rfl rfl ?_
  refine' WO.len (n := _) rfl rfl ?hs rfl ?_
  case hs => (first | exact hR.sl)
  refine WO.p rfl rfl ?_
  refine' WO.len (n := _) rfl rfl ?hs rfl ?_
  case hs => (first | exact hU.sl)
  refine WO.p rfl rfl ?_
  refine WO.nil ?_
  refine W.cond_bl rfl (fun c1 => ?_) (fun c1 => ?_)
  · first
    | (exfalso; omega)
    | (refine W.sreg ?_
       refine WO.p rfl rfl ?_
       refine WO.nil ?_
       refine W.ret ?_
       refine fin.ret (Res.one rfl (RV.tmp rfl)) (congrArg Value.bool ?_)
       first | exact (bl_t.2 (ext_getD [] (by omega) (fun k hk => hal k (by omega)))).symm | exact (bl_f.2 (fun e => by subst e; omega)).symm | exact (bl_f.2 (fun e => by subst e; exact (by assumption : ¬ _ = _) rfl)).symm)
  · first
    | (exfalso; omega)
    | (refine W.skip ?_
       refine W.seq ?_
       refine W.sreg ?_
       refine WO.p rfl rfl ?_
       refine WO.nil ?_
       refine W.block ?_
       refine W.loop (fun (i : Nat) => i ≤ xss.length ∧ ∀ j, j < i → xss.getD j [] = yss.getD j [])
         (fun (i : Nat) => [(5, .int .i64 (i : Int)), (0, v), (1, u)])
         (fun (i : Nat) => [])
         (fun (i : Nat) => xss.length - i) 0
         (by exact ⟨by omega, fun j hj => by omega⟩) ⟨rfl, rfl, rfl, trivial⟩ (by repeat (first | exact Sub.nil | refine Sub.cons (by repeat (first | exact Pick.head | apply Pick.tail)) ?_)) ?_
       rintro i ⟨hi0, hal⟩
       refine W.seq ?_
       refine W.sreg ?_
       refine WO.p rfl rfl (WO.p rfl rfl ?_)
       refine' WO.len (n := _) rfl rfl ?hs rfl ?_
       case hs => (first | exact hR.sl)
       refine WO.p rfl rfl ?_
       refine WO.nil ?_
       refine W.cond_bl rfl (fun c2 => ?_) (fun c2 => ?_)
       · first
         | (exfalso; omega)
         | (refine W.skip ?_
            refine W.seq ?_
            refine W.block ?_
            refine W.seq ?_
            refine W.drawD 8 [.r 0 [], .r 1 [], .r 2 [], .b 3 [], .r 4 [], .r 5 [], .r 6 [], .b 7 []] [] (A0 := []) (Sub.refl _) (by kernel_rfl) ?_ ?_
            · exact (ALok.r (ALok.r (ALok.r (ALok.b (ALok.r (ALok.r (ALok.r (ALok.b ALok.nil))))))))
            refine' DT.r rfl rfl rfl ?hq ?_
            case hq =>
              refine WO.p rfl rfl ?_
              exact WO.nil ⟨rfl, rfl⟩
            refine' DT.r rfl rfl rfl ?hq ?_
            case hq =>
              refine WO.p rfl rfl ?_
              exact WO.nil ⟨rfl, rfl⟩
            refine' DT.r rfl rfl rfl ?hq ?_
            case hq =>
              refine' WO.indexAddr (n := _) (i := _) rfl rfl rfl ?hs ?h1 rfl ?_
              case hs => (first | exact hR.sl)
              case h1 => (first | omega | (simp; omega))
              exact WO.nil ⟨rfl, rfl⟩
            refine' DT.b rfl rfl rfl ?hq ?_
            case hq =>
              refine' WO.load (v := _) rfl rfl ?hc rfl ?_
              case hc => (first | exact hR.cellV (i := i) (by omega))
              exact WO.nil ⟨rfl, rfl⟩
            refine' DT.r rfl rfl rfl ?hq ?_
            case hq =>
              refine WO.p rfl rfl ?_
              exact WO.nil ⟨rfl, rfl⟩
            refine' DT.r rfl rfl rfl ?hq ?_
            case hq =>
              refine WO.p rfl rfl ?_
              exact WO.nil ⟨rfl, rfl⟩
            refine' DT.r rfl rfl rfl ?hq ?_
            case hq =>
              refine' WO.indexAddr (n := _) (i := _) rfl rfl rfl ?hs ?h1 rfl ?_
              case hs => (first | exact hU.sl)
              case h1 => (first | omega | (simp; omega))
              exact WO.nil ⟨rfl, rfl⟩
            refine' DT.b rfl rfl rfl ?hq ?_
            case hq =>
              refine' WO.load (v := _) rfl rfl ?hc rfl ?_
              case hc => (first | exact hU.cellV (i := i) (by omega))
              exact WO.nil ⟨rfl, rfl⟩
            refine DT.nil [] rfl ?_
            refine WO.callR (r := .bool (bl (xss.getD i [] = yss.getD i []))) rfl Try.call19 (fun L w hi => l_ints w _ _ (xss.getD i []) (yss.getD i []) ((hR.row i (by omega)).later hi) ((hU.row i (by omega)).later hi)) rfl ?_
            refine WO.p rfl rfl ?_
            refine WO.nil ?_
            refine W.cond_nbl rfl (fun c3 => ?_) (fun c3 => ?_)
            · first
              | (exfalso; omega)
              | (refine W.sreg ?_
                 refine WO.p rfl rfl ?_
                 refine WO.nil ?_
                 refine W.ret ?_
                 refine fin.ret (Res.one rfl (RV.tmp rfl)) (congrArg Value.bool ?_)
                 first | exact (bl_t.2 (ext_getD [] (by omega) (fun k hk => hal k (by omega)))).symm | exact (bl_f.2 (fun e => by subst e; omega)).symm | exact (bl_f.2 (fun e => by subst e; exact (by assumption : ¬ _ = _) rfl)).symm)
            · first
              | (exfalso; omega)
              | (refine W.skip ?_
                 refine W.region ?_
                 refine WO.p rfl rfl (WO.ar rfl rfl rfl (by (first | (unfold in64; omega) | (unfold in64; omega))) rfl (WO.p rfl rfl ?_))
                 refine WO.nil ?_
                 refine' ⟨i + 1, ?hp, ?hmu, ⟨rfl, rfl, rfl, trivial⟩, ?hS⟩
                 case hS => repeat (first | exact Sub.nil | refine Sub.cons (by repeat (first | exact Pick.head | apply Pick.tail)) ?_)
                 case hp => exact ⟨by omega, fun j hj => by (rcases Nat.lt_or_ge j i with g | g; exact hal j g; (obtain rfl : j = i := (by omega)); assumption)⟩
                 case hmu => omega))
       · first
         | (exfalso; omega)
         | (refine W.exit (blk_same ?_)
            refine W.sreg ?_
            refine WO.p rfl rfl ?_
            refine WO.nil ?_
            refine W.ret ?_
            refine fin.ret (Res.one rfl (RV.tmp rfl)) (congrArg Value.bool ?_)
            first | exact (bl_t.2 (ext_getD [] (by omega) (fun k hk => hal k (by omega)))).symm | exact (bl_f.2 (fun e => by subst e; omega)).symm | exact (bl_f.2 (fun e => by subst e; exact (by assumption : ¬ _ = _) rfl)).symm))
theorem l_fine (w : World) (v : Value) (l : List Int) (hR : RdF encI 1 w.heap.size w v l) : Ret Try.prog 28 [v].toArray w (.bool (bl (chkB l = 0))) := by
  refine Ret.of mixed tyTab Try.func28 rfl rfl ?_
  replace hR : RdF encI 1 (fnCx mixed tyTab Try.f28.ntmps w).B (fnCx mixed tyTab Try.f28.ntmps w).w0 v l := hR
  refine W.sreg ?_
  refine WO.p rfl rfl ?_
  refine WO.nil ?_
  refine W.sreg ?_
  refine WO.p rfl rfl ?_
  refine WO.callR rfl Try.call34 (fun L w hi => ref_CheckBits w v l (hR.later hi)) rfl ?_
  refine WO.p rfl rfl (WO.p rfl rfl ?_)
  refine WO.nil ?_
  refine W.ret ?_
  exact fin.ret (Res.one rfl (RV.tmp rfl)) rfl
/-- two lists, added modulo 2 -/
def sumL (a b : List Int) (n : Nat) : List Int := (List.range n).map fun i => (bt a i + bt b i) % 2
theorem sumL_len (a b : List Int) (n : Nat) : (sumL a b n).length = n := by unfold sumL; simp
theorem sumL_succ (a b : List Int) (n : Nat) : sumL a b (n + 1) = sumL a b n ++ [(bt a n + bt b n) % 2] := by unfold sumL; rw [List.range_succ, List.map_append]; rfl
theorem l_sum (w : World) (v u : Value) (a b : List Int) (hR : RdF encI 1 w.heap.size w v a) (hU : RdF encI 1 w.heap.size w u b) (ha : OkBs a) (hb : OkBs b) (h128 : a.length ≤ 128) : Ct Try.prog 30 [v, u].toArray w fun r w' => ∃ Hq, (Hq = [OwE encI 3 1 r (sumL a b (min a.length b.length))]) ∧ Inv w [] Hq w' := by
  refine Ct.of mixed tyTab Try.func30 rfl rfl ?_
  replace hR : RdF encI 1 (fnCx mixed tyTab Try.f30.ntmps w).B (fnCx mixed tyTab Try.f30.ntmps w).w0 v a := hR
  replace hU : RdF encI 1 (fnCx mixed tyTab Try.f30.ntmps w).B (fnCx mixed tyTab Try.f30.ntmps w).w0 u b := hU
  have hle := hU.sl.le
  refine W.sreg ?_
  refine WO.p rfl rfl ?_
  refine WO.nil ?_
  refine W.sreg ?_
  refine WO.p rfl rfl ?_
  refine WO.nil ?_
  refine W.seq ?_
  refine W.sreg ?_
  refine WO.p rfl rfl ?_
  refine WO.nil ?_
  refine W.block ?_
  refine W.chg (owNil (enc := encI) (e := 3) (sz := 1)) ?_
  refine W.loop2 (fun (i : Nat) (x : Value) => i ≤ a.length ∧ i ≤ b.length)
    (fun (i : Nat) (x : Value) => [(6, .int .i64 (i : Int)), (5, x), (0, v), (1, u)])
    (fun (i : Nat) (x : Value) => [OwE encI 3 1 x (sumL a b i)])
    (fun (i : Nat) (x : Value) => a.length - i) 0 (.slice none 0 0)
    (by exact ⟨by omega, by omega⟩) ⟨rfl, rfl, rfl, rfl, trivial⟩ (by repeat (first | exact Sub.nil | refine Sub.cons (by repeat (first | exact Pick.head | apply Pick.tail)) ?_)) ?_
  rintro i x ⟨hi0, hi1⟩
  refine W.seq ?_
  refine W.sreg ?_
  refine WO.p rfl rfl (WO.p rfl rfl ?_)
  refine' WO.len (n := _) rfl rfl ?hs rfl ?_
  case hs => (first | exact hR.sl)
  refine WO.p rfl rfl (WO.p rfl rfl ?_)
  refine WO.guard_bl rfl rfl (fun c1 => ?_) (fun c1 => ?_)
  · first
    | (exfalso; omega)
    | (refine WO.pg rfl rfl rfl (WO.pg rfl rfl rfl (WO.go' rfl ?_))
       refine' WO.len (n := _) rfl rfl ?hs rfl ?_
       case hs => (first | exact hU.sl)
       refine WO.pg rfl rfl rfl (WO.p rfl rfl ?_)
       refine WO.nil ?_
       refine W.cond_bl rfl (fun c2 => ?_) (fun c2 => ?_)
       · first
         | (exfalso; omega)
         | (refine W.skip ?_
            refine W.seq ?_
            refine W.block ?_
            refine W.drawD 12 [.r 0 [], .r 1 [], .r 2 [], .r 3 [], .b 4 [], .r 5 [], .r 6 [], .r 7 [], .b 8 [], .r 9 [], .r 10 [], .c 11 []] [] (A0 := [_]) (H0 := []) (.cons .head .nil) (by kernel_rfl) ?_ ?_
            · exact (ALok.r (ALok.r (ALok.r (ALok.r (ALok.b (ALok.r (ALok.r (ALok.r (ALok.b (ALok.r (ALok.r (ALok.c ALok.nil))))))))))))
            refine' DT.r rfl rfl rfl ?hq ?_
            case hq =>
              refine WO.p rfl rfl ?_
              exact WO.nil ⟨rfl, rfl⟩
            refine' DT.r rfl rfl rfl ?hq ?_
            case hq =>
              refine WO.p rfl rfl ?_
              exact WO.nil ⟨rfl, rfl⟩
            refine' DT.r rfl rfl rfl ?hq ?_
            case hq =>
              refine WO.p rfl rfl ?_
              exact WO.nil ⟨rfl, rfl⟩
            refine' DT.r rfl rfl rfl ?hq ?_
            case hq =>
              refine' WO.indexAddr (n := _) (i := _) rfl rfl rfl ?hs ?h1 rfl ?_
              case hs => (first | exact hR.sl)
              case h1 => (first | omega | (simp; omega))
              exact WO.nil ⟨rfl, rfl⟩
            refine' DT.b rfl rfl rfl ?hq ?_
            case hq =>
              refine' WO.load (v := _) rfl rfl ?hc rfl ?_
              case hc => (first | (refine hR.cell0 (i := i) ?_ 0 ?_ <;> first | rfl | omega))
              exact WO.nil ⟨rfl, rfl⟩
            refine' DT.r rfl rfl rfl ?hq ?_
            case hq =>
              refine WO.p rfl rfl ?_
              exact WO.nil ⟨rfl, rfl⟩
            refine' DT.r rfl rfl rfl ?hq ?_
            case hq =>
              refine WO.p rfl rfl ?_
              exact WO.nil ⟨rfl, rfl⟩
            refine' DT.r rfl rfl rfl ?hq ?_
            case hq =>
              refine' WO.indexAddr (n := _) (i := _) rfl rfl rfl ?hs ?h1 rfl ?_
              case hs => (first | exact hU.sl)
              case h1 => (first | omega | (simp; omega))
              exact WO.nil ⟨rfl, rfl⟩
            refine' DT.b rfl rfl rfl ?hq ?_
            case hq =>
              refine' WO.load (v := _) rfl rfl ?hc rfl ?_
              case hc => (first | (refine hU.cell0 (i := i) ?_ 0 ?_ <;> first | rfl | omega))
              exact WO.nil ⟨rfl, rfl⟩
            refine' DT.r rfl rfl rfl ?hq ?_
            case hq =>
              refine WO.ar rfl rfl rfl (by (first | (unfold in64; omega) | (have q1 := bt_ok ha i; have q2 := bt_ok hb i; unfold bt at q1 q2; unfold in64; omega) | (unfold in64; omega))) rfl ?_
              exact WO.nil ⟨rfl, rfl⟩
            refine' DT.r rfl rfl rfl ?hq ?_
            case hq =>
              refine WO.rem rfl rfl (by first | omega | assumption) rfl ?_
              exact WO.nil ⟨rfl, rfl⟩
            refine DT.c [_] rfl rfl rfl rfl ?_
            refine' WO.buildSl (cs := _) rfl rfl rfl rfl ?hf rfl rfl ?hl rfl (fun v1 => ?_)
            case hf => (conv => lhs; simp [-List.getD_eq_getElem?_getD, fillL, vcl, wrl, TTab.pl?.lget']) <;> rfl
            case hl => rfl
            refine WO.nil ⟨_, [_, _], rfl, rfl, (Keep.r (Keep.r (Keep.b (Keep.r (Keep.r (Keep.r (Keep.b (Keep.r (Keep.r (Keep.r (Keep.r Keep.nil))))))))))), ?_⟩
            refine DT.nil [_, _] rfl ?_
            refine' WO.appendE (enc := encI) (m := 1) (xs := sumL a b i) (ys := [_]) encI_ok rfl rfl rfl rfl rfl (by repeat (first | exact Pick.head | apply Pick.tail)) (isSl_lit (by omega) (fun _ => ⟨_, _, rfl⟩)) (by omega) rfl (OwC.cells (by repeat (first | exact Pick.head | apply Pick.tail))) (by rw [sumL_len]; omega) (by rw [sumL_len]; omega) rfl (fun g c => ?_)
            rw [show (a.getD i 0 + b.getD i 0).tmod 2 = (bt a i + bt b i) % 2 from Int.tmod_eq_emod_of_nonneg (by have q1 := bt_ok ha i; have q2 := bt_ok hb i; unfold bt at q1 q2; omega), ← sumL_succ]
            refine WO.p rfl rfl ?_
            refine WO.nil ?_
            refine W.region ?_
            refine WO.p rfl rfl (WO.ar rfl rfl rfl (by (first | (unfold in64; omega) | (have q1 := bt_ok ha i; have q2 := bt_ok hb i; unfold bt at q1 q2; unfold in64; omega) | (unfold in64; omega))) rfl (WO.p rfl rfl ?_))
            refine WO.nil ?_
            refine' ⟨i + 1, _, ?hp, ?hmu, ⟨rfl, rfl, rfl, rfl, trivial⟩, ?hS⟩
            case hS => repeat (first | exact Sub.nil | refine Sub.cons (by repeat (first | exact Pick.head | apply Pick.tail)) ?_)
            case hp => exact ⟨by omega, by omega⟩
            case hmu => omega)
       · first
         | (exfalso; omega)
         | (refine W.exit (blk_same ?_)
            refine W.sreg ?_
            refine WO.p rfl rfl (WO.p rfl rfl ?_)
            refine WO.nil ?_
            refine W.ret ?_
            refine fin.ret (Res.one rfl (RV.tmp rfl)) ?_
            rw [show min a.length b.length = i by omega]))
  · first
    | (exfalso; omega)
    | (refine WO.no rfl rfl (WO.no rfl rfl (WO.no rfl rfl (WO.no rfl rfl (WO.p rfl rfl ?_))))
       refine WO.nil ?_
       refine W.cond_f rfl ?_
       refine W.exit (blk_same ?_)
       refine W.sreg ?_
       refine WO.p rfl rfl (WO.p rfl rfl ?_)
       refine WO.nil ?_
       refine W.ret ?_
       refine fin.ret (Res.one rfl (RV.tmp rfl)) ?_
       rw [show min a.length b.length = i by omega])
def bitsL : List Int := [0, 0, 1, 1, 0, 1, 1]
theorem l_Bits (w : World) : Ct Try.prog 40 ([] : List Value).toArray w fun r w' => ∃ Hq, (Hq = [OwE encI 3 1 r bitsL]) ∧ Inv w [] Hq w' := by
  refine Ct.of mixed tyTab Try.func40 rfl rfl ?_
  refine W.sreg ?_
  refine WO.p rfl rfl ?_
  refine WO.nil ?_
  refine W.sreg ?_
  refine' WO.buildSl (cs := _) rfl rfl rfl rfl ?hf rfl rfl ?hl rfl (fun v1 => ?_)
  case hf => (conv => lhs; simp [-List.getD_eq_getElem?_getD, fillL, vcl, wrl, TTab.pl?.lget']) <;> rfl
  case hl => rfl
  refine WO.p rfl rfl ?_
  refine WO.nil ?_
  refine W.ret ?_
  exact fin.ret (Res.one rfl (RV.tmp rfl)) rfl
theorem ints_t {f : Nat} {args : Array Value} {w : World} {xs ys : List Int} (h : Ret Try.prog f args w (.bool (bl (xs = ys)))) (e : xs = ys) : Ret Try.prog f args w (.bool true) := by
  rw [bl_t.2 e] at h; exact h
theorem same_t {f : Nat} {args : Array Value} {w : World} {xs ys : List (List Int)} (h : Ret Try.prog f args w (.bool (bl (xs = ys)))) (e : xs = ys) : Ret Try.prog f args w (.bool true) := by
  rw [bl_t.2 e] at h; exact h
theorem rdNil {B : Nat} {w : World} : RdF encI 1 B w (.slice none 0 0) ([] : List Int) := ⟨⟨by decide, none, 0, rfl, fun h => absurd h (by decide)⟩, fun h => absurd h (by decide), fun i x hx => by simp at hx⟩
/-! the examples -/
theorem ex_run : runE [1, 1] [0, 1] 8 = 0 ∧ runL [1, 1] [0, 1] 8 = [0, 1, 1, 0, 1, 1, 0, 1] := by decide +kernel
theorem ex_short : chkB bitsL = 0 ∧ shortL bitsL = [1, 1, 0] := by decide +kernel
theorem ex_prof : profM bitsL = [0, 0, 0, 3, 3, 3, 3, 3] := by decide +kernel
theorem ex_proof : prfE bitsL [] 2 = 0 ∧ prfN bitsL [] 2 = 3 := by decide +kernel
theorem ex_proof2 : prfE bitsL [1] 3 = 14 := by decide +kernel
theorem ex_per : perE [1, 1] [0, 1] = 0 ∧ IsPer [1, 1] [0, 1] 3 := by
  refine ⟨by decide +kernel, by omega, by decide +kernel, fun m h1 h2 => ?_⟩
  rcases (show m = 1 ∨ m = 2 by omega) with rfl | rfl <;> decide +kernel
theorem ex_full : fullE 3 = 0 ∧ fullR 3 = [[0, 1, 1], [1, 0, 1]] := by decide +kernel
theorem ex_spec : specE [1, 1, 0] = 0 ∧ specR [1, 1, 0] = [3, -1, -1] := by decide +kernel
theorem l_Works (w : World) : Ret Try.prog 15 ([] : List Value).toArray w (.bool true) := by
  refine Ret.of mixed tyTab Try.func15 rfl rfl ?_
  refine W.sreg ?_
  refine WO.p rfl rfl ?_
  refine WO.nil ?_
  refine W.sreg ?_
  refine WO.call (Post := fun r Hq => Hq = [OwE encI 3 1 r bitsL]) rfl Try.call40 (fun L w hi => l_Bits w) rfl ?_
  rintro bv _ rfl
  refine WO.p rfl rfl ?_
  refine WO.nil ?_
  refine W.sreg ?_
  refine' WO.buildSl (cs := _) rfl rfl rfl rfl ?hf rfl rfl ?hl rfl (fun v1 => ?_)
  case hf => (conv => lhs; simp [-List.getD_eq_getElem?_getD, fillL, vcl, wrl, TTab.pl?.lget']) <;> rfl
  case hl => rfl
  refine' WO.buildSl (cs := _) rfl rfl rfl rfl ?hf rfl rfl ?hl rfl (fun v2 => ?_)
  case hf => (conv => lhs; simp [-List.getD_eq_getElem?_getD, fillL, vcl, wrl, TTab.pl?.lget']) <;> rfl
  case hl => rfl
  refine WO.call (Post := fun r Hq => ∃ x : Value, r = .tuple #[x, .int .i64 0] ∧ Hq = [OwE encI 3 1 x [0, 1, 1, 0, 1, 1, 0, 1]]) rfl Try.call31 (fun L w hi => by have h := c_Run w _ _ [1, 1] [0, 1] 8 (RdF.of_ow (e := 3) encI_ok (by repeat (first | exact Pick.head | apply Pick.tail)) hi) (RdF.of_ow (e := 3) encI_ok (by repeat (first | exact Pick.head | apply Pick.tail)) hi); rw [ex_run.1, if_pos rfl, show (8 : Int).toNat = 8 from rfl, ex_run.2] at h; exact h) rfl ?_
  rintro _ _ ⟨r1, rfl, rfl⟩
  refine WO.p rfl rfl (WO.p rfl rfl (WO.p rfl rfl (WO.p rfl rfl (WO.p rfl rfl ?_))))
  refine WO.nil ?_
  refine W.sreg ?_
  refine WO.p rfl rfl ?_
  refine WO.call (Post := fun r Hq => ∃ x : Value, r = .tuple #[x, .int .i64 0] ∧ Hq = [OwE encI 3 1 x [1, 1, 0]]) rfl Try.call18 (fun L w hi => by have h := c_Shortest w bv bitsL (RdF.of_ow (e := 3) encI_ok (by repeat (first | exact Pick.head | apply Pick.tail)) hi); rw [ex_short.1, if_pos rfl, ex_short.2] at h; exact h) rfl ?_
  rintro _ _ ⟨r2, rfl, rfl⟩
  refine WO.p rfl rfl (WO.p rfl rfl (WO.p rfl rfl (WO.p rfl rfl (WO.p rfl rfl ?_))))
  refine WO.nil ?_
  refine W.sreg ?_
  refine WO.p rfl rfl ?_
  refine WO.call (Post := fun r Hq => ∃ x : Value, r = .tuple #[x, .int .i64 0] ∧ Hq = [OwE encI 3 1 x [0, 0, 0, 3, 3, 3, 3, 3]]) rfl Try.call16 (fun L w hi => by have h := c_Profile w bv bitsL (RdF.of_ow (e := 3) encI_ok (by repeat (first | exact Pick.head | apply Pick.tail)) hi); rw [ex_short.1, if_pos rfl, ex_prof] at h; exact h) rfl ?_
  rintro _ _ ⟨r3, rfl, rfl⟩
  refine WO.p rfl rfl (WO.p rfl rfl (WO.p rfl rfl (WO.p rfl rfl (WO.p rfl rfl ?_))))
  refine WO.nil ?_
  refine W.sreg ?_
  refine WO.p rfl rfl ?_
  refine' WO.build (cs := _) rfl rfl rfl ?hf rfl ?_
  case hf => (conv => lhs; simp [-List.getD_eq_getElem?_getD, fillL, vcl, wrl, TTab.pl?.lget']) <;> rfl
  refine WO.callR (r := .tuple #[.int .i64 3, .int .i64 0]) rfl Try.call36 (fun L w hi => by have h := c_CheckProof w bv (.slice none 0 0) bitsL [] 2 (RdF.of_ow (e := 3) encI_ok (by repeat (first | exact Pick.head | apply Pick.tail)) hi) rdNil; unfold prfV at h; rw [ex_proof.1, ex_proof.2] at h; exact h) rfl ?_
  refine WO.p rfl rfl (WO.p rfl rfl (WO.p rfl rfl (WO.p rfl rfl (WO.p rfl rfl ?_))))
  refine WO.nil ?_
  refine W.sreg ?_
  refine' WO.buildSl (cs := _) rfl rfl rfl rfl ?hf rfl rfl ?hl rfl (fun v3 => ?_)
  case hf => (conv => lhs; simp [-List.getD_eq_getElem?_getD, fillL, vcl, wrl, TTab.pl?.lget']) <;> rfl
  case hl => rfl
  refine' WO.buildSl (cs := _) rfl rfl rfl rfl ?hf rfl rfl ?hl rfl (fun v4 => ?_)
  case hf => (conv => lhs; simp [-List.getD_eq_getElem?_getD, fillL, vcl, wrl, TTab.pl?.lget']) <;> rfl
  case hl => rfl
  refine WO.callR (r := .tuple #[.int .i64 3, .int .i64 0]) rfl Try.call21 (fun L w hi => by have h := c_Period w _ _ [1, 1] [0, 1] (RdF.of_ow (e := 3) encI_ok (by repeat (first | exact Pick.head | apply Pick.tail)) hi) (RdF.of_ow (e := 3) encI_ok (by repeat (first | exact Pick.head | apply Pick.tail)) hi); rw [← perV_ok ex_per.1 ex_per.2] at h; exact h) rfl ?_
  refine WO.p rfl rfl (WO.p rfl rfl (WO.p rfl rfl (WO.p rfl rfl (WO.p rfl rfl ?_))))
  refine WO.nil ?_
  refine W.sreg ?_
  refine WO.call (Post := fun r Hq => ∃ Z : Value × List Value, r = .tuple #[Z.1, .int .i64 0] ∧ Hq = [OwC 22 1 Z.1 2 Z.2, RowsE encI 3 1 Z.2 [[0, 1, 1], [1, 0, 1]]]) rfl Try.call23 (fun L w hi => by have h := c_Full w 3; rw [ex_full.1, ex_full.2] at h; exact h) rfl ?_
  rintro _ _ ⟨⟨fv, frv⟩, rfl, rfl⟩
  refine WO.p rfl rfl (WO.p rfl rfl (WO.p rfl rfl (WO.p rfl rfl (WO.p rfl rfl ?_))))
  refine WO.nil ?_
  refine W.sreg ?_
  refine' WO.buildSl (cs := _) rfl rfl rfl rfl ?hf rfl rfl ?hl rfl (fun v5 => ?_)
  case hf => (conv => lhs; simp [-List.getD_eq_getElem?_getD, fillL, vcl, wrl, TTab.pl?.lget']) <;> rfl
  case hl => rfl
  refine WO.call (Post := fun r Hq => ∃ x : Value, r = .tuple #[x, .int .i64 0] ∧ Hq = [OwE encI 3 1 x [3, -1, -1]]) rfl Try.call25 (fun L w hi => by have h := c_Spectrum w _ [1, 1, 0] (RdF.of_ow (e := 3) encI_ok (by repeat (first | exact Pick.head | apply Pick.tail)) hi) ⟨_, _, rfl, Nat.le_refl _⟩; rw [ex_spec.1, ex_spec.2] at h; exact h) rfl ?_
  rintro _ _ ⟨r4, rfl, rfl⟩
  refine WO.p rfl rfl (WO.p rfl rfl (WO.p rfl rfl (WO.p rfl rfl (WO.p rfl rfl ?_))))
  refine WO.nil ?_
  refine W.sreg ?_
  refine WO.p rfl rfl ?_
  refine' WO.buildSl (cs := _) rfl rfl rfl rfl ?hf rfl rfl ?hl rfl (fun v6 => ?_)
  case hf => (conv => lhs; simp [-List.getD_eq_getElem?_getD, fillL, vcl, wrl, TTab.pl?.lget']) <;> rfl
  case hl => rfl
  refine' WO.build (cs := _) rfl rfl rfl ?hf rfl ?_
  case hf => (conv => lhs; simp [-List.getD_eq_getElem?_getD, fillL, vcl, wrl, TTab.pl?.lget']) <;> rfl
  refine WO.callR (r := .tuple #[.int .i64 (prfN bitsL [1] 3), .int .i64 14]) rfl Try.call36 (fun L w hi => by have h := c_CheckProof w bv _ bitsL [1] 3 (RdF.of_ow (e := 3) encI_ok (by repeat (first | exact Pick.head | apply Pick.tail)) hi) (RdF.of_ow (e := 3) encI_ok (by repeat (first | exact Pick.head | apply Pick.tail)) hi); unfold prfV at h; rw [ex_proof2] at h; exact h) rfl ?_
  refine WO.p rfl rfl (WO.p rfl rfl (WO.p rfl rfl (WO.p rfl rfl (WO.p rfl rfl ?_))))
  refine WO.nil ?_
  refine W.sreg ?_
  refine WO.p rfl rfl (WO.p rfl rfl (WO.p rfl rfl ?_))
  refine WO.guard_bl rfl rfl (fun c1 => ?_) (fun c1 => ?_)
  · first
    | (exfalso; omega)
    | (refine WO.pg rfl rfl rfl (WO.pg rfl rfl rfl (WO.p rfl rfl (WO.p rfl rfl ?_)))
       refine WO.guard_bl rfl rfl (fun c2 => ?_) (fun c2 => ?_)
       · first
         | (exfalso; omega)
         | (refine WO.pg rfl rfl rfl (WO.pg rfl rfl rfl (WO.p rfl rfl (WO.p rfl rfl ?_)))
            refine WO.guard_bl rfl rfl (fun c3 => ?_) (fun c3 => ?_)
            · first
              | (exfalso; omega)
              | (refine WO.pg rfl rfl rfl (WO.pg rfl rfl rfl (WO.p rfl rfl (WO.p rfl rfl ?_)))
                 refine WO.guard_bl rfl rfl (fun c4 => ?_) (fun c4 => ?_)
                 · first
                   | (exfalso; omega)
                   | (refine WO.pg rfl rfl rfl (WO.pg rfl rfl rfl (WO.p rfl rfl (WO.p rfl rfl ?_)))
                      refine WO.guard_bl rfl rfl (fun c5 => ?_) (fun c5 => ?_)
                      · first
                        | (exfalso; omega)
                        | (refine WO.pg rfl rfl rfl (WO.pg rfl rfl rfl (WO.p rfl rfl (WO.p rfl rfl ?_)))
                           refine WO.guard_bl rfl rfl (fun c6 => ?_) (fun c6 => ?_)
                           · first
                             | (exfalso; omega)
                             | (refine WO.pg rfl rfl rfl (WO.pg rfl rfl rfl (WO.p rfl rfl (WO.p rfl rfl ?_)))
                                refine WO.guard_bl rfl rfl (fun c7 => ?_) (fun c7 => ?_)
                                · first
                                  | (exfalso; omega)
                                  | (refine WO.pg rfl rfl rfl (WO.pg rfl rfl rfl (WO.p rfl rfl (WO.p rfl rfl ?_)))
                                     refine WO.guard_bl rfl rfl (fun c8 => ?_) (fun c8 => ?_)
                                     · first
                                       | (exfalso; omega)
                                       | (refine WO.pg rfl rfl rfl (WO.go' rfl ?_)
                                          refine' WO.buildSl (cs := _) rfl rfl rfl rfl ?hf rfl rfl ?hl rfl (fun v7 => ?_)
                                          case hf => (conv => lhs; simp [-List.getD_eq_getElem?_getD, fillL, vcl, wrl, TTab.pl?.lget']) <;> rfl
                                          case hl => rfl
                                          refine WO.go' rfl ?_
                                          first | refine WO.callR (r := .bool true) rfl Try.call19 (fun L w hi => ints_t (l_ints w _ _ [0, 1, 1, 0, 1, 1, 0, 1] [0, 1, 1, 0, 1, 1, 0, 1] (RdF.of_ow (e := 3) encI_ok (by repeat (first | exact Pick.head | apply Pick.tail)) hi) (RdF.of_ow (e := 3) encI_ok (by repeat (first | exact Pick.head | apply Pick.tail)) hi)) rfl) rfl ?_ | refine WO.callR (r := .bool true) rfl Try.call19 (fun L w hi => ints_t (l_ints w _ _ [1, 1, 0] [1, 1, 0] (RdF.of_ow (e := 3) encI_ok (by repeat (first | exact Pick.head | apply Pick.tail)) hi) (RdF.of_ow (e := 3) encI_ok (by repeat (first | exact Pick.head | apply Pick.tail)) hi)) rfl) rfl ?_ | refine WO.callR (r := .bool true) rfl Try.call19 (fun L w hi => ints_t (l_ints w _ _ [0, 0, 0, 3, 3, 3, 3, 3] [0, 0, 0, 3, 3, 3, 3, 3] (RdF.of_ow (e := 3) encI_ok (by repeat (first | exact Pick.head | apply Pick.tail)) hi) (RdF.of_ow (e := 3) encI_ok (by repeat (first | exact Pick.head | apply Pick.tail)) hi)) rfl) rfl ?_ | refine WO.callR (r := .bool true) rfl Try.call19 (fun L w hi => ints_t (l_ints w _ _ [3, -1, -1] [3, -1, -1] (RdF.of_ow (e := 3) encI_ok (by repeat (first | exact Pick.head | apply Pick.tail)) hi) (RdF.of_ow (e := 3) encI_ok (by repeat (first | exact Pick.head | apply Pick.tail)) hi)) rfl) rfl ?_
                                          refine WO.p rfl rfl (WO.p rfl rfl (WO.pg rfl rfl rfl (WO.go' rfl ?_)))
                                          refine' WO.buildSl (cs := _) rfl rfl rfl rfl ?hf rfl rfl ?hl rfl (fun v8 => ?_)
                                          case hf => (conv => lhs; simp [-List.getD_eq_getElem?_getD, fillL, vcl, wrl, TTab.pl?.lget']) <;> rfl
                                          case hl => rfl
                                          refine WO.go' rfl ?_
                                          first | refine WO.callR (r := .bool true) rfl Try.call19 (fun L w hi => ints_t (l_ints w _ _ [0, 1, 1, 0, 1, 1, 0, 1] [0, 1, 1, 0, 1, 1, 0, 1] (RdF.of_ow (e := 3) encI_ok (by repeat (first | exact Pick.head | apply Pick.tail)) hi) (RdF.of_ow (e := 3) encI_ok (by repeat (first | exact Pick.head | apply Pick.tail)) hi)) rfl) rfl ?_ | refine WO.callR (r := .bool true) rfl Try.call19 (fun L w hi => ints_t (l_ints w _ _ [1, 1, 0] [1, 1, 0] (RdF.of_ow (e := 3) encI_ok (by repeat (first | exact Pick.head | apply Pick.tail)) hi) (RdF.of_ow (e := 3) encI_ok (by repeat (first | exact Pick.head | apply Pick.tail)) hi)) rfl) rfl ?_ | refine WO.callR (r := .bool true) rfl Try.call19 (fun L w hi => ints_t (l_ints w _ _ [0, 0, 0, 3, 3, 3, 3, 3] [0, 0, 0, 3, 3, 3, 3, 3] (RdF.of_ow (e := 3) encI_ok (by repeat (first | exact Pick.head | apply Pick.tail)) hi) (RdF.of_ow (e := 3) encI_ok (by repeat (first | exact Pick.head | apply Pick.tail)) hi)) rfl) rfl ?_ | refine WO.callR (r := .bool true) rfl Try.call19 (fun L w hi => ints_t (l_ints w _ _ [3, -1, -1] [3, -1, -1] (RdF.of_ow (e := 3) encI_ok (by repeat (first | exact Pick.head | apply Pick.tail)) hi) (RdF.of_ow (e := 3) encI_ok (by repeat (first | exact Pick.head | apply Pick.tail)) hi)) rfl) rfl ?_
                                          refine WO.p rfl rfl (WO.p rfl rfl (WO.pg rfl rfl rfl (WO.go' rfl ?_)))
                                          refine' WO.buildSl (cs := _) rfl rfl rfl rfl ?hf rfl rfl ?hl rfl (fun v9 => ?_)
                                          case hf => (conv => lhs; simp [-List.getD_eq_getElem?_getD, fillL, vcl, wrl, TTab.pl?.lget']) <;> rfl
                                          case hl => rfl
                                          refine WO.go' rfl ?_
                                          first | refine WO.callR (r := .bool true) rfl Try.call19 (fun L w hi => ints_t (l_ints w _ _ [0, 1, 1, 0, 1, 1, 0, 1] [0, 1, 1, 0, 1, 1, 0, 1] (RdF.of_ow (e := 3) encI_ok (by repeat (first | exact Pick.head | apply Pick.tail)) hi) (RdF.of_ow (e := 3) encI_ok (by repeat (first | exact Pick.head | apply Pick.tail)) hi)) rfl) rfl ?_ | refine WO.callR (r := .bool true) rfl Try.call19 (fun L w hi => ints_t (l_ints w _ _ [1, 1, 0] [1, 1, 0] (RdF.of_ow (e := 3) encI_ok (by repeat (first | exact Pick.head | apply Pick.tail)) hi) (RdF.of_ow (e := 3) encI_ok (by repeat (first | exact Pick.head | apply Pick.tail)) hi)) rfl) rfl ?_ | refine WO.callR (r := .bool true) rfl Try.call19 (fun L w hi => ints_t (l_ints w _ _ [0, 0, 0, 3, 3, 3, 3, 3] [0, 0, 0, 3, 3, 3, 3, 3] (RdF.of_ow (e := 3) encI_ok (by repeat (first | exact Pick.head | apply Pick.tail)) hi) (RdF.of_ow (e := 3) encI_ok (by repeat (first | exact Pick.head | apply Pick.tail)) hi)) rfl) rfl ?_ | refine WO.callR (r := .bool true) rfl Try.call19 (fun L w hi => ints_t (l_ints w _ _ [3, -1, -1] [3, -1, -1] (RdF.of_ow (e := 3) encI_ok (by repeat (first | exact Pick.head | apply Pick.tail)) hi) (RdF.of_ow (e := 3) encI_ok (by repeat (first | exact Pick.head | apply Pick.tail)) hi)) rfl) rfl ?_
                                          refine WO.p rfl rfl (WO.p rfl rfl (WO.pg rfl rfl rfl (WO.pg rfl rfl rfl (WO.p rfl rfl (WO.p rfl rfl ?_)))))
                                          refine WO.guard_bl rfl rfl (fun c9 => ?_) (fun c9 => ?_)
                                          · first
                                            | (exfalso; omega)
                                            | (refine WO.pg rfl rfl rfl (WO.pg rfl rfl rfl (WO.p rfl rfl (WO.p rfl rfl ?_)))
                                               refine WO.guard_bl rfl rfl (fun c10 => ?_) (fun c10 => ?_)
                                               · first
                                                 | (exfalso; omega)
                                                 | (refine WO.pg rfl rfl rfl (WO.go' rfl ?_)
                                                    refine' WO.buildSl (cs := _) rfl rfl rfl rfl ?hf rfl rfl ?hl rfl (fun v10 => ?_)
                                                    case hf => (conv => lhs; simp [-List.getD_eq_getElem?_getD, fillL, vcl, wrl, TTab.pl?.lget']) <;> rfl
                                                    case hl => rfl
                                                    refine WO.go' rfl ?_
                                                    refine' WO.buildSl (cs := _) rfl rfl rfl rfl ?hf rfl rfl ?hl rfl (fun v11 => ?_)
                                                    case hf => (conv => lhs; simp [-List.getD_eq_getElem?_getD, fillL, vcl, wrl, TTab.pl?.lget']) <;> rfl
                                                    case hl => rfl
                                                    refine WO.go' rfl ?_
                                                    refine' WO.buildSl (cs := _) rfl rfl rfl rfl ?hf rfl rfl ?hl rfl (fun v12 => ?_)
                                                    case hf => (conv => lhs; simp [-List.getD_eq_getElem?_getD, fillL, vcl, wrl, TTab.pl?.lget']) <;> rfl
                                                    case hl => rfl
                                                    refine WO.go' rfl ?_
                                                    refine WO.callR (r := .bool true) rfl Try.call27 (fun L w hi => same_t (l_same w fv _ frv _ [[0, 1, 1], [1, 0, 1]] [[0, 1, 1], [1, 0, 1]] (RdR.of_ow encI_ok (e' := 22) (n := 2) (by repeat (first | exact Pick.head | apply Pick.tail)) (by repeat (first | exact Pick.head | apply Pick.tail)) hi) (RdR.of_two (e' := 22) (xs := [0, 1, 1]) (ys := [1, 0, 1]) (by repeat (first | exact Pick.head | apply Pick.tail)) hi (RdF.of_ow (e := 3) encI_ok (by repeat (first | exact Pick.head | apply Pick.tail)) hi) (RdF.of_ow (e := 3) encI_ok (by repeat (first | exact Pick.head | apply Pick.tail)) hi))) rfl) rfl ?_
                                                    refine WO.p rfl rfl (WO.p rfl rfl (WO.pg rfl rfl rfl (WO.go' rfl ?_)))
                                                    refine' WO.buildSl (cs := _) rfl rfl rfl rfl ?hf rfl rfl ?hl rfl (fun v13 => ?_)
                                                    case hf => (conv => lhs; simp [-List.getD_eq_getElem?_getD, fillL, vcl, wrl, TTab.pl?.lget']) <;> rfl
                                                    case hl => rfl
                                                    refine WO.go' rfl ?_
                                                    first | refine WO.callR (r := .bool true) rfl Try.call19 (fun L w hi => ints_t (l_ints w _ _ [0, 1, 1, 0, 1, 1, 0, 1] [0, 1, 1, 0, 1, 1, 0, 1] (RdF.of_ow (e := 3) encI_ok (by repeat (first | exact Pick.head | apply Pick.tail)) hi) (RdF.of_ow (e := 3) encI_ok (by repeat (first | exact Pick.head | apply Pick.tail)) hi)) rfl) rfl ?_ | refine WO.callR (r := .bool true) rfl Try.call19 (fun L w hi => ints_t (l_ints w _ _ [1, 1, 0] [1, 1, 0] (RdF.of_ow (e := 3) encI_ok (by repeat (first | exact Pick.head | apply Pick.tail)) hi) (RdF.of_ow (e := 3) encI_ok (by repeat (first | exact Pick.head | apply Pick.tail)) hi)) rfl) rfl ?_ | refine WO.callR (r := .bool true) rfl Try.call19 (fun L w hi => ints_t (l_ints w _ _ [0, 0, 0, 3, 3, 3, 3, 3] [0, 0, 0, 3, 3, 3, 3, 3] (RdF.of_ow (e := 3) encI_ok (by repeat (first | exact Pick.head | apply Pick.tail)) hi) (RdF.of_ow (e := 3) encI_ok (by repeat (first | exact Pick.head | apply Pick.tail)) hi)) rfl) rfl ?_ | refine WO.callR (r := .bool true) rfl Try.call19 (fun L w hi => ints_t (l_ints w _ _ [3, -1, -1] [3, -1, -1] (RdF.of_ow (e := 3) encI_ok (by repeat (first | exact Pick.head | apply Pick.tail)) hi) (RdF.of_ow (e := 3) encI_ok (by repeat (first | exact Pick.head | apply Pick.tail)) hi)) rfl) rfl ?_
                                                    refine WO.p rfl rfl (WO.p rfl rfl ?_)
                                                    refine WO.nil ?_
                                                    refine W.ret ?_
                                                    exact fin.ret (Res.one rfl (RV.tmp rfl)) rfl)
                                               · first
                                                 | (exfalso; omega)
                                                 | (refine WO.no rfl rfl (WO.no rfl rfl (WO.no rfl rfl (WO.no rfl rfl (WO.no rfl rfl (WO.p rfl rfl (WO.p rfl rfl (WO.no rfl rfl (WO.no rfl rfl (WO.no rfl rfl (WO.p rfl rfl (WO.p rfl rfl ?_)))))))))))
                                                    refine WO.nil ?_
                                                    refine W.ret ?_
                                                    exact fin.ret (Res.one rfl (RV.tmp rfl)) rfl))
                                          · first
                                            | (exfalso; omega)
                                            | (refine WO.no rfl rfl (WO.no rfl rfl (WO.p rfl rfl (WO.p rfl rfl (WO.no rfl rfl (WO.no rfl rfl (WO.no rfl rfl (WO.no rfl rfl (WO.no rfl rfl (WO.p rfl rfl (WO.p rfl rfl (WO.no rfl rfl ?_)))))))))))
                                               refine WO.no rfl rfl (WO.no rfl rfl (WO.p rfl rfl (WO.p rfl rfl ?_)))
                                               refine WO.nil ?_
                                               refine W.ret ?_
                                               exact fin.ret (Res.one rfl (RV.tmp rfl)) rfl))
                                     · first
                                       | (exfalso; omega)
                                       | (refine WO.no rfl rfl (WO.no rfl rfl (WO.no rfl rfl (WO.p rfl rfl (WO.p rfl rfl (WO.no rfl rfl (WO.no rfl rfl (WO.no rfl rfl (WO.p rfl rfl (WO.p rfl rfl (WO.no rfl rfl (WO.no rfl rfl ?_)))))))))))
                                          refine WO.no rfl rfl (WO.p rfl rfl (WO.p rfl rfl (WO.no rfl rfl (WO.no rfl rfl (WO.p rfl rfl (WO.p rfl rfl (WO.no rfl rfl (WO.no rfl rfl (WO.p rfl rfl (WO.p rfl rfl (WO.no rfl rfl ?_)))))))))))
                                          refine WO.no rfl rfl (WO.no rfl rfl (WO.no rfl rfl (WO.no rfl rfl (WO.p rfl rfl (WO.p rfl rfl (WO.no rfl rfl (WO.no rfl rfl (WO.no rfl rfl (WO.p rfl rfl (WO.p rfl rfl ?_))))))))))
                                          refine WO.nil ?_
                                          refine W.ret ?_
                                          exact fin.ret (Res.one rfl (RV.tmp rfl)) rfl))
                                · first
                                  | (exfalso; omega)
                                  | (refine WO.no rfl rfl (WO.no rfl rfl (WO.p rfl rfl (WO.p rfl rfl (WO.no rfl rfl (WO.no rfl rfl (WO.no rfl rfl (WO.p rfl rfl (WO.p rfl rfl (WO.no rfl rfl (WO.no rfl rfl (WO.no rfl rfl ?_)))))))))))
                                     refine WO.p rfl rfl (WO.p rfl rfl (WO.no rfl rfl (WO.no rfl rfl (WO.no rfl rfl (WO.p rfl rfl (WO.p rfl rfl (WO.no rfl rfl (WO.no rfl rfl (WO.p rfl rfl (WO.p rfl rfl (WO.no rfl rfl ?_)))))))))))
                                     refine WO.no rfl rfl (WO.p rfl rfl (WO.p rfl rfl (WO.no rfl rfl (WO.no rfl rfl (WO.no rfl rfl (WO.no rfl rfl (WO.no rfl rfl (WO.p rfl rfl (WO.p rfl rfl (WO.no rfl rfl (WO.no rfl rfl ?_)))))))))))
                                     refine WO.no rfl rfl (WO.p rfl rfl (WO.p rfl rfl ?_))
                                     refine WO.nil ?_
                                     refine W.ret ?_
                                     exact fin.ret (Res.one rfl (RV.tmp rfl)) rfl))
                           · first
                             | (exfalso; omega)
                             | (refine WO.no rfl rfl (WO.no rfl rfl (WO.p rfl rfl (WO.p rfl rfl (WO.no rfl rfl (WO.no rfl rfl (WO.p rfl rfl (WO.p rfl rfl (WO.no rfl rfl (WO.no rfl rfl (WO.no rfl rfl (WO.p rfl rfl ?_)))))))))))
                                refine WO.p rfl rfl (WO.no rfl rfl (WO.no rfl rfl (WO.no rfl rfl (WO.p rfl rfl (WO.p rfl rfl (WO.no rfl rfl (WO.no rfl rfl (WO.no rfl rfl (WO.p rfl rfl (WO.p rfl rfl (WO.no rfl rfl ?_)))))))))))
                                refine WO.no rfl rfl (WO.p rfl rfl (WO.p rfl rfl (WO.no rfl rfl (WO.no rfl rfl (WO.p rfl rfl (WO.p rfl rfl (WO.no rfl rfl (WO.no rfl rfl (WO.no rfl rfl (WO.no rfl rfl (WO.no rfl rfl ?_)))))))))))
                                refine WO.p rfl rfl (WO.p rfl rfl (WO.no rfl rfl (WO.no rfl rfl (WO.no rfl rfl (WO.p rfl rfl (WO.p rfl rfl ?_))))))
                                refine WO.nil ?_
                                refine W.ret ?_
                                exact fin.ret (Res.one rfl (RV.tmp rfl)) rfl))
                      · first
                        | (exfalso; omega)
                        | (refine WO.no rfl rfl (WO.no rfl rfl (WO.p rfl rfl (WO.p rfl rfl (WO.no rfl rfl (WO.no rfl rfl (WO.p rfl rfl (WO.p rfl rfl (WO.no rfl rfl (WO.no rfl rfl (WO.p rfl rfl (WO.p rfl rfl ?_)))))))))))
                           refine WO.no rfl rfl (WO.no rfl rfl (WO.no rfl rfl (WO.p rfl rfl (WO.p rfl rfl (WO.no rfl rfl (WO.no rfl rfl (WO.no rfl rfl (WO.p rfl rfl (WO.p rfl rfl (WO.no rfl rfl (WO.no rfl rfl ?_)))))))))))
                           refine WO.no rfl rfl (WO.p rfl rfl (WO.p rfl rfl (WO.no rfl rfl (WO.no rfl rfl (WO.p rfl rfl (WO.p rfl rfl (WO.no rfl rfl (WO.no rfl rfl (WO.p rfl rfl (WO.p rfl rfl (WO.no rfl rfl ?_)))))))))))
                           refine WO.no rfl rfl (WO.no rfl rfl (WO.no rfl rfl (WO.no rfl rfl (WO.p rfl rfl (WO.p rfl rfl (WO.no rfl rfl (WO.no rfl rfl (WO.no rfl rfl (WO.p rfl rfl (WO.p rfl rfl ?_))))))))))
                           refine WO.nil ?_
                           refine W.ret ?_
                           exact fin.ret (Res.one rfl (RV.tmp rfl)) rfl))
                 · first
                   | (exfalso; omega)
                   | (refine WO.no rfl rfl (WO.no rfl rfl (WO.p rfl rfl (WO.p rfl rfl (WO.no rfl rfl (WO.no rfl rfl (WO.p rfl rfl (WO.p rfl rfl (WO.no rfl rfl (WO.no rfl rfl (WO.p rfl rfl (WO.p rfl rfl ?_)))))))))))
                      refine WO.no rfl rfl (WO.no rfl rfl (WO.p rfl rfl (WO.p rfl rfl (WO.no rfl rfl (WO.no rfl rfl (WO.no rfl rfl (WO.p rfl rfl (WO.p rfl rfl (WO.no rfl rfl (WO.no rfl rfl (WO.no rfl rfl ?_)))))))))))
                      refine WO.p rfl rfl (WO.p rfl rfl (WO.no rfl rfl (WO.no rfl rfl (WO.no rfl rfl (WO.p rfl rfl (WO.p rfl rfl (WO.no rfl rfl (WO.no rfl rfl (WO.p rfl rfl (WO.p rfl rfl (WO.no rfl rfl ?_)))))))))))
                      refine WO.no rfl rfl (WO.p rfl rfl (WO.p rfl rfl (WO.no rfl rfl (WO.no rfl rfl (WO.no rfl rfl (WO.no rfl rfl (WO.no rfl rfl (WO.p rfl rfl (WO.p rfl rfl (WO.no rfl rfl (WO.no rfl rfl ?_)))))))))))
                      refine WO.no rfl rfl (WO.p rfl rfl (WO.p rfl rfl ?_))
                      refine WO.nil ?_
                      refine W.ret ?_
                      exact fin.ret (Res.one rfl (RV.tmp rfl)) rfl))
            · first
              | (exfalso; omega)
              | (refine WO.no rfl rfl (WO.no rfl rfl (WO.p rfl rfl (WO.p rfl rfl (WO.no rfl rfl (WO.no rfl rfl (WO.p rfl rfl (WO.p rfl rfl (WO.no rfl rfl (WO.no rfl rfl (WO.p rfl rfl (WO.p rfl rfl ?_)))))))))))
                 refine WO.no rfl rfl (WO.no rfl rfl (WO.p rfl rfl (WO.p rfl rfl (WO.no rfl rfl (WO.no rfl rfl (WO.p rfl rfl (WO.p rfl rfl (WO.no rfl rfl (WO.no rfl rfl (WO.no rfl rfl (WO.p rfl rfl ?_)))))))))))
                 refine WO.p rfl rfl (WO.no rfl rfl (WO.no rfl rfl (WO.no rfl rfl (WO.p rfl rfl (WO.p rfl rfl (WO.no rfl rfl (WO.no rfl rfl (WO.no rfl rfl (WO.p rfl rfl (WO.p rfl rfl (WO.no rfl rfl ?_)))))))))))
                 refine WO.no rfl rfl (WO.p rfl rfl (WO.p rfl rfl (WO.no rfl rfl (WO.no rfl rfl (WO.p rfl rfl (WO.p rfl rfl (WO.no rfl rfl (WO.no rfl rfl (WO.no rfl rfl (WO.no rfl rfl (WO.no rfl rfl ?_)))))))))))
                 refine WO.p rfl rfl (WO.p rfl rfl (WO.no rfl rfl (WO.no rfl rfl (WO.no rfl rfl (WO.p rfl rfl (WO.p rfl rfl ?_))))))
                 refine WO.nil ?_
                 refine W.ret ?_
                 exact fin.ret (Res.one rfl (RV.tmp rfl)) rfl))
       · first
         | (exfalso; omega)
         | (refine WO.no rfl rfl (WO.no rfl rfl (WO.p rfl rfl (WO.p rfl rfl (WO.no rfl rfl (WO.no rfl rfl (WO.p rfl rfl (WO.p rfl rfl (WO.no rfl rfl (WO.no rfl rfl (WO.p rfl rfl (WO.p rfl rfl ?_)))))))))))
            refine WO.no rfl rfl (WO.no rfl rfl (WO.p rfl rfl (WO.p rfl rfl (WO.no rfl rfl (WO.no rfl rfl (WO.p rfl rfl (WO.p rfl rfl (WO.no rfl rfl (WO.no rfl rfl (WO.p rfl rfl (WO.p rfl rfl ?_)))))))))))
            refine WO.no rfl rfl (WO.no rfl rfl (WO.no rfl rfl (WO.p rfl rfl (WO.p rfl rfl (WO.no rfl rfl (WO.no rfl rfl (WO.no rfl rfl (WO.p rfl rfl (WO.p rfl rfl (WO.no rfl rfl (WO.no rfl rfl ?_)))))))))))
            refine WO.no rfl rfl (WO.p rfl rfl (WO.p rfl rfl (WO.no rfl rfl (WO.no rfl rfl (WO.p rfl rfl (WO.p rfl rfl (WO.no rfl rfl (WO.no rfl rfl (WO.p rfl rfl (WO.p rfl rfl (WO.no rfl rfl ?_)))))))))))
            refine WO.no rfl rfl (WO.no rfl rfl (WO.no rfl rfl (WO.no rfl rfl (WO.p rfl rfl (WO.p rfl rfl (WO.no rfl rfl (WO.no rfl rfl (WO.no rfl rfl (WO.p rfl rfl (WO.p rfl rfl ?_))))))))))
            refine WO.nil ?_
            refine W.ret ?_
            exact fin.ret (Res.one rfl (RV.tmp rfl)) rfl))
  · first
    | (exfalso; omega)
    | (refine WO.no rfl rfl (WO.no rfl rfl (WO.p rfl rfl (WO.p rfl rfl (WO.no rfl rfl (WO.no rfl rfl (WO.p rfl rfl (WO.p rfl rfl (WO.no rfl rfl (WO.no rfl rfl (WO.p rfl rfl (WO.p rfl rfl ?_)))))))))))
       refine WO.no rfl rfl (WO.no rfl rfl (WO.p rfl rfl (WO.p rfl rfl (WO.no rfl rfl (WO.no rfl rfl (WO.p rfl rfl (WO.p rfl rfl (WO.no rfl rfl (WO.no rfl rfl (WO.p rfl rfl (WO.p rfl rfl ?_)))))))))))
       refine WO.no rfl rfl (WO.no rfl rfl (WO.p rfl rfl (WO.p rfl rfl (WO.no rfl rfl (WO.no rfl rfl (WO.no rfl rfl (WO.p rfl rfl (WO.p rfl rfl (WO.no rfl rfl (WO.no rfl rfl (WO.no rfl rfl ?_)))))))))))
       refine WO.p rfl rfl (WO.p rfl rfl (WO.no rfl rfl (WO.no rfl rfl (WO.no rfl rfl (WO.p rfl rfl (WO.p rfl rfl (WO.no rfl rfl (WO.no rfl rfl (WO.p rfl rfl (WO.p rfl rfl (WO.no rfl rfl ?_)))))))))))
       refine WO.no rfl rfl (WO.p rfl rfl (WO.p rfl rfl (WO.no rfl rfl (WO.no rfl rfl (WO.no rfl rfl (WO.no rfl rfl (WO.no rfl rfl (WO.p rfl rfl (WO.p rfl rfl (WO.no rfl rfl (WO.no rfl rfl ?_)))))))))))
       refine WO.no rfl rfl (WO.p rfl rfl (WO.p rfl rfl ?_))
       refine WO.nil ?_
       refine W.ret ?_
       exact fin.ret (Res.one rfl (RV.tmp rfl)) rfl)
end Go.Proofs.Ytingkbglkaojdaa
