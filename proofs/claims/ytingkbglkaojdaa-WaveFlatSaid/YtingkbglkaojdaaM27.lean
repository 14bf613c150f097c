/-
  What is proved here: how the arguments of the laws read. Conditions: none.
  What is proved here: how a register's bits come again (no program in sight), and the law WavePeriod as a contract. Conditions: none; each theorem states its own.
-/
import Derived.Test.YtingkbglkaojdaaM2
import Derived.Test.YtingkbglkaojdaaM3
import Derived.Deep.Strs
import Derived.OpenShut
import Derived.Test.YtingkbglkaojdaaM5
set_option linter.unusedVariables false
set_option linter.unusedSimpArgs false
namespace Go.Proofs.Ytingkbglkaojdaa
open Go Go.TH Go.ChangeShapes Go.WideShapes Go.ChangeAt Go.RowKit
set_option maxRecDepth 100000
section
variable {H : Type} {enc : TypeId × Value → H} {w : World}
theorem cells3i : Try.prog.cellsOf 3 = 1 := by kernel_rfl
theorem cells22 : Try.prog.cellsOf 22 = 1 := by kernel_rfl
theorem cells45 : Try.prog.cellsOf 45 = 2 := by kernel_rfl
theorem wf64 {z : Int} (h : (Lit.int .i64 z).wf = true) : in64 z := by
  simp [Lit.wf, IntKind.min, IntKind.max, IntKind.signed, IntKind.bits] at h
  unfold in64; omega
theorem rd_int3 {n : Nat} {c : List Value} {y : DataW H × List MemPlace} (h : DataW.trod enc Try.prog w 0 (fun _ => true) true n 3 c = some y) : ∃ z : Int, c = encI z ∧ in64 z := by
  obtain ⟨z, rfl, _, hw⟩ := DataW.trod_int Try.underlying3 h
  exact ⟨z, rfl, wf64 hw⟩
theorem open_bits {base : Nat} {v : Value} {d : DataW H} {ps : List MemPlace} (hv : Value.okWide Try.prog w .any base 22 v) (h : DataW.Trod enc Try.prog w 0 (fun _ => true) true 22 v d ps) :
    ∃ xs : List Int, RdF encI 1 w.heap.size w v xs ∧ HasCap v xs.length := by
  obtain ⟨a0, len, cap, rfl⟩ := okWide_slice Try.underlying22 hv
  obtain ⟨fuel, hf⟩ := h
  obtain ⟨o, xs, ho, hr, hq⟩ := open_rd (en := encI) (Q := in64) Try.underlying22 cells3i (by omega) (fun n c y hl hy => rd_int3 hy) hf
  simp [Value.cells] at ho
  subst ho
  have hlc : len ≤ cap := by
    rcases Deep.open_slice Try.underlying22 hf with ⟨e, _⟩ | ⟨a, l', c', m, n, D, Pl, e, _, hl, _⟩
    · simp [Value.cells] at e; omega
    · simp [Value.cells] at e; omega
  obtain ⟨_, a', c', e, _⟩ := hr.sl
  refine ⟨xs, hr, a0, cap, ?_, ?_⟩
  · injection e with e1 e2 e3; rw [e2]
  · injection e with e1 e2 e3; omega
theorem open_proof {base : Nat} {v : Value} {d : DataW H} {ps : List MemPlace} (hv : Value.okWide Try.prog w .any base 45 v) (h : DataW.Trod enc Try.prog w 0 (fun _ => true) true 45 v d ps) :
    ∃ (u : Value) (taps : List Int) (n : Int), v = proofV u n ∧ RdF encI 1 w.heap.size w u taps := by
  unfold Value.okWide at hv
  rw [Try.underlying45] at hv
  obtain ⟨cs, rfl, hs, _⟩ := hv
  obtain ⟨fuel, hf⟩ := h
  obtain ⟨y0, y1, n, _, hl, h0, h1⟩ := trod_struct2 Try.underlying45 hf
  rw [cells45] at hl
  rw [cells22] at h0
  rw [cells3i] at h1
  obtain ⟨l, hcs⟩ : ∃ l, cs = List.toArray l := ⟨cs.toList, by simp⟩
  subst hcs
  simp only [Value.cells] at hl h0 h1
  match l, hl with
  | [a, b], _ =>
    simp at h0 h1
    obtain ⟨o, xs, ho, hr, hq⟩ := open_rd (en := encI) (Q := in64) Try.underlying22 cells3i (by omega) (fun n c y hl hy => rd_int3 hy) h0
    simp at ho
    subst ho
    obtain ⟨z, hz, _⟩ := rd_int3 h1
    simp [encI] at hz
    subst hz
    exact ⟨a, xs, z, rfl, hr⟩
theorem open_kind {k : IntKind} {T base : Nat} (hT : Try.prog.underlying T = some (.int k)) {v : Value} {d : DataW H} {ps : List MemPlace} (hv : Value.okWide Try.prog w .any base T v) (h : DataW.Trod enc Try.prog w 0 (fun _ => true) true T v d ps) : ∃ z : Int, v = .int k z ∧ k.min ≤ z ∧ z ≤ k.max := by
  obtain ⟨z, rfl, _, _, hw⟩ := open_int hT hv h
  simp [Lit.wf] at hw
  exact ⟨z, rfl, by omega, by omega⟩
theorem open_u8 {base : Nat} {v : Value} {d : DataW H} {ps : List MemPlace} (hv : Value.okWide Try.prog w .any base 5 v) (h : DataW.Trod enc Try.prog w 0 (fun _ => true) true 5 v d ps) : ∃ z : Int, v = .int .u8 z ∧ 0 ≤ z ∧ z ≤ 255 := by
  obtain ⟨z, rfl, h1, h2⟩ := open_kind Try.underlying5 hv h
  simp [IntKind.min, IntKind.max, IntKind.signed, IntKind.bits] at h1 h2
  exact ⟨z, rfl, by omega, by omega⟩
theorem open_i64' {base : Nat} {v : Value} {d : DataW H} {ps : List MemPlace} (hv : Value.okWide Try.prog w .any base 3 v) (h : DataW.Trod enc Try.prog w 0 (fun _ => true) true 3 v d ps) : ∃ z : Int, v = .int .i64 z ∧ in64 z := by
  obtain ⟨z, rfl, h1, h2⟩ := open_kind Try.underlying3 hv h
  simp [IntKind.min, IntKind.max, IntKind.signed, IntKind.bits] at h1 h2
  exact ⟨z, rfl, by unfold in64; omega⟩
end
end Go.Proofs.Ytingkbglkaojdaa
namespace Go.Proofs.Ytingkbglkaojdaa
open Go Go.TH Go.TH.Wv
attribute [local irreducible] W WO pt
set_option maxRecDepth 10000
set_option maxHeartbeats 2000000
theorem win_nil {taps start : List Int} (h : start.length = 0) (k : Nat) : winL taps start k = [] := List.eq_nil_of_length_eq_zero (by rw [win_len]; exact h)
theorem win_win {taps start : List Int} (hl : start.length = taps.length) (k : Nat) : ∀ m, winL taps (winL taps start k) m = winL taps start (k + m)
  | 0 => rfl
  | m + 1 => by
    rcases Nat.eq_zero_or_pos start.length with g | g
    · rw [win_nil (by rw [win_len]; exact g), win_nil g]
    · rw [win_step (by rw [win_len]; exact g) (by rw [win_len]; exact hl), win_win hl k m, show k + (m + 1) = k + m + 1 by omega, win_step g hl]
theorem per_win {taps start : List Int} (hs : OkBs start) (hl : start.length = taps.length) (hlast : LastOk taps) {q : Nat} (hq : IsPer taps start q) (k : Nat) : IsPer taps (winL taps start k) q := by
  rcases Nat.eq_zero_or_pos taps.length with g | g
  · rw [win_nil (by omega), ← win_nil (taps := taps) (start := start) (k := 0) (by omega)]
    exact hq
  · have h1 := hlast.resolve_left (by omega)
    refine ⟨hq.1, by rw [win_win hl]; exact win_add hl g hq.2.1 k, fun m h2 h3 e => ?_⟩
    rw [win_win hl] at e
    exact hq.2.2 m h2 h3 (win_back hs hl g h1 k m e)
theorem bt_zero {l : List Int} (h : OkBs l) (hn : ¬ HasOne l) (i : Nat) : bt l i = 0 := by
  rcases bt_ok h i with g | g
  · exact g
  · exact absurd ⟨i, g⟩ hn
theorem per_one {taps start : List Int} (hs : OkBs start) (hl : start.length = taps.length) (h0 : 0 < taps.length) (hn : ¬ HasOne start) : IsPer taps start 1 := by
  refine ⟨by omega, ?_, fun m h1 h2 => by omega⟩
  rw [show (1 : Nat) = 0 + 1 from rfl, win_step (by omega) hl]
  refine ext_getD 0 (by rw [stepW_len (by rw [win_len]; omega), win_len]) fun i _ => ?_
  show bt (stepW taps start) i = bt start i
  rw [stepW_bt (by omega), nx_zero (bt_zero hs hn), bt_zero hs hn, bt_zero hs hn]
  split
  · rfl
  · split <;> rfl
theorem per_max {taps start : List Int} (hs : OkBs start) (hl : start.length = taps.length) (hlast : LastOk taps) {q : Nat} (hq : IsPer taps start q) : (q : Int) ≤ max (1 : Int) (((1 <<< taps.length : Nat) : Int) - 1) := by
  have hp : 1 ≤ 2 ^ taps.length := Nat.one_le_two_pow
  rw [shl_one]
  rcases Nat.eq_zero_or_pos taps.length with g | g
  · have := per_uniq hq (per_nil g (by omega)); omega
  · have h1 := hlast.resolve_left (by omega)
    by_cases ho : HasOne start
    · have := per_le hs hl g h1 ho hq; omega
    · have := per_uniq hq (per_one hs hl g ho); omega
theorem rb_bt {taps start : List Int} {k i : Nat} (hi : i < start.length) : rb taps start (k + i) = bt (winL taps start k) i := by
  rw [win_get]
  unfold rb
  rcases Nat.le_total k (k + i + 1) with g | g
  · exact ext_get (by omega) _ g
  · omega
theorem rb_per {taps start : List Int} (hl : start.length = taps.length) {q : Nat} (hq : IsPer taps start q) (k : Nat) : rb taps start (k + q) = rb taps start k := by
  rcases Nat.eq_zero_or_pos start.length with g | g
  · have hz : ∀ k, rb taps start k = 0 := fun k => by
      rw [← rb_nil g]
      unfold nx pre
      rw [show taps.length = 0 by omega]
      rfl
    rw [hz, hz]
  · rw [← rb_win g, ← rb_win g, win_add hl (by omega) hq.2.1 k]
theorem runL_get {taps start : List Int} {n i : Nat} (h : i < n) : (runL taps start n).getD i 0 = rb taps start i := by
  rw [runL_map]; exact mapR_get 0 h
theorem runL_len (taps start : List Int) (n : Nat) : (runL taps start n).length = n := by rw [runL_map]; simp
theorem run_part {taps start : List Int} {n k : Nat} (h : k + start.length ≤ n) : ((runL taps start n).drop k).take start.length = winL taps start k := by
  refine ext_getD 0 (by rw [List.length_take, List.length_drop, runL_len, win_len]; omega) fun i hi => ?_
  rw [List.length_take, List.length_drop, runL_len] at hi
  have e : (((runL taps start n).drop k).take start.length).getD i 0 = (runL taps start n).getD (k + i) 0 := by
    simp only [List.getD_eq_getElem?_getD, List.getElem?_take, List.getElem?_drop]
    rw [if_pos (by omega)]
  rw [e, runL_get (by omega), rb_bt (by omega)]
  rfl
theorem win_eq {taps start : List Int} {d : Nat} (h : ∀ j, j < start.length → rb taps start (d + j) = start.getD j 0) : winL taps start d = start := by
  refine ext_getD 0 (win_len _ _ _) fun i hi => ?_
  rw [win_len] at hi
  rw [← h i hi, rb_bt hi]
  rfl
theorem per_le1023 {taps start : List Int} (hs : OkBs start) (hl : start.length = taps.length) (hlast : LastOk taps) (h10 : taps.length ≤ 10) {q : Nat} (hq : IsPer taps start q) : q ≤ 1024 := by
  obtain ⟨n, h1, h2⟩ := per_ex hs hl hlast
  rw [per_uniq hq h2]
  exact Nat.le_trans h1 (Nat.le_trans (Nat.pow_le_pow_right (by decide) h10) (by decide))
theorem bl_self (b : Bool) : bl (b = true) = b := by rw [bl_eq]; cases b <;> rfl
theorem perE_last {taps start : List Int} (h : chkS taps start = 0) (h12 : taps.length ≤ 12) (hlast : LastOk taps) : perE taps start = 0 := perE_d h (by omega) (by
  rintro ⟨g1, g2⟩
  rcases hlast with g | g <;> omega)
theorem chkS_win {taps start : List Int} (h : chkS taps start = 0) (k : Nat) : chkS taps (winL taps start k) = 0 := by
  have h1 := chkS0.1 h
  have h2 := chkB0.1 h1.1.2
  exact chkS0.2 ⟨⟨h1.1.1, chkB0.2 ⟨by rw [win_len]; exact h2.1, win_ok h2.2 k⟩⟩, by rw [win_len]; exact h1.2⟩
theorem again_t {d j : Nat} {f g : Nat → Int} {b : Bool} (h : b = true ↔ ∀ i, i < j → f (d + i) = g i) (hb : b = true) : bl (f (d + j) = g j) = true ↔ ∀ i, i < j + 1 → f (d + i) = g i := by
  rw [bl_t]
  constructor
  · intro e i hi
    rcases Nat.lt_or_ge i j with q | q
    · exact h.1 hb i q
    · obtain rfl : i = j := by omega
      exact e
  · intro e; exact e j (by omega)
theorem again_f {d j : Nat} {f g : Nat → Int} {b : Bool} (h : b = true ↔ ∀ i, i < j → f (d + i) = g i) (hb : ¬ b = true) : false = true ↔ ∀ i, i < j + 1 → f (d + i) = g i := by
  constructor
  · intro e; cases e
  · intro e; exact absurd (h.2 fun i hi => e i (by omega)) hb
theorem sub_per (w : World) (v : Value) (ya : Option Addr) (yc : Nat) (taps start : List Int) (p far : Nat) (hR : RdF encI 1 w.heap.size w v taps) (hY : RdF encI 1 w.heap.size w (.slice ya (p + 300) yc) (runL taps start (p + 300))) (hok : chkS taps start = 0) (h10 : taps.length ≤ 10) (hlast : LastOk taps) (hp : IsPer taps start p) (hyc : p + 300 ≤ yc) (hf : far ≤ 255) :
    Ret Try.prog 21 #[v, .slice (if yc = far then ya else ofs ya (far * 1)) (far + taps.length - far) (yc - far)] w (.tuple #[.int .i64 (p : Int), .int .i64 0]) := by
  have h1 := chkS0.1 hok
  have h2 := chkB0.1 h1.1.2
  have hsub := hY.sub (lo := far) (hi := far + taps.length) (mx := yc) (by omega) (by omega) (by omega)
  have e : ((runL taps start (p + 300)).drop far).take (far + taps.length - far) = winL taps start far := by
    rw [show far + taps.length - far = start.length by omega]
    exact run_part (by omega)
  rw [e] at hsub
  rw [perV_ok (perE_last (chkS_win hok far) (by omega) hlast) (per_win h2.2 h1.2 hlast hp far)]
  exact c_Period w v _ taps (winL taps start far) hR hsub
theorem law_WavePeriod (w : World) (v u : Value) (taps start : List Int) (far : Nat) (hR : RdF encI 1 w.heap.size w v taps) (hU : RdF encI 1 w.heap.size w u start) (hf : far ≤ 255) : Ret Try.prog 9 [v, u, .int .u8 (far : Int)].toArray w (.bool true) := by
  refine Ret.of mixed tyTab Try.func9 rfl rfl ?_
  replace hR : RdF encI 1 (fnCx mixed tyTab Try.f9.ntmps w).B (fnCx mixed tyTab Try.f9.ntmps w).w0 v taps := hR
  replace hU : RdF encI 1 (fnCx mixed tyTab Try.f9.ntmps w).B (fnCx mixed tyTab Try.f9.ntmps w).w0 u start := hU
  refine W.sreg ?_
  refine WO.p rfl rfl ?_
  refine WO.nil ?_
  refine W.seq ?_
  refine W.sreg ?_
  refine WO.p rfl rfl ?_
  refine WO.callR (r := .bool (bl (chkB taps = 0))) rfl Try.call28 (fun L w hi => l_fine w v taps (hR.later hi)) rfl ?_
  refine WO.p rfl rfl (WO.p rfl rfl ?_)
  refine WO.guard_nbl rfl rfl (fun c1 => ?_) (fun c1 => ?_)
  · first
    | (exfalso; omega)
    | (refine WO.no rfl rfl (WO.no rfl rfl (WO.no rfl rfl (WO.p rfl rfl (WO.p rfl rfl (WO.no rfl rfl (WO.no rfl rfl (WO.no rfl rfl (WO.no rfl rfl (WO.no rfl rfl (WO.p rfl rfl (WO.p rfl rfl ?_)))))))))))
       refine WO.no rfl rfl (WO.no rfl rfl (WO.no rfl rfl (WO.p rfl rfl ?_)))
       refine WO.nil ?_
       refine W.cond_t rfl ?_
       refine W.sreg ?_
       refine WO.callR rfl Try.call15 (fun L w hi => l_Works w) rfl ?_
       refine WO.p rfl rfl ?_
       refine WO.nil ?_
       refine W.ret ?_
       first | exact fin.ret (Res.one rfl (RV.tmp rfl)) rfl | (exfalso; omega))
  · first
    | (exfalso; omega)
    | (refine WO.pg rfl rfl rfl (WO.go' rfl ?_)
       refine WO.callR (r := .bool (bl (chkB start = 0))) rfl Try.call28 (fun L w hi => l_fine w u start (hU.later hi)) rfl ?_
       refine WO.pg rfl rfl rfl (WO.p rfl rfl (WO.p rfl rfl ?_))
       refine WO.guard_nbl rfl rfl (fun c2 => ?_) (fun c2 => ?_)
       · first
         | (exfalso; omega)
         | (refine WO.no rfl rfl (WO.no rfl rfl (WO.no rfl rfl (WO.no rfl rfl (WO.no rfl rfl (WO.p rfl rfl (WO.p rfl rfl (WO.no rfl rfl (WO.no rfl rfl (WO.no rfl rfl (WO.p rfl rfl ?_))))))))))
            refine WO.nil ?_
            refine W.cond_t rfl ?_
            refine W.sreg ?_
            refine WO.callR rfl Try.call15 (fun L w hi => l_Works w) rfl ?_
            refine WO.p rfl rfl ?_
            refine WO.nil ?_
            refine W.ret ?_
            first | exact fin.ret (Res.one rfl (RV.tmp rfl)) rfl | (exfalso; omega))
       · first
         | (exfalso; omega)
         | (refine WO.pg rfl rfl rfl (WO.go' rfl ?_)
            refine' WO.len (n := _) rfl rfl ?hs rfl ?_
            case hs => (first | exact hR.sl)
            refine WO.pg rfl rfl rfl (WO.go' rfl ?_)
            refine' WO.len (n := _) rfl rfl ?hs rfl ?_
            case hs => (first | exact hU.sl)
            refine WO.pg rfl rfl rfl (WO.p rfl rfl (WO.p rfl rfl ?_))
            refine WO.guard_bl rfl rfl (fun c3 => ?_) (fun c3 => ?_)
            · first
              | (exfalso; omega)
              | (refine WO.no rfl rfl (WO.no rfl rfl (WO.no rfl rfl (WO.p rfl rfl ?_)))
                 refine WO.nil ?_
                 refine W.cond_t rfl ?_
                 refine W.sreg ?_
                 refine WO.callR rfl Try.call15 (fun L w hi => l_Works w) rfl ?_
                 refine WO.p rfl rfl ?_
                 refine WO.nil ?_
                 refine W.ret ?_
                 first | exact fin.ret (Res.one rfl (RV.tmp rfl)) rfl | (exfalso; omega))
            · first
              | (exfalso; omega)
              | (refine WO.pg rfl rfl rfl (WO.go' rfl ?_)
                 refine' WO.len (n := _) rfl rfl ?hs rfl ?_
                 case hs => (first | exact hR.sl)
                 refine WO.pg rfl rfl rfl (WO.p rfl rfl ?_)
                 refine WO.nil ?_
                 refine W.cond_bl rfl (fun c4 => ?_) (fun c4 => ?_)
                 · first
                   | (exfalso; omega)
                   | (refine W.sreg ?_
                      refine WO.callR rfl Try.call15 (fun L w hi => l_Works w) rfl ?_
                      refine WO.p rfl rfl ?_
                      refine WO.nil ?_
                      refine W.ret ?_
                      first | exact fin.ret (Res.one rfl (RV.tmp rfl)) rfl | (exfalso; omega))
                 · first
                   | (exfalso; omega)
                   | (refine W.skip ?_
                      have h1 := chkB0.1 (show chkB taps = 0 by omega)
                      have h2 := chkB0.1 (show chkB start = 0 by omega)
                      have hln : start.length = taps.length := by omega
                      have hok : chkS taps start = 0 := chkS0.2 ⟨⟨by omega, by omega⟩, hln⟩
                      refine W.sreg ?_
                      refine WO.p rfl rfl (WO.p rfl rfl ?_)
                      refine WO.callR (r := .tuple #[.int .i64 (perN taps start : Int), .int .i64 (perE taps start)]) rfl Try.call21 (fun L w hi => c_Period w v u taps start (hR.later hi) (hU.later hi)) rfl ?_
                      refine WO.p rfl rfl (WO.p rfl rfl (WO.p rfl rfl (WO.p rfl rfl (WO.p rfl rfl ?_))))
                      refine WO.nil ?_
                      refine W.seq ?_
                      refine W.sreg ?_
                      refine WO.p rfl rfl ?_
                      refine' WO.len (n := _) rfl rfl ?hs rfl ?_
                      case hs => (first | exact hR.sl)
                      refine WO.p rfl rfl (WO.p rfl rfl ?_)
                      refine WO.guard_bl rfl rfl (fun c5 => ?_) (fun c5 => ?_)
                      · first
                        | (exfalso; omega)
                        | (refine WO.pg rfl rfl rfl (WO.pg rfl rfl rfl (WO.go' rfl ?_))
                           refine' WO.len (n := _) rfl rfl ?hs rfl ?_
                           case hs => (first | exact hR.sl)
                           refine WO.go' rfl (WO.ar rfl rfl rfl (by (first | (unfold in64; omega) | (unfold in64; omega))) rfl (WO.go' rfl ?_))
                           refine' WO.indexAddrZ (n := _) rfl rfl rfl ?hs ?h00 ?h1 rfl ?_
                           case hs => (first | exact hR.sl)
                           case h00 => omega
                           case h1 => (first | omega | (simp; omega))
                           refine WO.go' rfl ?_
                           refine' WO.load (v := _) rfl rfl ?hc rfl ?_
                           case hc => (first | (refine hR.cell0 (i := ((taps.length : Int) - 1).toNat) ?_ 0 ?_ <;> first | rfl | omega))
                           refine WO.pg rfl rfl rfl (WO.p rfl rfl ?_)
                           refine WO.nil ?_
                           refine W.cond_bl rfl (fun c6 => ?_) (fun c6 => ?_)
                           · first
                             | (exfalso; omega)
                             | (have hpe := perE_c hok (by omega) (per_last' (by omega) (by assumption))
                                refine W.sreg ?_
                                refine WO.p rfl rfl (WO.p rfl rfl (WO.p rfl rfl ?_))
                                refine WO.guard_bl rfl rfl (fun c7 => ?_) (fun c7 => ?_)
                                · first
                                  | (exfalso; omega)
                                  | (refine WO.go' rfl ?_
                                     refine WO.callR rfl Try.call15 (fun L w hi => l_Works w) rfl ?_
                                     refine WO.p rfl rfl (WO.p rfl rfl ?_)
                                     refine WO.nil ?_
                                     refine W.ret ?_
                                     first | exact fin.ret (Res.one rfl (RV.tmp rfl)) rfl | (exfalso; omega))
                                · first
                                  | (exfalso; omega)
                                  | (refine WO.no rfl rfl (WO.p rfl rfl (WO.p rfl rfl ?_))
                                     refine WO.nil ?_
                                     refine W.ret ?_
                                     first | exact fin.ret (Res.one rfl (RV.tmp rfl)) rfl | (exfalso; omega)))
                           · first
                             | (exfalso; omega)
                             | (refine W.skip ?_
                                refine W.seq ?_
                                have hpe : perE taps start = 0 := perE_d hok (by omega) (per_last (by first | (right; assumption) | (left; omega)))
                                obtain ⟨_, _, hlast⟩ := perE_0 hpe
                                obtain ⟨p, _, hp⟩ := per_ex h2.2 hln hlast
                                have hpn : perN taps start = p := by unfold perN; rw [if_pos hpe, per_eq hp]
                                have hmx := per_max h2.2 hln hlast hp
                                have h23 := per_le1023 h2.2 hln hlast (by omega) hp
                                have hp0 := hp.1
                                have hsh : Fits .i64 (1 <<< taps.length) := Nat.lt_of_le_of_lt (by rw [shl_one]; exact Nat.pow_le_pow_right (by decide) (show taps.length ≤ 10 by omega)) (by decide)
                                have hsh2 : 1 <<< taps.length ≤ 1024 := by rw [shl_one]; exact Nat.pow_le_pow_right (by decide) (show taps.length ≤ 10 by omega)
                                rw [hpn, hpe]
                                refine W.sreg ?_
                                refine WO.p rfl rfl (WO.p rfl rfl (WO.p rfl rfl ?_))
                                refine WO.guard_bl rfl rfl (fun c8 => ?_) (fun c8 => ?_)
                                · first
                                  | (exfalso; omega)
                                  | (refine WO.no rfl rfl (WO.no rfl rfl (WO.p rfl rfl (WO.p rfl rfl (WO.no rfl rfl (WO.no rfl rfl (WO.no rfl rfl (WO.no rfl rfl (WO.no rfl rfl (WO.no rfl rfl (WO.no rfl rfl (WO.p rfl rfl ?_)))))))))))
                                     refine WO.nil ?_
                                     refine W.cond_t rfl ?_
                                     refine W.sreg ?_
                                     refine WO.p rfl rfl ?_
                                     refine WO.nil ?_
                                     refine W.ret ?_
                                     first | exact fin.ret (Res.one rfl (RV.tmp rfl)) rfl | (exfalso; omega))
                                · first
                                  | (exfalso; omega)
                                  | (refine WO.pg rfl rfl rfl (WO.pg rfl rfl rfl (WO.p rfl rfl (WO.p rfl rfl ?_)))
                                     refine WO.guard_bl rfl rfl (fun c9 => ?_) (fun c9 => ?_)
                                     · first
                                       | (exfalso; omega)
                                       | (refine WO.no rfl rfl (WO.no rfl rfl (WO.no rfl rfl (WO.no rfl rfl (WO.no rfl rfl (WO.no rfl rfl (WO.no rfl rfl (WO.p rfl rfl ?_)))))))
                                          refine WO.nil ?_
                                          refine W.cond_t rfl ?_
                                          refine W.sreg ?_
                                          refine WO.p rfl rfl ?_
                                          refine WO.nil ?_
                                          refine W.ret ?_
                                          first | exact fin.ret (Res.one rfl (RV.tmp rfl)) rfl | (exfalso; omega))
                                     · first
                                       | (exfalso; omega)
                                       | (refine WO.pg rfl rfl rfl (WO.pg rfl rfl rfl (WO.go' rfl ?_))
                                          refine' WO.len (n := _) rfl rfl ?hs rfl ?_
                                          case hs => (first | exact hR.sl)
                                          refine WO.go' rfl ?_
                                          refine WO.shlN (a := 1) (s := taps.length) rfl rfl (show taps.length ≤ 64 by omega) hsh rfl ?_
                                          refine WO.go' rfl (WO.ar rfl rfl rfl (by (first | (unfold in64; omega) | (unfold in64; omega))) rfl (WO.go' rfl ?_))
                                          refine WO.max2 rfl rfl rfl ?_
                                          refine WO.pg rfl rfl rfl (WO.p rfl rfl ?_)
                                          refine WO.nil ?_
                                          refine W.cond_bl rfl (fun c10 => ?_) (fun c10 => ?_)
                                          · first
                                            | (exfalso; omega)
                                            | (refine W.sreg ?_
                                               refine WO.p rfl rfl ?_
                                               refine WO.nil ?_
                                               refine W.ret ?_
                                               first | exact fin.ret (Res.one rfl (RV.tmp rfl)) rfl | (exfalso; omega))
                                          · first
                                            | (exfalso; omega)
                                            | (refine W.skip ?_
                                               refine W.sreg ?_
                                               refine WO.p rfl rfl (WO.p rfl rfl (WO.p rfl rfl (WO.ar rfl rfl rfl (by (first | (unfold in64; omega) | (unfold in64; omega))) rfl ?_)))
                                               refine WO.call (Post := fun r Hq => ∃ y : Value, r = .tuple #[y, .int .i64 0] ∧ Hq = [OwE encI 3 1 y (runL taps start (p + 300))]) rfl Try.call31 (fun L w hi => by have h := c_Run w v u taps start ((p : Int) + 300) (hR.later hi) (hU.later hi); rw [runE_0.2 ⟨hok, by omega, by omega⟩, if_pos rfl, show ((p : Int) + 300).toNat = p + 300 by omega] at h; exact h) rfl ?_
                                               rintro _ _ ⟨y1, rfl, rfl⟩
                                               refine WO.p rfl rfl (WO.p rfl rfl (WO.p rfl rfl (WO.p rfl rfl (WO.p rfl rfl ?_))))
                                               refine WO.nil ?_
                                               refine W.seq ?_
                                               refine W.fact (p := HasCap y1 (runL taps start (p + 300)).length ∧ IsSl y1 (runL taps start (p + 300)).length) (fun L w hi => ⟨HasCap.of_ow (enc := encI) (e := 3) (sz := 1) (by repeat (first | exact Pick.head | apply Pick.tail)) hi, OwE.sl (enc := encI) (e := 3) (sz := 1) (by repeat (first | exact Pick.head | apply Pick.tail)) L w hi⟩) ?_
                                               rintro ⟨⟨ya, yc, rfl, hyc⟩, hs1⟩
                                               rw [runL_len] at hyc hs1 ⊢
                                               refine W.sreg ?_
                                               refine WO.p rfl rfl (WO.p rfl rfl (WO.p rfl rfl ?_))
                                               refine WO.guard_bl rfl rfl (fun c11 => ?_) (fun c11 => ?_)
                                               · first
                                                 | (exfalso; omega)
                                                 | (refine WO.no rfl rfl (WO.no rfl rfl (WO.no rfl rfl (WO.no rfl rfl (WO.no rfl rfl (WO.p rfl rfl ?_)))))
                                                    refine WO.nil ?_
                                                    refine W.cond_t rfl ?_
                                                    refine W.sreg ?_
                                                    refine WO.p rfl rfl ?_
                                                    refine WO.nil ?_
                                                    refine W.ret ?_
                                                    first | exact fin.ret (Res.one rfl (RV.tmp rfl)) rfl | (exfalso; omega))
                                               · first
                                                 | (exfalso; omega)
                                                 | (refine WO.pg rfl rfl rfl (WO.go' rfl ?_)
                                                    refine' WO.len (n := _) rfl rfl ?hs rfl ?_
                                                    case hs => (first | exact hs1)
                                                    refine WO.pg rfl rfl rfl (WO.go' rfl (WO.ar rfl rfl rfl (by (first | (unfold in64; omega) | (unfold in64; omega))) rfl (WO.pg rfl rfl rfl (WO.p rfl rfl ?_))))
                                                    refine WO.nil ?_
                                                    refine W.cond_bl rfl (fun c12 => ?_) (fun c12 => ?_)
                                                    · first
                                                      | (exfalso; omega)
                                                      | (refine W.sreg ?_
                                                         refine WO.p rfl rfl ?_
                                                         refine WO.nil ?_
                                                         refine W.ret ?_
                                                         first | exact fin.ret (Res.one rfl (RV.tmp rfl)) rfl | (exfalso; omega))
                                                    · first
                                                      | (exfalso; omega)
                                                      | (refine W.skip ?_
                                                         refine W.sreg ?_
                                                         refine WO.p rfl rfl (WO.conv64 rfl rfl rfl (by (first | (unfold in64; omega) | (unfold in64; omega))) rfl (WO.p rfl rfl ?_))
                                                         refine WO.nil ?_
                                                         refine W.seq ?_
                                                         refine W.sreg ?_
                                                         refine WO.p rfl rfl ?_
                                                         refine WO.nil ?_
                                                         refine W.block ?_
                                                         refine W.loop (fun (i : Nat) => i ≤ 300)
                                                           (fun (i : Nat) => [(11, .int .i64 (i : Int)), (10, .int .i64 (far : Int)), (9, .slice ya (p + 300) yc), (7, .int .i64 (p : Int)), (0, v), (1, u)])
                                                           (fun (i : Nat) => [OwE encI 3 1 (.slice ya (p + 300) yc) (runL taps start (p + 300))])
                                                           (fun (i : Nat) => 300 - i) 0
                                                           (by omega) ⟨rfl, rfl, rfl, rfl, rfl, rfl, trivial⟩ (by repeat (first | exact Sub.nil | refine Sub.cons (by repeat (first | exact Pick.head | apply Pick.tail)) ?_)) ?_
                                                         rintro i hi0
                                                         refine W.seq ?_
                                                         refine W.sreg ?_
                                                         refine WO.p rfl rfl (WO.p rfl rfl ?_)
                                                         refine WO.nil ?_
                                                         refine W.cond_bl rfl (fun c13 => ?_) (fun c13 => ?_)
                                                         · first
                                                           | (exfalso; omega)
                                                           | (refine W.skip ?_
                                                              refine W.seq ?_
                                                              refine W.block ?_
                                                              refine W.seq ?_
                                                              refine W.drawD 10 [.r 0 [], .r 1 [], .r 2 [], .b 3 [], .r 4 [], .r 5 [], .r 6 [], .r 7 [], .r 8 [], .b 9 []] [] (A0 := []) (Sub.refl _) (by kernel_rfl) ?_ ?_
                                                              · exact (ALok.r (ALok.r (ALok.r (ALok.b (ALok.r (ALok.r (ALok.r (ALok.r (ALok.r (ALok.b ALok.nil))))))))))
                                                              refine' DT.r rfl rfl rfl ?hq ?_
                                                              case hq =>
                                                                refine WO.p rfl rfl ?_
                                                                exact WO.nil ⟨rfl, rfl⟩
                                                              refine' DT.r rfl rfl rfl ?hq ?_
                                                              case hq =>
                                                                refine WO.p rfl rfl ?_
                                                                exact WO.nil ⟨rfl, rfl⟩
                                                              refine' DT.r rfl rfl rfl ?hq ?_
                                                              case hq =>
                                                                refine' WO.indexAddr (n := _) (i := _) rfl rfl rfl ?hs ?h1 rfl ?_
                                                                case hs => (first | exact hs1)
                                                                case h1 => (first | omega | (simp; omega))
                                                                exact WO.nil ⟨rfl, rfl⟩
                                                              refine' DT.b rfl rfl rfl ?hq ?_
                                                              case hq =>
                                                                refine' WO.load (v := _) rfl rfl ?hc rfl ?_
                                                                case hc => (first | (refine cellI2 (e := 3) (xs := runL taps start (p + 300)) (i := i) (j := i) (z := rb taps start i) ?_ (by rw [runL_len]; omega) (runL_get (by omega)).symm rfl; exact (by repeat (first | exact Sub.nil | refine Sub.cons (by repeat (first | exact Pick.head | apply Pick.tail)) ?_))))
                                                                exact WO.nil ⟨rfl, rfl⟩
                                                              refine' DT.r rfl rfl rfl ?hq ?_
                                                              case hq =>
                                                                refine WO.p rfl rfl ?_
                                                                exact WO.nil ⟨rfl, rfl⟩
                                                              refine' DT.r rfl rfl rfl ?hq ?_
                                                              case hq =>
                                                                refine WO.p rfl rfl ?_
                                                                exact WO.nil ⟨rfl, rfl⟩
                                                              refine' DT.r rfl rfl rfl ?hq ?_
                                                              case hq =>
                                                                refine WO.p rfl rfl ?_
                                                                exact WO.nil ⟨rfl, rfl⟩
                                                              refine' DT.r rfl rfl rfl ?hq ?_
                                                              case hq =>
                                                                refine WO.ar rfl rfl rfl (by (first | (unfold in64; omega) | (unfold in64; omega))) rfl ?_
                                                                exact WO.nil ⟨rfl, rfl⟩
                                                              refine' DT.r rfl rfl rfl ?hq ?_
                                                              case hq =>
                                                                refine' WO.indexAddrZ (n := _) rfl rfl rfl ?hs ?h00 ?h1 rfl ?_
                                                                case hs => (first | exact hs1)
                                                                case h00 => omega
                                                                case h1 => (first | omega | (simp; omega))
                                                                exact WO.nil ⟨rfl, rfl⟩
                                                              refine' DT.b rfl rfl rfl ?hq ?_
                                                              case hq =>
                                                                refine' WO.load (v := _) rfl rfl ?hc rfl ?_
                                                                case hc => (first | (refine cellI2 (e := 3) (xs := runL taps start (p + 300)) (i := i + p) (j := ((i : Int) + (p : Int)).toNat) (z := rb taps start i) ?_ (by rw [runL_len]; omega) (by rw [runL_get (by omega), rb_per hln hp]) (by omega); exact (by repeat (first | exact Sub.nil | refine Sub.cons (by repeat (first | exact Pick.head | apply Pick.tail)) ?_))))
                                                                exact WO.nil ⟨rfl, rfl⟩
                                                              refine DT.nil [_] rfl ?_
                                                              refine WO.p rfl rfl ?_
                                                              refine WO.nil ?_
                                                              refine W.cond_bl rfl (fun c14 => ?_) (fun c14 => ?_)
                                                              · first
                                                                | (exfalso; omega)
                                                                | (refine W.sreg ?_
                                                                   refine WO.p rfl rfl ?_
                                                                   refine WO.nil ?_
                                                                   refine W.ret ?_
                                                                   first | exact fin.ret (Res.one rfl (RV.tmp rfl)) rfl | (exfalso; omega))
                                                              · first
                                                                | (exfalso; omega)
                                                                | (refine W.skip ?_
                                                                   refine W.region ?_
                                                                   refine WO.p rfl rfl (WO.ar rfl rfl rfl (by (first | (unfold in64; omega) | (unfold in64; omega))) rfl (WO.p rfl rfl ?_))
                                                                   refine WO.nil ?_
                                                                   refine' ⟨i + 1, ?hp, ?hmu, ⟨rfl, rfl, rfl, rfl, rfl, rfl, trivial⟩, ?hS⟩
                                                                   case hS => repeat (first | exact Sub.nil | refine Sub.cons (by repeat (first | exact Pick.head | apply Pick.tail)) ?_)
                                                                   case hp => omega
                                                                   case hmu => omega))
                                                         · first
                                                           | (exfalso; omega)
                                                           | (refine W.exit (blk_same ?_)
                                                              refine W.sreg ?_
                                                              refine WO.p rfl rfl (WO.p rfl rfl (WO.p rfl rfl (WO.p rfl rfl (WO.p rfl rfl ?_))))
                                                              refine' WO.len (n := _) rfl rfl ?hs rfl ?_
                                                              case hs => (first | exact hR.sl)
                                                              refine WO.ar rfl rfl rfl (by (first | (unfold in64; omega) | (unfold in64; omega))) rfl ?_
                                                              refine WO.slSl (lo := far) (hi := far + taps.length) (mx := yc) rfl rfl (bnd.at rfl) (bnd.atZ rfl (by omega)) bnd.no (by simp) (by omega) (by omega) (by omega) rfl ?_
                                                              refine WO.callR (r := .tuple #[.int .i64 (p : Int), .int .i64 0]) rfl Try.call21 (fun L w hi => sub_per w v ya yc taps start p far (hR.later hi) (RdF.of_ow (e := 3) encI_ok (by repeat (first | exact Pick.head | apply Pick.tail)) hi) hok (by omega) hlast hp hyc hf) rfl ?_
                                                              refine WO.p rfl rfl (WO.p rfl rfl (WO.p rfl rfl (WO.p rfl rfl (WO.p rfl rfl ?_))))
                                                              refine WO.nil ?_
                                                              refine W.seq ?_
                                                              refine W.sreg ?_
                                                              refine WO.p rfl rfl (WO.p rfl rfl (WO.p rfl rfl ?_))
                                                              refine WO.guard_bl rfl rfl (fun c15 => ?_) (fun c15 => ?_)
                                                              · first
                                                                | (exfalso; omega)
                                                                | (refine WO.no rfl rfl (WO.no rfl rfl (WO.no rfl rfl (WO.p rfl rfl ?_)))
                                                                   refine WO.nil ?_
                                                                   refine W.cond_t rfl ?_
                                                                   refine W.sreg ?_
                                                                   refine WO.p rfl rfl ?_
                                                                   refine WO.nil ?_
                                                                   refine W.ret ?_
                                                                   first | exact fin.ret (Res.one rfl (RV.tmp rfl)) rfl | (exfalso; omega))
                                                              · first
                                                                | (exfalso; omega)
                                                                | (refine WO.pg rfl rfl rfl (WO.pg rfl rfl rfl (WO.pg rfl rfl rfl (WO.p rfl rfl ?_)))
                                                                   refine WO.nil ?_
                                                                   refine W.cond_bl rfl (fun c16 => ?_) (fun c16 => ?_)
                                                                   · first
                                                                     | (exfalso; omega)
                                                                     | (refine W.sreg ?_
                                                                        refine WO.p rfl rfl ?_
                                                                        refine WO.nil ?_
                                                                        refine W.ret ?_
                                                                        first | exact fin.ret (Res.one rfl (RV.tmp rfl)) rfl | (exfalso; omega))
                                                                   · first
                                                                     | (exfalso; omega)
                                                                     | (refine W.skip ?_
                                                                        refine W.seq ?_
                                                                        refine W.sreg ?_
                                                                        refine WO.p rfl rfl ?_
                                                                        refine WO.nil ?_
                                                                        refine W.block ?_
                                                                        refine W.loop (fun (d : Nat) => 1 ≤ d ∧ d ≤ p)
                                                                          (fun (d : Nat) => [(13, .int .i64 (d : Int)), (9, .slice ya (p + 300) yc), (7, .int .i64 (p : Int)), (0, v), (1, u)])
                                                                          (fun (d : Nat) => [OwE encI 3 1 (.slice ya (p + 300) yc) (runL taps start (p + 300))])
                                                                          (fun (d : Nat) => p - d) 1
                                                                          (by exact ⟨by omega, by omega⟩) ⟨rfl, rfl, rfl, rfl, rfl, trivial⟩ (by repeat (first | exact Sub.nil | refine Sub.cons (by repeat (first | exact Pick.head | apply Pick.tail)) ?_)) ?_
                                                                        rintro d ⟨hd1, hd2⟩
                                                                        refine W.seq ?_
                                                                        refine W.sreg ?_
                                                                        refine WO.p rfl rfl (WO.p rfl rfl (WO.p rfl rfl ?_))
                                                                        refine WO.nil ?_
                                                                        refine W.cond_bl rfl (fun c17 => ?_) (fun c17 => ?_)
                                                                        · first
                                                                          | (exfalso; omega)
                                                                          | (refine W.skip ?_
                                                                             refine W.seq ?_
                                                                             refine W.block ?_
                                                                             refine W.sreg ?_
                                                                             refine WO.p rfl rfl ?_
                                                                             refine WO.nil ?_
                                                                             refine W.seq ?_
                                                                             refine W.sreg ?_
                                                                             refine WO.p rfl rfl ?_
                                                                             refine WO.nil ?_
                                                                             refine W.block ?_
                                                                             refine W.loop2 (fun (j : Nat) (b : Bool) => j ≤ taps.length ∧ (b = true ↔ ∀ i, i < j → rb taps start (d + i) = start.getD i 0))
                                                                               (fun (j : Nat) (b : Bool) => [(15, .int .i64 (j : Int)), (14, .bool b), (13, .int .i64 (d : Int)), (9, .slice ya (p + 300) yc), (7, .int .i64 (p : Int)), (0, v), (1, u)])
                                                                               (fun (j : Nat) (b : Bool) => [OwE encI 3 1 (.slice ya (p + 300) yc) (runL taps start (p + 300))])
                                                                               (fun (j : Nat) (b : Bool) => taps.length - j) 0 true
                                                                               (by exact ⟨by omega, ⟨fun _ i hi => by omega, fun _ => rfl⟩⟩) ⟨rfl, rfl, rfl, rfl, rfl, rfl, rfl, trivial⟩ (by repeat (first | exact Sub.nil | refine Sub.cons (by repeat (first | exact Pick.head | apply Pick.tail)) ?_)) ?_
                                                                             rintro j b ⟨hj0, hbj⟩
                                                                             refine W.seq ?_
                                                                             refine W.sreg ?_
                                                                             refine WO.p rfl rfl (WO.p rfl rfl ?_)
                                                                             refine' WO.len (n := _) rfl rfl ?hs rfl ?_
                                                                             case hs => (first | exact hR.sl)
                                                                             refine WO.p rfl rfl ?_
                                                                             refine WO.nil ?_
                                                                             refine W.cond_bl rfl (fun c18 => ?_) (fun c18 => ?_)
                                                                             · first
                                                                               | (exfalso; omega)
                                                                               | (refine W.skip ?_
                                                                                  refine W.seq ?_
                                                                                  refine W.block ?_
                                                                                  rw [← bl_self b]
                                                                                  refine W.drawD 12 [.r 0 [], .r 1 [], .r 2 [], .r 3 [], .r 4 [], .r 5 [], .r 6 [], .b 7 [], .r 8 [], .r 9 [], .r 10 [], .b 11 []] [] (A0 := []) (Sub.refl _) (by kernel_rfl) ?_ ?_
                                                                                  · exact (ALok.r (ALok.r (ALok.r (ALok.r (ALok.r (ALok.r (ALok.r (ALok.b (ALok.r (ALok.r (ALok.r (ALok.b ALok.nil))))))))))))
                                                                                  refine' DT.r rfl rfl rfl ?hq ?_
                                                                                  case hq =>
                                                                                    refine WO.p rfl rfl ?_
                                                                                    exact WO.nil ⟨rfl, rfl⟩
                                                                                  refine' DT.rB rfl rfl rfl ?hq (fun c19 => ?_) (fun c19 => ?_)
                                                                                  case hq =>
                                                                                    refine WO.p rfl rfl ?_
                                                                                    exact WO.nil ⟨rfl, rfl⟩
                                                                                  · first
                                                                                    | (exfalso; omega)
                                                                                    | (refine' DT.r rfl rfl rfl ?hq ?_
                                                                                       case hq =>
                                                                                         refine WO.pg rfl rfl rfl ?_
                                                                                         exact WO.nil ⟨rfl, rfl⟩
                                                                                       refine' DT.r rfl rfl rfl ?hq ?_
                                                                                       case hq =>
                                                                                         refine WO.pg rfl rfl rfl ?_
                                                                                         exact WO.nil ⟨rfl, rfl⟩
                                                                                       refine' DT.r rfl rfl rfl ?hq ?_
                                                                                       case hq =>
                                                                                         refine WO.pg rfl rfl rfl ?_
                                                                                         exact WO.nil ⟨rfl, rfl⟩
                                                                                       refine' DT.r rfl rfl rfl ?hq ?_
                                                                                       case hq =>
                                                                                         refine WO.go' rfl (WO.ar rfl rfl rfl (by (first | (unfold in64; omega) | (unfold in64; omega))) rfl ?_)
                                                                                         exact WO.nil ⟨rfl, rfl⟩
                                                                                       refine' DT.r rfl rfl rfl ?hq ?_
                                                                                       case hq =>
                                                                                         refine WO.go' rfl ?_
                                                                                         refine' WO.indexAddrZ (n := _) rfl rfl rfl ?hs ?h00 ?h1 rfl ?_
                                                                                         case hs => (first | exact hs1)
                                                                                         case h00 => omega
                                                                                         case h1 => (first | omega | (simp; omega))
                                                                                         exact WO.nil ⟨rfl, rfl⟩
                                                                                       refine' DT.b rfl rfl rfl ?hq ?_
                                                                                       case hq =>
                                                                                         refine WO.go' rfl ?_
                                                                                         refine' WO.load (v := _) rfl rfl ?hc rfl ?_
                                                                                         case hc => (first | (refine cellI2 (e := 3) (xs := runL taps start (p + 300)) (i := d + j) (j := ((d : Int) + (j : Int)).toNat) (z := rb taps start (d + j)) ?_ (by rw [runL_len]; omega) (runL_get (by omega)).symm (by omega); exact (by repeat (first | exact Sub.nil | refine Sub.cons (by repeat (first | exact Pick.head | apply Pick.tail)) ?_))))
                                                                                         exact WO.nil ⟨rfl, rfl⟩
                                                                                       refine' DT.r rfl rfl rfl ?hq ?_
                                                                                       case hq =>
                                                                                         refine WO.pg rfl rfl rfl ?_
                                                                                         exact WO.nil ⟨rfl, rfl⟩
                                                                                       refine' DT.r rfl rfl rfl ?hq ?_
                                                                                       case hq =>
                                                                                         refine WO.pg rfl rfl rfl ?_
                                                                                         exact WO.nil ⟨rfl, rfl⟩
                                                                                       refine' DT.r rfl rfl rfl ?hq ?_
                                                                                       case hq =>
                                                                                         refine WO.go' rfl ?_
                                                                                         refine' WO.indexAddr (n := _) (i := _) rfl rfl rfl ?hs ?h1 rfl ?_
                                                                                         case hs => (first | exact hU.sl)
                                                                                         case h1 => (first | omega | (simp; omega))
                                                                                         exact WO.nil ⟨rfl, rfl⟩
                                                                                       refine' DT.b rfl rfl rfl ?hq ?_
                                                                                       case hq =>
                                                                                         refine WO.go' rfl ?_
                                                                                         refine' WO.load (v := _) rfl rfl ?hc rfl ?_
                                                                                         case hc => (first | (refine hU.cell0 (i := j) ?_ 0 ?_ <;> first | rfl | omega))
                                                                                         exact WO.nil ⟨rfl, rfl⟩
                                                                                       refine DT.nil [_] rfl ?_
                                                                                       refine WO.pg rfl rfl rfl (WO.p rfl rfl (WO.p rfl rfl ?_))
                                                                                       refine WO.nil ?_
                                                                                       refine W.region ?_
                                                                                       refine WO.p rfl rfl (WO.ar rfl rfl rfl (by (first | (unfold in64; omega) | (unfold in64; omega))) rfl (WO.p rfl rfl ?_))
                                                                                       refine WO.nil ?_
                                                                                       refine' ⟨j + 1, _, ?hp, ?hmu, ⟨rfl, rfl, rfl, rfl, rfl, rfl, rfl, trivial⟩, ?hS⟩
                                                                                       case hS => repeat (first | exact Sub.nil | refine Sub.cons (by repeat (first | exact Pick.head | apply Pick.tail)) ?_)
                                                                                       case hp => exact ⟨by omega, by first | exact again_t (f := rb taps start) (g := fun i => start.getD i 0) hbj (by assumption) | exact again_f (f := rb taps start) (g := fun i => start.getD i 0) hbj (by assumption)⟩
                                                                                       case hmu => omega)
                                                                                  · first
                                                                                    | (exfalso; omega)
                                                                                    | (refine' DT.r rfl rfl rfl ?hq ?_
                                                                                       case hq =>
                                                                                         refine WO.no rfl rfl ?_
                                                                                         exact WO.nil ⟨rfl, rfl⟩
                                                                                       refine' DT.r rfl rfl rfl ?hq ?_
                                                                                       case hq =>
                                                                                         refine WO.no rfl rfl ?_
                                                                                         exact WO.nil ⟨rfl, rfl⟩
                                                                                       refine' DT.r rfl rfl rfl ?hq ?_
                                                                                       case hq =>
                                                                                         refine WO.no rfl rfl ?_
                                                                                         exact WO.nil ⟨rfl, rfl⟩
                                                                                       refine' DT.r rfl rfl rfl ?hq ?_
                                                                                       case hq =>
                                                                                         refine WO.no rfl rfl ?_
                                                                                         exact WO.nil ⟨rfl, rfl⟩
                                                                                       refine' DT.r rfl rfl rfl ?hq ?_
                                                                                       case hq =>
                                                                                         refine WO.no rfl rfl ?_
                                                                                         exact WO.nil ⟨rfl, rfl⟩
                                                                                       refine' DT.b rfl rfl rfl ?hq ?_
                                                                                       case hq =>
                                                                                         refine WO.no rfl rfl ?_
                                                                                         exact WO.nil ⟨rfl, rfl⟩
                                                                                       refine' DT.r rfl rfl rfl ?hq ?_
                                                                                       case hq =>
                                                                                         refine WO.no rfl rfl ?_
                                                                                         exact WO.nil ⟨rfl, rfl⟩
                                                                                       refine' DT.r rfl rfl rfl ?hq ?_
                                                                                       case hq =>
                                                                                         refine WO.no rfl rfl ?_
                                                                                         exact WO.nil ⟨rfl, rfl⟩
                                                                                       refine' DT.r rfl rfl rfl ?hq ?_
                                                                                       case hq =>
                                                                                         refine WO.no rfl rfl ?_
                                                                                         exact WO.nil ⟨rfl, rfl⟩
                                                                                       refine' DT.b rfl rfl rfl ?hq ?_
                                                                                       case hq =>
                                                                                         refine WO.no rfl rfl ?_
                                                                                         exact WO.nil ⟨rfl, rfl⟩
                                                                                       refine DT.nil [_] rfl ?_
                                                                                       refine WO.no rfl rfl (WO.p rfl rfl (WO.p rfl rfl ?_))
                                                                                       refine WO.nil ?_
                                                                                       refine W.region ?_
                                                                                       refine WO.p rfl rfl (WO.ar rfl rfl rfl (by (first | (unfold in64; omega) | (unfold in64; omega))) rfl (WO.p rfl rfl ?_))
                                                                                       refine WO.nil ?_
                                                                                       refine' ⟨j + 1, _, ?hp, ?hmu, ⟨rfl, rfl, rfl, rfl, rfl, rfl, rfl, trivial⟩, ?hS⟩
                                                                                       case hS => repeat (first | exact Sub.nil | refine Sub.cons (by repeat (first | exact Pick.head | apply Pick.tail)) ?_)
                                                                                       case hp => exact ⟨by omega, by first | exact again_t (f := rb taps start) (g := fun i => start.getD i 0) hbj (by assumption) | exact again_f (f := rb taps start) (g := fun i => start.getD i 0) hbj (by assumption)⟩
                                                                                       case hmu => omega))
                                                                             · first
                                                                               | (exfalso; omega)
                                                                               | (refine W.exit (blk_same ?_)
                                                                                  refine W.sreg ?_
                                                                                  refine WO.p rfl rfl ?_
                                                                                  refine WO.nil ?_
                                                                                  refine W.cond rfl (fun c20 => ?_) (fun c20 => ?_)
                                                                                  · first
                                                                                    | (exfalso; omega)
                                                                                    | (exfalso
                                                                                       obtain rfl : j = taps.length := by omega
                                                                                       exact hp.2.2 d (by omega) (by omega) (win_eq (fun i hi => hbj.1 (by assumption) i (by omega))))
                                                                                  · first
                                                                                    | (exfalso; omega)
                                                                                    | (refine W.skip ?_
                                                                                       refine W.region ?_
                                                                                       refine WO.p rfl rfl (WO.ar rfl rfl rfl (by (first | (unfold in64; omega) | (unfold in64; omega))) rfl (WO.p rfl rfl ?_))
                                                                                       refine WO.nil ?_
                                                                                       refine' ⟨d + 1, ?hp, ?hmu, ⟨rfl, rfl, rfl, rfl, rfl, trivial⟩, ?hS⟩
                                                                                       case hS => repeat (first | exact Sub.nil | refine Sub.cons (by repeat (first | exact Pick.head | apply Pick.tail)) ?_)
                                                                                       case hp => exact ⟨by omega, by omega⟩
                                                                                       case hmu => omega)))
                                                                        · first
                                                                          | (exfalso; omega)
                                                                          | (refine W.exit (blk_same ?_)
                                                                             refine W.sreg ?_
                                                                             refine WO.callR rfl Try.call15 (fun L w hi => l_Works w) rfl ?_
                                                                             refine WO.p rfl rfl ?_
                                                                             refine WO.nil ?_
                                                                             refine W.ret ?_
                                                                             first | exact fin.ret (Res.one rfl (RV.tmp rfl)) rfl | (exfalso; omega))))))))))))
                      · first
                        | (exfalso; omega)
                        | (refine WO.no rfl rfl (WO.no rfl rfl (WO.no rfl rfl (WO.no rfl rfl (WO.no rfl rfl (WO.no rfl rfl (WO.no rfl rfl (WO.p rfl rfl ?_)))))))
                           refine WO.nil ?_
                           refine W.cond_f rfl ?_
                           refine W.skip ?_
                           refine W.seq ?_
                           have hpe : perE taps start = 0 := perE_d hok (by omega) (per_last (by first | (right; assumption) | (left; omega)))
                           obtain ⟨_, _, hlast⟩ := perE_0 hpe
                           obtain ⟨p, _, hp⟩ := per_ex h2.2 hln hlast
                           have hpn : perN taps start = p := by unfold perN; rw [if_pos hpe, per_eq hp]
                           have hmx := per_max h2.2 hln hlast hp
                           have h23 := per_le1023 h2.2 hln hlast (by omega) hp
                           have hp0 := hp.1
                           have hsh : Fits .i64 (1 <<< taps.length) := Nat.lt_of_le_of_lt (by rw [shl_one]; exact Nat.pow_le_pow_right (by decide) (show taps.length ≤ 10 by omega)) (by decide)
                           have hsh2 : 1 <<< taps.length ≤ 1024 := by rw [shl_one]; exact Nat.pow_le_pow_right (by decide) (show taps.length ≤ 10 by omega)
                           rw [hpn, hpe]
                           refine W.sreg ?_
                           refine WO.p rfl rfl (WO.p rfl rfl (WO.p rfl rfl ?_))
                           refine WO.guard_bl rfl rfl (fun c21 => ?_) (fun c21 => ?_)
                           · first
                             | (exfalso; omega)
                             | (refine WO.no rfl rfl (WO.no rfl rfl (WO.p rfl rfl (WO.p rfl rfl (WO.no rfl rfl (WO.no rfl rfl (WO.no rfl rfl (WO.no rfl rfl (WO.no rfl rfl (WO.no rfl rfl (WO.no rfl rfl (WO.p rfl rfl ?_)))))))))))
                                refine WO.nil ?_
                                refine W.cond_t rfl ?_
                                refine W.sreg ?_
                                refine WO.p rfl rfl ?_
                                refine WO.nil ?_
                                refine W.ret ?_
                                first | exact fin.ret (Res.one rfl (RV.tmp rfl)) rfl | (exfalso; omega))
                           · first
                             | (exfalso; omega)
                             | (refine WO.pg rfl rfl rfl (WO.pg rfl rfl rfl (WO.p rfl rfl (WO.p rfl rfl ?_)))
                                refine WO.guard_bl rfl rfl (fun c22 => ?_) (fun c22 => ?_)
                                · first
                                  | (exfalso; omega)
                                  | (refine WO.no rfl rfl (WO.no rfl rfl (WO.no rfl rfl (WO.no rfl rfl (WO.no rfl rfl (WO.no rfl rfl (WO.no rfl rfl (WO.p rfl rfl ?_)))))))
                                     refine WO.nil ?_
                                     refine W.cond_t rfl ?_
                                     refine W.sreg ?_
                                     refine WO.p rfl rfl ?_
                                     refine WO.nil ?_
                                     refine W.ret ?_
                                     first | exact fin.ret (Res.one rfl (RV.tmp rfl)) rfl | (exfalso; omega))
                                · first
                                  | (exfalso; omega)
                                  | (refine WO.pg rfl rfl rfl (WO.pg rfl rfl rfl (WO.go' rfl ?_))
                                     refine' WO.len (n := _) rfl rfl ?hs rfl ?_
                                     case hs => (first | exact hR.sl)
                                     refine WO.go' rfl ?_
                                     refine WO.shlN (a := 1) (s := taps.length) rfl rfl (show taps.length ≤ 64 by omega) hsh rfl ?_
                                     refine WO.go' rfl (WO.ar rfl rfl rfl (by (first | (unfold in64; omega) | (unfold in64; omega))) rfl (WO.go' rfl ?_))
                                     refine WO.max2 rfl rfl rfl ?_
                                     refine WO.pg rfl rfl rfl (WO.p rfl rfl ?_)
                                     refine WO.nil ?_
                                     refine W.cond_bl rfl (fun c23 => ?_) (fun c23 => ?_)
                                     · first
                                       | (exfalso; omega)
                                       | (refine W.sreg ?_
                                          refine WO.p rfl rfl ?_
                                          refine WO.nil ?_
                                          refine W.ret ?_
                                          first | exact fin.ret (Res.one rfl (RV.tmp rfl)) rfl | (exfalso; omega))
                                     · first
                                       | (exfalso; omega)
                                       | (refine W.skip ?_
                                          refine W.sreg ?_
                                          refine WO.p rfl rfl (WO.p rfl rfl (WO.p rfl rfl (WO.ar rfl rfl rfl (by (first | (unfold in64; omega) | (unfold in64; omega))) rfl ?_)))
                                          refine WO.call (Post := fun r Hq => ∃ y : Value, r = .tuple #[y, .int .i64 0] ∧ Hq = [OwE encI 3 1 y (runL taps start (p + 300))]) rfl Try.call31 (fun L w hi => by have h := c_Run w v u taps start ((p : Int) + 300) (hR.later hi) (hU.later hi); rw [runE_0.2 ⟨hok, by omega, by omega⟩, if_pos rfl, show ((p : Int) + 300).toNat = p + 300 by omega] at h; exact h) rfl ?_
                                          rintro _ _ ⟨y1, rfl, rfl⟩
                                          refine WO.p rfl rfl (WO.p rfl rfl (WO.p rfl rfl (WO.p rfl rfl (WO.p rfl rfl ?_))))
                                          refine WO.nil ?_
                                          refine W.seq ?_
                                          refine W.fact (p := HasCap y1 (runL taps start (p + 300)).length ∧ IsSl y1 (runL taps start (p + 300)).length) (fun L w hi => ⟨HasCap.of_ow (enc := encI) (e := 3) (sz := 1) (by repeat (first | exact Pick.head | apply Pick.tail)) hi, OwE.sl (enc := encI) (e := 3) (sz := 1) (by repeat (first | exact Pick.head | apply Pick.tail)) L w hi⟩) ?_
                                          rintro ⟨⟨ya, yc, rfl, hyc⟩, hs1⟩
                                          rw [runL_len] at hyc hs1 ⊢
                                          refine W.sreg ?_
                                          refine WO.p rfl rfl (WO.p rfl rfl (WO.p rfl rfl ?_))
                                          refine WO.guard_bl rfl rfl (fun c24 => ?_) (fun c24 => ?_)
                                          · first
                                            | (exfalso; omega)
                                            | (refine WO.no rfl rfl (WO.no rfl rfl (WO.no rfl rfl (WO.no rfl rfl (WO.no rfl rfl (WO.p rfl rfl ?_)))))
                                               refine WO.nil ?_
                                               refine W.cond_t rfl ?_
                                               refine W.sreg ?_
                                               refine WO.p rfl rfl ?_
                                               refine WO.nil ?_
                                               refine W.ret ?_
                                               first | exact fin.ret (Res.one rfl (RV.tmp rfl)) rfl | (exfalso; omega))
                                          · first
                                            | (exfalso; omega)
                                            | (refine WO.pg rfl rfl rfl (WO.go' rfl ?_)
                                               refine' WO.len (n := _) rfl rfl ?hs rfl ?_
                                               case hs => (first | exact hs1)
                                               refine WO.pg rfl rfl rfl (WO.go' rfl (WO.ar rfl rfl rfl (by (first | (unfold in64; omega) | (unfold in64; omega))) rfl (WO.pg rfl rfl rfl (WO.p rfl rfl ?_))))
                                               refine WO.nil ?_
                                               refine W.cond_bl rfl (fun c25 => ?_) (fun c25 => ?_)
                                               · first
                                                 | (exfalso; omega)
                                                 | (refine W.sreg ?_
                                                    refine WO.p rfl rfl ?_
                                                    refine WO.nil ?_
                                                    refine W.ret ?_
                                                    first | exact fin.ret (Res.one rfl (RV.tmp rfl)) rfl | (exfalso; omega))
                                               · first
                                                 | (exfalso; omega)
                                                 | (refine W.skip ?_
                                                    refine W.sreg ?_
                                                    refine WO.p rfl rfl (WO.conv64 rfl rfl rfl (by (first | (unfold in64; omega) | (unfold in64; omega))) rfl (WO.p rfl rfl ?_))
                                                    refine WO.nil ?_
                                                    refine W.seq ?_
                                                    refine W.sreg ?_
                                                    refine WO.p rfl rfl ?_
                                                    refine WO.nil ?_
                                                    refine W.block ?_
                                                    refine W.loop (fun (i : Nat) => i ≤ 300)
                                                      (fun (i : Nat) => [(11, .int .i64 (i : Int)), (10, .int .i64 (far : Int)), (9, .slice ya (p + 300) yc), (7, .int .i64 (p : Int)), (0, v), (1, u)])
                                                      (fun (i : Nat) => [OwE encI 3 1 (.slice ya (p + 300) yc) (runL taps start (p + 300))])
                                                      (fun (i : Nat) => 300 - i) 0
                                                      (by omega) ⟨rfl, rfl, rfl, rfl, rfl, rfl, trivial⟩ (by repeat (first | exact Sub.nil | refine Sub.cons (by repeat (first | exact Pick.head | apply Pick.tail)) ?_)) ?_
                                                    rintro i hi0
                                                    refine W.seq ?_
                                                    refine W.sreg ?_
                                                    refine WO.p rfl rfl (WO.p rfl rfl ?_)
                                                    refine WO.nil ?_
                                                    refine W.cond_bl rfl (fun c26 => ?_) (fun c26 => ?_)
                                                    · first
                                                      | (exfalso; omega)
                                                      | (refine W.skip ?_
                                                         refine W.seq ?_
                                                         refine W.block ?_
                                                         refine W.seq ?_
                                                         refine W.drawD 10 [.r 0 [], .r 1 [], .r 2 [], .b 3 [], .r 4 [], .r 5 [], .r 6 [], .r 7 [], .r 8 [], .b 9 []] [] (A0 := []) (Sub.refl _) (by kernel_rfl) ?_ ?_
                                                         · exact (ALok.r (ALok.r (ALok.r (ALok.b (ALok.r (ALok.r (ALok.r (ALok.r (ALok.r (ALok.b ALok.nil))))))))))
                                                         refine' DT.r rfl rfl rfl ?hq ?_
                                                         case hq =>
                                                           refine WO.p rfl rfl ?_
                                                           exact WO.nil ⟨rfl, rfl⟩
                                                         refine' DT.r rfl rfl rfl ?hq ?_
                                                         case hq =>
                                                           refine WO.p rfl rfl ?_
                                                           exact WO.nil ⟨rfl, rfl⟩
                                                         refine' DT.r rfl rfl rfl ?hq ?_
                                                         case hq =>
                                                           refine' WO.indexAddr (n := _) (i := _) rfl rfl rfl ?hs ?h1 rfl ?_
                                                           case hs => (first | exact hs1)
                                                           case h1 => (first | omega | (simp; omega))
                                                           exact WO.nil ⟨rfl, rfl⟩
                                                         refine' DT.b rfl rfl rfl ?hq ?_
                                                         case hq =>
                                                           refine' WO.load (v := _) rfl rfl ?hc rfl ?_
                                                           case hc => (first | (refine cellI2 (e := 3) (xs := runL taps start (p + 300)) (i := i) (j := i) (z := rb taps start i) ?_ (by rw [runL_len]; omega) (runL_get (by omega)).symm rfl; exact (by repeat (first | exact Sub.nil | refine Sub.cons (by repeat (first | exact Pick.head | apply Pick.tail)) ?_))))
                                                           exact WO.nil ⟨rfl, rfl⟩
                                                         refine' DT.r rfl rfl rfl ?hq ?_
                                                         case hq =>
                                                           refine WO.p rfl rfl ?_
                                                           exact WO.nil ⟨rfl, rfl⟩
                                                         refine' DT.r rfl rfl rfl ?hq ?_
                                                         case hq =>
                                                           refine WO.p rfl rfl ?_
                                                           exact WO.nil ⟨rfl, rfl⟩
                                                         refine' DT.r rfl rfl rfl ?hq ?_
                                                         case hq =>
                                                           refine WO.p rfl rfl ?_
                                                           exact WO.nil ⟨rfl, rfl⟩
                                                         refine' DT.r rfl rfl rfl ?hq ?_
                                                         case hq =>
                                                           refine WO.ar rfl rfl rfl (by (first | (unfold in64; omega) | (unfold in64; omega))) rfl ?_
                                                           exact WO.nil ⟨rfl, rfl⟩
                                                         refine' DT.r rfl rfl rfl ?hq ?_
                                                         case hq =>
                                                           refine' WO.indexAddrZ (n := _) rfl rfl rfl ?hs ?h00 ?h1 rfl ?_
                                                           case hs => (first | exact hs1)
                                                           case h00 => omega
                                                           case h1 => (first | omega | (simp; omega))
                                                           exact WO.nil ⟨rfl, rfl⟩
                                                         refine' DT.b rfl rfl rfl ?hq ?_
                                                         case hq =>
                                                           refine' WO.load (v := _) rfl rfl ?hc rfl ?_
                                                           case hc => (first | (refine cellI2 (e := 3) (xs := runL taps start (p + 300)) (i := i + p) (j := ((i : Int) + (p : Int)).toNat) (z := rb taps start i) ?_ (by rw [runL_len]; omega) (by rw [runL_get (by omega), rb_per hln hp]) (by omega); exact (by repeat (first | exact Sub.nil | refine Sub.cons (by repeat (first | exact Pick.head | apply Pick.tail)) ?_))))
                                                           exact WO.nil ⟨rfl, rfl⟩
                                                         refine DT.nil [_] rfl ?_
                                                         refine WO.p rfl rfl ?_
                                                         refine WO.nil ?_
                                                         refine W.cond_bl rfl (fun c27 => ?_) (fun c27 => ?_)
                                                         · first
                                                           | (exfalso; omega)
                                                           | (refine W.sreg ?_
                                                              refine WO.p rfl rfl ?_
                                                              refine WO.nil ?_
                                                              refine W.ret ?_
                                                              first | exact fin.ret (Res.one rfl (RV.tmp rfl)) rfl | (exfalso; omega))
                                                         · first
                                                           | (exfalso; omega)
                                                           | (refine W.skip ?_
                                                              refine W.region ?_
                                                              refine WO.p rfl rfl (WO.ar rfl rfl rfl (by (first | (unfold in64; omega) | (unfold in64; omega))) rfl (WO.p rfl rfl ?_))
                                                              refine WO.nil ?_
                                                              refine' ⟨i + 1, ?hp, ?hmu, ⟨rfl, rfl, rfl, rfl, rfl, rfl, trivial⟩, ?hS⟩
                                                              case hS => repeat (first | exact Sub.nil | refine Sub.cons (by repeat (first | exact Pick.head | apply Pick.tail)) ?_)
                                                              case hp => omega
                                                              case hmu => omega))
                                                    · first
                                                      | (exfalso; omega)
                                                      | (refine W.exit (blk_same ?_)
                                                         refine W.sreg ?_
                                                         refine WO.p rfl rfl (WO.p rfl rfl (WO.p rfl rfl (WO.p rfl rfl (WO.p rfl rfl ?_))))
                                                         refine' WO.len (n := _) rfl rfl ?hs rfl ?_
                                                         case hs => (first | exact hR.sl)
                                                         refine WO.ar rfl rfl rfl (by (first | (unfold in64; omega) | (unfold in64; omega))) rfl ?_
                                                         refine WO.slSl (lo := far) (hi := far + taps.length) (mx := yc) rfl rfl (bnd.at rfl) (bnd.atZ rfl (by omega)) bnd.no (by simp) (by omega) (by omega) (by omega) rfl ?_
                                                         refine WO.callR (r := .tuple #[.int .i64 (p : Int), .int .i64 0]) rfl Try.call21 (fun L w hi => sub_per w v ya yc taps start p far (hR.later hi) (RdF.of_ow (e := 3) encI_ok (by repeat (first | exact Pick.head | apply Pick.tail)) hi) hok (by omega) hlast hp hyc hf) rfl ?_
                                                         refine WO.p rfl rfl (WO.p rfl rfl (WO.p rfl rfl (WO.p rfl rfl (WO.p rfl rfl ?_))))
                                                         refine WO.nil ?_
                                                         refine W.seq ?_
                                                         refine W.sreg ?_
                                                         refine WO.p rfl rfl (WO.p rfl rfl (WO.p rfl rfl ?_))
                                                         refine WO.guard_bl rfl rfl (fun c28 => ?_) (fun c28 => ?_)
                                                         · first
                                                           | (exfalso; omega)
                                                           | (refine WO.no rfl rfl (WO.no rfl rfl (WO.no rfl rfl (WO.p rfl rfl ?_)))
                                                              refine WO.nil ?_
                                                              refine W.cond_t rfl ?_
                                                              refine W.sreg ?_
                                                              refine WO.p rfl rfl ?_
                                                              refine WO.nil ?_
                                                              refine W.ret ?_
                                                              first | exact fin.ret (Res.one rfl (RV.tmp rfl)) rfl | (exfalso; omega))
                                                         · first
                                                           | (exfalso; omega)
                                                           | (refine WO.pg rfl rfl rfl (WO.pg rfl rfl rfl (WO.pg rfl rfl rfl (WO.p rfl rfl ?_)))
                                                              refine WO.nil ?_
                                                              refine W.cond_bl rfl (fun c29 => ?_) (fun c29 => ?_)
                                                              · first
                                                                | (exfalso; omega)
                                                                | (refine W.sreg ?_
                                                                   refine WO.p rfl rfl ?_
                                                                   refine WO.nil ?_
                                                                   refine W.ret ?_
                                                                   first | exact fin.ret (Res.one rfl (RV.tmp rfl)) rfl | (exfalso; omega))
                                                              · first
                                                                | (exfalso; omega)
                                                                | (refine W.skip ?_
                                                                   refine W.seq ?_
                                                                   refine W.sreg ?_
                                                                   refine WO.p rfl rfl ?_
                                                                   refine WO.nil ?_
                                                                   refine W.block ?_
                                                                   refine W.loop (fun (d : Nat) => 1 ≤ d ∧ d ≤ p)
                                                                     (fun (d : Nat) => [(13, .int .i64 (d : Int)), (9, .slice ya (p + 300) yc), (7, .int .i64 (p : Int)), (0, v), (1, u)])
                                                                     (fun (d : Nat) => [OwE encI 3 1 (.slice ya (p + 300) yc) (runL taps start (p + 300))])
                                                                     (fun (d : Nat) => p - d) 1
                                                                     (by exact ⟨by omega, by omega⟩) ⟨rfl, rfl, rfl, rfl, rfl, trivial⟩ (by repeat (first | exact Sub.nil | refine Sub.cons (by repeat (first | exact Pick.head | apply Pick.tail)) ?_)) ?_
                                                                   rintro d ⟨hd1, hd2⟩
                                                                   refine W.seq ?_
                                                                   refine W.sreg ?_
                                                                   refine WO.p rfl rfl (WO.p rfl rfl (WO.p rfl rfl ?_))
                                                                   refine WO.nil ?_
                                                                   refine W.cond_bl rfl (fun c30 => ?_) (fun c30 => ?_)
                                                                   · first
                                                                     | (exfalso; omega)
                                                                     | (refine W.skip ?_
                                                                        refine W.seq ?_
                                                                        refine W.block ?_
                                                                        refine W.sreg ?_
                                                                        refine WO.p rfl rfl ?_
                                                                        refine WO.nil ?_
                                                                        refine W.seq ?_
                                                                        refine W.sreg ?_
                                                                        refine WO.p rfl rfl ?_
                                                                        refine WO.nil ?_
                                                                        refine W.block ?_
                                                                        refine W.loop2 (fun (j : Nat) (b : Bool) => j ≤ taps.length ∧ (b = true ↔ ∀ i, i < j → rb taps start (d + i) = start.getD i 0))
                                                                          (fun (j : Nat) (b : Bool) => [(15, .int .i64 (j : Int)), (14, .bool b), (13, .int .i64 (d : Int)), (9, .slice ya (p + 300) yc), (7, .int .i64 (p : Int)), (0, v), (1, u)])
                                                                          (fun (j : Nat) (b : Bool) => [OwE encI 3 1 (.slice ya (p + 300) yc) (runL taps start (p + 300))])
                                                                          (fun (j : Nat) (b : Bool) => taps.length - j) 0 true
                                                                          (by exact ⟨by omega, ⟨fun _ i hi => by omega, fun _ => rfl⟩⟩) ⟨rfl, rfl, rfl, rfl, rfl, rfl, rfl, trivial⟩ (by repeat (first | exact Sub.nil | refine Sub.cons (by repeat (first | exact Pick.head | apply Pick.tail)) ?_)) ?_
                                                                        rintro j b ⟨hj0, hbj⟩
                                                                        refine W.seq ?_
                                                                        refine W.sreg ?_
                                                                        refine WO.p rfl rfl (WO.p rfl rfl ?_)
                                                                        refine' WO.len (n := _) rfl rfl ?hs rfl ?_
                                                                        case hs => (first | exact hR.sl)
                                                                        refine WO.p rfl rfl ?_
                                                                        refine WO.nil ?_
                                                                        refine W.cond_bl rfl (fun c31 => ?_) (fun c31 => ?_)
                                                                        · first
                                                                          | (exfalso; omega)
                                                                          | (refine W.skip ?_
                                                                             refine W.seq ?_
                                                                             refine W.block ?_
                                                                             rw [← bl_self b]
                                                                             refine W.drawD 12 [.r 0 [], .r 1 [], .r 2 [], .r 3 [], .r 4 [], .r 5 [], .r 6 [], .b 7 [], .r 8 [], .r 9 [], .r 10 [], .b 11 []] [] (A0 := []) (Sub.refl _) (by kernel_rfl) ?_ ?_
                                                                             · exact (ALok.r (ALok.r (ALok.r (ALok.r (ALok.r (ALok.r (ALok.r (ALok.b (ALok.r (ALok.r (ALok.r (ALok.b ALok.nil))))))))))))
                                                                             refine' DT.r rfl rfl rfl ?hq ?_
                                                                             case hq =>
                                                                               refine WO.p rfl rfl ?_
                                                                               exact WO.nil ⟨rfl, rfl⟩
                                                                             refine' DT.rB rfl rfl rfl ?hq (fun c32 => ?_) (fun c32 => ?_)
                                                                             case hq =>
                                                                               refine WO.p rfl rfl ?_
                                                                               exact WO.nil ⟨rfl, rfl⟩
                                                                             · first
                                                                               | (exfalso; omega)
                                                                               | (refine' DT.r rfl rfl rfl ?hq ?_
                                                                                  case hq =>
                                                                                    refine WO.pg rfl rfl rfl ?_
                                                                                    exact WO.nil ⟨rfl, rfl⟩
                                                                                  refine' DT.r rfl rfl rfl ?hq ?_
                                                                                  case hq =>
                                                                                    refine WO.pg rfl rfl rfl ?_
                                                                                    exact WO.nil ⟨rfl, rfl⟩
                                                                                  refine' DT.r rfl rfl rfl ?hq ?_
                                                                                  case hq =>
                                                                                    refine WO.pg rfl rfl rfl ?_
                                                                                    exact WO.nil ⟨rfl, rfl⟩
                                                                                  refine' DT.r rfl rfl rfl ?hq ?_
                                                                                  case hq =>
                                                                                    refine WO.go' rfl (WO.ar rfl rfl rfl (by (first | (unfold in64; omega) | (unfold in64; omega))) rfl ?_)
                                                                                    exact WO.nil ⟨rfl, rfl⟩
                                                                                  refine' DT.r rfl rfl rfl ?hq ?_
                                                                                  case hq =>
                                                                                    refine WO.go' rfl ?_
                                                                                    refine' WO.indexAddrZ (n := _) rfl rfl rfl ?hs ?h00 ?h1 rfl ?_
                                                                                    case hs => (first | exact hs1)
                                                                                    case h00 => omega
                                                                                    case h1 => (first | omega | (simp; omega))
                                                                                    exact WO.nil ⟨rfl, rfl⟩
                                                                                  refine' DT.b rfl rfl rfl ?hq ?_
                                                                                  case hq =>
                                                                                    refine WO.go' rfl ?_
                                                                                    refine' WO.load (v := _) rfl rfl ?hc rfl ?_
                                                                                    case hc => (first | (refine cellI2 (e := 3) (xs := runL taps start (p + 300)) (i := d + j) (j := ((d : Int) + (j : Int)).toNat) (z := rb taps start (d + j)) ?_ (by rw [runL_len]; omega) (runL_get (by omega)).symm (by omega); exact (by repeat (first | exact Sub.nil | refine Sub.cons (by repeat (first | exact Pick.head | apply Pick.tail)) ?_))))
                                                                                    exact WO.nil ⟨rfl, rfl⟩
                                                                                  refine' DT.r rfl rfl rfl ?hq ?_
                                                                                  case hq =>
                                                                                    refine WO.pg rfl rfl rfl ?_
                                                                                    exact WO.nil ⟨rfl, rfl⟩
                                                                                  refine' DT.r rfl rfl rfl ?hq ?_
                                                                                  case hq =>
                                                                                    refine WO.pg rfl rfl rfl ?_
                                                                                    exact WO.nil ⟨rfl, rfl⟩
                                                                                  refine' DT.r rfl rfl rfl ?hq ?_
                                                                                  case hq =>
                                                                                    refine WO.go' rfl ?_
                                                                                    refine' WO.indexAddr (n := _) (i := _) rfl rfl rfl ?hs ?h1 rfl ?_
                                                                                    case hs => (first | exact hU.sl)
                                                                                    case h1 => (first | omega | (simp; omega))
                                                                                    exact WO.nil ⟨rfl, rfl⟩
                                                                                  refine' DT.b rfl rfl rfl ?hq ?_
                                                                                  case hq =>
                                                                                    refine WO.go' rfl ?_
                                                                                    refine' WO.load (v := _) rfl rfl ?hc rfl ?_
                                                                                    case hc => (first | (refine hU.cell0 (i := j) ?_ 0 ?_ <;> first | rfl | omega))
                                                                                    exact WO.nil ⟨rfl, rfl⟩
                                                                                  refine DT.nil [_] rfl ?_
                                                                                  refine WO.pg rfl rfl rfl (WO.p rfl rfl (WO.p rfl rfl ?_))
                                                                                  refine WO.nil ?_
                                                                                  refine W.region ?_
                                                                                  refine WO.p rfl rfl (WO.ar rfl rfl rfl (by (first | (unfold in64; omega) | (unfold in64; omega))) rfl (WO.p rfl rfl ?_))
                                                                                  refine WO.nil ?_
                                                                                  refine' ⟨j + 1, _, ?hp, ?hmu, ⟨rfl, rfl, rfl, rfl, rfl, rfl, rfl, trivial⟩, ?hS⟩
                                                                                  case hS => repeat (first | exact Sub.nil | refine Sub.cons (by repeat (first | exact Pick.head | apply Pick.tail)) ?_)
                                                                                  case hp => exact ⟨by omega, by first | exact again_t (f := rb taps start) (g := fun i => start.getD i 0) hbj (by assumption) | exact again_f (f := rb taps start) (g := fun i => start.getD i 0) hbj (by assumption)⟩
                                                                                  case hmu => omega)
                                                                             · first
                                                                               | (exfalso; omega)
                                                                               | (refine' DT.r rfl rfl rfl ?hq ?_
                                                                                  case hq =>
                                                                                    refine WO.no rfl rfl ?_
                                                                                    exact WO.nil ⟨rfl, rfl⟩
                                                                                  refine' DT.r rfl rfl rfl ?hq ?_
                                                                                  case hq =>
                                                                                    refine WO.no rfl rfl ?_
                                                                                    exact WO.nil ⟨rfl, rfl⟩
                                                                                  refine' DT.r rfl rfl rfl ?hq ?_
                                                                                  case hq =>
                                                                                    refine WO.no rfl rfl ?_
                                                                                    exact WO.nil ⟨rfl, rfl⟩
                                                                                  refine' DT.r rfl rfl rfl ?hq ?_
                                                                                  case hq =>
                                                                                    refine WO.no rfl rfl ?_
                                                                                    exact WO.nil ⟨rfl, rfl⟩
                                                                                  refine' DT.r rfl rfl rfl ?hq ?_
                                                                                  case hq =>
                                                                                    refine WO.no rfl rfl ?_
                                                                                    exact WO.nil ⟨rfl, rfl⟩
                                                                                  refine' DT.b rfl rfl rfl ?hq ?_
                                                                                  case hq =>
                                                                                    refine WO.no rfl rfl ?_
                                                                                    exact WO.nil ⟨rfl, rfl⟩
                                                                                  refine' DT.r rfl rfl rfl ?hq ?_
                                                                                  case hq =>
                                                                                    refine WO.no rfl rfl ?_
                                                                                    exact WO.nil ⟨rfl, rfl⟩
                                                                                  refine' DT.r rfl rfl rfl ?hq ?_
                                                                                  case hq =>
                                                                                    refine WO.no rfl rfl ?_
                                                                                    exact WO.nil ⟨rfl, rfl⟩
                                                                                  refine' DT.r rfl rfl rfl ?hq ?_
                                                                                  case hq =>
                                                                                    refine WO.no rfl rfl ?_
                                                                                    exact WO.nil ⟨rfl, rfl⟩
                                                                                  refine' DT.b rfl rfl rfl ?hq ?_
                                                                                  case hq =>
                                                                                    refine WO.no rfl rfl ?_
                                                                                    exact WO.nil ⟨rfl, rfl⟩
                                                                                  refine DT.nil [_] rfl ?_
                                                                                  refine WO.no rfl rfl (WO.p rfl rfl (WO.p rfl rfl ?_))
                                                                                  refine WO.nil ?_
                                                                                  refine W.region ?_
                                                                                  refine WO.p rfl rfl (WO.ar rfl rfl rfl (by (first | (unfold in64; omega) | (unfold in64; omega))) rfl (WO.p rfl rfl ?_))
                                                                                  refine WO.nil ?_
                                                                                  refine' ⟨j + 1, _, ?hp, ?hmu, ⟨rfl, rfl, rfl, rfl, rfl, rfl, rfl, trivial⟩, ?hS⟩
                                                                                  case hS => repeat (first | exact Sub.nil | refine Sub.cons (by repeat (first | exact Pick.head | apply Pick.tail)) ?_)
                                                                                  case hp => exact ⟨by omega, by first | exact again_t (f := rb taps start) (g := fun i => start.getD i 0) hbj (by assumption) | exact again_f (f := rb taps start) (g := fun i => start.getD i 0) hbj (by assumption)⟩
                                                                                  case hmu => omega))
                                                                        · first
                                                                          | (exfalso; omega)
                                                                          | (refine W.exit (blk_same ?_)
                                                                             refine W.sreg ?_
                                                                             refine WO.p rfl rfl ?_
                                                                             refine WO.nil ?_
                                                                             refine W.cond rfl (fun c33 => ?_) (fun c33 => ?_)
                                                                             · first
                                                                               | (exfalso; omega)
                                                                               | (exfalso
                                                                                  obtain rfl : j = taps.length := by omega
                                                                                  exact hp.2.2 d (by omega) (by omega) (win_eq (fun i hi => hbj.1 (by assumption) i (by omega))))
                                                                             · first
                                                                               | (exfalso; omega)
                                                                               | (refine W.skip ?_
                                                                                  refine W.region ?_
                                                                                  refine WO.p rfl rfl (WO.ar rfl rfl rfl (by (first | (unfold in64; omega) | (unfold in64; omega))) rfl (WO.p rfl rfl ?_))
                                                                                  refine WO.nil ?_
                                                                                  refine' ⟨d + 1, ?hp, ?hmu, ⟨rfl, rfl, rfl, rfl, rfl, trivial⟩, ?hS⟩
                                                                                  case hS => repeat (first | exact Sub.nil | refine Sub.cons (by repeat (first | exact Pick.head | apply Pick.tail)) ?_)
                                                                                  case hp => exact ⟨by omega, by omega⟩
                                                                                  case hmu => omega)))
                                                                   · first
                                                                     | (exfalso; omega)
                                                                     | (refine W.exit (blk_same ?_)
                                                                        refine W.sreg ?_
                                                                        refine WO.callR rfl Try.call15 (fun L w hi => l_Works w) rfl ?_
                                                                        refine WO.p rfl rfl ?_
                                                                        refine WO.nil ?_
                                                                        refine W.ret ?_
                                                                        first | exact fin.ret (Res.one rfl (RV.tmp rfl)) rfl | (exfalso; omega)))))))))))))))
end Go.Proofs.Ytingkbglkaojdaa
