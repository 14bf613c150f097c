/-
  What is proved here: what a register makes, another one of its length does not make, if there are enough bits (no program in sight), and the law WaveOnly as a contract. Conditions: none; each theorem states its own.
-/
import Derived.Test.YtingkbglkaojdaaM27
set_option linter.unusedVariables false
set_option linter.unusedSimpArgs false
namespace Go.Proofs.Ytingkbglkaojdaa
open Go Go.TH Go.TH.Wv
attribute [local irreducible] W WO pt
set_option maxRecDepth 10000
set_option maxHeartbeats 2000000
theorem rb_start {taps start : List Int} {i : Nat} (h : i < start.length) : rb taps start i = bt start i := by
  have := rb_bt (taps := taps) (k := 0) h
  rw [Nat.zero_add] at this
  exact this
theorem ext_rb {taps start : List Int} {k j : Nat} (h : j < start.length + k) : bt (ext taps start k) j = rb taps start j := by
  unfold rb
  rcases Nat.le_total k (j + 1) with g | g
  · exact (ext_get h _ g).symm
  · exact ext_get (by omega) _ g
theorem rb_next {taps start : List Int} (hl : start.length = taps.length) {i : Nat} (h : taps.length ≤ i) : rb taps start i = pre (bt taps) taps.length (rb taps start) i % 2 := by
  obtain ⟨k, rfl⟩ : ∃ k, i = start.length + k := ⟨i - start.length, by omega⟩
  have e1 : rb taps start (start.length + k) = nx (ext taps start k) taps := by
    rw [← ext_rb (k := k + 1) (by omega)]
    unfold bt
    rw [ext_more, List.getD_eq_getElem?_getD, List.getElem?_append_right (by rw [ext_len]; exact Nat.le_refl _), ext_len, Nat.sub_self]
    rfl
  rw [e1]
  unfold nx pre
  rw [ext_len]
  exact congrArg (· % 2) (sm_congr fun j hj => by rw [ext_rb (by omega)])
theorem rb_mk {taps start : List Int} (hl : start.length = taps.length) (n : Nat) : Mk (bt taps) taps.length (rb taps start) n := fun i h1 _ => by
  rw [rb_next hl h1]
  exact (Eq2.mod _).symm
theorem rb_01 {taps start : List Int} (hs : OkBs start) (i : Nat) : rb taps start i = 0 ∨ rb taps start i = 1 := bt_ok (ext_ok hs _) i
theorem run_bt {taps start : List Int} {n i : Nat} (h : i < n) : bt (runL taps start n) i = rb taps start i := runL_get h
theorem run_ok {taps start : List Int} (hs : OkBs start) (n : Nat) : OkBs (runL taps start n) := fun x hx => by
  rw [runL_map] at hx
  obtain ⟨i, _, rfl⟩ := List.mem_map.1 hx
  exact rb_01 hs i
theorem run_chk {taps start : List Int} (hs : OkBs start) {n : Nat} (h : n ≤ 128) : chkB (runL taps start n) = 0 := chkB0.2 ⟨by rw [runL_len]; exact h, run_ok hs n⟩
theorem run_lc {taps start : List Int} (hl : start.length = taps.length) (n : Nat) : LC (bt (runL taps start n)) n ≤ taps.length := by
  rw [lc_congr (s' := rb taps start) fun i hi => run_bt hi]
  exact lc_le ⟨_, rb_mk hl n⟩
/-- where a register fails first -/
theorem fails {c : Nat → Int} {L n a : Nat} {s : Nat → Int} (h : Mk c L s a) (hn : ¬ Mk c L s n) : ∃ k, a ≤ k ∧ k < n ∧ L ≤ k ∧ Mk c L s k ∧ ¬ Eq2 (pre c L s k) (s k) := by
  have hx : ∃ i, L ≤ i ∧ i < n ∧ ¬ Eq2 (pre c L s i) (s i) := Classical.byContradiction fun g => hn fun i h1 h2 => Classical.byContradiction fun e => g ⟨i, h1, h2, e⟩
  obtain ⟨N, hN⟩ := hx
  obtain ⟨k, _, ⟨q1, q2, q3⟩, q4⟩ := least (p := fun i => L ≤ i ∧ i < n ∧ ¬ Eq2 (pre c L s i) (s i)) N hN
  have hk : Mk c L s k := fun i h1 h2 => Classical.byContradiction fun e => q4 i h2 ⟨h1, by omega, e⟩
  refine ⟨k, ?_, q2, q1, hk, q3⟩
  rcases Nat.lt_or_ge k a with g | g
  · exact absurd (h k q1 g) q3
  · exact g
theorem odd_mul {a b x : Int} (h : ¬ Eq2 a b) : Eq2 (a * x + b * x) x := by
  unfold Eq2 at h
  obtain ⟨q, hq⟩ : ∃ q, a + b = 2 * q + 1 := ⟨(a + b) / 2, by omega⟩
  have e : a * x + b * x = 2 * (q * x) + x := by rw [← Int.add_mul, hq, Int.add_mul, Int.mul_assoc, Int.one_mul]
  rw [e]
  unfold Eq2
  omega
/-- one register alone -/
theorem only {c d : Nat → Int} {m n : Nat} {s : Nat → Int} (hc : Mk c m s n) (hd : Mk d m s n) (hn : 2 * m ≤ n) (hm : LC s n = m) : ∀ j, j < m → Eq2 (c j) (d j) := by
  refine fun j hj => Classical.byContradiction fun hne => ?_
  obtain ⟨j0, _, ⟨q1, q2⟩, q3⟩ := least (p := fun j => j < m ∧ ¬ Eq2 (c j) (d j)) j ⟨hj, hne⟩
  have hlow : ∀ i, i < j0 → Eq2 (c i) (d i) := fun i hi => Classical.byContradiction fun e => q3 i hi ⟨by omega, e⟩
  obtain ⟨r, hr⟩ : ∃ r, m = j0 + 1 + r := ⟨m - (j0 + 1), by omega⟩
  subst hr
  have hmk : Mk (fun u => c (j0 + 1 + u) + d (j0 + 1 + u)) r s (n - 1 - j0) := fun i h1 h2 => by
    have e1 := hc (i + 1 + j0) (by omega) (by omega)
    have e2 := hd (i + 1 + j0) (by omega) (by omega)
    have hsp : ∀ f : Nat → Int, pre f (j0 + 1 + r) s (i + 1 + j0) = (sm j0 (fun t => f t * s (i + 1 + j0 - 1 - t)) + f j0 * s i) + sm r (fun u => f (j0 + 1 + u) * s (i - 1 - u)) := fun f => by
      unfold pre
      rw [sm_split]
      congr 1
      · show sm j0 _ + f j0 * s (i + 1 + j0 - 1 - j0) = _
        rw [show i + 1 + j0 - 1 - j0 = i by omega]
      · exact sm_congr fun u _ => by rw [show i + 1 + j0 - 1 - (j0 + 1 + u) = i - 1 - u by omega]
    rw [hsp] at e1 e2
    have e3 : Eq2 (sm j0 fun t => c t * s (i + 1 + j0 - 1 - t)) (sm j0 fun t => d t * s (i + 1 + j0 - 1 - t)) := sm_eq2 fun t ht => by
      have := (hlow t ht).mul (s (i + 1 + j0 - 1 - t))
      rwa [Int.mul_comm, Int.mul_comm (s (i + 1 + j0 - 1 - t))] at this
    have e4 : pre (fun u => c (j0 + 1 + u) + d (j0 + 1 + u)) r s i = sm r (fun u => c (j0 + 1 + u) * s (i - 1 - u)) + sm r (fun u => d (j0 + 1 + u) * s (i - 1 - u)) := by
      unfold pre
      rw [← sm_add]
      exact sm_congr fun u _ => Int.add_mul _ _ _
    have e5 := odd_mul (x := s i) q2
    rw [e4]
    unfold Eq2 at *
    omega
  have hno : ¬ Mk (fun u => c (j0 + 1 + u) + d (j0 + 1 + u)) r s n := fun g => by
    have := lc_le ⟨_, g⟩
    omega
  obtain ⟨k, k1, k2, k3, k4, k5⟩ := fails hmk hno
  have := massey k4 k3 k5 (hc.le (show k + 1 ≤ n by omega))
  omega
/-- a shortest register goes on like any other one -/
theorem same_on {taps start l x : List Int} {n : Nat} (hs : OkBs start) (hl : start.length = taps.length) (hx : x.length = l.length) (ho : OkBs x) (hb : ∀ i, i < l.length → bt x i = rb taps start i) (hmk : Mk (bt l) l.length (rb taps start) n) (hm : l.length ≤ taps.length) (hn : 2 * taps.length ≤ n) (i : Nat) : rb taps start i = rb l x i := by
  induction i using Nat.strongRecOn with
  | ind i ih =>
    rcases Nat.lt_or_ge i l.length with g | g
    · rw [← hb i g, rb_start (show i < x.length by omega)]
    · have e1 := rb_next (taps := l) (start := x) hx g
      have e2 : pre (bt l) l.length (rb l x) i = pre (bt l) l.length (rb taps start) i := sm_congr fun j hj => by rw [ih (i - 1 - j) (by omega)]
      rw [e1, e2]
      have h01 := rb_01 (taps := taps) hs i
      rcases Nat.lt_or_ge i n with q | q
      · have := hmk i g q
        unfold Eq2 at this
        omega
      · have m1 : Mk (bt l) l.length (rb taps start) i := fun j h1 h2 => by
          have e3 := rb_next (taps := l) (start := x) hx h1
          have e4 : pre (bt l) l.length (rb l x) j = pre (bt l) l.length (rb taps start) j := sm_congr fun t ht => by rw [ih (j - 1 - t) (by omega)]
          rw [← ih j h2, e4] at e3
          rw [e3]
          exact (Eq2.mod _).symm
        have e5 := next_same m1 (rb_mk (taps := taps) hl i) (by omega)
        have e6 := rb_next hl (show taps.length ≤ i by omega)
        unfold Eq2 at e5
        omega
theorem other_is {bits other : List Int} (h : chkB bits = 0) (hr : regE bits other = 0) (hl : other.length = LC (bt bits) bits.length) (hn : 2 * LC (bt bits) bits.length ≤ bits.length) : other = shortL bits := by
  have h1 := regE0.1 hr
  have h2 := mk_iff.1 h1.2.2
  have h3 := mk_iff.1 (short_mk h)
  rw [short_len h] at h3
  rw [hl] at h2
  have h4 := only h2 h3 hn rfl
  refine ext_getD 0 (by rw [short_len h, hl]) fun i hi => ?_
  have a := bt_ok (chkB0.1 h1.2.1).2 i
  have b := bt_ok (short_ok bits) i
  exact Eq2.bits a b (h4 i (by omega))
theorem chk_take' {l : List Int} (h : chkB l = 0) (n : Nat) : chkB (l.take n) = 0 := by
  have h1 := chkB0.1 h
  exact chkB0.2 ⟨by rw [List.length_take]; omega, fun x hx => h1.2 x (List.mem_of_mem_take hx)⟩
theorem sub_take {B : Nat} {w : World} {a : Option Addr} {n c m : Nat} {xs : List Int} (h : RdF encI 1 B w (.slice a n c) xs) (h1 : m ≤ n) (h2 : m ≤ c) : RdF encI 1 B w (.slice (if c = 0 then a else ofs a (0 * 1)) (m - 0) (c - 0)) (xs.take m) := by
  have := h.sub (lo := 0) (hi := m) (mx := c) (by omega) h2 h1
  exact this
theorem run_ext {t s t' s' : List Int} (h : ∀ i, rb t s i = rb t' s' i) (n : Nat) : runL t' s' n = runL t s n := by
  rw [runL_map t' s', runL_map t s]
  exact List.map_congr_left fun i _ => (h i).symm
theorem law_WaveOnly (w : World) (v u x : Value) (taps start other : List Int) (many : Nat) (hR : RdF encI 1 w.heap.size w v taps) (hU : RdF encI 1 w.heap.size w u start) (hX : RdF encI 1 w.heap.size w x other) (hm : many ≤ 255) : Ret Try.prog 11 [v, u, .int .u8 (many : Int), x].toArray w (.bool true) := by
  refine Ret.of mixed tyTab Try.func11 rfl rfl ?_
  replace hR : RdF encI 1 (fnCx mixed tyTab Try.f11.ntmps w).B (fnCx mixed tyTab Try.f11.ntmps w).w0 v taps := hR
  replace hU : RdF encI 1 (fnCx mixed tyTab Try.f11.ntmps w).B (fnCx mixed tyTab Try.f11.ntmps w).w0 u start := hU
  replace hX : RdF encI 1 (fnCx mixed tyTab Try.f11.ntmps w).B (fnCx mixed tyTab Try.f11.ntmps w).w0 x other := hX
  refine W.sreg ?_
  refine WO.p rfl rfl ?_
  refine WO.nil ?_
  refine W.seq ?_
  refine W.sreg ?_
  refine WO.p rfl rfl ?_
  refine WO.callR (r := .bool (bl (chkB taps = 0))) rfl Try.call28 (fun L w hi => l_fine w v taps (hR.later hi)) rfl ?_
  refine WO.p rfl rfl (WO.p rfl rfl ?_)
  refine WO.guard_nbl rfl rfl (fun c1 => ?_) (fun c1 => ?_)
  · first
    | (exfalso; omega)
    | (refine WO.no rfl rfl (WO.no rfl rfl (WO.no rfl rfl (WO.p rfl rfl (WO.p rfl rfl (WO.no rfl rfl (WO.no rfl rfl (WO.no rfl rfl (WO.no rfl rfl (WO.no rfl rfl (WO.p rfl rfl (WO.p rfl rfl ?_)))))))))))
       refine WO.no rfl rfl (WO.no rfl rfl (WO.no rfl rfl (WO.p rfl rfl (WO.p rfl rfl (WO.no rfl rfl (WO.no rfl rfl (WO.no rfl rfl (WO.p rfl rfl ?_))))))))
       refine WO.nil ?_
       refine W.cond_t rfl ?_
       refine W.sreg ?_
       refine WO.callR rfl Try.call15 (fun L w hi => l_Works w) rfl ?_
       refine WO.p rfl rfl ?_
       refine WO.nil ?_
       refine W.ret ?_
       first | exact fin.ret (Res.one rfl (RV.tmp rfl)) rfl | (exfalso; omega))
  · first
    | (exfalso; omega)
    | (refine WO.pg rfl rfl rfl (WO.go' rfl ?_)
       refine WO.callR (r := .bool (bl (chkB start = 0))) rfl Try.call28 (fun L w hi => l_fine w u start (hU.later hi)) rfl ?_
       refine WO.pg rfl rfl rfl (WO.p rfl rfl (WO.p rfl rfl ?_))
       refine WO.guard_nbl rfl rfl (fun c2 => ?_) (fun c2 => ?_)
       · first
         | (exfalso; omega)
         | (refine WO.no rfl rfl (WO.no rfl rfl (WO.no rfl rfl (WO.no rfl rfl (WO.no rfl rfl (WO.p rfl rfl (WO.p rfl rfl (WO.no rfl rfl (WO.no rfl rfl (WO.no rfl rfl (WO.p rfl rfl (WO.p rfl rfl ?_)))))))))))
            refine WO.no rfl rfl (WO.no rfl rfl (WO.no rfl rfl (WO.p rfl rfl ?_)))
            refine WO.nil ?_
            refine W.cond_t rfl ?_
            refine W.sreg ?_
            refine WO.callR rfl Try.call15 (fun L w hi => l_Works w) rfl ?_
            refine WO.p rfl rfl ?_
            refine WO.nil ?_
            refine W.ret ?_
            first | exact fin.ret (Res.one rfl (RV.tmp rfl)) rfl | (exfalso; omega))
       · first
         | (exfalso; omega)
         | (refine WO.pg rfl rfl rfl (WO.go' rfl ?_)
            refine' WO.len (n := _) rfl rfl ?hs rfl ?_
            case hs => (first | exact hR.sl)
            refine WO.pg rfl rfl rfl (WO.go' rfl ?_)
            refine' WO.len (n := _) rfl rfl ?hs rfl ?_
            case hs => (first | exact hU.sl)
            refine WO.pg rfl rfl rfl (WO.p rfl rfl (WO.p rfl rfl ?_))
            refine WO.guard_bl rfl rfl (fun c3 => ?_) (fun c3 => ?_)
            · first
              | (exfalso; omega)
              | (refine WO.no rfl rfl (WO.no rfl rfl (WO.no rfl rfl (WO.p rfl rfl (WO.p rfl rfl (WO.no rfl rfl (WO.no rfl rfl (WO.no rfl rfl (WO.p rfl rfl ?_))))))))
                 refine WO.nil ?_
                 refine W.cond_t rfl ?_
                 refine W.sreg ?_
                 refine WO.callR rfl Try.call15 (fun L w hi => l_Works w) rfl ?_
                 refine WO.p rfl rfl ?_
                 refine WO.nil ?_
                 refine W.ret ?_
                 first | exact fin.ret (Res.one rfl (RV.tmp rfl)) rfl | (exfalso; omega))
            · first
              | (exfalso; omega)
              | (refine WO.pg rfl rfl rfl (WO.go' rfl ?_)
                 refine' WO.len (n := _) rfl rfl ?hs rfl ?_
                 case hs => (first | exact hR.sl)
                 refine WO.pg rfl rfl rfl (WO.p rfl rfl (WO.p rfl rfl ?_))
                 refine WO.guard_bl rfl rfl (fun c4 => ?_) (fun c4 => ?_)
                 · first
                   | (exfalso; omega)
                   | (refine WO.no rfl rfl (WO.no rfl rfl (WO.no rfl rfl (WO.p rfl rfl ?_)))
                      refine WO.nil ?_
                      refine W.cond_t rfl ?_
                      refine W.sreg ?_
                      refine WO.callR rfl Try.call15 (fun L w hi => l_Works w) rfl ?_
                      refine WO.p rfl rfl ?_
                      refine WO.nil ?_
                      refine W.ret ?_
                      first | exact fin.ret (Res.one rfl (RV.tmp rfl)) rfl | (exfalso; omega))
                 · first
                   | (exfalso; omega)
                   | (refine WO.pg rfl rfl rfl (WO.go' rfl ?_)
                      refine' WO.len (n := _) rfl rfl ?hs rfl ?_
                      case hs => (first | exact hX.sl)
                      refine WO.pg rfl rfl rfl (WO.p rfl rfl ?_)
                      refine WO.nil ?_
                      refine W.cond_bl rfl (fun c5 => ?_) (fun c5 => ?_)
                      · first
                        | (exfalso; omega)
                        | (refine W.sreg ?_
                           refine WO.callR rfl Try.call15 (fun L w hi => l_Works w) rfl ?_
                           refine WO.p rfl rfl ?_
                           refine WO.nil ?_
                           refine W.ret ?_
                           first | exact fin.ret (Res.one rfl (RV.tmp rfl)) rfl | (exfalso; omega))
                      · first
                        | (exfalso; omega)
                        | (refine W.skip ?_
                           have h1 := chkB0.1 (show chkB taps = 0 by omega)
                           have h2 := chkB0.1 (show chkB start = 0 by omega)
                           have hln : start.length = taps.length := by omega
                           have hok : chkS taps start = 0 := chkS0.2 ⟨⟨by omega, by omega⟩, hln⟩
                           obtain ⟨n, hn⟩ : ∃ n, n = many % 129 := ⟨_, rfl⟩
                           have hnz : (many : Int).tmod 129 = (n : Int) := by rw [Int.tmod_eq_emod_of_nonneg (by omega)]; omega
                           have hck := run_chk (taps := taps) h2.2 (show n ≤ 128 by omega)
                           have hsh := short_len hck
                           have hlc := run_lc (taps := taps) hln n
                           rw [runL_len] at hsh
                           obtain ⟨m, hmd⟩ : ∃ m, m = LC (bt (runL taps start n)) n := ⟨_, rfl⟩
                           have hmn := lc_len (bt (runL taps start n)) n
                           rw [← hmd] at hsh hlc hmn
                           refine W.sreg ?_
                           refine WO.p rfl rfl (WO.conv64 rfl rfl rfl (by (first | (unfold in64; omega) | (unfold in64; omega))) rfl (WO.rem rfl rfl (by first | omega | assumption) rfl (WO.p rfl rfl ?_)))
                           refine WO.nil ?_
                           rw [hnz]
                           refine W.sreg ?_
                           refine WO.p rfl rfl (WO.p rfl rfl (WO.p rfl rfl ?_))
                           refine WO.call (Post := fun r Hq => ∃ y : Value, r = .tuple #[y, .int .i64 0] ∧ Hq = [OwE encI 3 1 y (runL taps start n)]) rfl Try.call31 (fun L w hi => by have h := c_Run w v u taps start (n : Int) (hR.later hi) (hU.later hi); rw [runE_0.2 ⟨hok, by omega, by omega⟩, if_pos rfl, Int.toNat_natCast] at h; exact h) rfl ?_
                           rintro _ _ ⟨y1, rfl, rfl⟩
                           refine WO.p rfl rfl (WO.p rfl rfl (WO.p rfl rfl (WO.p rfl rfl (WO.p rfl rfl ?_))))
                           refine WO.nil ?_
                           refine W.seq ?_
                           refine W.fact (p := HasCap y1 (runL taps start n).length ∧ IsSl y1 (runL taps start n).length) (fun L w hi => ⟨HasCap.of_ow (enc := encI) (e := 3) (sz := 1) (by repeat (first | exact Pick.head | apply Pick.tail)) hi, OwE.sl (enc := encI) (e := 3) (sz := 1) (by repeat (first | exact Pick.head | apply Pick.tail)) L w hi⟩) ?_
                           rintro ⟨⟨ya, yc, rfl, hyc⟩, hs1⟩
                           rw [runL_len] at hyc hs1 ⊢
                           refine W.sreg ?_
                           refine WO.p rfl rfl (WO.p rfl rfl (WO.p rfl rfl ?_))
                           refine WO.guard_bl rfl rfl (fun c6 => ?_) (fun c6 => ?_)
                           · first
                             | (exfalso; omega)
                             | (refine WO.no rfl rfl (WO.no rfl rfl (WO.no rfl rfl (WO.no rfl rfl (WO.p rfl rfl (WO.p rfl rfl (WO.no rfl rfl (WO.no rfl rfl (WO.no rfl rfl (WO.p rfl rfl ?_)))))))))
                                refine WO.nil ?_
                                refine W.cond_t rfl ?_
                                refine W.sreg ?_
                                refine WO.p rfl rfl ?_
                                refine WO.nil ?_
                                refine W.ret ?_
                                first | exact fin.ret (Res.one rfl (RV.tmp rfl)) rfl | (exfalso; omega))
                           · first
                             | (exfalso; omega)
                             | (refine WO.pg rfl rfl rfl (WO.go' rfl ?_)
                                refine' WO.len (n := _) rfl rfl ?hs rfl ?_
                                case hs => (first | exact hs1)
                                refine WO.pg rfl rfl rfl (WO.pg rfl rfl rfl (WO.p rfl rfl (WO.p rfl rfl ?_)))
                                refine WO.guard_bl rfl rfl (fun c7 => ?_) (fun c7 => ?_)
                                · first
                                  | (exfalso; omega)
                                  | (refine WO.no rfl rfl (WO.no rfl rfl (WO.no rfl rfl (WO.p rfl rfl ?_)))
                                     refine WO.nil ?_
                                     refine W.cond_t rfl ?_
                                     refine W.sreg ?_
                                     refine WO.p rfl rfl ?_
                                     refine WO.nil ?_
                                     refine W.ret ?_
                                     first | exact fin.ret (Res.one rfl (RV.tmp rfl)) rfl | (exfalso; omega))
                                · first
                                  | (exfalso; omega)
                                  | (refine WO.pg rfl rfl rfl (WO.go' rfl ?_)
                                     refine WO.callR (r := .bool true) rfl Try.call28 (fun L w hi => by have h := l_fine w _ (runL taps start n) (RdF.of_ow (e := 3) encI_ok (by repeat (first | exact Pick.head | apply Pick.tail)) hi); rw [bl_t.2 hck] at h; exact h) rfl ?_
                                     refine WO.pg rfl rfl rfl (WO.p rfl rfl ?_)
                                     refine WO.nil ?_
                                     refine W.cond_f rfl ?_
                                     refine W.skip ?_
                                     refine W.sreg ?_
                                     refine WO.p rfl rfl ?_
                                     refine WO.call (Post := fun r Hq => ∃ y : Value, r = .tuple #[y, .int .i64 0] ∧ Hq = [OwE encI 3 1 y (shortL (runL taps start n))]) rfl Try.call18 (fun L w hi => by have h := c_Shortest w _ (runL taps start n) (RdF.of_ow (e := 3) encI_ok (by repeat (first | exact Pick.head | apply Pick.tail)) hi); rw [hck, if_pos rfl] at h; exact h) rfl ?_
                                     rintro _ _ ⟨r2, rfl, rfl⟩
                                     refine WO.p rfl rfl (WO.p rfl rfl (WO.p rfl rfl (WO.p rfl rfl (WO.p rfl rfl ?_))))
                                     refine WO.nil ?_
                                     refine W.seq ?_
                                     refine W.fact (OwE.sl (enc := encI) (e := 3) (sz := 1) (v := r2) (xs := shortL (runL taps start n)) (by repeat (first | exact Pick.head | apply Pick.tail))) ?_
                                     intro hs2
                                     rw [hsh] at hs2
                                     refine W.sreg ?_
                                     refine WO.p rfl rfl (WO.p rfl rfl (WO.p rfl rfl ?_))
                                     refine WO.guard_bl rfl rfl (fun c8 => ?_) (fun c8 => ?_)
                                     · first
                                       | (exfalso; omega)
                                       | (refine WO.no rfl rfl (WO.no rfl rfl (WO.no rfl rfl (WO.no rfl rfl (WO.no rfl rfl (WO.p rfl rfl (WO.p rfl rfl (WO.no rfl rfl (WO.no rfl rfl (WO.no rfl rfl (WO.no rfl rfl (WO.p rfl rfl ?_)))))))))))
                                          refine WO.nil ?_
                                          refine W.cond_t rfl ?_
                                          refine W.sreg ?_
                                          refine WO.p rfl rfl ?_
                                          refine WO.nil ?_
                                          refine W.ret ?_
                                          first | exact fin.ret (Res.one rfl (RV.tmp rfl)) rfl | (exfalso; omega))
                                     · first
                                       | (exfalso; omega)
                                       | (refine WO.pg rfl rfl rfl (WO.go' rfl ?_)
                                          refine' WO.len (n := _) rfl rfl ?hs rfl ?_
                                          case hs => (first | exact hs2)
                                          refine WO.pg rfl rfl rfl (WO.go' rfl ?_)
                                          refine' WO.len (n := _) rfl rfl ?hs rfl ?_
                                          case hs => (first | exact hR.sl)
                                          refine WO.pg rfl rfl rfl (WO.p rfl rfl (WO.p rfl rfl ?_))
                                          refine WO.guard_bl rfl rfl (fun c9 => ?_) (fun c9 => ?_)
                                          · first
                                            | (exfalso; omega)
                                            | (refine WO.no rfl rfl (WO.no rfl rfl (WO.no rfl rfl (WO.no rfl rfl (WO.p rfl rfl ?_))))
                                               refine WO.nil ?_
                                               refine W.cond_t rfl ?_
                                               refine W.sreg ?_
                                               refine WO.p rfl rfl ?_
                                               refine WO.nil ?_
                                               refine W.ret ?_
                                               first | exact fin.ret (Res.one rfl (RV.tmp rfl)) rfl | (exfalso; omega))
                                          · first
                                            | (exfalso; omega)
                                            | (refine WO.pg rfl rfl rfl (WO.pg rfl rfl rfl (WO.go' rfl ?_))
                                               refine WO.callR (r := .int .i64 0) rfl Try.call20 (fun L w hi => by have h := ref_CheckRegister w (.slice ya n yc) r2 (runL taps start n) (shortL (runL taps start n)) (RdF.of_ow (e := 3) encI_ok (by repeat (first | exact Pick.head | apply Pick.tail)) hi) (RdF.of_ow (e := 3) encI_ok (by repeat (first | exact Pick.head | apply Pick.tail)) hi) ⟨ya, yc, by rw [runL_len], by rw [runL_len]; exact hyc⟩; rw [short_reg hck] at h; exact h) rfl ?_
                                               refine WO.pg rfl rfl rfl (WO.p rfl rfl ?_)
                                               refine WO.nil ?_
                                               refine W.cond_bl rfl (fun c10 => ?_) (fun c10 => ?_)
                                               · first
                                                 | (exfalso; omega)
                                                 | (refine W.sreg ?_
                                                    refine WO.p rfl rfl ?_
                                                    refine WO.nil ?_
                                                    refine W.ret ?_
                                                    first | exact fin.ret (Res.one rfl (RV.tmp rfl)) rfl | (exfalso; omega))
                                               · first
                                                 | (exfalso; omega)
                                                 | (refine W.skip ?_
                                                    refine W.seq ?_
                                                    refine W.sreg ?_
                                                    refine WO.p rfl rfl ?_
                                                    refine' WO.len (n := _) rfl rfl ?hs rfl ?_
                                                    case hs => (first | exact hs2)
                                                    refine WO.ar rfl rfl rfl (by (first | (unfold in64; omega) | (unfold in64; omega))) rfl (WO.p rfl rfl (WO.p rfl rfl (WO.p rfl rfl ?_)))
                                                    refine WO.guard_bl rfl rfl (fun c11 => ?_) (fun c11 => ?_)
                                                    · first
                                                      | (exfalso; omega)
                                                      | (refine WO.pg rfl rfl rfl (WO.go' rfl ?_)
                                                         refine' WO.len (n := _) rfl rfl ?hs rfl ?_
                                                         case hs => (first | exact hX.sl)
                                                         refine WO.pg rfl rfl rfl (WO.go' rfl ?_)
                                                         refine' WO.len (n := _) rfl rfl ?hs rfl ?_
                                                         case hs => (first | exact hs2)
                                                         refine WO.pg rfl rfl rfl (WO.p rfl rfl (WO.p rfl rfl ?_))
                                                         refine WO.guard_bl rfl rfl (fun c12 => ?_) (fun c12 => ?_)
                                                         · first
                                                           | (exfalso; omega)
                                                           | (refine WO.pg rfl rfl rfl (WO.go' rfl ?_)
                                                              refine WO.callR (r := .bool (bl (chkB other = 0))) rfl Try.call28 (fun L w hi => l_fine w x other (hX.later hi)) rfl ?_
                                                              refine WO.p rfl rfl (WO.p rfl rfl ?_)
                                                              refine WO.guard_bl rfl rfl (fun c13 => ?_) (fun c13 => ?_)
                                                              · first
                                                                | (exfalso; omega)
                                                                | (refine WO.pg rfl rfl rfl (WO.pg rfl rfl rfl (WO.go' rfl ?_))
                                                                   refine WO.callR (r := .int .i64 (regE (runL taps start n) other)) rfl Try.call35 (fun L w hi => c_CheckRegister w _ x (runL taps start n) other (RdF.of_ow (e := 3) encI_ok (by repeat (first | exact Pick.head | apply Pick.tail)) hi) (hX.later hi)) rfl ?_
                                                                   refine WO.pg rfl rfl rfl (WO.p rfl rfl (WO.p rfl rfl ?_))
                                                                   refine WO.guard_bl rfl rfl (fun c14 => ?_) (fun c14 => ?_)
                                                                   · first
                                                                     | (exfalso; omega)
                                                                     | (refine WO.pg rfl rfl rfl (WO.pg rfl rfl rfl (WO.go' rfl ?_))
                                                                        have hoth : other = shortL (runL taps start n) := other_is hck (by omega) (by rw [runL_len, ← hmd]; omega) (by rw [runL_len, ← hmd]; omega)
                                                                        refine WO.callR (r := .bool true) rfl Try.call19 (fun L w hi => ints_t (l_ints w x r2 other (shortL (runL taps start n)) (hX.later hi) (RdF.of_ow (e := 3) encI_ok (by repeat (first | exact Pick.head | apply Pick.tail)) hi)) hoth) rfl ?_
                                                                        refine WO.pg rfl rfl rfl (WO.p rfl rfl ?_)
                                                                        refine WO.nil ?_
                                                                        refine W.cond_f rfl ?_
                                                                        refine W.skip ?_
                                                                        refine W.seq ?_
                                                                        refine W.sreg ?_
                                                                        refine WO.p rfl rfl ?_
                                                                        refine' WO.len (n := _) rfl rfl ?hs rfl ?_
                                                                        case hs => (first | exact hR.sl)
                                                                        refine WO.ar rfl rfl rfl (by (first | (unfold in64; omega) | (unfold in64; omega))) rfl (WO.p rfl rfl (WO.p rfl rfl ?_))
                                                                        refine WO.nil ?_
                                                                        refine W.cond_bl rfl (fun c15 => ?_) (fun c15 => ?_)
                                                                        · first
                                                                          | (exfalso; omega)
                                                                          | (refine W.sreg ?_
                                                                             refine WO.callR rfl Try.call15 (fun L w hi => l_Works w) rfl ?_
                                                                             refine WO.p rfl rfl ?_
                                                                             refine WO.nil ?_
                                                                             refine W.ret ?_
                                                                             first | exact fin.ret (Res.one rfl (RV.tmp rfl)) rfl | (exfalso; omega))
                                                                        · first
                                                                          | (exfalso; omega)
                                                                          | (refine W.skip ?_
                                                                             have hx1 : ((runL taps start n).take m).length = m := take_len (by rw [runL_len]; omega)
                                                                             have hx2 := chk_take' hck m
                                                                             have hgo : ∀ i, rb taps start i = rb (shortL (runL taps start n)) ((runL taps start n).take m) i := fun i => same_on (n := n) h2.2 hln (by rw [hx1, hsh]) (chkB0.1 hx2).2 (fun i hi => by rw [bt_take (by omega), run_bt (by omega)]) (by have q := mk_iff.1 (short_mk hck); rw [runL_len] at q; exact q.congr (fun _ _ => rfl) (fun i hi => run_bt hi)) (by omega) (by omega) i
                                                                             have hok2 : chkS (shortL (runL taps start n)) ((runL taps start n).take m) = 0 := chkS0.2 ⟨⟨short_chk hck, hx2⟩, by rw [hx1, hsh]⟩
                                                                             have heq : runL (shortL (runL taps start n)) ((runL taps start n).take m) 200 = runL taps start 200 := run_ext hgo 200
                                                                             refine W.sreg ?_
                                                                             refine WO.p rfl rfl (WO.p rfl rfl ?_)
                                                                             refine WO.call (Post := fun r Hq => ∃ y : Value, r = .tuple #[y, .int .i64 0] ∧ Hq = [OwE encI 3 1 y (runL taps start 200)]) rfl Try.call31 (fun L w hi => by have h := c_Run w v u taps start 200 (hR.later hi) (hU.later hi); rw [runE_0.2 ⟨hok, by omega, by omega⟩, if_pos rfl, show (200 : Int).toNat = 200 from rfl] at h; exact h) rfl ?_
                                                                             rintro _ _ ⟨z1, rfl, rfl⟩
                                                                             refine WO.p rfl rfl (WO.p rfl rfl (WO.p rfl rfl (WO.p rfl rfl (WO.p rfl rfl ?_))))
                                                                             refine WO.nil ?_
                                                                             refine W.sreg ?_
                                                                             refine WO.p rfl rfl (WO.p rfl rfl (WO.p rfl rfl ?_))
                                                                             refine' WO.len (n := _) rfl rfl ?hs rfl ?_
                                                                             case hs => (first | exact hs2)
                                                                             refine WO.slSl (lo := 0) (hi := m) (mx := yc) rfl rfl bnd.no (bnd.at rfl) bnd.no (by simp) (by omega) (by omega) (by omega) rfl ?_
                                                                             refine WO.call (Post := fun r Hq => ∃ y : Value, r = .tuple #[y, .int .i64 0] ∧ Hq = [OwE encI 3 1 y (runL taps start 200)]) rfl Try.call31 (fun L w hi => by have h := c_Run w r2 _ (shortL (runL taps start n)) ((runL taps start n).take m) 200 (RdF.of_ow (e := 3) encI_ok (by repeat (first | exact Pick.head | apply Pick.tail)) hi) (sub_take (RdF.of_ow (e := 3) encI_ok (by repeat (first | exact Pick.head | apply Pick.tail)) hi) (by omega) (by omega)); rw [runE_0.2 ⟨hok2, by omega, by omega⟩, if_pos rfl, show (200 : Int).toNat = 200 from rfl, heq] at h; exact h) rfl ?_
                                                                             rintro _ _ ⟨z2, rfl, rfl⟩
                                                                             refine WO.p rfl rfl (WO.p rfl rfl (WO.p rfl rfl (WO.p rfl rfl (WO.p rfl rfl ?_))))
                                                                             refine WO.nil ?_
                                                                             refine W.sreg ?_
                                                                             refine WO.p rfl rfl (WO.p rfl rfl (WO.p rfl rfl ?_))
                                                                             refine WO.guard_bl rfl rfl (fun c16 => ?_) (fun c16 => ?_)
                                                                             · first
                                                                               | (exfalso; omega)
                                                                               | (refine WO.pg rfl rfl rfl (WO.pg rfl rfl rfl (WO.p rfl rfl (WO.p rfl rfl ?_)))
                                                                                  refine WO.guard_bl rfl rfl (fun c17 => ?_) (fun c17 => ?_)
                                                                                  · first
                                                                                    | (exfalso; omega)
                                                                                    | (refine WO.pg rfl rfl rfl (WO.pg rfl rfl rfl (WO.go' rfl ?_))
                                                                                       refine WO.callR (r := .bool true) rfl Try.call19 (fun L w hi => ints_t (l_ints w z1 z2 (runL taps start 200) (runL taps start 200) (RdF.of_ow (e := 3) encI_ok (by repeat (first | exact Pick.head | apply Pick.tail)) hi) (RdF.of_ow (e := 3) encI_ok (by repeat (first | exact Pick.head | apply Pick.tail)) hi)) rfl) rfl ?_
                                                                                       refine WO.p rfl rfl (WO.p rfl rfl (WO.go' rfl ?_))
                                                                                       refine WO.callR rfl Try.call15 (fun L w hi => l_Works w) rfl ?_
                                                                                       refine WO.p rfl rfl (WO.p rfl rfl ?_)
                                                                                       refine WO.nil ?_
                                                                                       refine W.ret ?_
                                                                                       first | exact fin.ret (Res.one rfl (RV.tmp rfl)) rfl | (exfalso; omega))
                                                                                  · first
                                                                                    | (exfalso; omega)
                                                                                    | (refine WO.no rfl rfl (WO.no rfl rfl (WO.no rfl rfl (WO.p rfl rfl (WO.p rfl rfl (WO.no rfl rfl (WO.p rfl rfl (WO.p rfl rfl ?_)))))))
                                                                                       refine WO.nil ?_
                                                                                       refine W.ret ?_
                                                                                       first | exact fin.ret (Res.one rfl (RV.tmp rfl)) rfl | (exfalso; omega)))
                                                                             · first
                                                                               | (exfalso; omega)
                                                                               | (refine WO.no rfl rfl (WO.no rfl rfl (WO.p rfl rfl (WO.p rfl rfl (WO.no rfl rfl (WO.no rfl rfl (WO.no rfl rfl (WO.p rfl rfl (WO.p rfl rfl (WO.no rfl rfl (WO.p rfl rfl (WO.p rfl rfl ?_)))))))))))
                                                                                  refine WO.nil ?_
                                                                                  refine W.ret ?_
                                                                                  first | exact fin.ret (Res.one rfl (RV.tmp rfl)) rfl | (exfalso; omega))))
                                                                   · first
                                                                     | (exfalso; omega)
                                                                     | (refine WO.no rfl rfl (WO.no rfl rfl (WO.no rfl rfl (WO.no rfl rfl (WO.p rfl rfl ?_))))
                                                                        refine WO.nil ?_
                                                                        refine W.cond_f rfl ?_
                                                                        refine W.skip ?_
                                                                        refine W.seq ?_
                                                                        refine W.sreg ?_
                                                                        refine WO.p rfl rfl ?_
                                                                        refine' WO.len (n := _) rfl rfl ?hs rfl ?_
                                                                        case hs => (first | exact hR.sl)
                                                                        refine WO.ar rfl rfl rfl (by (first | (unfold in64; omega) | (unfold in64; omega))) rfl (WO.p rfl rfl (WO.p rfl rfl ?_))
                                                                        refine WO.nil ?_
                                                                        refine W.cond_bl rfl (fun c18 => ?_) (fun c18 => ?_)
                                                                        · first
                                                                          | (exfalso; omega)
                                                                          | (refine W.sreg ?_
                                                                             refine WO.callR rfl Try.call15 (fun L w hi => l_Works w) rfl ?_
                                                                             refine WO.p rfl rfl ?_
                                                                             refine WO.nil ?_
                                                                             refine W.ret ?_
                                                                             first | exact fin.ret (Res.one rfl (RV.tmp rfl)) rfl | (exfalso; omega))
                                                                        · first
                                                                          | (exfalso; omega)
                                                                          | (refine W.skip ?_
                                                                             have hx1 : ((runL taps start n).take m).length = m := take_len (by rw [runL_len]; omega)
                                                                             have hx2 := chk_take' hck m
                                                                             have hgo : ∀ i, rb taps start i = rb (shortL (runL taps start n)) ((runL taps start n).take m) i := fun i => same_on (n := n) h2.2 hln (by rw [hx1, hsh]) (chkB0.1 hx2).2 (fun i hi => by rw [bt_take (by omega), run_bt (by omega)]) (by have q := mk_iff.1 (short_mk hck); rw [runL_len] at q; exact q.congr (fun _ _ => rfl) (fun i hi => run_bt hi)) (by omega) (by omega) i
                                                                             have hok2 : chkS (shortL (runL taps start n)) ((runL taps start n).take m) = 0 := chkS0.2 ⟨⟨short_chk hck, hx2⟩, by rw [hx1, hsh]⟩
                                                                             have heq : runL (shortL (runL taps start n)) ((runL taps start n).take m) 200 = runL taps start 200 := run_ext hgo 200
                                                                             refine W.sreg ?_
                                                                             refine WO.p rfl rfl (WO.p rfl rfl ?_)
                                                                             refine WO.call (Post := fun r Hq => ∃ y : Value, r = .tuple #[y, .int .i64 0] ∧ Hq = [OwE encI 3 1 y (runL taps start 200)]) rfl Try.call31 (fun L w hi => by have h := c_Run w v u taps start 200 (hR.later hi) (hU.later hi); rw [runE_0.2 ⟨hok, by omega, by omega⟩, if_pos rfl, show (200 : Int).toNat = 200 from rfl] at h; exact h) rfl ?_
                                                                             rintro _ _ ⟨z1, rfl, rfl⟩
                                                                             refine WO.p rfl rfl (WO.p rfl rfl (WO.p rfl rfl (WO.p rfl rfl (WO.p rfl rfl ?_))))
                                                                             refine WO.nil ?_
                                                                             refine W.sreg ?_
                                                                             refine WO.p rfl rfl (WO.p rfl rfl (WO.p rfl rfl ?_))
                                                                             refine' WO.len (n := _) rfl rfl ?hs rfl ?_
                                                                             case hs => (first | exact hs2)
                                                                             refine WO.slSl (lo := 0) (hi := m) (mx := yc) rfl rfl bnd.no (bnd.at rfl) bnd.no (by simp) (by omega) (by omega) (by omega) rfl ?_
                                                                             refine WO.call (Post := fun r Hq => ∃ y : Value, r = .tuple #[y, .int .i64 0] ∧ Hq = [OwE encI 3 1 y (runL taps start 200)]) rfl Try.call31 (fun L w hi => by have h := c_Run w r2 _ (shortL (runL taps start n)) ((runL taps start n).take m) 200 (RdF.of_ow (e := 3) encI_ok (by repeat (first | exact Pick.head | apply Pick.tail)) hi) (sub_take (RdF.of_ow (e := 3) encI_ok (by repeat (first | exact Pick.head | apply Pick.tail)) hi) (by omega) (by omega)); rw [runE_0.2 ⟨hok2, by omega, by omega⟩, if_pos rfl, show (200 : Int).toNat = 200 from rfl, heq] at h; exact h) rfl ?_
                                                                             rintro _ _ ⟨z2, rfl, rfl⟩
                                                                             refine WO.p rfl rfl (WO.p rfl rfl (WO.p rfl rfl (WO.p rfl rfl (WO.p rfl rfl ?_))))
                                                                             refine WO.nil ?_
                                                                             refine W.sreg ?_
                                                                             refine WO.p rfl rfl (WO.p rfl rfl (WO.p rfl rfl ?_))
                                                                             refine WO.guard_bl rfl rfl (fun c19 => ?_) (fun c19 => ?_)
                                                                             · first
                                                                               | (exfalso; omega)
                                                                               | (refine WO.pg rfl rfl rfl (WO.pg rfl rfl rfl (WO.p rfl rfl (WO.p rfl rfl ?_)))
                                                                                  refine WO.guard_bl rfl rfl (fun c20 => ?_) (fun c20 => ?_)
                                                                                  · first
                                                                                    | (exfalso; omega)
                                                                                    | (refine WO.pg rfl rfl rfl (WO.pg rfl rfl rfl (WO.go' rfl ?_))
                                                                                       refine WO.callR (r := .bool true) rfl Try.call19 (fun L w hi => ints_t (l_ints w z1 z2 (runL taps start 200) (runL taps start 200) (RdF.of_ow (e := 3) encI_ok (by repeat (first | exact Pick.head | apply Pick.tail)) hi) (RdF.of_ow (e := 3) encI_ok (by repeat (first | exact Pick.head | apply Pick.tail)) hi)) rfl) rfl ?_
                                                                                       refine WO.p rfl rfl (WO.p rfl rfl (WO.go' rfl ?_))
                                                                                       refine WO.callR rfl Try.call15 (fun L w hi => l_Works w) rfl ?_
                                                                                       refine WO.p rfl rfl (WO.p rfl rfl ?_)
                                                                                       refine WO.nil ?_
                                                                                       refine W.ret ?_
                                                                                       first | exact fin.ret (Res.one rfl (RV.tmp rfl)) rfl | (exfalso; omega))
                                                                                  · first
                                                                                    | (exfalso; omega)
                                                                                    | (refine WO.no rfl rfl (WO.no rfl rfl (WO.no rfl rfl (WO.p rfl rfl (WO.p rfl rfl (WO.no rfl rfl (WO.p rfl rfl (WO.p rfl rfl ?_)))))))
                                                                                       refine WO.nil ?_
                                                                                       refine W.ret ?_
                                                                                       first | exact fin.ret (Res.one rfl (RV.tmp rfl)) rfl | (exfalso; omega)))
                                                                             · first
                                                                               | (exfalso; omega)
                                                                               | (refine WO.no rfl rfl (WO.no rfl rfl (WO.p rfl rfl (WO.p rfl rfl (WO.no rfl rfl (WO.no rfl rfl (WO.no rfl rfl (WO.p rfl rfl (WO.p rfl rfl (WO.no rfl rfl (WO.p rfl rfl (WO.p rfl rfl ?_)))))))))))
                                                                                  refine WO.nil ?_
                                                                                  refine W.ret ?_
                                                                                  first | exact fin.ret (Res.one rfl (RV.tmp rfl)) rfl | (exfalso; omega)))))
                                                              · first
                                                                | (exfalso; omega)
                                                                | (refine WO.no rfl rfl (WO.no rfl rfl (WO.no rfl rfl (WO.no rfl rfl (WO.p rfl rfl (WO.p rfl rfl (WO.no rfl rfl (WO.no rfl rfl (WO.no rfl rfl (WO.no rfl rfl (WO.p rfl rfl ?_))))))))))
                                                                   refine WO.nil ?_
                                                                   refine W.cond_f rfl ?_
                                                                   refine W.skip ?_
                                                                   refine W.seq ?_
                                                                   refine W.sreg ?_
                                                                   refine WO.p rfl rfl ?_
                                                                   refine' WO.len (n := _) rfl rfl ?hs rfl ?_
                                                                   case hs => (first | exact hR.sl)
                                                                   refine WO.ar rfl rfl rfl (by (first | (unfold in64; omega) | (unfold in64; omega))) rfl (WO.p rfl rfl (WO.p rfl rfl ?_))
                                                                   refine WO.nil ?_
                                                                   refine W.cond_bl rfl (fun c21 => ?_) (fun c21 => ?_)
                                                                   · first
                                                                     | (exfalso; omega)
                                                                     | (refine W.sreg ?_
                                                                        refine WO.callR rfl Try.call15 (fun L w hi => l_Works w) rfl ?_
                                                                        refine WO.p rfl rfl ?_
                                                                        refine WO.nil ?_
                                                                        refine W.ret ?_
                                                                        first | exact fin.ret (Res.one rfl (RV.tmp rfl)) rfl | (exfalso; omega))
                                                                   · first
                                                                     | (exfalso; omega)
                                                                     | (refine W.skip ?_
                                                                        have hx1 : ((runL taps start n).take m).length = m := take_len (by rw [runL_len]; omega)
                                                                        have hx2 := chk_take' hck m
                                                                        have hgo : ∀ i, rb taps start i = rb (shortL (runL taps start n)) ((runL taps start n).take m) i := fun i => same_on (n := n) h2.2 hln (by rw [hx1, hsh]) (chkB0.1 hx2).2 (fun i hi => by rw [bt_take (by omega), run_bt (by omega)]) (by have q := mk_iff.1 (short_mk hck); rw [runL_len] at q; exact q.congr (fun _ _ => rfl) (fun i hi => run_bt hi)) (by omega) (by omega) i
                                                                        have hok2 : chkS (shortL (runL taps start n)) ((runL taps start n).take m) = 0 := chkS0.2 ⟨⟨short_chk hck, hx2⟩, by rw [hx1, hsh]⟩
                                                                        have heq : runL (shortL (runL taps start n)) ((runL taps start n).take m) 200 = runL taps start 200 := run_ext hgo 200
                                                                        refine W.sreg ?_
                                                                        refine WO.p rfl rfl (WO.p rfl rfl ?_)
                                                                        refine WO.call (Post := fun r Hq => ∃ y : Value, r = .tuple #[y, .int .i64 0] ∧ Hq = [OwE encI 3 1 y (runL taps start 200)]) rfl Try.call31 (fun L w hi => by have h := c_Run w v u taps start 200 (hR.later hi) (hU.later hi); rw [runE_0.2 ⟨hok, by omega, by omega⟩, if_pos rfl, show (200 : Int).toNat = 200 from rfl] at h; exact h) rfl ?_
                                                                        rintro _ _ ⟨z1, rfl, rfl⟩
                                                                        refine WO.p rfl rfl (WO.p rfl rfl (WO.p rfl rfl (WO.p rfl rfl (WO.p rfl rfl ?_))))
                                                                        refine WO.nil ?_
                                                                        refine W.sreg ?_
                                                                        refine WO.p rfl rfl (WO.p rfl rfl (WO.p rfl rfl ?_))
                                                                        refine' WO.len (n := _) rfl rfl ?hs rfl ?_
                                                                        case hs => (first | exact hs2)
                                                                        refine WO.slSl (lo := 0) (hi := m) (mx := yc) rfl rfl bnd.no (bnd.at rfl) bnd.no (by simp) (by omega) (by omega) (by omega) rfl ?_
                                                                        refine WO.call (Post := fun r Hq => ∃ y : Value, r = .tuple #[y, .int .i64 0] ∧ Hq = [OwE encI 3 1 y (runL taps start 200)]) rfl Try.call31 (fun L w hi => by have h := c_Run w r2 _ (shortL (runL taps start n)) ((runL taps start n).take m) 200 (RdF.of_ow (e := 3) encI_ok (by repeat (first | exact Pick.head | apply Pick.tail)) hi) (sub_take (RdF.of_ow (e := 3) encI_ok (by repeat (first | exact Pick.head | apply Pick.tail)) hi) (by omega) (by omega)); rw [runE_0.2 ⟨hok2, by omega, by omega⟩, if_pos rfl, show (200 : Int).toNat = 200 from rfl, heq] at h; exact h) rfl ?_
                                                                        rintro _ _ ⟨z2, rfl, rfl⟩
                                                                        refine WO.p rfl rfl (WO.p rfl rfl (WO.p rfl rfl (WO.p rfl rfl (WO.p rfl rfl ?_))))
                                                                        refine WO.nil ?_
                                                                        refine W.sreg ?_
                                                                        refine WO.p rfl rfl (WO.p rfl rfl (WO.p rfl rfl ?_))
                                                                        refine WO.guard_bl rfl rfl (fun c22 => ?_) (fun c22 => ?_)
                                                                        · first
                                                                          | (exfalso; omega)
                                                                          | (refine WO.pg rfl rfl rfl (WO.pg rfl rfl rfl (WO.p rfl rfl (WO.p rfl rfl ?_)))
                                                                             refine WO.guard_bl rfl rfl (fun c23 => ?_) (fun c23 => ?_)
                                                                             · first
                                                                               | (exfalso; omega)
                                                                               | (refine WO.pg rfl rfl rfl (WO.pg rfl rfl rfl (WO.go' rfl ?_))
                                                                                  refine WO.callR (r := .bool true) rfl Try.call19 (fun L w hi => ints_t (l_ints w z1 z2 (runL taps start 200) (runL taps start 200) (RdF.of_ow (e := 3) encI_ok (by repeat (first | exact Pick.head | apply Pick.tail)) hi) (RdF.of_ow (e := 3) encI_ok (by repeat (first | exact Pick.head | apply Pick.tail)) hi)) rfl) rfl ?_
                                                                                  refine WO.p rfl rfl (WO.p rfl rfl (WO.go' rfl ?_))
                                                                                  refine WO.callR rfl Try.call15 (fun L w hi => l_Works w) rfl ?_
                                                                                  refine WO.p rfl rfl (WO.p rfl rfl ?_)
                                                                                  refine WO.nil ?_
                                                                                  refine W.ret ?_
                                                                                  first | exact fin.ret (Res.one rfl (RV.tmp rfl)) rfl | (exfalso; omega))
                                                                             · first
                                                                               | (exfalso; omega)
                                                                               | (refine WO.no rfl rfl (WO.no rfl rfl (WO.no rfl rfl (WO.p rfl rfl (WO.p rfl rfl (WO.no rfl rfl (WO.p rfl rfl (WO.p rfl rfl ?_)))))))
                                                                                  refine WO.nil ?_
                                                                                  refine W.ret ?_
                                                                                  first | exact fin.ret (Res.one rfl (RV.tmp rfl)) rfl | (exfalso; omega)))
                                                                        · first
                                                                          | (exfalso; omega)
                                                                          | (refine WO.no rfl rfl (WO.no rfl rfl (WO.p rfl rfl (WO.p rfl rfl (WO.no rfl rfl (WO.no rfl rfl (WO.no rfl rfl (WO.p rfl rfl (WO.p rfl rfl (WO.no rfl rfl (WO.p rfl rfl (WO.p rfl rfl ?_)))))))))))
                                                                             refine WO.nil ?_
                                                                             refine W.ret ?_
                                                                             first | exact fin.ret (Res.one rfl (RV.tmp rfl)) rfl | (exfalso; omega)))))
                                                         · first
                                                           | (exfalso; omega)
                                                           | (refine WO.no rfl rfl (WO.no rfl rfl (WO.p rfl rfl (WO.p rfl rfl (WO.no rfl rfl (WO.no rfl rfl (WO.no rfl rfl (WO.no rfl rfl (WO.p rfl rfl (WO.p rfl rfl (WO.no rfl rfl (WO.no rfl rfl ?_)))))))))))
                                                              refine WO.no rfl rfl (WO.no rfl rfl (WO.p rfl rfl ?_))
                                                              refine WO.nil ?_
                                                              refine W.cond_f rfl ?_
                                                              refine W.skip ?_
                                                              refine W.seq ?_
                                                              refine W.sreg ?_
                                                              refine WO.p rfl rfl ?_
                                                              refine' WO.len (n := _) rfl rfl ?hs rfl ?_
                                                              case hs => (first | exact hR.sl)
                                                              refine WO.ar rfl rfl rfl (by (first | (unfold in64; omega) | (unfold in64; omega))) rfl (WO.p rfl rfl (WO.p rfl rfl ?_))
                                                              refine WO.nil ?_
                                                              refine W.cond_bl rfl (fun c24 => ?_) (fun c24 => ?_)
                                                              · first
                                                                | (exfalso; omega)
                                                                | (refine W.sreg ?_
                                                                   refine WO.callR rfl Try.call15 (fun L w hi => l_Works w) rfl ?_
                                                                   refine WO.p rfl rfl ?_
                                                                   refine WO.nil ?_
                                                                   refine W.ret ?_
                                                                   first | exact fin.ret (Res.one rfl (RV.tmp rfl)) rfl | (exfalso; omega))
                                                              · first
                                                                | (exfalso; omega)
                                                                | (refine W.skip ?_
                                                                   have hx1 : ((runL taps start n).take m).length = m := take_len (by rw [runL_len]; omega)
                                                                   have hx2 := chk_take' hck m
                                                                   have hgo : ∀ i, rb taps start i = rb (shortL (runL taps start n)) ((runL taps start n).take m) i := fun i => same_on (n := n) h2.2 hln (by rw [hx1, hsh]) (chkB0.1 hx2).2 (fun i hi => by rw [bt_take (by omega), run_bt (by omega)]) (by have q := mk_iff.1 (short_mk hck); rw [runL_len] at q; exact q.congr (fun _ _ => rfl) (fun i hi => run_bt hi)) (by omega) (by omega) i
                                                                   have hok2 : chkS (shortL (runL taps start n)) ((runL taps start n).take m) = 0 := chkS0.2 ⟨⟨short_chk hck, hx2⟩, by rw [hx1, hsh]⟩
                                                                   have heq : runL (shortL (runL taps start n)) ((runL taps start n).take m) 200 = runL taps start 200 := run_ext hgo 200
                                                                   refine W.sreg ?_
                                                                   refine WO.p rfl rfl (WO.p rfl rfl ?_)
                                                                   refine WO.call (Post := fun r Hq => ∃ y : Value, r = .tuple #[y, .int .i64 0] ∧ Hq = [OwE encI 3 1 y (runL taps start 200)]) rfl Try.call31 (fun L w hi => by have h := c_Run w v u taps start 200 (hR.later hi) (hU.later hi); rw [runE_0.2 ⟨hok, by omega, by omega⟩, if_pos rfl, show (200 : Int).toNat = 200 from rfl] at h; exact h) rfl ?_
                                                                   rintro _ _ ⟨z1, rfl, rfl⟩
                                                                   refine WO.p rfl rfl (WO.p rfl rfl (WO.p rfl rfl (WO.p rfl rfl (WO.p rfl rfl ?_))))
                                                                   refine WO.nil ?_
                                                                   refine W.sreg ?_
                                                                   refine WO.p rfl rfl (WO.p rfl rfl (WO.p rfl rfl ?_))
                                                                   refine' WO.len (n := _) rfl rfl ?hs rfl ?_
                                                                   case hs => (first | exact hs2)
                                                                   refine WO.slSl (lo := 0) (hi := m) (mx := yc) rfl rfl bnd.no (bnd.at rfl) bnd.no (by simp) (by omega) (by omega) (by omega) rfl ?_
                                                                   refine WO.call (Post := fun r Hq => ∃ y : Value, r = .tuple #[y, .int .i64 0] ∧ Hq = [OwE encI 3 1 y (runL taps start 200)]) rfl Try.call31 (fun L w hi => by have h := c_Run w r2 _ (shortL (runL taps start n)) ((runL taps start n).take m) 200 (RdF.of_ow (e := 3) encI_ok (by repeat (first | exact Pick.head | apply Pick.tail)) hi) (sub_take (RdF.of_ow (e := 3) encI_ok (by repeat (first | exact Pick.head | apply Pick.tail)) hi) (by omega) (by omega)); rw [runE_0.2 ⟨hok2, by omega, by omega⟩, if_pos rfl, show (200 : Int).toNat = 200 from rfl, heq] at h; exact h) rfl ?_
                                                                   rintro _ _ ⟨z2, rfl, rfl⟩
                                                                   refine WO.p rfl rfl (WO.p rfl rfl (WO.p rfl rfl (WO.p rfl rfl (WO.p rfl rfl ?_))))
                                                                   refine WO.nil ?_
                                                                   refine W.sreg ?_
                                                                   refine WO.p rfl rfl (WO.p rfl rfl (WO.p rfl rfl ?_))
                                                                   refine WO.guard_bl rfl rfl (fun c25 => ?_) (fun c25 => ?_)
                                                                   · first
                                                                     | (exfalso; omega)
                                                                     | (refine WO.pg rfl rfl rfl (WO.pg rfl rfl rfl (WO.p rfl rfl (WO.p rfl rfl ?_)))
                                                                        refine WO.guard_bl rfl rfl (fun c26 => ?_) (fun c26 => ?_)
                                                                        · first
                                                                          | (exfalso; omega)
                                                                          | (refine WO.pg rfl rfl rfl (WO.pg rfl rfl rfl (WO.go' rfl ?_))
                                                                             refine WO.callR (r := .bool true) rfl Try.call19 (fun L w hi => ints_t (l_ints w z1 z2 (runL taps start 200) (runL taps start 200) (RdF.of_ow (e := 3) encI_ok (by repeat (first | exact Pick.head | apply Pick.tail)) hi) (RdF.of_ow (e := 3) encI_ok (by repeat (first | exact Pick.head | apply Pick.tail)) hi)) rfl) rfl ?_
                                                                             refine WO.p rfl rfl (WO.p rfl rfl (WO.go' rfl ?_))
                                                                             refine WO.callR rfl Try.call15 (fun L w hi => l_Works w) rfl ?_
                                                                             refine WO.p rfl rfl (WO.p rfl rfl ?_)
                                                                             refine WO.nil ?_
                                                                             refine W.ret ?_
                                                                             first | exact fin.ret (Res.one rfl (RV.tmp rfl)) rfl | (exfalso; omega))
                                                                        · first
                                                                          | (exfalso; omega)
                                                                          | (refine WO.no rfl rfl (WO.no rfl rfl (WO.no rfl rfl (WO.p rfl rfl (WO.p rfl rfl (WO.no rfl rfl (WO.p rfl rfl (WO.p rfl rfl ?_)))))))
                                                                             refine WO.nil ?_
                                                                             refine W.ret ?_
                                                                             first | exact fin.ret (Res.one rfl (RV.tmp rfl)) rfl | (exfalso; omega)))
                                                                   · first
                                                                     | (exfalso; omega)
                                                                     | (refine WO.no rfl rfl (WO.no rfl rfl (WO.p rfl rfl (WO.p rfl rfl (WO.no rfl rfl (WO.no rfl rfl (WO.no rfl rfl (WO.p rfl rfl (WO.p rfl rfl (WO.no rfl rfl (WO.p rfl rfl (WO.p rfl rfl ?_)))))))))))
                                                                        refine WO.nil ?_
                                                                        refine W.ret ?_
                                                                        first | exact fin.ret (Res.one rfl (RV.tmp rfl)) rfl | (exfalso; omega)))))
                                                    · first
                                                      | (exfalso; omega)
                                                      | (refine WO.no rfl rfl (WO.no rfl rfl (WO.no rfl rfl (WO.no rfl rfl (WO.no rfl rfl (WO.p rfl rfl (WO.p rfl rfl (WO.no rfl rfl (WO.no rfl rfl (WO.p rfl rfl (WO.p rfl rfl (WO.no rfl rfl ?_)))))))))))
                                                         refine WO.no rfl rfl (WO.no rfl rfl (WO.no rfl rfl (WO.p rfl rfl (WO.p rfl rfl (WO.no rfl rfl (WO.no rfl rfl (WO.no rfl rfl (WO.no rfl rfl (WO.p rfl rfl ?_)))))))))
                                                         refine WO.nil ?_
                                                         refine W.cond_f rfl ?_
                                                         refine W.skip ?_
                                                         refine W.seq ?_
                                                         refine W.sreg ?_
                                                         refine WO.p rfl rfl ?_
                                                         refine' WO.len (n := _) rfl rfl ?hs rfl ?_
                                                         case hs => (first | exact hR.sl)
                                                         refine WO.ar rfl rfl rfl (by (first | (unfold in64; omega) | (unfold in64; omega))) rfl (WO.p rfl rfl (WO.p rfl rfl ?_))
                                                         refine WO.nil ?_
                                                         refine W.cond_bl rfl (fun c27 => ?_) (fun c27 => ?_)
                                                         · first
                                                           | (exfalso; omega)
                                                           | (refine W.sreg ?_
                                                              refine WO.callR rfl Try.call15 (fun L w hi => l_Works w) rfl ?_
                                                              refine WO.p rfl rfl ?_
                                                              refine WO.nil ?_
                                                              refine W.ret ?_
                                                              first | exact fin.ret (Res.one rfl (RV.tmp rfl)) rfl | (exfalso; omega))
                                                         · first
                                                           | (exfalso; omega)
                                                           | (refine W.skip ?_
                                                              have hx1 : ((runL taps start n).take m).length = m := take_len (by rw [runL_len]; omega)
                                                              have hx2 := chk_take' hck m
                                                              have hgo : ∀ i, rb taps start i = rb (shortL (runL taps start n)) ((runL taps start n).take m) i := fun i => same_on (n := n) h2.2 hln (by rw [hx1, hsh]) (chkB0.1 hx2).2 (fun i hi => by rw [bt_take (by omega), run_bt (by omega)]) (by have q := mk_iff.1 (short_mk hck); rw [runL_len] at q; exact q.congr (fun _ _ => rfl) (fun i hi => run_bt hi)) (by omega) (by omega) i
                                                              have hok2 : chkS (shortL (runL taps start n)) ((runL taps start n).take m) = 0 := chkS0.2 ⟨⟨short_chk hck, hx2⟩, by rw [hx1, hsh]⟩
                                                              have heq : runL (shortL (runL taps start n)) ((runL taps start n).take m) 200 = runL taps start 200 := run_ext hgo 200
                                                              refine W.sreg ?_
                                                              refine WO.p rfl rfl (WO.p rfl rfl ?_)
                                                              refine WO.call (Post := fun r Hq => ∃ y : Value, r = .tuple #[y, .int .i64 0] ∧ Hq = [OwE encI 3 1 y (runL taps start 200)]) rfl Try.call31 (fun L w hi => by have h := c_Run w v u taps start 200 (hR.later hi) (hU.later hi); rw [runE_0.2 ⟨hok, by omega, by omega⟩, if_pos rfl, show (200 : Int).toNat = 200 from rfl] at h; exact h) rfl ?_
                                                              rintro _ _ ⟨z1, rfl, rfl⟩
                                                              refine WO.p rfl rfl (WO.p rfl rfl (WO.p rfl rfl (WO.p rfl rfl (WO.p rfl rfl ?_))))
                                                              refine WO.nil ?_
                                                              refine W.sreg ?_
                                                              refine WO.p rfl rfl (WO.p rfl rfl (WO.p rfl rfl ?_))
                                                              refine' WO.len (n := _) rfl rfl ?hs rfl ?_
                                                              case hs => (first | exact hs2)
                                                              refine WO.slSl (lo := 0) (hi := m) (mx := yc) rfl rfl bnd.no (bnd.at rfl) bnd.no (by simp) (by omega) (by omega) (by omega) rfl ?_
                                                              refine WO.call (Post := fun r Hq => ∃ y : Value, r = .tuple #[y, .int .i64 0] ∧ Hq = [OwE encI 3 1 y (runL taps start 200)]) rfl Try.call31 (fun L w hi => by have h := c_Run w r2 _ (shortL (runL taps start n)) ((runL taps start n).take m) 200 (RdF.of_ow (e := 3) encI_ok (by repeat (first | exact Pick.head | apply Pick.tail)) hi) (sub_take (RdF.of_ow (e := 3) encI_ok (by repeat (first | exact Pick.head | apply Pick.tail)) hi) (by omega) (by omega)); rw [runE_0.2 ⟨hok2, by omega, by omega⟩, if_pos rfl, show (200 : Int).toNat = 200 from rfl, heq] at h; exact h) rfl ?_
                                                              rintro _ _ ⟨z2, rfl, rfl⟩
                                                              refine WO.p rfl rfl (WO.p rfl rfl (WO.p rfl rfl (WO.p rfl rfl (WO.p rfl rfl ?_))))
                                                              refine WO.nil ?_
                                                              refine W.sreg ?_
                                                              refine WO.p rfl rfl (WO.p rfl rfl (WO.p rfl rfl ?_))
                                                              refine WO.guard_bl rfl rfl (fun c28 => ?_) (fun c28 => ?_)
                                                              · first
                                                                | (exfalso; omega)
                                                                | (refine WO.pg rfl rfl rfl (WO.pg rfl rfl rfl (WO.p rfl rfl (WO.p rfl rfl ?_)))
                                                                   refine WO.guard_bl rfl rfl (fun c29 => ?_) (fun c29 => ?_)
                                                                   · first
                                                                     | (exfalso; omega)
                                                                     | (refine WO.pg rfl rfl rfl (WO.pg rfl rfl rfl (WO.go' rfl ?_))
                                                                        refine WO.callR (r := .bool true) rfl Try.call19 (fun L w hi => ints_t (l_ints w z1 z2 (runL taps start 200) (runL taps start 200) (RdF.of_ow (e := 3) encI_ok (by repeat (first | exact Pick.head | apply Pick.tail)) hi) (RdF.of_ow (e := 3) encI_ok (by repeat (first | exact Pick.head | apply Pick.tail)) hi)) rfl) rfl ?_
                                                                        refine WO.p rfl rfl (WO.p rfl rfl (WO.go' rfl ?_))
                                                                        refine WO.callR rfl Try.call15 (fun L w hi => l_Works w) rfl ?_
                                                                        refine WO.p rfl rfl (WO.p rfl rfl ?_)
                                                                        refine WO.nil ?_
                                                                        refine W.ret ?_
                                                                        first | exact fin.ret (Res.one rfl (RV.tmp rfl)) rfl | (exfalso; omega))
                                                                   · first
                                                                     | (exfalso; omega)
                                                                     | (refine WO.no rfl rfl (WO.no rfl rfl (WO.no rfl rfl (WO.p rfl rfl (WO.p rfl rfl (WO.no rfl rfl (WO.p rfl rfl (WO.p rfl rfl ?_)))))))
                                                                        refine WO.nil ?_
                                                                        refine W.ret ?_
                                                                        first | exact fin.ret (Res.one rfl (RV.tmp rfl)) rfl | (exfalso; omega)))
                                                              · first
                                                                | (exfalso; omega)
                                                                | (refine WO.no rfl rfl (WO.no rfl rfl (WO.p rfl rfl (WO.p rfl rfl (WO.no rfl rfl (WO.no rfl rfl (WO.no rfl rfl (WO.p rfl rfl (WO.p rfl rfl (WO.no rfl rfl (WO.p rfl rfl (WO.p rfl rfl ?_)))))))))))
                                                                   refine WO.nil ?_
                                                                   refine W.ret ?_
                                                                   first | exact fin.ret (Res.one rfl (RV.tmp rfl)) rfl | (exfalso; omega))))))))))))))
end Go.Proofs.Ytingkbglkaojdaa
