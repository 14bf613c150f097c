/-
  What is proved here: the law TrialPaid, as a contract. Conditions: none.
-/
import Derived.Test.YtkiaepcklbidgaaM6
namespace Go.Proofs.Ytkiaepcklbidgaa
open Go Go.TH
attribute [local irreducible] W WO pt
set_option maxRecDepth 10000
set_option maxHeartbeats 4000000
theorem payV_in {c : Con} {n d : Int} (hc : OkC c) (hs : SpB n d) : -c.rd ≤ payV c n d ∧ payV c n d ≤ c.mo ∧ (c.rf * d ≤ n → -c.mo ≤ payV c n d) := by
  have hp := PB.of hc hs
  have a6 := hc.rd; have a7 := hc.mo; have a5 := hc.pe
  unfold payV
  split
  · exact ⟨by omega, by omega, by omega⟩
  · split
    · have := hp.hp (by omega)
      exact ⟨by omega, by omega, by omega⟩
    · have h1 := hp.lp (by omega)
      rw [hp.up (by omega)] at h1
      exact ⟨by omega, by omega, by omega⟩
theorem cross_le {k n d n' d' : Int} (hd : 0 < d) (hd' : 0 < d') (h : n * d' ≤ n' * d) (hk : k * d ≤ n) : k * d' ≤ n' := by
  refine Int.le_of_mul_le_mul_right (a := d) ?_ hd
  have h1 := Int.mul_le_mul_of_nonneg_right hk (show 0 ≤ d' by omega)
  have e : k * d' * d = k * d * d' := by grind
  omega
theorem cross_sub {k n d n' d' : Int} (h : n * d' ≤ n' * d) : (n - k * d) * d' ≤ (n' - k * d') * d := by
  have e1 : (n - k * d) * d' = n * d' - k * d * d' := by grind
  have e2 : (n' - k * d') * d = n' * d - k * d * d' := by grind
  omega
theorem payV_mono {c : Con} {n d n' d' : Int} (hc : OkC c) (hs : SpB n d) (hs' : SpB n' d') (h : n * d' ≤ n' * d) : payV c n d ≤ payV c n' d' := by
  have b1 := payV_in hc hs
  have b2 := payV_in hc hs'
  have hp := PB.of hc hs
  have hp' := PB.of hc hs'
  have a2 := hc.st; have a4 := hc.pr; have a5 := hc.pe; have a6 := hc.rd; have a7 := hc.mo
  have d1 : 0 < d := by have := hs.1.1; omega
  have d2 : 0 < d' := by have := hs'.1.1; omega
  have i2 := hp.i2
  have i2' := hp'.i2
  by_cases h1 : n < c.rf * d
  · rw [← pay_1 h1]; exact b2.1
  · have g1 : c.rf * d' ≤ n' := cross_le d1 d2 h (by omega)
    by_cases h2 : 0 ≤ n - c.sp * d
    · have g2 : c.sp * d' ≤ n' := cross_le d1 d2 h (by omega)
      rw [← pay_2 h1 h2, ← pay_2 (by omega) (by omega)]
      have hx := cross_sub (k := c.sp) h
      have hq : (n - c.sp * d).tdiv (c.st * d) ≤ (n' - c.sp * d').tdiv (c.st * d') := by
        rw [Int.tdiv_eq_ediv_of_nonneg h2, Int.tdiv_eq_ediv_of_nonneg (by omega)]
        refine (Int.le_ediv_iff_mul_le (by omega)).2 ?_
        have hm := (Int.le_ediv_iff_mul_le (c := c.st * d) (by omega)).1 (Int.le_refl ((n - c.sp * d) / (c.st * d)))
        rw [← Int.mul_assoc] at hm ⊢
        exact cross_le d1 d2 hx hm
      have := Int.mul_le_mul_of_nonneg_left hq a4.1
      omega
    · by_cases h3 : 0 ≤ n' - c.sp * d'
      · rw [← pay_2 (c := c) (n := n') (by omega) h3]
        have q1 := hp'.hp h3
        have q2 := hp.lp (by omega)
        rw [hp.up (by omega)] at q2
        unfold payV
        rw [if_neg h1, if_neg h2]
        omega
      · unfold payV
        rw [if_neg h1, if_neg h2, if_neg (show ¬ n' < c.rf * d' by omega), if_neg h3, ← hp.up (by omega), ← hp'.up (by omega)]
        have hx := cross_sub (k := c.sp) h
        have hq : (c.st * d' - 1 - (n' - c.sp * d')).tdiv (c.st * d') ≤ (c.st * d - 1 - (n - c.sp * d)).tdiv (c.st * d) := by
          rw [Int.tdiv_eq_ediv_of_nonneg (by omega), Int.tdiv_eq_ediv_of_nonneg (by omega)]
          have e1 := Int.mul_ediv_add_emod (c.st * d - 1 - (n - c.sp * d)) (c.st * d)
          have e2 := Int.emod_lt_of_pos (c.st * d - 1 - (n - c.sp * d)) (show 0 < c.st * d by omega)
          generalize hQ : (c.st * d - 1 - (n - c.sp * d)) / (c.st * d) = q at e1 ⊢
          have hm : -(q * c.st) * d ≤ n - c.sp * d := by
            have : -(q * c.st) * d = -(c.st * d * q) := by grind
            omega
          have hm' := cross_le d1 d2 hx hm
          have hz : -(q * c.st) * d' = -(c.st * d' * q) := by grind
          rw [hz] at hm'
          have hle : c.st * d' - 1 - (n' - c.sp * d') ≤ (c.st * d' - 1) + c.st * d' * q := by omega
          have := Int.ediv_le_ediv (show 0 < c.st * d' by omega) hle
          rw [Int.add_mul_ediv_left _ _ (by omega), Int.ediv_eq_zero_of_lt (a := c.st * d' - 1) (b := c.st * d') (by omega) (by omega)] at this
          omega
        have := Int.mul_le_mul_of_nonneg_left hq a5.1
        omega
theorem red_cross {n d n' d' : Int} (hd : 0 < d) (hd' : 0 < d') (h : n * d' ≤ n' * d) : (red n d).1 * (red n' d').2 ≤ (red n' d').1 * (red n d).2 := by
  obtain ⟨g1, g2, g3⟩ := red_mul (n := n) hd
  obtain ⟨f1, f2, f3⟩ := red_mul (n := n') hd'
  refine Int.le_of_mul_le_mul_right (a := gcd2 (ab n) d * gcd2 (ab n') d') ?_ (Int.mul_pos g1 f1)
  have e1 : (red n d).1 * (red n' d').2 * (gcd2 (ab n) d * gcd2 (ab n') d') = ((red n d).1 * gcd2 (ab n) d) * ((red n' d').2 * gcd2 (ab n') d') := by grind
  have e2 : (red n' d').1 * (red n d).2 * (gcd2 (ab n) d * gcd2 (ab n') d') = ((red n' d').1 * gcd2 (ab n') d') * ((red n d).2 * gcd2 (ab n) d) := by grind
  rw [e1, e2, g2, g3, f2, f3]
  exact h
theorem red_isS {n d : Int} (h : SpB n d) : isS (red n d).1 (red n d).2 := by
  have hb := red_SpB h
  refine ⟨hb, (red_one hb).2 ?_⟩
  obtain ⟨g1, g2, g3⟩ := red_mul (n := n) (d := d) (by have := h.1.1; omega)
  have h1 := hb.2.1
  have h2 := hb.1.1
  have h3 := h.2.1
  have h4 := h.1.1
  have ea : ab n = n := by unfold ab; omega
  rw [ea] at g1 g2 g3
  have hx : gcd2 n d = (Int.gcd n d : Int) := by
    unfold gcd2 Int.gcd
    have h1 : n.toNat = n.natAbs := by omega
    have h2 : d.toNat = d.natAbs := by omega
    rw [h1, h2]
  have hy : gcd2 (red n d).1 (red n d).2 = (Int.gcd (red n d).1 (red n d).2 : Int) := by
    unfold gcd2 Int.gcd
    have h1 : (red n d).1.toNat = (red n d).1.natAbs := by omega
    have h2 : (red n d).2.toNat = (red n d).2.natAbs := by omega
    rw [h1, h2]
  have hm : (Int.gcd ((red n d).1 * gcd2 n d) ((red n d).2 * gcd2 n d) : Int) = Int.gcd (red n d).1 (red n d).2 * gcd2 n d := by
    rw [Int.gcd_mul_right]; push_cast; rw [show ((gcd2 n d).natAbs : Int) = gcd2 n d by omega]
  rw [g2, g3, ← hx, ← hy] at hm
  have h9 : (gcd2 (red n d).1 (red n d).2 - 1) * gcd2 n d = 0 := by rw [Int.sub_mul]; omega
  rcases Int.mul_eq_zero.1 h9 with h | h <;> omega
theorem payV_at {c : Con} (hc : OkC c) : payV c c.sp 1 = 0 := by
  have a1 := hc.rf; have a2 := hc.mo
  rw [← pay_2 (by omega) (by omega)]
  have : (c.sp - c.sp * 1) = 0 := by omega
  rw [this]
  simp
  omega
theorem gcd2_1 (n : Int) : gcd2 n 1 = 1 := by unfold gcd2; simp
theorem payR_ok {c : Con} {n d : Int} (hc : chkC c = 0) (h : isS n d) : payR c n d = .tuple #[.int .i64 (payV c n d), .int .i64 0] := (payR_0 (by omega) h).symm
theorem law_TrialPaid (w : World) (c : Con) (k a b : Int) (hk : 0 ≤ k ∧ k ≤ 4294967295) (ha : 0 ≤ a ∧ a ≤ 18446744073709551615) (hb : 0 ≤ b ∧ b ≤ 18446744073709551615) : Ret Try.prog 10 [.agg #[.int .i64 c.sp, .int .i64 c.st, .int .i64 c.pr, .int .i64 c.pe, .int .i64 c.mo, .int .i64 c.rf, .int .i64 c.rd], .int .u32 k, .int .u64 a, .int .u64 b].toArray w (.bool true) := by
  refine Ret.of mixed tyTab Try.func10 rfl rfl ?_
  have hA : 0 ≤ a.tmod (20000 * (1 + k) + 1) ∧ a.tmod (20000 * (1 + k) + 1) < 20000 * (1 + k) + 1 := ⟨Int.tmod_nonneg _ ha.1, Int.tmod_lt_of_pos _ (by omega)⟩
  have hB : 0 ≤ b.tmod (20000 * (1 + k) + 1) ∧ b.tmod (20000 * (1 + k) + 1) < 20000 * (1 + k) + 1 := ⟨Int.tmod_nonneg _ hb.1, Int.tmod_lt_of_pos _ (by omega)⟩
  have s1 : SpB (min (a.tmod (20000 * (1 + k) + 1)) (b.tmod (20000 * (1 + k) + 1))) (1 + k) := ⟨by omega, by omega, by omega⟩
  have s2 : SpB (max (a.tmod (20000 * (1 + k) + 1)) (b.tmod (20000 * (1 + k) + 1))) (1 + k) := ⟨by omega, by omega, by omega⟩
  have i1 := red_isS s1
  have i2 := red_isS s2
  have hx := red_cross (n := min (a.tmod (20000 * (1 + k) + 1)) (b.tmod (20000 * (1 + k) + 1))) (n' := max (a.tmod (20000 * (1 + k) + 1)) (b.tmod (20000 * (1 + k) + 1))) (d := 1 + k) (d' := 1 + k) (by omega) (by omega) (Int.mul_le_mul_of_nonneg_right (by omega) (by omega))
  obtain ⟨p1, q1, h1⟩ : ∃ x y, red (min (a.tmod (20000 * (1 + k) + 1)) (b.tmod (20000 * (1 + k) + 1))) (1 + k) = (x, y) := ⟨_, _, rfl⟩
  obtain ⟨p2, q2, h2⟩ : ∃ x y, red (max (a.tmod (20000 * (1 + k) + 1)) (b.tmod (20000 * (1 + k) + 1))) (1 + k) = (x, y) := ⟨_, _, rfl⟩
  rw [h1] at i1 hx
  rw [h2] at i2 hx
  dsimp only at i1 i2 hx
  refine W.sreg ?_
  refine WO.boxA rfl rfl (fun b1 hb1 => ?_)
  refine WO.p rfl rfl ?_
  refine WO.nil ?_
  refine W.seq ?_
  refine W.sreg ?_
  refine WO.loadA rfl rfl (Cells.own Pick.head) rfl rfl ?_
  refine WO.callR (r := .int .i64 (chkC c)) rfl Try.call33 (fun L w hi => ref_CheckContract w c) rfl ?_
  refine WO.p rfl rfl ?_
  refine WO.nil ?_
  refine W.cond_bl rfl (fun c1 => ?_) (fun c1 => ?_)
  · first
    | (exfalso; omega)
    | (refine W.sreg ?_
       refine WO.callR rfl Try.call12 (fun L w hi => law_Works w) rfl ?_
       refine WO.p rfl rfl ?_
       refine WO.nil ?_
       refine W.ret ?_
       first | exact fin.ret (Res.one rfl (RV.tmp rfl)) rfl | (exfalso; omega))
  · first
    | (exfalso; omega)
    | (refine W.skip ?_
       have hc0 : chkC c = 0 := by omega
       have hc := chkC_of hc0
       have m1 := payV_mono hc i1.1 i2.1 hx
       have m2 := payV_in hc i1.1
       have m3 := payV_in hc i2.1
       have m4 := payV_at hc
       have a6 := hc.rd
       have a1 := hc.sp
       have m5 : isS c.sp 1 := ⟨⟨by omega, by omega, by omega⟩, (red_one ⟨by omega, by omega, by omega⟩).2 (gcd2_1 _)⟩
       refine W.sreg ?_
       refine WO.p rfl rfl (WO.conv64 rfl rfl rfl (by (first | (unfold in64; omega) | (unfold in64; omega))) rfl (WO.ar rfl rfl rfl (by (first | (unfold in64; omega) | (unfold in64; omega))) rfl (WO.p rfl rfl ?_)))
       refine WO.nil ?_
       refine W.sreg ?_
       refine WO.p rfl rfl (WO.ar rfl rfl rfl (by (first | (unfold in64; omega) | (unfold in64; omega))) rfl (WO.ar rfl rfl rfl (by (first | (unfold in64; omega) | (unfold in64; omega))) rfl ?_))
       refine WO.convI (b := 20000 * (1 + k) + 1) rfl rfl rfl (u64_in (by omega)) rfl ?_
       refine WO.p rfl rfl ?_
       refine WO.nil ?_
       refine W.seq ?_
       refine W.drawD 9 [.r 0 [], .r 1 [], .r 2 [], .r 3 [], .r 4 [], .r 5 [], .r 6 [], .r 7 [], .r 8 []] [] (A0 := []) (Sub.refl _) (by kernel_rfl) ?_ ?_
       · exact (ALok.r (ALok.r (ALok.r (ALok.r (ALok.r (ALok.r (ALok.r (ALok.r (ALok.r ALok.nil)))))))))
       refine' DT.r rfl rfl rfl ?hq ?_
       case hq =>
         refine WO.p rfl rfl ?_
         exact WO.nil ⟨rfl, rfl⟩
       refine' DT.r rfl rfl rfl ?hq ?_
       case hq =>
         refine WO.p rfl rfl ?_
         exact WO.nil ⟨rfl, rfl⟩
       refine' DT.r rfl rfl rfl ?hq ?_
       case hq =>
         refine WO.rem rfl rfl (by first | omega | assumption) rfl ?_
         exact WO.nil ⟨rfl, rfl⟩
       refine' DT.r rfl rfl rfl ?hq ?_
       case hq =>
         refine WO.conv64 rfl rfl rfl (by (first | (unfold in64; omega) | (unfold in64; omega))) rfl ?_
         exact WO.nil ⟨rfl, rfl⟩
       refine' DT.r rfl rfl rfl ?hq ?_
       case hq =>
         refine WO.p rfl rfl ?_
         exact WO.nil ⟨rfl, rfl⟩
       refine' DT.r rfl rfl rfl ?hq ?_
       case hq =>
         refine WO.p rfl rfl ?_
         exact WO.nil ⟨rfl, rfl⟩
       refine' DT.r rfl rfl rfl ?hq ?_
       case hq =>
         refine WO.rem rfl rfl (by first | omega | assumption) rfl ?_
         exact WO.nil ⟨rfl, rfl⟩
       refine' DT.r rfl rfl rfl ?hq ?_
       case hq =>
         refine WO.conv64 rfl rfl rfl (by (first | (unfold in64; omega) | (unfold in64; omega))) rfl ?_
         exact WO.nil ⟨rfl, rfl⟩
       refine' DT.r rfl rfl rfl ?hq ?_
       case hq =>
         refine WO.p rfl rfl ?_
         exact WO.nil ⟨rfl, rfl⟩
       refine DT.nil [_] rfl ?_
       refine WO.p rfl rfl ?_
       refine WO.nil ?_
       refine W.seq ?_
       refine W.drawD 11 [.b 0 [], .r 1 [], .r 2 [], .r 3 [], .r 4 [], .b 5 [], .b 6 [], .r 7 [], .r 8 [], .r 9 [], .r 10 []] [] (A0 := []) (Sub.refl _) (by kernel_rfl) ?_ ?_
       · exact (ALok.b (ALok.r (ALok.r (ALok.r (ALok.r (ALok.b (ALok.b (ALok.r (ALok.r (ALok.r (ALok.r ALok.nil)))))))))))
       refine' DT.b rfl rfl rfl ?hq ?_
       case hq =>
         refine WO.loadA rfl rfl (Cells.own Pick.head) rfl rfl ?_
         exact WO.nil ⟨rfl, rfl⟩
       refine' DT.r rfl rfl rfl ?hq ?_
       case hq =>
         refine WO.p rfl rfl ?_
         exact WO.nil ⟨rfl, rfl⟩
       refine' DT.r rfl rfl rfl ?hq ?_
       case hq =>
         refine WO.p rfl rfl ?_
         exact WO.nil ⟨rfl, rfl⟩
       refine' DT.r rfl rfl rfl ?hq ?_
       case hq =>
         refine WO.min2 rfl rfl rfl ?_
         exact WO.nil ⟨rfl, rfl⟩
       refine' DT.r rfl rfl rfl ?hq ?_
       case hq =>
         refine WO.p rfl rfl ?_
         exact WO.nil ⟨rfl, rfl⟩
       refine' DT.b rfl rfl rfl ?hq ?_
       case hq =>
         refine WO.callR (r := .agg #[.int .i64 p1, .int .i64 q1]) rfl Try.call42 (fun L w hi => by have h := ref_Fraction w (min (a.tmod (20000 * (1 + k) + 1)) (b.tmod (20000 * (1 + k) + 1))) (1 + k) (by unfold ab; omega) (by omega) (by unfold in64; omega); rw [h1] at h; exact h) rfl ?_
         exact WO.nil ⟨rfl, rfl⟩
       refine' DT.b rfl rfl rfl ?hq ?_
       case hq =>
         refine WO.callR rfl Try.call28 (fun L w hi => by have h := c_Pay w c p1 q1; rw [payR_ok hc0 i1] at h; exact h) rfl ?_
         exact WO.nil ⟨rfl, rfl⟩
       refine' DT.r rfl rfl rfl ?hq ?_
       case hq =>
         refine WO.p rfl rfl ?_
         exact WO.nil ⟨rfl, rfl⟩
       refine' DT.r rfl rfl rfl ?hq ?_
       case hq =>
         refine WO.p rfl rfl ?_
         exact WO.nil ⟨rfl, rfl⟩
       refine' DT.r rfl rfl rfl ?hq ?_
       case hq =>
         refine WO.p rfl rfl ?_
         exact WO.nil ⟨rfl, rfl⟩
       refine' DT.r rfl rfl rfl ?hq ?_
       case hq =>
         refine WO.p rfl rfl ?_
         exact WO.nil ⟨rfl, rfl⟩
       refine DT.nil [_] rfl ?_
       refine WO.p rfl rfl ?_
       refine WO.nil ?_
       refine W.seq ?_
       refine W.drawD 11 [.b 0 [], .r 1 [], .r 2 [], .r 3 [], .r 4 [], .b 5 [], .b 6 [], .r 7 [], .r 8 [], .r 9 [], .r 10 []] [] (A0 := []) (Sub.refl _) (by kernel_rfl) ?_ ?_
       · exact (ALok.b (ALok.r (ALok.r (ALok.r (ALok.r (ALok.b (ALok.b (ALok.r (ALok.r (ALok.r (ALok.r ALok.nil)))))))))))
       refine' DT.b rfl rfl rfl ?hq ?_
       case hq =>
         refine WO.loadA rfl rfl (Cells.own Pick.head) rfl rfl ?_
         exact WO.nil ⟨rfl, rfl⟩
       refine' DT.r rfl rfl rfl ?hq ?_
       case hq =>
         refine WO.p rfl rfl ?_
         exact WO.nil ⟨rfl, rfl⟩
       refine' DT.r rfl rfl rfl ?hq ?_
       case hq =>
         refine WO.p rfl rfl ?_
         exact WO.nil ⟨rfl, rfl⟩
       refine' DT.r rfl rfl rfl ?hq ?_
       case hq =>
         refine WO.max2 rfl rfl rfl ?_
         exact WO.nil ⟨rfl, rfl⟩
       refine' DT.r rfl rfl rfl ?hq ?_
       case hq =>
         refine WO.p rfl rfl ?_
         exact WO.nil ⟨rfl, rfl⟩
       refine' DT.b rfl rfl rfl ?hq ?_
       case hq =>
         refine WO.callR (r := .agg #[.int .i64 p2, .int .i64 q2]) rfl Try.call42 (fun L w hi => by have h := ref_Fraction w (max (a.tmod (20000 * (1 + k) + 1)) (b.tmod (20000 * (1 + k) + 1))) (1 + k) (by unfold ab; omega) (by omega) (by unfold in64; omega); rw [h2] at h; exact h) rfl ?_
         exact WO.nil ⟨rfl, rfl⟩
       refine' DT.b rfl rfl rfl ?hq ?_
       case hq =>
         refine WO.callR rfl Try.call28 (fun L w hi => by have h := c_Pay w c p2 q2; rw [payR_ok hc0 i2] at h; exact h) rfl ?_
         exact WO.nil ⟨rfl, rfl⟩
       refine' DT.r rfl rfl rfl ?hq ?_
       case hq =>
         refine WO.p rfl rfl ?_
         exact WO.nil ⟨rfl, rfl⟩
       refine' DT.r rfl rfl rfl ?hq ?_
       case hq =>
         refine WO.p rfl rfl ?_
         exact WO.nil ⟨rfl, rfl⟩
       refine' DT.r rfl rfl rfl ?hq ?_
       case hq =>
         refine WO.p rfl rfl ?_
         exact WO.nil ⟨rfl, rfl⟩
       refine' DT.r rfl rfl rfl ?hq ?_
       case hq =>
         refine WO.p rfl rfl ?_
         exact WO.nil ⟨rfl, rfl⟩
       refine DT.nil [_] rfl ?_
       refine WO.p rfl rfl ?_
       refine WO.nil ?_
       refine W.seq ?_
       refine W.drawD 9 [.b 0 [], .r 1 [], .b 2 [], .b 3 [], .b 4 [], .r 5 [], .r 6 [], .r 7 [], .r 8 []] [] (A0 := []) (Sub.refl _) (by kernel_rfl) ?_ ?_
       · exact (ALok.b (ALok.r (ALok.b (ALok.b (ALok.b (ALok.r (ALok.r (ALok.r (ALok.r ALok.nil)))))))))
       refine' DT.b rfl rfl rfl ?hq ?_
       case hq =>
         refine WO.loadA rfl rfl (Cells.own Pick.head) rfl rfl ?_
         exact WO.nil ⟨rfl, rfl⟩
       refine' DT.r rfl rfl rfl ?hq ?_
       case hq =>
         refine WO.field0 rfl rfl rfl ?_
         exact WO.nil ⟨rfl, rfl⟩
       refine' DT.b rfl rfl rfl ?hq ?_
       case hq =>
         refine WO.load rfl rfl (Cell.own Pick.head rfl) rfl ?_
         exact WO.nil ⟨rfl, rfl⟩
       refine' DT.b rfl rfl rfl ?hq ?_
       case hq =>
         refine WO.callR rfl Try.call37 (fun L w hi => law_whole w _) rfl ?_
         exact WO.nil ⟨rfl, rfl⟩
       refine' DT.b rfl rfl rfl ?hq ?_
       case hq =>
         refine WO.callR rfl Try.call28 (fun L w hi => by have h := c_Pay w c c.sp 1; rw [payR_ok hc0 m5] at h; exact h) rfl ?_
         exact WO.nil ⟨rfl, rfl⟩
       refine' DT.r rfl rfl rfl ?hq ?_
       case hq =>
         refine WO.p rfl rfl ?_
         exact WO.nil ⟨rfl, rfl⟩
       refine' DT.r rfl rfl rfl ?hq ?_
       case hq =>
         refine WO.p rfl rfl ?_
         exact WO.nil ⟨rfl, rfl⟩
       refine' DT.r rfl rfl rfl ?hq ?_
       case hq =>
         refine WO.p rfl rfl ?_
         exact WO.nil ⟨rfl, rfl⟩
       refine' DT.r rfl rfl rfl ?hq ?_
       case hq =>
         refine WO.p rfl rfl ?_
         exact WO.nil ⟨rfl, rfl⟩
       refine DT.nil [_] rfl ?_
       refine WO.p rfl rfl ?_
       refine WO.nil ?_
       refine W.sreg ?_
       refine WO.p rfl rfl (WO.p rfl rfl (WO.p rfl rfl ?_))
       refine WO.guard_bl rfl rfl (fun c2 => ?_) (fun c2 => ?_)
       · first
         | (exfalso; omega)
         | (refine WO.pg rfl rfl rfl (WO.pg rfl rfl rfl (WO.p rfl rfl (WO.p rfl rfl ?_)))
            refine WO.guard_bl rfl rfl (fun c3 => ?_) (fun c3 => ?_)
            · first
              | (exfalso; omega)
              | (refine WO.pg rfl rfl rfl (WO.pg rfl rfl rfl (WO.p rfl rfl (WO.p rfl rfl ?_)))
                 refine WO.guard_bl rfl rfl (fun c4 => ?_) (fun c4 => ?_)
                 · first
                   | (exfalso; omega)
                   | (refine WO.pg rfl rfl rfl (WO.pg rfl rfl rfl (WO.pg rfl rfl rfl (WO.p rfl rfl (WO.p rfl rfl ?_))))
                      refine WO.guard_bl rfl rfl (fun c5 => ?_) (fun c5 => ?_)
                      · first
                        | (exfalso; omega)
                        | (refine WO.pg rfl rfl rfl (WO.go' rfl (WO.fieldL rfl rfl rfl (WO.go' rfl (WO.load rfl rfl (Cell.own Pick.head rfl) rfl (WO.pg rfl rfl rfl (WO.p rfl rfl (WO.p rfl rfl ?_)))))))
                           refine WO.guard_bl rfl rfl (fun c6 => ?_) (fun c6 => ?_)
                           · first
                             | (exfalso; omega)
                             | (refine WO.pg rfl rfl rfl (WO.go' rfl (WO.fieldL rfl rfl rfl (WO.go' rfl (WO.load rfl rfl (Cell.own Pick.head rfl) rfl (WO.go' rfl (WO.neg rfl (by (first | (unfold in64; omega) | (unfold in64; omega))) rfl (WO.pg rfl rfl rfl (WO.p rfl rfl (WO.p rfl rfl ?_)))))))))
                                refine WO.guard_bl rfl rfl (fun c7 => ?_) (fun c7 => ?_)
                                · first
                                  | (exfalso; omega)
                                  | (refine WO.pg rfl rfl rfl (WO.pg rfl rfl rfl (WO.p rfl rfl (WO.p rfl rfl ?_)))
                                     refine WO.guard_bl rfl rfl (fun c8 => ?_) (fun c8 => ?_)
                                     · first
                                       | (exfalso; omega)
                                       | (refine WO.go' rfl ?_
                                          refine WO.callR rfl Try.call12 (fun L w hi => law_Works w) rfl ?_
                                          refine WO.p rfl rfl (WO.p rfl rfl ?_)
                                          refine WO.nil ?_
                                          refine W.ret ?_
                                          first | exact fin.ret (Res.one rfl (RV.tmp rfl)) rfl | (exfalso; omega))
                                     · first
                                       | (exfalso; omega)
                                       | (refine WO.no rfl rfl (WO.p rfl rfl (WO.p rfl rfl ?_))
                                          refine WO.nil ?_
                                          refine W.ret ?_
                                          first | exact fin.ret (Res.one rfl (RV.tmp rfl)) rfl | (exfalso; omega)))
                                · first
                                  | (exfalso; omega)
                                  | (refine WO.no rfl rfl (WO.no rfl rfl (WO.p rfl rfl (WO.p rfl rfl (WO.no rfl rfl (WO.p rfl rfl (WO.p rfl rfl ?_))))))
                                     refine WO.nil ?_
                                     refine W.ret ?_
                                     first | exact fin.ret (Res.one rfl (RV.tmp rfl)) rfl | (exfalso; omega)))
                           · first
                             | (exfalso; omega)
                             | (refine WO.no rfl rfl (WO.no rfl rfl (WO.no rfl rfl (WO.no rfl rfl (WO.no rfl rfl (WO.p rfl rfl (WO.p rfl rfl (WO.no rfl rfl (WO.no rfl rfl (WO.p rfl rfl (WO.p rfl rfl (WO.no rfl rfl ?_)))))))))))
                                refine WO.p rfl rfl (WO.p rfl rfl ?_)
                                refine WO.nil ?_
                                refine W.ret ?_
                                first | exact fin.ret (Res.one rfl (RV.tmp rfl)) rfl | (exfalso; omega)))
                      · first
                        | (exfalso; omega)
                        | (refine WO.no rfl rfl (WO.no rfl rfl (WO.no rfl rfl (WO.no rfl rfl (WO.p rfl rfl (WO.p rfl rfl (WO.no rfl rfl (WO.no rfl rfl (WO.no rfl rfl (WO.no rfl rfl (WO.no rfl rfl (WO.p rfl rfl ?_)))))))))))
                           refine WO.p rfl rfl (WO.no rfl rfl (WO.no rfl rfl (WO.p rfl rfl (WO.p rfl rfl (WO.no rfl rfl (WO.p rfl rfl (WO.p rfl rfl ?_)))))))
                           refine WO.nil ?_
                           refine W.ret ?_
                           first | exact fin.ret (Res.one rfl (RV.tmp rfl)) rfl | (exfalso; omega)))
                 · first
                   | (exfalso; omega)
                   | (refine WO.no rfl rfl (WO.no rfl rfl (WO.no rfl rfl (WO.p rfl rfl (WO.p rfl rfl (WO.no rfl rfl (WO.no rfl rfl (WO.no rfl rfl (WO.no rfl rfl (WO.p rfl rfl (WO.p rfl rfl (WO.no rfl rfl ?_)))))))))))
                      refine WO.no rfl rfl (WO.no rfl rfl (WO.no rfl rfl (WO.no rfl rfl (WO.p rfl rfl (WO.p rfl rfl (WO.no rfl rfl (WO.no rfl rfl (WO.p rfl rfl (WO.p rfl rfl (WO.no rfl rfl (WO.p rfl rfl ?_)))))))))))
                      refine WO.p rfl rfl ?_
                      refine WO.nil ?_
                      refine W.ret ?_
                      first | exact fin.ret (Res.one rfl (RV.tmp rfl)) rfl | (exfalso; omega)))
            · first
              | (exfalso; omega)
              | (refine WO.no rfl rfl (WO.no rfl rfl (WO.p rfl rfl (WO.p rfl rfl (WO.no rfl rfl (WO.no rfl rfl (WO.no rfl rfl (WO.p rfl rfl (WO.p rfl rfl (WO.no rfl rfl (WO.no rfl rfl (WO.no rfl rfl ?_)))))))))))
                 refine WO.no rfl rfl (WO.p rfl rfl (WO.p rfl rfl (WO.no rfl rfl (WO.no rfl rfl (WO.no rfl rfl (WO.no rfl rfl (WO.no rfl rfl (WO.p rfl rfl (WO.p rfl rfl (WO.no rfl rfl (WO.no rfl rfl ?_)))))))))))
                 refine WO.p rfl rfl (WO.p rfl rfl (WO.no rfl rfl (WO.p rfl rfl (WO.p rfl rfl ?_))))
                 refine WO.nil ?_
                 refine W.ret ?_
                 first | exact fin.ret (Res.one rfl (RV.tmp rfl)) rfl | (exfalso; omega)))
       · first
         | (exfalso; omega)
         | (refine WO.no rfl rfl (WO.no rfl rfl (WO.p rfl rfl (WO.p rfl rfl (WO.no rfl rfl (WO.no rfl rfl (WO.p rfl rfl (WO.p rfl rfl (WO.no rfl rfl (WO.no rfl rfl (WO.no rfl rfl (WO.p rfl rfl ?_)))))))))))
            refine WO.p rfl rfl (WO.no rfl rfl (WO.no rfl rfl (WO.no rfl rfl (WO.no rfl rfl (WO.p rfl rfl (WO.p rfl rfl (WO.no rfl rfl (WO.no rfl rfl (WO.no rfl rfl (WO.no rfl rfl (WO.no rfl rfl ?_)))))))))))
            refine WO.p rfl rfl (WO.p rfl rfl (WO.no rfl rfl (WO.no rfl rfl (WO.p rfl rfl (WO.p rfl rfl (WO.no rfl rfl (WO.p rfl rfl (WO.p rfl rfl ?_))))))))
            refine WO.nil ?_
            refine W.ret ?_
            first | exact fin.ret (Res.one rfl (RV.tmp rfl)) rfl | (exfalso; omega)))
end Go.Proofs.Ytkiaepcklbidgaa
