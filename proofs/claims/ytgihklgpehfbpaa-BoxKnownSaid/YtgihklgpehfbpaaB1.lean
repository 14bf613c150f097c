/-
  What is proved here: contracts of the functions that reduce fractions. Conditions: none; each contract states its own.
-/
import Derived.Test.YtgihklgpehfbpaaTab
namespace Go.Proofs.Ytgihklgpehfbpaa
open Go Go.TH
attribute [local irreducible] W WO pt
set_option maxRecDepth 10000
/-- the greatest common divisor -/
def gcd2 (a b : Int) : Int := (Nat.gcd a.toNat b.toNat : Nat)
theorem gcd2_zero {a : Int} (h : 0 ≤ a) : gcd2 a 0 = a := by simp [gcd2]; omega
theorem gcd2_step {a b : Int} (ha : 0 ≤ a) (hb : 0 < b) : gcd2 b (a.tmod b) = gcd2 a b := by
  unfold gcd2
  obtain ⟨n, rfl⟩ := Int.eq_ofNat_of_zero_le ha
  obtain ⟨m, rfl⟩ := Int.eq_ofNat_of_zero_le (Int.le_of_lt hb)
  rw [Int.tmod_eq_emod_of_nonneg (by omega), ← Int.natCast_emod]
  simp only [Int.toNat_natCast]
  rw [Nat.gcd_comm m (n % m), ← Nat.gcd_rec, Nat.gcd_comm]
theorem tmod_lt {a b : Int} (ha : 0 ≤ a) (hb : 0 < b) : 0 ≤ a.tmod b ∧ a.tmod b < b := ⟨Int.tmod_nonneg b ha, Int.tmod_lt_of_pos a hb⟩
theorem gcd2_pos {a b : Int} (ha : 0 ≤ a) (hb : 0 < b) : 0 < gcd2 a b := by
  unfold gcd2
  have : 0 < Nat.gcd a.toNat b.toNat := Nat.gcd_pos_of_pos_right _ (by omega)
  omega
theorem gcd2_le {a b : Int} (ha : 0 ≤ a) (hb : 0 < b) : gcd2 a b ≤ b := by
  unfold gcd2
  have : Nat.gcd a.toNat b.toNat ≤ b.toNat := Nat.gcd_le_right _ (by omega)
  omega
/-- a fraction in least terms -/
def red (n d : Int) : Int × Int := (n.tdiv (gcd2 n d), d.tdiv (gcd2 n d))
theorem tdiv_in {a b : Int} (ha : 0 ≤ a) (hb : 0 < b) (h : in64 a) : in64 (a.tdiv b) := by
  unfold in64 at *
  have h1 : 0 ≤ a.tdiv b := Int.tdiv_nonneg ha (by omega)
  have h2 : a.tdiv b ≤ a := by
    rw [Int.tdiv_eq_ediv_of_nonneg ha]
    exact Int.ediv_le_self _ ha
  omega
theorem c_divisor (w : World) (a b : Int) (ha : 0 ≤ a) (hb : 0 ≤ b) :
    Ret Try.prog 62 [.int .i64 a, .int .i64 b].toArray w (.int .i64 (gcd2 a b)) := by
  refine Ret.of mixed tyTab Try.func62 rfl rfl ?_
  refine W.sreg ?_
  refine WO.p rfl rfl ?_
  refine WO.nil ?_
  refine W.seq ?_
  refine W.block ?_
  refine W.loop2 (fun (x : Int) (y : Int) => 0 ≤ x ∧ 0 ≤ y ∧ gcd2 x y = gcd2 a b)
    (fun (x : Int) (y : Int) => [(0, .int .i64 x), (1, .int .i64 y)])
    (fun (x : Int) (y : Int) => [])
    (fun (x : Int) (y : Int) => y.toNat) a b
    (by exact ⟨ha, hb, rfl⟩) ⟨rfl, rfl, trivial⟩ (by repeat (first | exact Sub.nil | refine Sub.cons (by repeat (first | exact Pick.head | apply Pick.tail)) ?_)) ?_
  rintro x y ⟨hx, hy, hg⟩
  refine W.seq ?_
  refine W.sreg ?_
  refine WO.p rfl rfl (WO.p rfl rfl ?_)
  refine WO.nil ?_
  refine W.cond_bl rfl (fun c1 => ?_) (fun c1 => ?_)
  · first
    | (exfalso; omega)
    | (refine W.skip ?_
       refine W.block ?_
       refine W.drawD 5 [.r 0 [], .r 1 [], .r 2 [0], .r 3 [0], .r 4 [0]] [0] (A0 := []) (Sub.refl _) (by kernel_rfl) ?_ ?_
       · exact (ALok.r (ALok.r (ALok.r (ALok.r (ALok.r ALok.nil)))))
       refine' DT.r rfl rfl rfl ?hq ?_
       case hq =>
         refine WO.p rfl rfl ?_
         exact WO.nil ⟨rfl, rfl⟩
       refine' DT.r rfl rfl rfl ?hq ?_
       case hq =>
         refine WO.p rfl rfl ?_
         exact WO.nil ⟨rfl, rfl⟩
       refine' DT.r rfl rfl rfl ?hq ?_
       case hq =>
         refine WO.p rfl rfl ?_
         exact WO.nil ⟨rfl, rfl⟩
       refine' DT.r rfl rfl rfl ?hq ?_
       case hq =>
         refine WO.rem rfl rfl (by first | omega | assumption) rfl ?_
         exact WO.nil ⟨rfl, rfl⟩
       refine' DT.r rfl rfl rfl ?hq ?_
       case hq =>
         refine WO.p rfl rfl ?_
         exact WO.nil ⟨rfl, rfl⟩
       refine DT.nil [] rfl ?_
       refine WO.p rfl rfl ?_
       refine WO.nil ?_
       refine' ⟨_, _, ?hp, ?hmu, ⟨rfl, rfl, trivial⟩, ?hS⟩
       case hS => repeat (first | exact Sub.nil | refine Sub.cons (by repeat (first | exact Pick.head | apply Pick.tail)) ?_)
       case hp => exact ⟨hy, (tmod_lt hx (by omega)).1, by rw [gcd2_step hx (by omega)]; exact hg⟩
       case hmu => have := tmod_lt hx (show 0 < y by omega); omega)
  · first
    | (exfalso; omega)
    | (refine W.exit (blk_same ?_)
       refine W.sreg ?_
       refine WO.p rfl rfl (WO.p rfl rfl ?_)
       refine WO.nil ?_
       refine W.ret ?_
       refine fin.ret (Res.one rfl (RV.tmp rfl)) ?_
       obtain rfl : y = 0 := by omega
       rw [← hg, gcd2_zero hx])
theorem c_fraction (w : World) (n d : Int) (hn : 0 ≤ n) (hd : 0 < d) (h1 : in64 n) (h2 : in64 d) :
    Ret Try.prog 47 [.int .i64 n, .int .i64 d].toArray w (.agg (encP (red n d)).toArray) := by
  refine Ret.of mixed tyTab Try.func47 rfl rfl ?_
  have hg := gcd2_pos hn hd
  refine W.sreg ?_
  refine WO.alloc rfl rfl rfl (fun b1 hb1 => ?_)
  refine WO.nil ?_
  refine W.sreg ?_
  refine WO.p rfl rfl (WO.p rfl rfl ?_)
  refine WO.callR rfl Try.call62 (fun L w hi => c_divisor w n d hn (by omega)) rfl ?_
  refine WO.p rfl rfl ?_
  refine WO.nil ?_
  refine W.seq ?_
  refine W.drawD 6 [.r 0 [], .r 1 [], .r 2 [], .r 3 [], .r 4 [], .r 5 []] [] (A0 := []) (Sub.refl _) (by kernel_rfl) ?_ ?_
  · exact (ALok.r (ALok.r (ALok.r (ALok.r (ALok.r (ALok.r ALok.nil))))))
  refine' DT.r rfl rfl rfl ?hq ?_
  case hq =>
    refine WO.p rfl rfl ?_
    exact WO.nil ⟨rfl, rfl⟩
  refine' DT.r rfl rfl rfl ?hq ?_
  case hq =>
    refine WO.p rfl rfl ?_
    exact WO.nil ⟨rfl, rfl⟩
  refine' DT.r rfl rfl rfl ?hq ?_
  case hq =>
    refine WO.quo rfl rfl (by first | omega | assumption) (by (first | (unfold in64; omega) | (exact tdiv_in hn hg h1) | (exact tdiv_in (by omega) hg h2))) rfl ?_
    exact WO.nil ⟨rfl, rfl⟩
  refine' DT.r rfl rfl rfl ?hq ?_
  case hq =>
    refine WO.p rfl rfl ?_
    exact WO.nil ⟨rfl, rfl⟩
  refine' DT.r rfl rfl rfl ?hq ?_
  case hq =>
    refine WO.p rfl rfl ?_
    exact WO.nil ⟨rfl, rfl⟩
  refine' DT.r rfl rfl rfl ?hq ?_
  case hq =>
    refine WO.quo rfl rfl (by first | omega | assumption) (by (first | (unfold in64; omega) | (exact tdiv_in hn hg h1) | (exact tdiv_in (by omega) hg h2))) rfl ?_
    exact WO.nil ⟨rfl, rfl⟩
  refine DT.nil [_] rfl ?_
  refine' WO.build (cs := _) rfl rfl rfl ?hf rfl ?_
  case hf => (conv => lhs; simp [-List.getD_eq_getElem?_getD, fillL, vcl, wrl, TTab.pl?.lget']) <;> rfl
  refine WO.storeA rfl rfl rfl rfl Pick.head rfl rfl ?_
  refine WO.nil ?_
  refine W.ret ?_
  exact fin.ret (Res.one rfl (RV.cell rfl rfl rfl (Cells.own Pick.head))) rfl
theorem ref_Fraction (w : World) (n d : Int) (hn : 0 ≤ n) (hd : 0 < d) (h1 : in64 n) (h2 : in64 d) :
    Ret Try.prog 31 [.int .i64 n, .int .i64 d].toArray w (.agg (encP (red n d)).toArray) := by
  refine Ret.of mixed tyTab Try.func31 rfl rfl ?_
  have hgp := gcd2_pos hn hd
  refine W.sreg ?_
  refine WO.alloc rfl rfl rfl (fun b1 hb1 => ?_)
  refine WO.nil ?_
  refine W.sreg ?_
  refine WO.p rfl rfl (WO.p rfl rfl (WO.p rfl rfl (WO.p rfl rfl ?_)))
  refine WO.nil ?_
  refine W.seq ?_
  refine W.block ?_
  refine W.loop2 (fun (x : Int) (y : Int) => 0 ≤ x ∧ 0 ≤ y ∧ gcd2 x y = gcd2 n d)
    (fun (x : Int) (y : Int) => [(5, .int .i64 x), (6, .int .i64 y), (0, .int .i64 n), (1, .int .i64 d), (4, .pointer (some ⟨b1, 0, none⟩))])
    (fun (x : Int) (y : Int) => [pt b1 (.cells #[.int .i64 0, .int .i64 0] 29 (0, 0))])
    (fun (x : Int) (y : Int) => y.toNat) n d
    (by exact ⟨hn, by omega, rfl⟩) ⟨rfl, rfl, rfl, rfl, rfl, trivial⟩ (by repeat (first | exact Sub.nil | refine Sub.cons (by repeat (first | exact Pick.head | apply Pick.tail)) ?_)) ?_
  rintro x y ⟨hx, hy, hg⟩
  have hgx : y = 0 → 0 < x := by intro e; subst e; rw [gcd2_zero hx] at hg; omega
  refine W.seq ?_
  refine W.sreg ?_
  refine WO.p rfl rfl (WO.p rfl rfl ?_)
  refine WO.nil ?_
  refine W.cond_bl rfl (fun c1 => ?_) (fun c1 => ?_)
  · first
    | (exfalso; omega)
    | (refine W.skip ?_
       refine W.block ?_
       refine W.drawD 5 [.r 0 [], .r 1 [], .r 2 [5], .r 3 [5], .r 4 [5]] [5] (A0 := []) (Sub.refl _) (by kernel_rfl) ?_ ?_
       · exact (ALok.r (ALok.r (ALok.r (ALok.r (ALok.r ALok.nil)))))
       refine' DT.r rfl rfl rfl ?hq ?_
       case hq =>
         refine WO.p rfl rfl ?_
         exact WO.nil ⟨rfl, rfl⟩
       refine' DT.r rfl rfl rfl ?hq ?_
       case hq =>
         refine WO.p rfl rfl ?_
         exact WO.nil ⟨rfl, rfl⟩
       refine' DT.r rfl rfl rfl ?hq ?_
       case hq =>
         refine WO.p rfl rfl ?_
         exact WO.nil ⟨rfl, rfl⟩
       refine' DT.r rfl rfl rfl ?hq ?_
       case hq =>
         refine WO.rem rfl rfl (by first | omega | assumption) rfl ?_
         exact WO.nil ⟨rfl, rfl⟩
       refine' DT.r rfl rfl rfl ?hq ?_
       case hq =>
         refine WO.p rfl rfl ?_
         exact WO.nil ⟨rfl, rfl⟩
       refine DT.nil [_] rfl ?_
       refine WO.p rfl rfl ?_
       refine WO.nil ?_
       refine' ⟨_, _, ?hp, ?hmu, ⟨rfl, rfl, rfl, rfl, rfl, trivial⟩, ?hS⟩
       case hS => repeat (first | exact Sub.nil | refine Sub.cons (by repeat (first | exact Pick.head | apply Pick.tail)) ?_)
       case hp => exact ⟨hy, (tmod_lt hx (by omega)).1, by rw [gcd2_step hx (by omega)]; exact hg⟩
       case hmu => have := tmod_lt hx (show 0 < y by omega); omega)
  · first
    | (exfalso; omega)
    | (refine W.exit (blk_same ?_)
       refine W.seq ?_
       refine W.drawD 6 [.r 0 [], .r 1 [], .r 2 [], .r 3 [], .r 4 [], .r 5 []] [] (A0 := []) (Sub.refl _) (by kernel_rfl) ?_ ?_
       · exact (ALok.r (ALok.r (ALok.r (ALok.r (ALok.r (ALok.r ALok.nil))))))
       refine' DT.r rfl rfl rfl ?hq ?_
       case hq =>
         refine WO.p rfl rfl ?_
         exact WO.nil ⟨rfl, rfl⟩
       refine' DT.r rfl rfl rfl ?hq ?_
       case hq =>
         refine WO.p rfl rfl ?_
         exact WO.nil ⟨rfl, rfl⟩
       refine' DT.r rfl rfl rfl ?hq ?_
       case hq =>
         refine WO.quo rfl rfl (by first | omega | assumption) (by (first | (unfold in64; omega) | (exact tdiv_in hn (by omega) h1) | (exact tdiv_in (by omega) (by omega) h2))) rfl ?_
         exact WO.nil ⟨rfl, rfl⟩
       refine' DT.r rfl rfl rfl ?hq ?_
       case hq =>
         refine WO.p rfl rfl ?_
         exact WO.nil ⟨rfl, rfl⟩
       refine' DT.r rfl rfl rfl ?hq ?_
       case hq =>
         refine WO.p rfl rfl ?_
         exact WO.nil ⟨rfl, rfl⟩
       refine' DT.r rfl rfl rfl ?hq ?_
       case hq =>
         refine WO.quo rfl rfl (by first | omega | assumption) (by (first | (unfold in64; omega) | (exact tdiv_in hn (by omega) h1) | (exact tdiv_in (by omega) (by omega) h2))) rfl ?_
         exact WO.nil ⟨rfl, rfl⟩
       refine DT.nil [_] rfl ?_
       refine' WO.build (cs := _) rfl rfl rfl ?hf rfl ?_
       case hf => (conv => lhs; simp [-List.getD_eq_getElem?_getD, fillL, vcl, wrl, TTab.pl?.lget']) <;> rfl
       refine WO.storeA rfl rfl rfl rfl Pick.head rfl rfl ?_
       refine WO.nil ?_
       refine W.ret ?_
       exact fin.ret (Res.one rfl (RV.cell rfl rfl rfl (Cells.own Pick.head))) (by
       obtain rfl : y = 0 := by omega
       rw [gcd2_zero hx] at hg; subst hg; rfl))
end Go.Proofs.Ytgihklgpehfbpaa

