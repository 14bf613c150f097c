/-
  What is proved here: a table of the program's types (cells, fields, elements, zero values) agrees with the program. Conditions: none.
  What is proved here: contracts of the functions that reduce fractions. Conditions: none; each contract states its own.
  test
  What is proved here: contracts of small functions (weights, bounds, comparisons). Conditions: none; each contract states its own.
  What is proved here: contracts of small functions (which hulls are too great, equal lists, spans). Conditions: none; each contract states its own.
  What is proved here: contracts of the functions that yield hulls. Conditions: none; each contract states its own.
  What is proved here: contracts of small functions of the laws. Conditions: none; each contract states its own.
  What is proved here: the sums over all places of a hull, and their bounds. Conditions: none; each contract states its own.
  What is proved here: the reference's test of a true hull. Conditions: none; each contract states its own.
  What is proved here: valid hulls and true ones, and the reference's volume and values. Conditions: none; each contract states its own.
  What is proved here: the reference's volumes, how many true hulls there are, and its bounds. Conditions: none; each contract states its own.
  What is proved here: how many true hulls there are, and the reference's bounds. Conditions: none; each contract states its own.
-/
import Derived.Test.YtgihklgpehfbpaaM2
import Derived.Test.YtgihklgpehfbpaaChecked
import Derived.KernelRfl
namespace Go.Proofs.Ytgihklgpehfbpaa
open Go Go.TH
def tyList : List TI := [⟨.none, 0, none⟩,
  ⟨.one, 1, some (.nilFunc)⟩,
  ⟨.int .i64, 1, some (.int .i64 0)⟩,
  ⟨.int .i64, 1, some (.int .i64 0)⟩,
  ⟨.one, 1, some (.bool false)⟩,
  ⟨.int .u8, 1, some (.int .u8 0)⟩,
  ⟨.int .u8, 1, some (.int .u8 0)⟩,
  ⟨.st [(0, 2), (1, 3), (2, 4), (3, 6)], 4, some (.agg #[.int .i64 0, .int .i64 0, .bool false, .int .u8 0])⟩,
  ⟨.st [(0, 2), (1, 3), (2, 4), (3, 6)], 4, some (.agg #[.int .i64 0, .int .i64 0, .bool false, .int .u8 0])⟩,
  ⟨.none, 0, none⟩,
  ⟨.none, 0, none⟩,
  ⟨.none, 0, none⟩,
  ⟨.int .u64, 1, some (.int .u64 0)⟩,
  ⟨.st [(0, 9), (1, 12)], 2, none⟩,
  ⟨.st [(0, 9), (1, 12)], 2, none⟩,
  ⟨.one, 1, some (.pointer none)⟩,
  ⟨.one, 1, some (.pointer none)⟩,
  ⟨.one, 1, some (.pointer none)⟩,
  ⟨.st [(0, 17)], 1, some (.agg #[.pointer none])⟩,
  ⟨.st [(0, 17)], 1, some (.agg #[.pointer none])⟩,
  ⟨.one, 1, some (.nilIface)⟩,
  ⟨.int .i32, 1, some (.int .i32 0)⟩,
  ⟨.sl 52 1 24, 1, some (.slice none 0 0)⟩,
  ⟨.st [(0, 2), (1, 2), (2, 22)], 3, some (.agg #[.int .i64 0, .int .i64 0, .slice none 0 0])⟩,
  ⟨.st [(0, 2), (1, 2), (2, 22)], 3, some (.agg #[.int .i64 0, .int .i64 0, .slice none 0 0])⟩,
  ⟨.sl 53 1 24, 1, some (.slice none 0 0)⟩,
  ⟨.one, 1, some (.nilFunc)⟩,
  ⟨.one, 1, some (.nilFunc)⟩,
  ⟨.st [(0, 2), (1, 2)], 2, some (.agg #[.int .i64 0, .int .i64 0])⟩,
  ⟨.st [(0, 2), (1, 2)], 2, some (.agg #[.int .i64 0, .int .i64 0])⟩,
  ⟨.int .i64, 1, some (.int .i64 0)⟩,
  ⟨.none, 0, none⟩,
  ⟨.one, 1, some (.nilFunc)⟩,
  ⟨.one, 1, some (.nilFunc)⟩,
  ⟨.one, 1, some (.nilFunc)⟩,
  ⟨.one, 1, some (.nilFunc)⟩,
  ⟨.one, 1, some (.nilFunc)⟩,
  ⟨.one, 1, some (.nilFunc)⟩,
  ⟨.one, 1, some (.nilFunc)⟩,
  ⟨.one, 1, some (.nilFunc)⟩,
  ⟨.st [(0, 29), (2, 29)], 4, some (.agg #[.int .i64 0, .int .i64 0, .int .i64 0, .int .i64 0])⟩,
  ⟨.st [(0, 29), (2, 29)], 4, some (.agg #[.int .i64 0, .int .i64 0, .int .i64 0, .int .i64 0])⟩,
  ⟨.none, 0, none⟩,
  ⟨.one, 1, some (.nilFunc)⟩,
  ⟨.one, 1, some (.nilFunc)⟩,
  ⟨.one, 1, some (.nilFunc)⟩,
  ⟨.none, 0, none⟩,
  ⟨.one, 1, some (.nilFunc)⟩,
  ⟨.one, 1, some (.nilFunc)⟩,
  ⟨.ar 2 5 1, 2, some (.agg #[.int .u8 0, .int .u8 0])⟩,
  ⟨.sl 5 1 1, 1, some (.slice none 0 0)⟩,
  ⟨.one, 1, some (.nilFunc)⟩,
  ⟨.sl 55 2 16, 1, some (.slice none 0 0)⟩,
  ⟨.sl 2 1 8, 1, some (.slice none 0 0)⟩,
  ⟨.st [(0, 2), (1, 2)], 2, some (.agg #[.int .i64 0, .int .i64 0])⟩,
  ⟨.st [(0, 2), (1, 2)], 2, some (.agg #[.int .i64 0, .int .i64 0])⟩,
  ⟨.one, 1, some (.nilFunc)⟩,
  ⟨.one, 1, some (.nilFunc)⟩,
  ⟨.one, 1, some (.nilFunc)⟩,
  ⟨.one, 1, some (.nilFunc)⟩,
  ⟨.one, 1, some (.nilFunc)⟩,
  ⟨.one, 1, some (.nilFunc)⟩,
  ⟨.one, 1, some (.nilFunc)⟩,
  ⟨.one, 1, some (.nilFunc)⟩,
  ⟨.one, 1, some (.nilFunc)⟩,
  ⟨.one, 1, some (.nilFunc)⟩,
  ⟨.one, 1, some (.nilFunc)⟩,
  ⟨.one, 1, some (.nilFunc)⟩,
  ⟨.one, 1, some (.nilFunc)⟩,
  ⟨.none, 0, none⟩,
  ⟨.one, 1, some (.nilFunc)⟩,
  ⟨.one, 1, some (.pointer none)⟩,
  ⟨.none, 0, none⟩,
  ⟨.one, 1, some (.nilFunc)⟩,
  ⟨.one, 1, some (.nilFunc)⟩,
  ⟨.one, 1, some (.nilFunc)⟩,
  ⟨.one, 1, some (.nilFunc)⟩,
  ⟨.one, 1, some (.nilFunc)⟩,
  ⟨.one, 1, some (.nilFunc)⟩,
  ⟨.none, 0, none⟩,
  ⟨.one, 1, some (.nilFunc)⟩,
  ⟨.one, 1, some (.nilFunc)⟩,
  ⟨.none, 0, none⟩,
  ⟨.one, 1, some (.nilFunc)⟩,
  ⟨.one, 1, some (.nilFunc)⟩,
  ⟨.one, 1, some (.nilFunc)⟩,
  ⟨.one, 1, some (.nilFunc)⟩,
  ⟨.one, 1, some (.nilFunc)⟩,
  ⟨.st [(0, 24), (3, 3)], 4, some (.agg #[.int .i64 0, .int .i64 0, .slice none 0 0, .int .i64 0])⟩,
  ⟨.st [(0, 24), (3, 3)], 4, some (.agg #[.int .i64 0, .int .i64 0, .slice none 0 0, .int .i64 0])⟩,
  ⟨.one, 1, some (.nilFunc)⟩,
  ⟨.one, 1, some (.nilFunc)⟩,
  ⟨.one, 1, some (.nilFunc)⟩,
  ⟨.st [(0, 3), (1, 3), (2, 2), (3, 2), (4, 4)], 5, some (.agg #[.int .i64 0, .int .i64 0, .int .i64 0, .int .i64 0, .bool false])⟩,
  ⟨.st [(0, 3), (1, 3), (2, 2), (3, 2), (4, 4)], 5, some (.agg #[.int .i64 0, .int .i64 0, .int .i64 0, .int .i64 0, .bool false])⟩,
  ⟨.one, 1, some (.nilFunc)⟩,
  ⟨.none, 0, none⟩,
  ⟨.one, 1, some (.nilFunc)⟩,
  ⟨.one, 1, some (.nilFunc)⟩,
  ⟨.one, 1, some (.nilFunc)⟩,
  ⟨.one, 1, some (.nilFunc)⟩,
  ⟨.one, 1, some (.nilFunc)⟩,
  ⟨.ar 2 2 1, 2, some (.agg #[.int .i64 0, .int .i64 0])⟩,
  ⟨.ar 2 2 1, 2, some (.agg #[.int .i64 0, .int .i64 0])⟩,
  ⟨.one, 1, some (.nilFunc)⟩,
  ⟨.one, 1, some (.nilFunc)⟩,
  ⟨.st [(0, 17), (1, 17), (2, 17), (3, 9)], 4, none⟩,
  ⟨.st [(0, 17), (1, 17), (2, 17), (3, 9)], 4, none⟩,
  ⟨.none, 0, none⟩,
  ⟨.none, 0, none⟩,
  ⟨.none, 0, none⟩,
  ⟨.one, 1, some (.nilFunc)⟩,
  ⟨.int .u32, 1, some (.int .u32 0)⟩,
  ⟨.int .u8, 1, some (.int .u8 0)⟩,
  ⟨.int .u8, 1, some (.int .u8 0)⟩,
  ⟨.one, 1, some (.nilFunc)⟩,
  ⟨.one, 1, some (.pointer none)⟩,
  ⟨.int .i32, 1, some (.int .i32 0)⟩,
  ⟨.int .i32, 1, some (.int .i32 0)⟩,
  ⟨.st [(0, 12), (1, 12), (2, 112), (3, 113), (4, 5), (5, 5), (6, 114), (7, 115), (8, 116), (9, 117), (10, 118)], 11, some (.agg #[.int .u64 0, .int .u64 0, .int .u32 0, .int .u8 0, .int .u8 0, .int .u8 0, .int .u8 0, .nilFunc, .pointer none, .int .i32 0, .int .i32 0])⟩,
  ⟨.st [(0, 12), (1, 12), (2, 112), (3, 113), (4, 5), (5, 5), (6, 114), (7, 115), (8, 116), (9, 117), (10, 118)], 11, some (.agg #[.int .u64 0, .int .u64 0, .int .u32 0, .int .u8 0, .int .u8 0, .int .u8 0, .int .u8 0, .nilFunc, .pointer none, .int .i32 0, .int .i32 0])⟩,
  ⟨.none, 0, none⟩]
theorem ty_ok : (tyList.zipIdx.all fun (ti, T) => tiChk Try.prog T ti) = true := by kernel_rfl
def tyTab : TTab Try.prog := ⟨tyList, ty_ok⟩
theorem mixed : Try.prog.follows .mixedOrders = true := by kernel_rfl
end Go.Proofs.Ytgihklgpehfbpaa
namespace Go.Proofs.Ytgihklgpehfbpaa
open Go Go.TH
attribute [local irreducible] W WO pt
set_option maxRecDepth 10000
/-- the greatest common divisor -/
def gcd2 (a b : Int) : Int := (Nat.gcd a.toNat b.toNat : Nat)
theorem gcd2_zero {a : Int} (h : 0 ≤ a) : gcd2 a 0 = a := by simp [gcd2]; omega
theorem gcd2_step {a b : Int} (ha : 0 ≤ a) (hb : 0 < b) : gcd2 b (a.tmod b) = gcd2 a b := by
  unfold gcd2
  obtain ⟨n, rfl⟩ := Int.eq_ofNat_of_zero_le ha
  obtain ⟨m, rfl⟩ := Int.eq_ofNat_of_zero_le (Int.le_of_lt hb)
  rw [Int.tmod_eq_emod_of_nonneg (by omega), ← Int.natCast_emod]
  simp only [Int.toNat_natCast]
  rw [Nat.gcd_comm m (n % m), ← Nat.gcd_rec, Nat.gcd_comm]
theorem tmod_lt {a b : Int} (ha : 0 ≤ a) (hb : 0 < b) : 0 ≤ a.tmod b ∧ a.tmod b < b := ⟨Int.tmod_nonneg b ha, Int.tmod_lt_of_pos a hb⟩
theorem gcd2_pos {a b : Int} (ha : 0 ≤ a) (hb : 0 < b) : 0 < gcd2 a b := by
  unfold gcd2
  have : 0 < Nat.gcd a.toNat b.toNat := Nat.gcd_pos_of_pos_right _ (by omega)
  omega
theorem gcd2_le {a b : Int} (ha : 0 ≤ a) (hb : 0 < b) : gcd2 a b ≤ b := by
  unfold gcd2
  have : Nat.gcd a.toNat b.toNat ≤ b.toNat := Nat.gcd_le_right _ (by omega)
  omega
/-- a fraction in least terms -/
def red (n d : Int) : Int × Int := (n.tdiv (gcd2 n d), d.tdiv (gcd2 n d))
theorem tdiv_in {a b : Int} (ha : 0 ≤ a) (hb : 0 < b) (h : in64 a) : in64 (a.tdiv b) := by
  unfold in64 at *
  have h1 : 0 ≤ a.tdiv b := Int.tdiv_nonneg ha (by omega)
  have h2 : a.tdiv b ≤ a := by
    rw [Int.tdiv_eq_ediv_of_nonneg ha]
    exact Int.ediv_le_self _ ha
  omega
theorem c_divisor (w : World) (a b : Int) (ha : 0 ≤ a) (hb : 0 ≤ b) :
    Ret Try.prog 62 [.int .i64 a, .int .i64 b].toArray w (.int .i64 (gcd2 a b)) := by
  refine Ret.of mixed tyTab Try.func62 rfl rfl ?_
  refine W.sreg ?_
  refine WO.p rfl rfl ?_
  refine WO.nil ?_
  refine W.seq ?_
  refine W.block ?_
  refine W.loop2 (fun (x : Int) (y : Int) => 0 ≤ x ∧ 0 ≤ y ∧ gcd2 x y = gcd2 a b)
    (fun (x : Int) (y : Int) => [(0, .int .i64 x), (1, .int .i64 y)])
    (fun (x : Int) (y : Int) => [])
    (fun (x : Int) (y : Int) => y.toNat) a b
    (by exact ⟨ha, hb, rfl⟩) ⟨rfl, rfl, trivial⟩ (by repeat (first | exact Sub.nil | refine Sub.cons (by repeat (first | exact Pick.head | apply Pick.tail)) ?_)) ?_
  rintro x y ⟨hx, hy, hg⟩
  refine W.seq ?_
  refine W.sreg ?_
  refine WO.p rfl rfl (WO.p rfl rfl ?_)
  refine WO.nil ?_
  refine W.cond_bl rfl (fun c1 => ?_) (fun c1 => ?_)
  · first
    | (exfalso; omega)
    | (refine W.skip ?_
       refine W.block ?_
       refine W.drawD 5 [.r 0 [], .r 1 [], .r 2 [0], .r 3 [0], .r 4 [0]] [0] (A0 := []) (Sub.refl _) (by kernel_rfl) ?_ ?_
       · exact (ALok.r (ALok.r (ALok.r (ALok.r (ALok.r ALok.nil)))))
       refine' DT.r rfl rfl rfl ?hq ?_
       case hq =>
         refine WO.p rfl rfl ?_
         exact WO.nil ⟨rfl, rfl⟩
       refine' DT.r rfl rfl rfl ?hq ?_
       case hq =>
         refine WO.p rfl rfl ?_
         exact WO.nil ⟨rfl, rfl⟩
       refine' DT.r rfl rfl rfl ?hq ?_
       case hq =>
         refine WO.p rfl rfl ?_
         exact WO.nil ⟨rfl, rfl⟩
       refine' DT.r rfl rfl rfl ?hq ?_
       case hq =>
         refine WO.rem rfl rfl (by first | omega | assumption) rfl ?_
         exact WO.nil ⟨rfl, rfl⟩
       refine' DT.r rfl rfl rfl ?hq ?_
       case hq =>
         refine WO.p rfl rfl ?_
         exact WO.nil ⟨rfl, rfl⟩
       refine DT.nil [] rfl ?_
       refine WO.p rfl rfl ?_
       refine WO.nil ?_
       refine' ⟨_, _, ?hp, ?hmu, ⟨rfl, rfl, trivial⟩, ?hS⟩
       case hS => repeat (first | exact Sub.nil | refine Sub.cons (by repeat (first | exact Pick.head | apply Pick.tail)) ?_)
       case hp => exact ⟨hy, (tmod_lt hx (by omega)).1, by rw [gcd2_step hx (by omega)]; exact hg⟩
       case hmu => have := tmod_lt hx (show 0 < y by omega); omega)
  · first
    | (exfalso; omega)
    | (refine W.exit (blk_same ?_)
       refine W.sreg ?_
       refine WO.p rfl rfl (WO.p rfl rfl ?_)
       refine WO.nil ?_
       refine W.ret ?_
       refine fin.ret (Res.one rfl (RV.tmp rfl)) ?_
       obtain rfl : y = 0 := by omega
       rw [← hg, gcd2_zero hx])
theorem c_fraction (w : World) (n d : Int) (hn : 0 ≤ n) (hd : 0 < d) (h1 : in64 n) (h2 : in64 d) :
    Ret Try.prog 47 [.int .i64 n, .int .i64 d].toArray w (.agg (encP (red n d)).toArray) := by
  refine Ret.of mixed tyTab Try.func47 rfl rfl ?_
  have hg := gcd2_pos hn hd
  refine W.sreg ?_
  refine WO.alloc rfl rfl rfl (fun b1 hb1 => ?_)
  refine WO.nil ?_
  refine W.sreg ?_
  refine WO.p rfl rfl (WO.p rfl rfl ?_)
  refine WO.callR rfl Try.call62 (fun L w hi => c_divisor w n d hn (by omega)) rfl ?_
  refine WO.p rfl rfl ?_
  refine WO.nil ?_
  refine W.seq ?_
  refine W.drawD 6 [.r 0 [], .r 1 [], .r 2 [], .r 3 [], .r 4 [], .r 5 []] [] (A0 := []) (Sub.refl _) (by kernel_rfl) ?_ ?_
  · exact (ALok.r (ALok.r (ALok.r (ALok.r (ALok.r (ALok.r ALok.nil))))))
  refine' DT.r rfl rfl rfl ?hq ?_
  case hq =>
    refine WO.p rfl rfl ?_
    exact WO.nil ⟨rfl, rfl⟩
  refine' DT.r rfl rfl rfl ?hq ?_
  case hq =>
    refine WO.p rfl rfl ?_
    exact WO.nil ⟨rfl, rfl⟩
  refine' DT.r rfl rfl rfl ?hq ?_
  case hq =>
    refine WO.quo rfl rfl (by first | omega | assumption) (by (first | (unfold in64; omega) | (exact tdiv_in hn hg h1) | (exact tdiv_in (by omega) hg h2))) rfl ?_
    exact WO.nil ⟨rfl, rfl⟩
  refine' DT.r rfl rfl rfl ?hq ?_
  case hq =>
    refine WO.p rfl rfl ?_
    exact WO.nil ⟨rfl, rfl⟩
  refine' DT.r rfl rfl rfl ?hq ?_
  case hq =>
    refine WO.p rfl rfl ?_
    exact WO.nil ⟨rfl, rfl⟩
  refine' DT.r rfl rfl rfl ?hq ?_
  case hq =>
    refine WO.quo rfl rfl (by first | omega | assumption) (by (first | (unfold in64; omega) | (exact tdiv_in hn hg h1) | (exact tdiv_in (by omega) hg h2))) rfl ?_
    exact WO.nil ⟨rfl, rfl⟩
  refine DT.nil [_] rfl ?_
  refine' WO.build (cs := _) rfl rfl rfl ?hf rfl ?_
  case hf => (conv => lhs; simp [-List.getD_eq_getElem?_getD, fillL, vcl, wrl, TTab.pl?.lget']) <;> rfl
  refine WO.storeA rfl rfl rfl rfl Pick.head rfl rfl ?_
  refine WO.nil ?_
  refine W.ret ?_
  exact fin.ret (Res.one rfl (RV.cell rfl rfl rfl (Cells.own Pick.head))) rfl
theorem ref_Fraction (w : World) (n d : Int) (hn : 0 ≤ n) (hd : 0 < d) (h1 : in64 n) (h2 : in64 d) :
    Ret Try.prog 31 [.int .i64 n, .int .i64 d].toArray w (.agg (encP (red n d)).toArray) := by
  refine Ret.of mixed tyTab Try.func31 rfl rfl ?_
  have hgp := gcd2_pos hn hd
  refine W.sreg ?_
  refine WO.alloc rfl rfl rfl (fun b1 hb1 => ?_)
  refine WO.nil ?_
  refine W.sreg ?_
  refine WO.p rfl rfl (WO.p rfl rfl (WO.p rfl rfl (WO.p rfl rfl ?_)))
  refine WO.nil ?_
  refine W.seq ?_
  refine W.block ?_
  refine W.loop2 (fun (x : Int) (y : Int) => 0 ≤ x ∧ 0 ≤ y ∧ gcd2 x y = gcd2 n d)
    (fun (x : Int) (y : Int) => [(5, .int .i64 x), (6, .int .i64 y), (0, .int .i64 n), (1, .int .i64 d), (4, .pointer (some ⟨b1, 0, none⟩))])
    (fun (x : Int) (y : Int) => [pt b1 (.cells #[.int .i64 0, .int .i64 0] 29 (0, 0))])
    (fun (x : Int) (y : Int) => y.toNat) n d
    (by exact ⟨hn, by omega, rfl⟩) ⟨rfl, rfl, rfl, rfl, rfl, trivial⟩ (by repeat (first | exact Sub.nil | refine Sub.cons (by repeat (first | exact Pick.head | apply Pick.tail)) ?_)) ?_
  rintro x y ⟨hx, hy, hg⟩
  have hgx : y = 0 → 0 < x := by intro e; subst e; rw [gcd2_zero hx] at hg; omega
  refine W.seq ?_
  refine W.sreg ?_
  refine WO.p rfl rfl (WO.p rfl rfl ?_)
  refine WO.nil ?_
  refine W.cond_bl rfl (fun c1 => ?_) (fun c1 => ?_)
  · first
    | (exfalso; omega)
    | (refine W.skip ?_
       refine W.block ?_
       refine W.drawD 5 [.r 0 [], .r 1 [], .r 2 [5], .r 3 [5], .r 4 [5]] [5] (A0 := []) (Sub.refl _) (by kernel_rfl) ?_ ?_
       · exact (ALok.r (ALok.r (ALok.r (ALok.r (ALok.r ALok.nil)))))
       refine' DT.r rfl rfl rfl ?hq ?_
       case hq =>
         refine WO.p rfl rfl ?_
         exact WO.nil ⟨rfl, rfl⟩
       refine' DT.r rfl rfl rfl ?hq ?_
       case hq =>
         refine WO.p rfl rfl ?_
         exact WO.nil ⟨rfl, rfl⟩
       refine' DT.r rfl rfl rfl ?hq ?_
       case hq =>
         refine WO.p rfl rfl ?_
         exact WO.nil ⟨rfl, rfl⟩
       refine' DT.r rfl rfl rfl ?hq ?_
       case hq =>
         refine WO.rem rfl rfl (by first | omega | assumption) rfl ?_
         exact WO.nil ⟨rfl, rfl⟩
       refine' DT.r rfl rfl rfl ?hq ?_
       case hq =>
         refine WO.p rfl rfl ?_
         exact WO.nil ⟨rfl, rfl⟩
       refine DT.nil [_] rfl ?_
       refine WO.p rfl rfl ?_
       refine WO.nil ?_
       refine' ⟨_, _, ?hp, ?hmu, ⟨rfl, rfl, rfl, rfl, rfl, trivial⟩, ?hS⟩
       case hS => repeat (first | exact Sub.nil | refine Sub.cons (by repeat (first | exact Pick.head | apply Pick.tail)) ?_)
       case hp => exact ⟨hy, (tmod_lt hx (by omega)).1, by rw [gcd2_step hx (by omega)]; exact hg⟩
       case hmu => have := tmod_lt hx (show 0 < y by omega); omega)
  · first
    | (exfalso; omega)
    | (refine W.exit (blk_same ?_)
       refine W.seq ?_
       refine W.drawD 6 [.r 0 [], .r 1 [], .r 2 [], .r 3 [], .r 4 [], .r 5 []] [] (A0 := []) (Sub.refl _) (by kernel_rfl) ?_ ?_
       · exact (ALok.r (ALok.r (ALok.r (ALok.r (ALok.r (ALok.r ALok.nil))))))
       refine' DT.r rfl rfl rfl ?hq ?_
       case hq =>
         refine WO.p rfl rfl ?_
         exact WO.nil ⟨rfl, rfl⟩
       refine' DT.r rfl rfl rfl ?hq ?_
       case hq =>
         refine WO.p rfl rfl ?_
         exact WO.nil ⟨rfl, rfl⟩
       refine' DT.r rfl rfl rfl ?hq ?_
       case hq =>
         refine WO.quo rfl rfl (by first | omega | assumption) (by (first | (unfold in64; omega) | (exact tdiv_in hn (by omega) h1) | (exact tdiv_in (by omega) (by omega) h2))) rfl ?_
         exact WO.nil ⟨rfl, rfl⟩
       refine' DT.r rfl rfl rfl ?hq ?_
       case hq =>
         refine WO.p rfl rfl ?_
         exact WO.nil ⟨rfl, rfl⟩
       refine' DT.r rfl rfl rfl ?hq ?_
       case hq =>
         refine WO.p rfl rfl ?_
         exact WO.nil ⟨rfl, rfl⟩
       refine' DT.r rfl rfl rfl ?hq ?_
       case hq =>
         refine WO.quo rfl rfl (by first | omega | assumption) (by (first | (unfold in64; omega) | (exact tdiv_in hn (by omega) h1) | (exact tdiv_in (by omega) (by omega) h2))) rfl ?_
         exact WO.nil ⟨rfl, rfl⟩
       refine DT.nil [_] rfl ?_
       refine' WO.build (cs := _) rfl rfl rfl ?hf rfl ?_
       case hf => (conv => lhs; simp [-List.getD_eq_getElem?_getD, fillL, vcl, wrl, TTab.pl?.lget']) <;> rfl
       refine WO.storeA rfl rfl rfl rfl Pick.head rfl rfl ?_
       refine WO.nil ?_
       refine W.ret ?_
       exact fin.ret (Res.one rfl (RV.cell rfl rfl rfl (Cells.own Pick.head))) (by
       obtain rfl : y = 0 := by omega
       rw [gcd2_zero hx] at hg; subst hg; rfl))
end Go.Proofs.Ytgihklgpehfbpaa
namespace Go.Proofs.Ytgihklgpehfbpaa
open Go Go.TH
attribute [local irreducible] W WO pt
def okR (r : Int × Int) : Bool := decide (0 ≤ r.1 ∧ r.1 ≤ r.2 ∧ r.2 ≤ 500 ∧ r.2 - r.1 ≤ 20)
def posR (r : Int × Int) : Bool := decide (0 < r.1)
def chkHull (sp st : Int) (rows : List (List (Int × Int))) : Int :=
  if rows.length < 2 ∨ 10 < rows.length ∨ (rows.getD 0 []).length < 2 ∨ 6 < (rows.getD 0 []).length then 6
  else if ¬ ∀ r ∈ rows, r.length = (rows.getD 0 []).length then 15
  else if sp < 1 ∨ 1000 < sp ∨ st < 1 ∨ 100 < st then 2
  else if ¬ ∀ r ∈ rows, ∀ x ∈ r, okR x = true then 2
  else if ¬ ∃ r ∈ rows, ∃ x ∈ r, posR x = true then 2
  else 0
set_option maxRecDepth 10000
section
variable {sp st : Int} {rows : List (List (Int × Int))}
theorem ck6 (h : rows.length < 2 ∨ 10 < rows.length ∨ (rows.getD 0 []).length < 2 ∨ 6 < (rows.getD 0 []).length) : 6 = chkHull sp st rows := by rw [chkHull, if_pos h]
theorem ck15 (h : ¬ (rows.length < 2 ∨ 10 < rows.length ∨ (rows.getD 0 []).length < 2 ∨ 6 < (rows.getD 0 []).length)) (h1 : ¬ ∀ r ∈ rows, r.length = (rows.getD 0 []).length) : 15 = chkHull sp st rows := by rw [chkHull, if_neg h, if_pos h1]
theorem ck2a (h : ¬ (rows.length < 2 ∨ 10 < rows.length ∨ (rows.getD 0 []).length < 2 ∨ 6 < (rows.getD 0 []).length)) (h1 : ∀ r ∈ rows, r.length = (rows.getD 0 []).length) (h2 : sp < 1 ∨ 1000 < sp ∨ st < 1 ∨ 100 < st) : 2 = chkHull sp st rows := by rw [chkHull, if_neg h, if_neg (fun x => x h1), if_pos h2]
theorem ck2b (h : ¬ (rows.length < 2 ∨ 10 < rows.length ∨ (rows.getD 0 []).length < 2 ∨ 6 < (rows.getD 0 []).length)) (h1 : ∀ r ∈ rows, r.length = (rows.getD 0 []).length) (h3 : ¬ ∀ r ∈ rows, ∀ x ∈ r, okR x = true) : 2 = chkHull sp st rows := by
  rw [chkHull, if_neg h, if_neg (fun x => x h1), if_pos h3, ite_self]
theorem ck2c (h : ¬ (rows.length < 2 ∨ 10 < rows.length ∨ (rows.getD 0 []).length < 2 ∨ 6 < (rows.getD 0 []).length)) (h1 : ∀ r ∈ rows, r.length = (rows.getD 0 []).length) (h4 : ¬ ∃ r ∈ rows, ∃ x ∈ r, posR x = true) : 2 = chkHull sp st rows := by
  rw [chkHull, if_neg h, if_neg (fun x => x h1), if_pos h4, ite_self, ite_self]
theorem ck0 (h : ¬ (rows.length < 2 ∨ 10 < rows.length ∨ (rows.getD 0 []).length < 2 ∨ 6 < (rows.getD 0 []).length)) (h1 : ∀ r ∈ rows, r.length = (rows.getD 0 []).length) (h2 : ¬ (sp < 1 ∨ 1000 < sp ∨ st < 1 ∨ 100 < st)) (h3 : ∀ r ∈ rows, ∀ x ∈ r, okR x = true) (h4 : ∃ r ∈ rows, ∃ x ∈ r, posR x = true) : 0 = chkHull sp st rows := by
  rw [chkHull, if_neg h, if_neg (fun x => x h1), if_neg h2, if_neg (fun x => x h3), if_neg (fun x => x h4)]
theorem not_ok {i k : Nat} (hi : i < rows.length) (hk : k < (rows.getD i []).length) (hn : ¬ okR ((rows.getD i []).getD k (0, 0)) = true) : ¬ ∀ r ∈ rows, ∀ x ∈ r, okR x = true :=
  fun h => hn (h _ (getD_mem hi []) _ (getD_mem hk (0, 0)))
end
theorem ref_checkHull (w : World) (sp st : Int) (o : Value) (rv : List Value) (rows : List (List (Int × Int))) (hR : RdR encP 2 w.heap.size w o rv rows) :
    Ret Try.prog 19 [.agg #[.int .i64 sp, .int .i64 st, o]].toArray w (.int .i64 (chkHull sp st rows)) := by
  refine Ret.of mixed tyTab Try.func19 rfl rfl ?_
  replace hR : RdR encP 2 (fnCx mixed tyTab Try.f19.ntmps w).B (fnCx mixed tyTab Try.f19.ntmps w).w0 o rv rows := hR
  have hle := hR.sl.le
  refine W.sreg ?_
  refine WO.boxA rfl rfl (fun b1 hb1 => ?_)
  refine WO.p rfl rfl ?_
  refine WO.nil ?_
  refine W.sreg ?_
  refine WO.fieldL rfl rfl rfl (WO.load rfl rfl (Cell.own Pick.head rfl) rfl ?_)
  refine' WO.len (n := _) rfl rfl ?hs rfl ?_
  case hs => (first | exact hR.sl | (refine (hR.row _ ?_).sl; omega))
  refine WO.p rfl rfl ?_
  refine WO.nil ?_
  refine W.seq ?_
  refine W.sreg ?_
  refine WO.p rfl rfl (WO.p rfl rfl (WO.p rfl rfl ?_))
  refine WO.guard_bl rfl rfl (fun c1 => ?_) (fun c1 => ?_)
  · first
    | (exfalso; omega)
    | (refine WO.no rfl rfl (WO.no rfl rfl (WO.p rfl rfl (WO.p rfl rfl (WO.no rfl rfl (WO.no rfl rfl (WO.no rfl rfl (WO.no rfl rfl (WO.no rfl rfl (WO.no rfl rfl (WO.p rfl rfl (WO.p rfl rfl ?_)))))))))))
       refine WO.no rfl rfl (WO.no rfl rfl (WO.no rfl rfl (WO.no rfl rfl (WO.no rfl rfl (WO.no rfl rfl (WO.p rfl rfl ?_))))))
       refine WO.nil ?_
       refine W.cond_t rfl ?_
       refine W.sreg ?_
       refine WO.p rfl rfl ?_
       refine WO.nil ?_
       refine W.ret ?_
       refine fin.ret (Res.one rfl (RV.tmp rfl)) ?_
       refine congrArg (Value.int .i64) ?_
       first | exact ck6 (by omega) | exact ck15 (by omega) (not_all_getD (p := fun r => r.length = (rows.getD 0 []).length) (i := i) (by omega) [] (fun h => by have h' : (rows.getD i []).length = (rows.getD 0 []).length := h; omega)) | exact ck2a (by omega) (all_len (by omega) hrows) (by omega) | exact ck2b (by omega) (all_len (by omega) hrows) (not_ok (i := i) (k := k) (by omega) (by omega) (by simp only [okR, decide_eq_true_eq]; omega)) | exact ck2c (by omega) (all_len (by omega) hrows) (by rw [← ex_len (i := i) (by omega), ← hs]; simp_all) | exact ck0 (by omega) (all_len (by omega) hrows) (by omega) (all_len (by omega) hok) (by rw [← ex_len (i := i) (by omega), ← hs]; simp_all))
  · first
    | (exfalso; omega)
    | (refine WO.pg rfl rfl rfl (WO.pg rfl rfl rfl (WO.p rfl rfl (WO.p rfl rfl ?_)))
       refine WO.guard_bl rfl rfl (fun c2 => ?_) (fun c2 => ?_)
       · first
         | (exfalso; omega)
         | (refine WO.no rfl rfl (WO.no rfl rfl (WO.no rfl rfl (WO.no rfl rfl (WO.no rfl rfl (WO.no rfl rfl (WO.p rfl rfl (WO.p rfl rfl (WO.no rfl rfl (WO.no rfl rfl (WO.no rfl rfl (WO.no rfl rfl ?_)))))))))))
            refine WO.no rfl rfl (WO.no rfl rfl (WO.p rfl rfl ?_))
            refine WO.nil ?_
            refine W.cond_t rfl ?_
            refine W.sreg ?_
            refine WO.p rfl rfl ?_
            refine WO.nil ?_
            refine W.ret ?_
            refine fin.ret (Res.one rfl (RV.tmp rfl)) ?_
            refine congrArg (Value.int .i64) ?_
            first | exact ck6 (by omega) | exact ck15 (by omega) (not_all_getD (p := fun r => r.length = (rows.getD 0 []).length) (i := i) (by omega) [] (fun h => by have h' : (rows.getD i []).length = (rows.getD 0 []).length := h; omega)) | exact ck2a (by omega) (all_len (by omega) hrows) (by omega) | exact ck2b (by omega) (all_len (by omega) hrows) (not_ok (i := i) (k := k) (by omega) (by omega) (by simp only [okR, decide_eq_true_eq]; omega)) | exact ck2c (by omega) (all_len (by omega) hrows) (by rw [← ex_len (i := i) (by omega), ← hs]; simp_all) | exact ck0 (by omega) (all_len (by omega) hrows) (by omega) (all_len (by omega) hok) (by rw [← ex_len (i := i) (by omega), ← hs]; simp_all))
       · first
         | (exfalso; omega)
         | (refine WO.go' rfl (WO.fieldL rfl rfl rfl (WO.go' rfl (WO.load rfl rfl (Cell.own Pick.head rfl) rfl (WO.go' rfl ?_))))
            refine' WO.indexAddr (n := _) (i := 0) rfl rfl rfl ?hs ?h1 rfl ?_
            case hs => (first | exact hR.sl | (refine (hR.row _ ?_).sl; omega))
            case h1 => (first | omega | (simp; omega))
            refine WO.go' rfl ?_
            refine' WO.load (v := _) rfl rfl ?hc rfl ?_
            case hc => (first | (refine hR.cellV ?_; omega) | (refine (hR.row _ ?_).cell0 ?_ (0, 0) ?_ <;> first | rfl | omega) | (refine (hR.row _ ?_).cellAt ?_ (0, 0) ?_ <;> first | rfl | omega))
            refine WO.go' rfl ?_
            refine' WO.len (n := _) rfl rfl ?hs rfl ?_
            case hs => (first | exact hR.sl | (refine (hR.row _ ?_).sl; omega))
            refine WO.pg rfl rfl rfl (WO.p rfl rfl (WO.p rfl rfl ?_))
            refine WO.guard_bl rfl rfl (fun c3 => ?_) (fun c3 => ?_)
            · first
              | (exfalso; omega)
              | (refine WO.no rfl rfl (WO.no rfl rfl (WO.no rfl rfl (WO.no rfl rfl (WO.no rfl rfl (WO.no rfl rfl (WO.p rfl rfl ?_))))))
                 refine WO.nil ?_
                 refine W.cond_t rfl ?_
                 refine W.sreg ?_
                 refine WO.p rfl rfl ?_
                 refine WO.nil ?_
                 refine W.ret ?_
                 refine fin.ret (Res.one rfl (RV.tmp rfl)) ?_
                 refine congrArg (Value.int .i64) ?_
                 first | exact ck6 (by omega) | exact ck15 (by omega) (not_all_getD (p := fun r => r.length = (rows.getD 0 []).length) (i := i) (by omega) [] (fun h => by have h' : (rows.getD i []).length = (rows.getD 0 []).length := h; omega)) | exact ck2a (by omega) (all_len (by omega) hrows) (by omega) | exact ck2b (by omega) (all_len (by omega) hrows) (not_ok (i := i) (k := k) (by omega) (by omega) (by simp only [okR, decide_eq_true_eq]; omega)) | exact ck2c (by omega) (all_len (by omega) hrows) (by rw [← ex_len (i := i) (by omega), ← hs]; simp_all) | exact ck0 (by omega) (all_len (by omega) hrows) (by omega) (all_len (by omega) hok) (by rw [← ex_len (i := i) (by omega), ← hs]; simp_all))
            · first
              | (exfalso; omega)
              | (refine WO.go' rfl (WO.fieldL rfl rfl rfl (WO.go' rfl (WO.load rfl rfl (Cell.own Pick.head rfl) rfl (WO.go' rfl ?_))))
                 refine' WO.indexAddr (n := _) (i := 0) rfl rfl rfl ?hs ?h1 rfl ?_
                 case hs => (first | exact hR.sl | (refine (hR.row _ ?_).sl; omega))
                 case h1 => (first | omega | (simp; omega))
                 refine WO.go' rfl ?_
                 refine' WO.load (v := _) rfl rfl ?hc rfl ?_
                 case hc => (first | (refine hR.cellV ?_; omega) | (refine (hR.row _ ?_).cell0 ?_ (0, 0) ?_ <;> first | rfl | omega) | (refine (hR.row _ ?_).cellAt ?_ (0, 0) ?_ <;> first | rfl | omega))
                 refine WO.go' rfl ?_
                 refine' WO.len (n := _) rfl rfl ?hs rfl ?_
                 case hs => (first | exact hR.sl | (refine (hR.row _ ?_).sl; omega))
                 refine WO.pg rfl rfl rfl (WO.p rfl rfl ?_)
                 refine WO.nil ?_
                 refine W.cond_bl rfl (fun c4 => ?_) (fun c4 => ?_)
                 · first
                   | (exfalso; omega)
                   | (refine W.sreg ?_
                      refine WO.p rfl rfl ?_
                      refine WO.nil ?_
                      refine W.ret ?_
                      refine fin.ret (Res.one rfl (RV.tmp rfl)) ?_
                      refine congrArg (Value.int .i64) ?_
                      first | exact ck6 (by omega) | exact ck15 (by omega) (not_all_getD (p := fun r => r.length = (rows.getD 0 []).length) (i := i) (by omega) [] (fun h => by have h' : (rows.getD i []).length = (rows.getD 0 []).length := h; omega)) | exact ck2a (by omega) (all_len (by omega) hrows) (by omega) | exact ck2b (by omega) (all_len (by omega) hrows) (not_ok (i := i) (k := k) (by omega) (by omega) (by simp only [okR, decide_eq_true_eq]; omega)) | exact ck2c (by omega) (all_len (by omega) hrows) (by rw [← ex_len (i := i) (by omega), ← hs]; simp_all) | exact ck0 (by omega) (all_len (by omega) hrows) (by omega) (all_len (by omega) hok) (by rw [← ex_len (i := i) (by omega), ← hs]; simp_all))
                 · first
                   | (exfalso; omega)
                   | (refine W.skip ?_
                      refine W.seq ?_
                      refine W.sreg ?_
                      refine WO.p rfl rfl ?_
                      refine WO.nil ?_
                      refine W.block ?_
                      refine W.loop (fun (i : Nat) => i ≤ rows.length ∧ ∀ r ∈ rows.take i, r.length = (rows.getD 0 []).length)
                        (fun (i : Nat) => [(4, .int .i64 (i : Int)), (3, .int .i64 rows.length), (1, .pointer (some ⟨b1, 0, none⟩))])
                        (fun (i : Nat) => [pt b1 (.cells #[.int .i64 sp, .int .i64 st, o] 24 (0, 0))])
                        (fun (i : Nat) => rows.length - i) 0
                        (by exact ⟨by omega, by simp⟩) ⟨rfl, rfl, rfl, trivial⟩ (by repeat (first | exact Sub.nil | refine Sub.cons (by repeat (first | exact Pick.head | apply Pick.tail)) ?_)) ?_
                      rintro i ⟨hi, hrows⟩
                      refine W.seq ?_
                      refine W.sreg ?_
                      refine WO.p rfl rfl (WO.p rfl rfl (WO.p rfl rfl ?_))
                      refine WO.nil ?_
                      refine W.cond_bl rfl (fun c5 => ?_) (fun c5 => ?_)
                      · first
                        | (exfalso; omega)
                        | (refine W.skip ?_
                           refine W.seq ?_
                           refine W.block ?_
                           refine W.seq ?_
                           refine W.drawD 11 [.r 0 [], .b 1 [], .r 2 [], .r 3 [], .b 4 [], .r 5 [], .r 6 [], .b 7 [], .r 8 [], .b 9 [], .r 10 []] [] (A0 := []) (Sub.refl _) (by kernel_rfl) ?_ ?_
                           · exact (ALok.r (ALok.b (ALok.r (ALok.r (ALok.b (ALok.r (ALok.r (ALok.b (ALok.r (ALok.b (ALok.r ALok.nil)))))))))))
                           refine' DT.r rfl rfl rfl ?hq ?_
                           case hq =>
                             refine WO.fieldL rfl rfl rfl ?_
                             exact WO.nil ⟨rfl, rfl⟩
                           refine' DT.b rfl rfl rfl ?hq ?_
                           case hq =>
                             refine WO.load rfl rfl (Cell.own Pick.head rfl) rfl ?_
                             exact WO.nil ⟨rfl, rfl⟩
                           refine' DT.r rfl rfl rfl ?hq ?_
                           case hq =>
                             refine WO.p rfl rfl ?_
                             exact WO.nil ⟨rfl, rfl⟩
                           refine' DT.r rfl rfl rfl ?hq ?_
                           case hq =>
                             refine' WO.indexAddr (n := _) (i := _) rfl rfl rfl ?hs ?h1 rfl ?_
                             case hs => (first | exact hR.sl | (refine (hR.row _ ?_).sl; omega))
                             case h1 => (first | omega | (simp; omega))
                             exact WO.nil ⟨rfl, rfl⟩
                           refine' DT.b rfl rfl rfl ?hq ?_
                           case hq =>
                             refine' WO.load (v := _) rfl rfl ?hc rfl ?_
                             case hc => (first | (refine hR.cellV ?_; omega) | (refine (hR.row _ ?_).cell0 ?_ (0, 0) ?_ <;> first | rfl | omega) | (refine (hR.row _ ?_).cellAt ?_ (0, 0) ?_ <;> first | rfl | omega))
                             exact WO.nil ⟨rfl, rfl⟩
                           refine' DT.r rfl rfl rfl ?hq ?_
                           case hq =>
                             refine' WO.len (n := _) rfl rfl ?hs rfl ?_
                             case hs => (first | exact hR.sl | (refine (hR.row _ ?_).sl; omega))
                             exact WO.nil ⟨rfl, rfl⟩
                           refine' DT.r rfl rfl rfl ?hq ?_
                           case hq =>
                             refine WO.fieldL rfl rfl rfl ?_
                             exact WO.nil ⟨rfl, rfl⟩
                           refine' DT.b rfl rfl rfl ?hq ?_
                           case hq =>
                             refine WO.load rfl rfl (Cell.own Pick.head rfl) rfl ?_
                             exact WO.nil ⟨rfl, rfl⟩
                           refine' DT.r rfl rfl rfl ?hq ?_
                           case hq =>
                             refine' WO.indexAddr (n := _) (i := 0) rfl rfl rfl ?hs ?h1 rfl ?_
                             case hs => (first | exact hR.sl | (refine (hR.row _ ?_).sl; omega))
                             case h1 => (first | omega | (simp; omega))
                             exact WO.nil ⟨rfl, rfl⟩
                           refine' DT.b rfl rfl rfl ?hq ?_
                           case hq =>
                             refine' WO.load (v := _) rfl rfl ?hc rfl ?_
                             case hc => (first | (refine hR.cellV ?_; omega) | (refine (hR.row _ ?_).cell0 ?_ (0, 0) ?_ <;> first | rfl | omega) | (refine (hR.row _ ?_).cellAt ?_ (0, 0) ?_ <;> first | rfl | omega))
                             exact WO.nil ⟨rfl, rfl⟩
                           refine' DT.r rfl rfl rfl ?hq ?_
                           case hq =>
                             refine' WO.len (n := _) rfl rfl ?hs rfl ?_
                             case hs => (first | exact hR.sl | (refine (hR.row _ ?_).sl; omega))
                             exact WO.nil ⟨rfl, rfl⟩
                           refine DT.nil [_] rfl ?_
                           refine WO.p rfl rfl ?_
                           refine WO.nil ?_
                           refine W.cond_bl rfl (fun c6 => ?_) (fun c6 => ?_)
                           · first
                             | (exfalso; omega)
                             | (refine W.sreg ?_
                                refine WO.p rfl rfl ?_
                                refine WO.nil ?_
                                refine W.ret ?_
                                refine fin.ret (Res.one rfl (RV.tmp rfl)) ?_
                                refine congrArg (Value.int .i64) ?_
                                first | exact ck6 (by omega) | exact ck15 (by omega) (not_all_getD (p := fun r => r.length = (rows.getD 0 []).length) (i := i) (by omega) [] (fun h => by have h' : (rows.getD i []).length = (rows.getD 0 []).length := h; omega)) | exact ck2a (by omega) (all_len (by omega) hrows) (by omega) | exact ck2b (by omega) (all_len (by omega) hrows) (not_ok (i := i) (k := k) (by omega) (by omega) (by simp only [okR, decide_eq_true_eq]; omega)) | exact ck2c (by omega) (all_len (by omega) hrows) (by rw [← ex_len (i := i) (by omega), ← hs]; simp_all) | exact ck0 (by omega) (all_len (by omega) hrows) (by omega) (all_len (by omega) hok) (by rw [← ex_len (i := i) (by omega), ← hs]; simp_all))
                           · first
                             | (exfalso; omega)
                             | (refine W.skip ?_
                                refine W.region ?_
                                refine WO.p rfl rfl (WO.ar rfl rfl rfl (by (first | (unfold in64; omega))) rfl (WO.p rfl rfl ?_))
                                refine WO.nil ?_
                                refine' ⟨i + 1, ?hp, ?hmu, ⟨rfl, rfl, rfl, trivial⟩, ?hS⟩
                                case hS => repeat (first | exact Sub.nil | refine Sub.cons (by repeat (first | exact Pick.head | apply Pick.tail)) ?_)
                                case hp => exact ⟨by omega, all_succ (by omega) [] hrows (by omega)⟩
                                case hmu => omega))
                      · first
                        | (exfalso; omega)
                        | (refine W.exit (blk_same ?_)
                           refine W.seq ?_
                           refine W.sreg ?_
                           refine WO.field0 rfl rfl rfl (WO.load rfl rfl (Cell.own Pick.head rfl) rfl (WO.p rfl rfl (WO.p rfl rfl ?_)))
                           refine WO.guard_bl rfl rfl (fun c7 => ?_) (fun c7 => ?_)
                           · first
                             | (exfalso; omega)
                             | (refine WO.no rfl rfl (WO.no rfl rfl (WO.no rfl rfl (WO.p rfl rfl (WO.p rfl rfl (WO.no rfl rfl (WO.no rfl rfl (WO.no rfl rfl (WO.p rfl rfl (WO.p rfl rfl (WO.no rfl rfl (WO.no rfl rfl ?_)))))))))))
                                refine WO.no rfl rfl (WO.p rfl rfl ?_)
                                refine WO.nil ?_
                                refine W.cond_t rfl ?_
                                refine W.sreg ?_
                                refine WO.p rfl rfl ?_
                                refine WO.nil ?_
                                refine W.ret ?_
                                refine fin.ret (Res.one rfl (RV.tmp rfl)) ?_
                                refine congrArg (Value.int .i64) ?_
                                first | exact ck6 (by omega) | exact ck15 (by omega) (not_all_getD (p := fun r => r.length = (rows.getD 0 []).length) (i := i) (by omega) [] (fun h => by have h' : (rows.getD i []).length = (rows.getD 0 []).length := h; omega)) | exact ck2a (by omega) (all_len (by omega) hrows) (by omega) | exact ck2b (by omega) (all_len (by omega) hrows) (not_ok (i := i) (k := k) (by omega) (by omega) (by simp only [okR, decide_eq_true_eq]; omega)) | exact ck2c (by omega) (all_len (by omega) hrows) (by rw [← ex_len (i := i) (by omega), ← hs]; simp_all) | exact ck0 (by omega) (all_len (by omega) hrows) (by omega) (all_len (by omega) hok) (by rw [← ex_len (i := i) (by omega), ← hs]; simp_all))
                           · first
                             | (exfalso; omega)
                             | (refine WO.go' rfl (WO.field0 rfl rfl rfl (WO.go' rfl (WO.load rfl rfl (Cell.own Pick.head rfl) rfl (WO.pg rfl rfl rfl (WO.p rfl rfl (WO.p rfl rfl ?_))))))
                                refine WO.guard_bl rfl rfl (fun c8 => ?_) (fun c8 => ?_)
                                · first
                                  | (exfalso; omega)
                                  | (refine WO.no rfl rfl (WO.no rfl rfl (WO.no rfl rfl (WO.p rfl rfl (WO.p rfl rfl (WO.no rfl rfl (WO.no rfl rfl (WO.no rfl rfl (WO.p rfl rfl ?_))))))))
                                     refine WO.nil ?_
                                     refine W.cond_t rfl ?_
                                     refine W.sreg ?_
                                     refine WO.p rfl rfl ?_
                                     refine WO.nil ?_
                                     refine W.ret ?_
                                     refine fin.ret (Res.one rfl (RV.tmp rfl)) ?_
                                     refine congrArg (Value.int .i64) ?_
                                     first | exact ck6 (by omega) | exact ck15 (by omega) (not_all_getD (p := fun r => r.length = (rows.getD 0 []).length) (i := i) (by omega) [] (fun h => by have h' : (rows.getD i []).length = (rows.getD 0 []).length := h; omega)) | exact ck2a (by omega) (all_len (by omega) hrows) (by omega) | exact ck2b (by omega) (all_len (by omega) hrows) (not_ok (i := i) (k := k) (by omega) (by omega) (by simp only [okR, decide_eq_true_eq]; omega)) | exact ck2c (by omega) (all_len (by omega) hrows) (by rw [← ex_len (i := i) (by omega), ← hs]; simp_all) | exact ck0 (by omega) (all_len (by omega) hrows) (by omega) (all_len (by omega) hok) (by rw [← ex_len (i := i) (by omega), ← hs]; simp_all))
                                · first
                                  | (exfalso; omega)
                                  | (refine WO.go' rfl (WO.fieldL rfl rfl rfl (WO.go' rfl (WO.load rfl rfl (Cell.own Pick.head rfl) rfl (WO.pg rfl rfl rfl (WO.p rfl rfl (WO.p rfl rfl ?_))))))
                                     refine WO.guard_bl rfl rfl (fun c9 => ?_) (fun c9 => ?_)
                                     · first
                                       | (exfalso; omega)
                                       | (refine WO.no rfl rfl (WO.no rfl rfl (WO.no rfl rfl (WO.p rfl rfl ?_)))
                                          refine WO.nil ?_
                                          refine W.cond_t rfl ?_
                                          refine W.sreg ?_
                                          refine WO.p rfl rfl ?_
                                          refine WO.nil ?_
                                          refine W.ret ?_
                                          refine fin.ret (Res.one rfl (RV.tmp rfl)) ?_
                                          refine congrArg (Value.int .i64) ?_
                                          first | exact ck6 (by omega) | exact ck15 (by omega) (not_all_getD (p := fun r => r.length = (rows.getD 0 []).length) (i := i) (by omega) [] (fun h => by have h' : (rows.getD i []).length = (rows.getD 0 []).length := h; omega)) | exact ck2a (by omega) (all_len (by omega) hrows) (by omega) | exact ck2b (by omega) (all_len (by omega) hrows) (not_ok (i := i) (k := k) (by omega) (by omega) (by simp only [okR, decide_eq_true_eq]; omega)) | exact ck2c (by omega) (all_len (by omega) hrows) (by rw [← ex_len (i := i) (by omega), ← hs]; simp_all) | exact ck0 (by omega) (all_len (by omega) hrows) (by omega) (all_len (by omega) hok) (by rw [← ex_len (i := i) (by omega), ← hs]; simp_all))
                                     · first
                                       | (exfalso; omega)
                                       | (refine WO.go' rfl (WO.fieldL rfl rfl rfl (WO.go' rfl (WO.load rfl rfl (Cell.own Pick.head rfl) rfl (WO.pg rfl rfl rfl (WO.p rfl rfl ?_)))))
                                          refine WO.nil ?_
                                          refine W.cond_bl rfl (fun c10 => ?_) (fun c10 => ?_)
                                          · first
                                            | (exfalso; omega)
                                            | (refine W.sreg ?_
                                               refine WO.p rfl rfl ?_
                                               refine WO.nil ?_
                                               refine W.ret ?_
                                               refine fin.ret (Res.one rfl (RV.tmp rfl)) ?_
                                               refine congrArg (Value.int .i64) ?_
                                               first | exact ck6 (by omega) | exact ck15 (by omega) (not_all_getD (p := fun r => r.length = (rows.getD 0 []).length) (i := i) (by omega) [] (fun h => by have h' : (rows.getD i []).length = (rows.getD 0 []).length := h; omega)) | exact ck2a (by omega) (all_len (by omega) hrows) (by omega) | exact ck2b (by omega) (all_len (by omega) hrows) (not_ok (i := i) (k := k) (by omega) (by omega) (by simp only [okR, decide_eq_true_eq]; omega)) | exact ck2c (by omega) (all_len (by omega) hrows) (by rw [← ex_len (i := i) (by omega), ← hs]; simp_all) | exact ck0 (by omega) (all_len (by omega) hrows) (by omega) (all_len (by omega) hok) (by rw [← ex_len (i := i) (by omega), ← hs]; simp_all))
                                          · first
                                            | (exfalso; omega)
                                            | (refine W.skip ?_
                                               refine W.sreg ?_
                                               refine WO.p rfl rfl ?_
                                               refine WO.nil ?_
                                               refine W.seq ?_
                                               refine W.sreg ?_
                                               refine WO.p rfl rfl ?_
                                               refine WO.nil ?_
                                               refine W.block ?_
                                               refine W.loop2 (fun (i : Nat) (s : Bool) => i ≤ rows.length ∧ (∀ r ∈ rows.take i, ∀ x ∈ r, okR x = true) ∧ (s = true ↔ ∃ r ∈ rows.take i, ∃ x ∈ r, posR x = true))
                                                 (fun (i : Nat) (s : Bool) => [(6, .int .i64 (i : Int)), (3, .int .i64 rows.length), (5, .bool s), (1, .pointer (some ⟨b1, 0, none⟩))])
                                                 (fun (i : Nat) (s : Bool) => [pt b1 (.cells #[.int .i64 sp, .int .i64 st, o] 24 (0, 0))])
                                                 (fun (i : Nat) (s : Bool) => rows.length - i) 0 false
                                                 (by exact ⟨by omega, by simp, by simp⟩) ⟨rfl, rfl, rfl, rfl, trivial⟩ (by repeat (first | exact Sub.nil | refine Sub.cons (by repeat (first | exact Pick.head | apply Pick.tail)) ?_)) ?_
                                               rintro i s ⟨hi, hok, hs⟩
                                               refine W.seq ?_
                                               refine W.sreg ?_
                                               refine WO.p rfl rfl (WO.p rfl rfl (WO.p rfl rfl ?_))
                                               refine WO.nil ?_
                                               refine W.cond_bl rfl (fun c11 => ?_) (fun c11 => ?_)
                                               · first
                                                 | (exfalso; omega)
                                                 | (refine W.skip ?_
                                                    refine W.seq ?_
                                                    refine W.block ?_
                                                    refine W.sreg ?_
                                                    refine WO.p rfl rfl ?_
                                                    refine WO.nil ?_
                                                    refine W.block ?_
                                                    refine W.loop2 (fun (k : Nat) (s : Bool) => k ≤ (rows.getD i []).length ∧ (∀ x ∈ (rows.getD i []).take k, okR x = true) ∧ (s = true ↔ (∃ r ∈ rows.take i, ∃ x ∈ r, posR x = true) ∨ ∃ x ∈ (rows.getD i []).take k, posR x = true))
                                                      (fun (k : Nat) (s : Bool) => [(6, .int .i64 (i : Int)), (7, .int .i64 (k : Int)), (3, .int .i64 rows.length), (5, .bool s), (1, .pointer (some ⟨b1, 0, none⟩))])
                                                      (fun (k : Nat) (s : Bool) => [pt b1 (.cells #[.int .i64 sp, .int .i64 st, o] 24 (0, 0))])
                                                      (fun (k : Nat) (s : Bool) => (rows.getD i []).length - k) 0 s
                                                      (by exact ⟨by omega, by simp, by simp [hs]⟩) ⟨rfl, rfl, rfl, rfl, rfl, trivial⟩ (by repeat (first | exact Sub.nil | refine Sub.cons (by repeat (first | exact Pick.head | apply Pick.tail)) ?_)) ?_
                                                    rintro k s ⟨hk, hok2, hs2⟩
                                                    have hlk := (hR.row i (by omega)).sl.le
                                                    refine W.seq ?_
                                                    refine W.sreg ?_
                                                    refine WO.p rfl rfl (WO.fieldL rfl rfl rfl (WO.load rfl rfl (Cell.own Pick.head rfl) rfl (WO.p rfl rfl ?_)))
                                                    refine' WO.indexAddr (n := _) (i := _) rfl rfl rfl ?hs ?h1 rfl ?_
                                                    case hs => (first | exact hR.sl | (refine (hR.row _ ?_).sl; omega))
                                                    case h1 => (first | omega | (simp; omega))
                                                    refine' WO.load (v := _) rfl rfl ?hc rfl ?_
                                                    case hc => (first | (refine hR.cellV ?_; omega) | (refine (hR.row _ ?_).cell0 ?_ (0, 0) ?_ <;> first | rfl | omega) | (refine (hR.row _ ?_).cellAt ?_ (0, 0) ?_ <;> first | rfl | omega))
                                                    refine' WO.len (n := _) rfl rfl ?hs rfl ?_
                                                    case hs => (first | exact hR.sl | (refine (hR.row _ ?_).sl; omega))
                                                    refine WO.p rfl rfl ?_
                                                    refine WO.nil ?_
                                                    refine W.cond_bl rfl (fun c12 => ?_) (fun c12 => ?_)
                                                    · first
                                                      | (exfalso; omega)
                                                      | (refine W.skip ?_
                                                         refine W.seq ?_
                                                         refine W.block ?_
                                                         refine W.sreg ?_
                                                         refine WO.fieldL rfl rfl rfl (WO.load rfl rfl (Cell.own Pick.head rfl) rfl (WO.p rfl rfl ?_))
                                                         refine' WO.indexAddr (n := _) (i := _) rfl rfl rfl ?hs ?h1 rfl ?_
                                                         case hs => (first | exact hR.sl | (refine (hR.row _ ?_).sl; omega))
                                                         case h1 => (first | omega | (simp; omega))
                                                         refine' WO.load (v := _) rfl rfl ?hc rfl ?_
                                                         case hc => (first | (refine hR.cellV ?_; omega) | (refine (hR.row _ ?_).cell0 ?_ (0, 0) ?_ <;> first | rfl | omega) | (refine (hR.row _ ?_).cellAt ?_ (0, 0) ?_ <;> first | rfl | omega))
                                                         refine WO.p rfl rfl ?_
                                                         refine' WO.indexAddr (n := _) (i := _) rfl rfl rfl ?hs ?h1 rfl ?_
                                                         case hs => (first | exact hR.sl | (refine (hR.row _ ?_).sl; omega))
                                                         case h1 => (first | omega | (simp; omega))
                                                         refine' WO.loadA (vs := _) rfl rfl ?hc ?hl rfl ?_
                                                         case hc => (first | (refine (hR.row _ ?_).cells ?_ (0, 0) <;> omega))
                                                         case hl => rfl
                                                         refine WO.alloc rfl rfl rfl (fun b2 hb2 => ?_)
                                                         refine WO.storeA rfl rfl rfl rfl Pick.head rfl rfl ?_
                                                         refine WO.nil ?_
                                                         refine W.seq ?_
                                                         refine W.sreg ?_
                                                         refine WO.field0 rfl rfl rfl (WO.load rfl rfl (Cell.own Pick.head rfl) rfl (WO.p rfl rfl (WO.p rfl rfl ?_)))
                                                         refine WO.guard_bl rfl rfl (fun c13 => ?_) (fun c13 => ?_)
                                                         · first
                                                           | (exfalso; omega)
                                                           | (refine WO.no rfl rfl (WO.no rfl rfl (WO.no rfl rfl (WO.no rfl rfl (WO.no rfl rfl (WO.p rfl rfl (WO.p rfl rfl (WO.no rfl rfl (WO.no rfl rfl (WO.no rfl rfl (WO.p rfl rfl (WO.p rfl rfl ?_)))))))))))
                                                              refine WO.no rfl rfl (WO.no rfl rfl (WO.no rfl rfl (WO.no rfl rfl (WO.no rfl rfl (WO.no rfl rfl (WO.p rfl rfl ?_))))))
                                                              refine WO.nil ?_
                                                              refine W.cond_t rfl ?_
                                                              refine W.sreg ?_
                                                              refine WO.p rfl rfl ?_
                                                              refine WO.nil ?_
                                                              refine W.ret ?_
                                                              refine fin.ret (Res.one rfl (RV.tmp rfl)) ?_
                                                              refine congrArg (Value.int .i64) ?_
                                                              first | exact ck6 (by omega) | exact ck15 (by omega) (not_all_getD (p := fun r => r.length = (rows.getD 0 []).length) (i := i) (by omega) [] (fun h => by have h' : (rows.getD i []).length = (rows.getD 0 []).length := h; omega)) | exact ck2a (by omega) (all_len (by omega) hrows) (by omega) | exact ck2b (by omega) (all_len (by omega) hrows) (not_ok (i := i) (k := k) (by omega) (by omega) (by simp only [okR, decide_eq_true_eq]; omega)) | exact ck2c (by omega) (all_len (by omega) hrows) (by rw [← ex_len (i := i) (by omega), ← hs]; simp_all) | exact ck0 (by omega) (all_len (by omega) hrows) (by omega) (all_len (by omega) hok) (by rw [← ex_len (i := i) (by omega), ← hs]; simp_all))
                                                         · first
                                                           | (exfalso; omega)
                                                           | (refine WO.go' rfl (WO.field0 rfl rfl rfl (WO.go' rfl (WO.load rfl rfl (Cell.own Pick.head rfl) rfl (WO.go' rfl (WO.fieldL rfl rfl rfl (WO.go' rfl (WO.load rfl rfl (Cell.own Pick.head rfl) rfl (WO.pg rfl rfl rfl (WO.p rfl rfl (WO.p rfl rfl ?_))))))))))
                                                              refine WO.guard_bl rfl rfl (fun c14 => ?_) (fun c14 => ?_)
                                                              · first
                                                                | (exfalso; omega)
                                                                | (refine WO.no rfl rfl (WO.no rfl rfl (WO.no rfl rfl (WO.p rfl rfl (WO.p rfl rfl (WO.no rfl rfl (WO.no rfl rfl (WO.no rfl rfl (WO.no rfl rfl (WO.no rfl rfl (WO.no rfl rfl (WO.p rfl rfl ?_)))))))))))
                                                                   refine WO.nil ?_
                                                                   refine W.cond_t rfl ?_
                                                                   refine W.sreg ?_
                                                                   refine WO.p rfl rfl ?_
                                                                   refine WO.nil ?_
                                                                   refine W.ret ?_
                                                                   refine fin.ret (Res.one rfl (RV.tmp rfl)) ?_
                                                                   refine congrArg (Value.int .i64) ?_
                                                                   first | exact ck6 (by omega) | exact ck15 (by omega) (not_all_getD (p := fun r => r.length = (rows.getD 0 []).length) (i := i) (by omega) [] (fun h => by have h' : (rows.getD i []).length = (rows.getD 0 []).length := h; omega)) | exact ck2a (by omega) (all_len (by omega) hrows) (by omega) | exact ck2b (by omega) (all_len (by omega) hrows) (not_ok (i := i) (k := k) (by omega) (by omega) (by simp only [okR, decide_eq_true_eq]; omega)) | exact ck2c (by omega) (all_len (by omega) hrows) (by rw [← ex_len (i := i) (by omega), ← hs]; simp_all) | exact ck0 (by omega) (all_len (by omega) hrows) (by omega) (all_len (by omega) hok) (by rw [← ex_len (i := i) (by omega), ← hs]; simp_all))
                                                              · first
                                                                | (exfalso; omega)
                                                                | (refine WO.go' rfl (WO.fieldL rfl rfl rfl (WO.go' rfl (WO.load rfl rfl (Cell.own Pick.head rfl) rfl (WO.pg rfl rfl rfl (WO.p rfl rfl (WO.p rfl rfl ?_))))))
                                                                   refine WO.guard_bl rfl rfl (fun c15 => ?_) (fun c15 => ?_)
                                                                   · first
                                                                     | (exfalso; omega)
                                                                     | (refine WO.no rfl rfl (WO.no rfl rfl (WO.no rfl rfl (WO.no rfl rfl (WO.no rfl rfl (WO.no rfl rfl (WO.p rfl rfl ?_))))))
                                                                        refine WO.nil ?_
                                                                        refine W.cond_t rfl ?_
                                                                        refine W.sreg ?_
                                                                        refine WO.p rfl rfl ?_
                                                                        refine WO.nil ?_
                                                                        refine W.ret ?_
                                                                        refine fin.ret (Res.one rfl (RV.tmp rfl)) ?_
                                                                        refine congrArg (Value.int .i64) ?_
                                                                        first | exact ck6 (by omega) | exact ck15 (by omega) (not_all_getD (p := fun r => r.length = (rows.getD 0 []).length) (i := i) (by omega) [] (fun h => by have h' : (rows.getD i []).length = (rows.getD 0 []).length := h; omega)) | exact ck2a (by omega) (all_len (by omega) hrows) (by omega) | exact ck2b (by omega) (all_len (by omega) hrows) (not_ok (i := i) (k := k) (by omega) (by omega) (by simp only [okR, decide_eq_true_eq]; omega)) | exact ck2c (by omega) (all_len (by omega) hrows) (by rw [← ex_len (i := i) (by omega), ← hs]; simp_all) | exact ck0 (by omega) (all_len (by omega) hrows) (by omega) (all_len (by omega) hok) (by rw [← ex_len (i := i) (by omega), ← hs]; simp_all))
                                                                   · first
                                                                     | (exfalso; omega)
                                                                     | (refine WO.go' rfl (WO.fieldL rfl rfl rfl (WO.go' rfl (WO.load rfl rfl (Cell.own Pick.head rfl) rfl (WO.go' rfl (WO.field0 rfl rfl rfl (WO.go' rfl (WO.load rfl rfl (Cell.own Pick.head rfl) rfl (WO.go' rfl (WO.ar rfl rfl rfl (by (first | (unfold in64; omega))) rfl (WO.pg rfl rfl rfl (WO.p rfl rfl ?_)))))))))))
                                                                        refine WO.nil ?_
                                                                        refine W.cond_bl rfl (fun c16 => ?_) (fun c16 => ?_)
                                                                        · first
                                                                          | (exfalso; omega)
                                                                          | (refine W.sreg ?_
                                                                             refine WO.p rfl rfl ?_
                                                                             refine WO.nil ?_
                                                                             refine W.ret ?_
                                                                             refine fin.ret (Res.one rfl (RV.tmp rfl)) ?_
                                                                             refine congrArg (Value.int .i64) ?_
                                                                             first | exact ck6 (by omega) | exact ck15 (by omega) (not_all_getD (p := fun r => r.length = (rows.getD 0 []).length) (i := i) (by omega) [] (fun h => by have h' : (rows.getD i []).length = (rows.getD 0 []).length := h; omega)) | exact ck2a (by omega) (all_len (by omega) hrows) (by omega) | exact ck2b (by omega) (all_len (by omega) hrows) (not_ok (i := i) (k := k) (by omega) (by omega) (by simp only [okR, decide_eq_true_eq]; omega)) | exact ck2c (by omega) (all_len (by omega) hrows) (by rw [← ex_len (i := i) (by omega), ← hs]; simp_all) | exact ck0 (by omega) (all_len (by omega) hrows) (by omega) (all_len (by omega) hok) (by rw [← ex_len (i := i) (by omega), ← hs]; simp_all))
                                                                        · first
                                                                          | (exfalso; omega)
                                                                          | (refine W.skip ?_
                                                                             refine W.region ?_
                                                                             refine WO.p rfl rfl (WO.p rfl rfl ?_)
                                                                             refine WO.guard_b rfl rfl (fun c17 => ?_) (fun c17 => ?_)
                                                                             · first
                                                                               | (exfalso; omega)
                                                                               | (refine WO.no rfl rfl (WO.no rfl rfl (WO.no rfl rfl (WO.p rfl rfl (WO.p rfl rfl ?_))))
                                                                                  refine WO.nil ?_
                                                                                  refine W.region ?_
                                                                                  refine WO.p rfl rfl (WO.ar rfl rfl rfl (by (first | (unfold in64; omega))) rfl (WO.p rfl rfl ?_))
                                                                                  refine WO.nil ?_
                                                                                  refine' ⟨k + 1, _, ?hp, ?hmu, ⟨rfl, rfl, rfl, rfl, rfl, trivial⟩, ?hS⟩
                                                                                  case hS => repeat (first | exact Sub.nil | refine Sub.cons (by repeat (first | exact Pick.head | apply Pick.tail)) ?_)
                                                                                  case hp => exact ⟨by omega, all_succ (by omega) (0, 0) hok2 (by simp only [okR, decide_eq_true_eq]; omega), by rw [ex_succ (by omega) (0, 0)]; first | (rw [← or_assoc, ← hs2]; simp_all [posR, bl_t]; done)⟩
                                                                                  case hmu => omega)
                                                                             · first
                                                                               | (exfalso; omega)
                                                                               | (refine WO.go' rfl (WO.field0 rfl rfl rfl (WO.go' rfl (WO.load rfl rfl (Cell.own Pick.head rfl) rfl (WO.pg rfl rfl rfl (WO.p rfl rfl (WO.p rfl rfl ?_))))))
                                                                                  refine WO.nil ?_
                                                                                  refine W.region ?_
                                                                                  refine WO.p rfl rfl (WO.ar rfl rfl rfl (by (first | (unfold in64; omega))) rfl (WO.p rfl rfl ?_))
                                                                                  refine WO.nil ?_
                                                                                  refine' ⟨k + 1, _, ?hp, ?hmu, ⟨rfl, rfl, rfl, rfl, rfl, trivial⟩, ?hS⟩
                                                                                  case hS => repeat (first | exact Sub.nil | refine Sub.cons (by repeat (first | exact Pick.head | apply Pick.tail)) ?_)
                                                                                  case hp => exact ⟨by omega, all_succ (by omega) (0, 0) hok2 (by simp only [okR, decide_eq_true_eq]; omega), by rw [ex_succ (by omega) (0, 0)]; first | (rw [← or_assoc, ← hs2]; simp_all [posR, bl_t]; done)⟩
                                                                                  case hmu => omega))))))
                                                    · first
                                                      | (exfalso; omega)
                                                      | (refine W.exit (blk_same ?_)
                                                         refine W.region ?_
                                                         refine WO.p rfl rfl (WO.ar rfl rfl rfl (by (first | (unfold in64; omega))) rfl (WO.p rfl rfl ?_))
                                                         refine WO.nil ?_
                                                         refine' ⟨i + 1, _, ?hp, ?hmu, ⟨rfl, rfl, rfl, rfl, trivial⟩, ?hS⟩
                                                         case hS => repeat (first | exact Sub.nil | refine Sub.cons (by repeat (first | exact Pick.head | apply Pick.tail)) ?_)
                                                         case hp => exact ⟨by omega, all_succ (by omega) [] hok (all_len (by omega) hok2), by rw [ex_succ (by omega) [], hs2, ex_len (l := rows.getD i []) (i := k) (by omega)]⟩
                                                         case hmu => omega))
                                               · first
                                                 | (exfalso; omega)
                                                 | (refine W.exit (blk_same ?_)
                                                    refine W.seq ?_
                                                    refine W.sreg ?_
                                                    refine WO.p rfl rfl (WO.p rfl rfl ?_)
                                                    refine WO.nil ?_
                                                    refine W.cond rfl (fun c18 => ?_) (fun c18 => ?_)
                                                    · first
                                                      | (exfalso; omega)
                                                      | (refine W.sreg ?_
                                                         refine WO.p rfl rfl ?_
                                                         refine WO.nil ?_
                                                         refine W.ret ?_
                                                         refine fin.ret (Res.one rfl (RV.tmp rfl)) ?_
                                                         refine congrArg (Value.int .i64) ?_
                                                         first | exact ck6 (by omega) | exact ck15 (by omega) (not_all_getD (p := fun r => r.length = (rows.getD 0 []).length) (i := i) (by omega) [] (fun h => by have h' : (rows.getD i []).length = (rows.getD 0 []).length := h; omega)) | exact ck2a (by omega) (all_len (by omega) hrows) (by omega) | exact ck2b (by omega) (all_len (by omega) hrows) (not_ok (i := i) (k := k) (by omega) (by omega) (by simp only [okR, decide_eq_true_eq]; omega)) | exact ck2c (by omega) (all_len (by omega) hrows) (by rw [← ex_len (i := i) (by omega), ← hs]; simp_all) | exact ck0 (by omega) (all_len (by omega) hrows) (by omega) (all_len (by omega) hok) (by rw [← ex_len (i := i) (by omega), ← hs]; simp_all))
                                                    · first
                                                      | (exfalso; omega)
                                                      | (refine W.skip ?_
                                                         refine W.sreg ?_
                                                         refine WO.p rfl rfl ?_
                                                         refine WO.nil ?_
                                                         refine W.ret ?_
                                                         refine fin.ret (Res.one rfl (RV.tmp rfl)) ?_
                                                         refine congrArg (Value.int .i64) ?_
                                                         first | exact ck6 (by omega) | exact ck15 (by omega) (not_all_getD (p := fun r => r.length = (rows.getD 0 []).length) (i := i) (by omega) [] (fun h => by have h' : (rows.getD i []).length = (rows.getD 0 []).length := h; omega)) | exact ck2a (by omega) (all_len (by omega) hrows) (by omega) | exact ck2b (by omega) (all_len (by omega) hrows) (not_ok (i := i) (k := k) (by omega) (by omega) (by simp only [okR, decide_eq_true_eq]; omega)) | exact ck2c (by omega) (all_len (by omega) hrows) (by rw [← ex_len (i := i) (by omega), ← hs]; simp_all) | exact ck0 (by omega) (all_len (by omega) hrows) (by omega) (all_len (by omega) hok) (by rw [← ex_len (i := i) (by omega), ← hs]; simp_all))))))))))))
end Go.Proofs.Ytgihklgpehfbpaa
namespace Go.Proofs.Ytgihklgpehfbpaa
open Go Go.TH
attribute [local irreducible] W WO pt
set_option maxRecDepth 10000
theorem eq29 (a b c d : Int) : EqT Try.prog .eql 29 (.agg #[.int .i64 a, .int .i64 b]) (.agg #[.int .i64 c, .int .i64 d]) (.bool (bl ((a, b) = (c, d)))) := by
  intro x y w
  simp [go_sem, Try.eqGuardType29, Try.underlying29]
  by_cases h1 : a = c <;> by_cases h2 : b = d <;> simp [h1, h2, bl_eq]
theorem ne29 (a b c d : Int) : EqT Try.prog .neq 29 (.agg #[.int .i64 a, .int .i64 b]) (.agg #[.int .i64 c, .int .i64 d]) (.bool (bl ((a, b) ≠ (c, d)))) := by
  intro x y w
  simp [go_sem, Try.eqGuardType29, Try.underlying29]
  by_cases h1 : a = c <;> by_cases h2 : b = d <;> simp [h1, h2, bl_eq]
/-- a weight -/
def wgt (i n : Nat) : Int := if i = 0 ∨ i + 1 = n then 1 else 2
theorem ref_weight (w : World) (i n : Nat) (hi : i < n) (hn : n ≤ 1000) : Ret Try.prog 57 [.int .i64 (i : Int), .int .i64 (n : Int)].toArray w (.int .i64 (wgt i n)) := by
  refine Ret.of mixed tyTab Try.func57 rfl rfl ?_
  refine W.sreg ?_
  refine WO.p rfl rfl ?_
  refine WO.nil ?_
  refine W.seq ?_
  refine W.sreg ?_
  refine WO.p rfl rfl (WO.p rfl rfl (WO.p rfl rfl ?_))
  refine WO.guard_bl rfl rfl (fun c1 => ?_) (fun c1 => ?_)
  · first
    | (exfalso; omega)
    | (refine WO.no rfl rfl (WO.no rfl rfl (WO.no rfl rfl (WO.no rfl rfl (WO.p rfl rfl ?_))))
       refine WO.nil ?_
       refine W.cond_t rfl ?_
       refine W.sreg ?_
       refine WO.p rfl rfl ?_
       refine WO.nil ?_
       refine W.ret ?_
       refine fin.ret (Res.one rfl (RV.tmp rfl)) ?_
       refine congrArg (Value.int .i64) ?_
       unfold wgt; first | rw [if_pos (by omega)] | rw [if_neg (by omega)])
  · first
    | (exfalso; omega)
    | (refine WO.pg rfl rfl rfl (WO.pg rfl rfl rfl (WO.go' rfl (WO.ar rfl rfl rfl (by (first | (unfold in64; omega))) rfl (WO.pg rfl rfl rfl (WO.p rfl rfl ?_)))))
       refine WO.nil ?_
       refine W.cond_bl rfl (fun c2 => ?_) (fun c2 => ?_)
       · first
         | (exfalso; omega)
         | (refine W.sreg ?_
            refine WO.p rfl rfl ?_
            refine WO.nil ?_
            refine W.ret ?_
            refine fin.ret (Res.one rfl (RV.tmp rfl)) ?_
            refine congrArg (Value.int .i64) ?_
            unfold wgt; first | rw [if_pos (by omega)] | rw [if_neg (by omega)])
       · first
         | (exfalso; omega)
         | (refine W.skip ?_
            refine W.sreg ?_
            refine WO.p rfl rfl ?_
            refine WO.nil ?_
            refine W.ret ?_
            refine fin.ret (Res.one rfl (RV.tmp rfl)) ?_
            refine congrArg (Value.int .i64) ?_
            unfold wgt; first | rw [if_pos (by omega)] | rw [if_neg (by omega)]))
/-- is it a fraction that can be a bound? -/
def isB (r : Int × Int) : Bool := decide (0 ≤ r.1 ∧ r.1 ≤ 100000000000 ∧ 1 ≤ r.2 ∧ r.2 ≤ 100000000 ∧ red r.1 r.2 = r)
theorem isB_f {n d : Int} (h : ¬ (0 ≤ n ∧ n ≤ 100000000000 ∧ 1 ≤ d ∧ d ≤ 100000000)) : false = isB (n, d) := by
  unfold isB
  symm
  simp only [decide_eq_false_iff_not]
  intro hh
  exact h ⟨hh.1, hh.2.1, hh.2.2.1, hh.2.2.2.1⟩
theorem isB_r {n d : Int} (h : 0 ≤ n ∧ n ≤ 100000000000 ∧ 1 ≤ d ∧ d ≤ 100000000) : bl (((red n d).1, (red n d).2) = (n, d)) = isB (n, d) := by
  unfold isB
  rw [bl_eq]
  obtain ⟨h1, h2, h3, h4⟩ := h
  simp only [h1, h2, h3, h4, true_and]
theorem ref_IsBound (w : World) (n d : Int) : Ret Try.prog 26 [.agg #[.int .i64 n, .int .i64 d]].toArray w (.bool (isB (n, d))) := by
  refine Ret.of mixed tyTab Try.func26 rfl rfl ?_
  refine W.sreg ?_
  refine WO.boxA rfl rfl (fun b1 hb1 => ?_)
  refine WO.p rfl rfl ?_
  refine WO.nil ?_
  refine W.seq ?_
  refine W.drawD 25 [.r 0 [], .b 1 [], .r 2 [], .r 3 [], .r 4 [], .b 5 [], .r 6 [], .r 7 [], .r 8 [], .r 9 [], .b 10 [], .r 11 [], .r 12 [], .r 13 [], .r 14 [], .b 15 [], .r 16 [], .r 17 [], .r 18 [], .r 19 [], .b 20 [], .r 21 [], .b 22 [], .b 23 [], .b 24 []] [] (A0 := []) (Sub.refl _) (by kernel_rfl) ?_ ?_
  · exact (ALok.r (ALok.b (ALok.r (ALok.r (ALok.r (ALok.b (ALok.r (ALok.r (ALok.r (ALok.r (ALok.b (ALok.r (ALok.r (ALok.r (ALok.r (ALok.b (ALok.r (ALok.r (ALok.r (ALok.r (ALok.b (ALok.r (ALok.b (ALok.b (ALok.b ALok.nil)))))))))))))))))))))))))
  refine' DT.r rfl rfl rfl ?hq ?_
  case hq =>
    refine WO.field0 rfl rfl rfl ?_
    exact WO.nil ⟨rfl, rfl⟩
  refine' DT.b rfl rfl rfl ?hq ?_
  case hq =>
    refine WO.load rfl rfl (Cell.own Pick.head rfl) rfl ?_
    exact WO.nil ⟨rfl, rfl⟩
  refine' DT.r rfl rfl rfl ?hq ?_
  case hq =>
    refine WO.p rfl rfl ?_
    exact WO.nil ⟨rfl, rfl⟩
  refine' DT.rB rfl rfl rfl ?hq (fun c1 => ?_) (fun c1 => ?_)
  case hq =>
    refine WO.p rfl rfl ?_
    exact WO.nil ⟨rfl, rfl⟩
  · first
    | (exfalso; omega)
    | (refine' DT.r rfl rfl rfl ?hq ?_
       case hq =>
         refine WO.go' rfl (WO.field0 rfl rfl rfl ?_)
         exact WO.nil ⟨rfl, rfl⟩
       refine' DT.b rfl rfl rfl ?hq ?_
       case hq =>
         refine WO.go' rfl (WO.load rfl rfl (Cell.own Pick.head rfl) rfl ?_)
         exact WO.nil ⟨rfl, rfl⟩
       refine' DT.r rfl rfl rfl ?hq ?_
       case hq =>
         refine WO.pg rfl rfl rfl ?_
         exact WO.nil ⟨rfl, rfl⟩
       refine' DT.r rfl rfl rfl ?hq ?_
       case hq =>
         refine WO.p rfl rfl ?_
         exact WO.nil ⟨rfl, rfl⟩
       refine' DT.rB rfl rfl rfl ?hq (fun c2 => ?_) (fun c2 => ?_)
       case hq =>
         refine WO.p rfl rfl ?_
         exact WO.nil ⟨rfl, rfl⟩
       · first
         | (exfalso; omega)
         | (refine' DT.r rfl rfl rfl ?hq ?_
            case hq =>
              refine WO.go' rfl (WO.fieldL rfl rfl rfl ?_)
              exact WO.nil ⟨rfl, rfl⟩
            refine' DT.b rfl rfl rfl ?hq ?_
            case hq =>
              refine WO.go' rfl (WO.load rfl rfl (Cell.own Pick.head rfl) rfl ?_)
              exact WO.nil ⟨rfl, rfl⟩
            refine' DT.r rfl rfl rfl ?hq ?_
            case hq =>
              refine WO.pg rfl rfl rfl ?_
              exact WO.nil ⟨rfl, rfl⟩
            refine' DT.r rfl rfl rfl ?hq ?_
            case hq =>
              refine WO.p rfl rfl ?_
              exact WO.nil ⟨rfl, rfl⟩
            refine' DT.rB rfl rfl rfl ?hq (fun c3 => ?_) (fun c3 => ?_)
            case hq =>
              refine WO.p rfl rfl ?_
              exact WO.nil ⟨rfl, rfl⟩
            · first
              | (exfalso; omega)
              | (refine' DT.r rfl rfl rfl ?hq ?_
                 case hq =>
                   refine WO.go' rfl (WO.fieldL rfl rfl rfl ?_)
                   exact WO.nil ⟨rfl, rfl⟩
                 refine' DT.b rfl rfl rfl ?hq ?_
                 case hq =>
                   refine WO.go' rfl (WO.load rfl rfl (Cell.own Pick.head rfl) rfl ?_)
                   exact WO.nil ⟨rfl, rfl⟩
                 refine' DT.r rfl rfl rfl ?hq ?_
                 case hq =>
                   refine WO.pg rfl rfl rfl ?_
                   exact WO.nil ⟨rfl, rfl⟩
                 refine' DT.r rfl rfl rfl ?hq ?_
                 case hq =>
                   refine WO.p rfl rfl ?_
                   exact WO.nil ⟨rfl, rfl⟩
                 refine' DT.rB rfl rfl rfl ?hq (fun c4 => ?_) (fun c4 => ?_)
                 case hq =>
                   refine WO.p rfl rfl ?_
                   exact WO.nil ⟨rfl, rfl⟩
                 · first
                   | (exfalso; omega)
                   | (refine' DT.r rfl rfl rfl ?hq ?_
                      case hq =>
                        refine WO.go' rfl (WO.field0 rfl rfl rfl ?_)
                        exact WO.nil ⟨rfl, rfl⟩
                      refine' DT.b rfl rfl rfl ?hq ?_
                      case hq =>
                        refine WO.go' rfl (WO.load rfl rfl (Cell.own Pick.head rfl) rfl ?_)
                        exact WO.nil ⟨rfl, rfl⟩
                      refine' DT.r rfl rfl rfl ?hq ?_
                      case hq =>
                        refine WO.go' rfl (WO.fieldL rfl rfl rfl ?_)
                        exact WO.nil ⟨rfl, rfl⟩
                      refine' DT.b rfl rfl rfl ?hq ?_
                      case hq =>
                        refine WO.go' rfl (WO.load rfl rfl (Cell.own Pick.head rfl) rfl ?_)
                        exact WO.nil ⟨rfl, rfl⟩
                      refine' DT.b rfl rfl rfl ?hq ?_
                      case hq =>
                        refine WO.go' rfl ?_
                        refine WO.callR rfl Try.call31 (fun L w hi => ref_Fraction w n d (by omega) (by omega) (by unfold in64; omega) (by unfold in64; omega)) rfl ?_
                        exact WO.nil ⟨rfl, rfl⟩
                      refine' DT.b rfl rfl rfl ?hq ?_
                      case hq =>
                        refine WO.go' rfl (WO.loadA rfl rfl (Cells.own Pick.head) rfl rfl ?_)
                        exact WO.nil ⟨rfl, rfl⟩
                      refine DT.nil [_] rfl ?_
                      refine WO.go' rfl ?_
                      refine WO.eqT rfl rfl (eq29 _ _ _ _) rfl ?_
                      refine WO.p rfl rfl (WO.p rfl rfl ?_)
                      refine WO.nil ?_
                      refine W.ret ?_
                      refine fin.ret (Res.one rfl (RV.tmp rfl)) ?_
                      refine congrArg Value.bool ?_
                      first | exact isB_f (by omega) | exact isB_r (by omega))
                 · first
                   | (exfalso; omega)
                   | (refine' DT.r rfl rfl rfl ?hq ?_
                      case hq =>
                        refine WO.no rfl rfl ?_
                        exact WO.nil ⟨rfl, rfl⟩
                      refine' DT.b rfl rfl rfl ?hq ?_
                      case hq =>
                        refine WO.no rfl rfl ?_
                        exact WO.nil ⟨rfl, rfl⟩
                      refine' DT.r rfl rfl rfl ?hq ?_
                      case hq =>
                        refine WO.no rfl rfl ?_
                        exact WO.nil ⟨rfl, rfl⟩
                      refine' DT.b rfl rfl rfl ?hq ?_
                      case hq =>
                        refine WO.no rfl rfl ?_
                        exact WO.nil ⟨rfl, rfl⟩
                      refine' DT.b rfl rfl rfl ?hq ?_
                      case hq =>
                        refine WO.no rfl rfl ?_
                        exact WO.nil ⟨rfl, rfl⟩
                      refine' DT.b rfl rfl rfl ?hq ?_
                      case hq =>
                        refine WO.no rfl rfl ?_
                        exact WO.nil ⟨rfl, rfl⟩
                      refine DT.nil [_] rfl ?_
                      refine WO.no rfl rfl (WO.p rfl rfl (WO.p rfl rfl ?_))
                      refine WO.nil ?_
                      refine W.ret ?_
                      refine fin.ret (Res.one rfl (RV.tmp rfl)) ?_
                      refine congrArg Value.bool ?_
                      first | exact isB_f (by omega) | exact isB_r (by omega)))
            · first
              | (exfalso; omega)
              | (refine' DT.r rfl rfl rfl ?hq ?_
                 case hq =>
                   refine WO.no rfl rfl ?_
                   exact WO.nil ⟨rfl, rfl⟩
                 refine' DT.b rfl rfl rfl ?hq ?_
                 case hq =>
                   refine WO.no rfl rfl ?_
                   exact WO.nil ⟨rfl, rfl⟩
                 refine' DT.r rfl rfl rfl ?hq ?_
                 case hq =>
                   refine WO.no rfl rfl ?_
                   exact WO.nil ⟨rfl, rfl⟩
                 refine' DT.r rfl rfl rfl ?hq ?_
                 case hq =>
                   refine WO.p rfl rfl ?_
                   exact WO.nil ⟨rfl, rfl⟩
                 refine' DT.r rfl rfl rfl ?hq ?_
                 case hq =>
                   refine WO.p rfl rfl ?_
                   exact WO.nil ⟨rfl, rfl⟩
                 refine' DT.r rfl rfl rfl ?hq ?_
                 case hq =>
                   refine WO.no rfl rfl ?_
                   exact WO.nil ⟨rfl, rfl⟩
                 refine' DT.b rfl rfl rfl ?hq ?_
                 case hq =>
                   refine WO.no rfl rfl ?_
                   exact WO.nil ⟨rfl, rfl⟩
                 refine' DT.r rfl rfl rfl ?hq ?_
                 case hq =>
                   refine WO.no rfl rfl ?_
                   exact WO.nil ⟨rfl, rfl⟩
                 refine' DT.b rfl rfl rfl ?hq ?_
                 case hq =>
                   refine WO.no rfl rfl ?_
                   exact WO.nil ⟨rfl, rfl⟩
                 refine' DT.b rfl rfl rfl ?hq ?_
                 case hq =>
                   refine WO.no rfl rfl ?_
                   exact WO.nil ⟨rfl, rfl⟩
                 refine' DT.b rfl rfl rfl ?hq ?_
                 case hq =>
                   refine WO.no rfl rfl ?_
                   exact WO.nil ⟨rfl, rfl⟩
                 refine DT.nil [_] rfl ?_
                 refine WO.no rfl rfl (WO.p rfl rfl (WO.p rfl rfl ?_))
                 refine WO.nil ?_
                 refine W.ret ?_
                 refine fin.ret (Res.one rfl (RV.tmp rfl)) ?_
                 refine congrArg Value.bool ?_
                 first | exact isB_f (by omega) | exact isB_r (by omega)))
       · first
         | (exfalso; omega)
         | (refine' DT.r rfl rfl rfl ?hq ?_
            case hq =>
              refine WO.no rfl rfl ?_
              exact WO.nil ⟨rfl, rfl⟩
            refine' DT.b rfl rfl rfl ?hq ?_
            case hq =>
              refine WO.no rfl rfl ?_
              exact WO.nil ⟨rfl, rfl⟩
            refine' DT.r rfl rfl rfl ?hq ?_
            case hq =>
              refine WO.no rfl rfl ?_
              exact WO.nil ⟨rfl, rfl⟩
            refine' DT.r rfl rfl rfl ?hq ?_
            case hq =>
              refine WO.p rfl rfl ?_
              exact WO.nil ⟨rfl, rfl⟩
            refine' DT.r rfl rfl rfl ?hq ?_
            case hq =>
              refine WO.p rfl rfl ?_
              exact WO.nil ⟨rfl, rfl⟩
            refine' DT.r rfl rfl rfl ?hq ?_
            case hq =>
              refine WO.no rfl rfl ?_
              exact WO.nil ⟨rfl, rfl⟩
            refine' DT.b rfl rfl rfl ?hq ?_
            case hq =>
              refine WO.no rfl rfl ?_
              exact WO.nil ⟨rfl, rfl⟩
            refine' DT.r rfl rfl rfl ?hq ?_
            case hq =>
              refine WO.no rfl rfl ?_
              exact WO.nil ⟨rfl, rfl⟩
            refine' DT.r rfl rfl rfl ?hq ?_
            case hq =>
              refine WO.p rfl rfl ?_
              exact WO.nil ⟨rfl, rfl⟩
            refine' DT.r rfl rfl rfl ?hq ?_
            case hq =>
              refine WO.p rfl rfl ?_
              exact WO.nil ⟨rfl, rfl⟩
            refine' DT.r rfl rfl rfl ?hq ?_
            case hq =>
              refine WO.no rfl rfl ?_
              exact WO.nil ⟨rfl, rfl⟩
            refine' DT.b rfl rfl rfl ?hq ?_
            case hq =>
              refine WO.no rfl rfl ?_
              exact WO.nil ⟨rfl, rfl⟩
            refine' DT.r rfl rfl rfl ?hq ?_
            case hq =>
              refine WO.no rfl rfl ?_
              exact WO.nil ⟨rfl, rfl⟩
            refine' DT.b rfl rfl rfl ?hq ?_
            case hq =>
              refine WO.no rfl rfl ?_
              exact WO.nil ⟨rfl, rfl⟩
            refine' DT.b rfl rfl rfl ?hq ?_
            case hq =>
              refine WO.no rfl rfl ?_
              exact WO.nil ⟨rfl, rfl⟩
            refine' DT.b rfl rfl rfl ?hq ?_
            case hq =>
              refine WO.no rfl rfl ?_
              exact WO.nil ⟨rfl, rfl⟩
            refine DT.nil [_] rfl ?_
            refine WO.no rfl rfl (WO.p rfl rfl (WO.p rfl rfl ?_))
            refine WO.nil ?_
            refine W.ret ?_
            refine fin.ret (Res.one rfl (RV.tmp rfl)) ?_
            refine congrArg Value.bool ?_
            first | exact isB_f (by omega) | exact isB_r (by omega)))
  · first
    | (exfalso; omega)
    | (refine' DT.r rfl rfl rfl ?hq ?_
       case hq =>
         refine WO.no rfl rfl ?_
         exact WO.nil ⟨rfl, rfl⟩
       refine' DT.b rfl rfl rfl ?hq ?_
       case hq =>
         refine WO.no rfl rfl ?_
         exact WO.nil ⟨rfl, rfl⟩
       refine' DT.r rfl rfl rfl ?hq ?_
       case hq =>
         refine WO.no rfl rfl ?_
         exact WO.nil ⟨rfl, rfl⟩
       refine' DT.r rfl rfl rfl ?hq ?_
       case hq =>
         refine WO.p rfl rfl ?_
         exact WO.nil ⟨rfl, rfl⟩
       refine' DT.r rfl rfl rfl ?hq ?_
       case hq =>
         refine WO.p rfl rfl ?_
         exact WO.nil ⟨rfl, rfl⟩
       refine' DT.r rfl rfl rfl ?hq ?_
       case hq =>
         refine WO.no rfl rfl ?_
         exact WO.nil ⟨rfl, rfl⟩
       refine' DT.b rfl rfl rfl ?hq ?_
       case hq =>
         refine WO.no rfl rfl ?_
         exact WO.nil ⟨rfl, rfl⟩
       refine' DT.r rfl rfl rfl ?hq ?_
       case hq =>
         refine WO.no rfl rfl ?_
         exact WO.nil ⟨rfl, rfl⟩
       refine' DT.r rfl rfl rfl ?hq ?_
       case hq =>
         refine WO.p rfl rfl ?_
         exact WO.nil ⟨rfl, rfl⟩
       refine' DT.r rfl rfl rfl ?hq ?_
       case hq =>
         refine WO.p rfl rfl ?_
         exact WO.nil ⟨rfl, rfl⟩
       refine' DT.r rfl rfl rfl ?hq ?_
       case hq =>
         refine WO.no rfl rfl ?_
         exact WO.nil ⟨rfl, rfl⟩
       refine' DT.b rfl rfl rfl ?hq ?_
       case hq =>
         refine WO.no rfl rfl ?_
         exact WO.nil ⟨rfl, rfl⟩
       refine' DT.r rfl rfl rfl ?hq ?_
       case hq =>
         refine WO.no rfl rfl ?_
         exact WO.nil ⟨rfl, rfl⟩
       refine' DT.r rfl rfl rfl ?hq ?_
       case hq =>
         refine WO.p rfl rfl ?_
         exact WO.nil ⟨rfl, rfl⟩
       refine' DT.r rfl rfl rfl ?hq ?_
       case hq =>
         refine WO.p rfl rfl ?_
         exact WO.nil ⟨rfl, rfl⟩
       refine' DT.r rfl rfl rfl ?hq ?_
       case hq =>
         refine WO.no rfl rfl ?_
         exact WO.nil ⟨rfl, rfl⟩
       refine' DT.b rfl rfl rfl ?hq ?_
       case hq =>
         refine WO.no rfl rfl ?_
         exact WO.nil ⟨rfl, rfl⟩
       refine' DT.r rfl rfl rfl ?hq ?_
       case hq =>
         refine WO.no rfl rfl ?_
         exact WO.nil ⟨rfl, rfl⟩
       refine' DT.b rfl rfl rfl ?hq ?_
       case hq =>
         refine WO.no rfl rfl ?_
         exact WO.nil ⟨rfl, rfl⟩
       refine' DT.b rfl rfl rfl ?hq ?_
       case hq =>
         refine WO.no rfl rfl ?_
         exact WO.nil ⟨rfl, rfl⟩
       refine' DT.b rfl rfl rfl ?hq ?_
       case hq =>
         refine WO.no rfl rfl ?_
         exact WO.nil ⟨rfl, rfl⟩
       refine DT.nil [_] rfl ?_
       refine WO.no rfl rfl (WO.p rfl rfl (WO.p rfl rfl ?_))
       refine WO.nil ?_
       refine W.ret ?_
       refine fin.ret (Res.one rfl (RV.tmp rfl)) ?_
       refine congrArg Value.bool ?_
       first | exact isB_f (by omega) | exact isB_r (by omega))
/-- is a fraction less than another one? -/
def lessQ (a b : Int × Int) : Bool :=
  if a.1.tdiv a.2 ≠ b.1.tdiv b.2 then decide (a.1.tdiv a.2 < b.1.tdiv b.2) else decide (a.1.tmod a.2 * b.2 < b.1.tmod b.2 * a.2)
theorem lessQ_1 {a b c d : Int} (h : a.tdiv b ≠ c.tdiv d) : bl (a.tdiv b < c.tdiv d) = lessQ (a, b) (c, d) := by
  unfold lessQ
  rw [if_pos (by simpa using h), bl_eq]
theorem lessQ_2 {a b c d : Int} (h : ¬ a.tdiv b ≠ c.tdiv d) : bl (a.tmod b * d < c.tmod d * b) = lessQ (a, b) (c, d) := by
  unfold lessQ
  rw [if_neg (by simpa using h), bl_eq]
theorem mulmod_in {a b d : Int} (ha : 0 ≤ a) (hb : 0 < b) (hb' : b ≤ 100000000) (hd : 0 < d) (hd' : d ≤ 100000000) : in64 (a.tmod b * d) := by
  have h1 := tmod_lt ha hb
  unfold in64
  have h2 : a.tmod b * d ≤ 100000000 * 100000000 := Int.mul_le_mul (by omega) hd' (by omega) (by omega)
  have h3 : 0 ≤ a.tmod b * d := Int.mul_nonneg h1.1 (by omega)
  omega
theorem ref_Less (w : World) (a b c d : Int) (ha : 0 ≤ a) (hb : 0 < b) (hc : 0 ≤ c) (hd : 0 < d) (ha' : in64 a) (hc' : in64 c) (hb' : b ≤ 100000000) (hd' : d ≤ 100000000) :
    Ret Try.prog 27 [.agg #[.int .i64 a, .int .i64 b], .agg #[.int .i64 c, .int .i64 d]].toArray w (.bool (lessQ (a, b) (c, d))) := by
  refine Ret.of mixed tyTab Try.func27 rfl rfl ?_
  refine W.sreg ?_
  refine WO.boxA rfl rfl (fun b1 hb1 => ?_)
  refine WO.boxA rfl rfl (fun b2 hb2 => ?_)
  refine WO.p rfl rfl ?_
  refine WO.nil ?_
  refine W.seq ?_
  refine W.seq ?_
  refine W.drawD 10 [.r 0 [], .b 1 [], .r 2 [], .b 3 [], .r 4 [], .r 5 [], .b 6 [], .r 7 [], .b 8 [], .r 9 []] [] (A0 := []) (Sub.refl _) (by kernel_rfl) ?_ ?_
  · exact (ALok.r (ALok.b (ALok.r (ALok.b (ALok.r (ALok.r (ALok.b (ALok.r (ALok.b (ALok.r ALok.nil))))))))))
  refine' DT.r rfl rfl rfl ?hq ?_
  case hq =>
    refine WO.field0 rfl rfl rfl ?_
    exact WO.nil ⟨rfl, rfl⟩
  refine' DT.b rfl rfl rfl ?hq ?_
  case hq =>
    refine WO.load rfl rfl (Cell.own (Pick.tail (Pick.head)) rfl) rfl ?_
    exact WO.nil ⟨rfl, rfl⟩
  refine' DT.r rfl rfl rfl ?hq ?_
  case hq =>
    refine WO.fieldL rfl rfl rfl ?_
    exact WO.nil ⟨rfl, rfl⟩
  refine' DT.b rfl rfl rfl ?hq ?_
  case hq =>
    refine WO.load rfl rfl (Cell.own (Pick.tail (Pick.head)) rfl) rfl ?_
    exact WO.nil ⟨rfl, rfl⟩
  refine' DT.r rfl rfl rfl ?hq ?_
  case hq =>
    refine WO.quo rfl rfl (by first | omega | assumption) (by (first | (unfold in64; omega) | (exact tdiv_in ha hb ha') | (exact tdiv_in hc hd hc') | (exact mulmod_in ha hb hb' hd hd') | (exact mulmod_in hc hd hd' hb hb'))) rfl ?_
    exact WO.nil ⟨rfl, rfl⟩
  refine' DT.r rfl rfl rfl ?hq ?_
  case hq =>
    refine WO.field0 rfl rfl rfl ?_
    exact WO.nil ⟨rfl, rfl⟩
  refine' DT.b rfl rfl rfl ?hq ?_
  case hq =>
    refine WO.load rfl rfl (Cell.own Pick.head rfl) rfl ?_
    exact WO.nil ⟨rfl, rfl⟩
  refine' DT.r rfl rfl rfl ?hq ?_
  case hq =>
    refine WO.fieldL rfl rfl rfl ?_
    exact WO.nil ⟨rfl, rfl⟩
  refine' DT.b rfl rfl rfl ?hq ?_
  case hq =>
    refine WO.load rfl rfl (Cell.own Pick.head rfl) rfl ?_
    exact WO.nil ⟨rfl, rfl⟩
  refine' DT.r rfl rfl rfl ?hq ?_
  case hq =>
    refine WO.quo rfl rfl (by first | omega | assumption) (by (first | (unfold in64; omega) | (exact tdiv_in ha hb ha') | (exact tdiv_in hc hd hc') | (exact mulmod_in ha hb hb' hd hd') | (exact mulmod_in hc hd hd' hb hb'))) rfl ?_
    exact WO.nil ⟨rfl, rfl⟩
  refine DT.nil [_, _] rfl ?_
  refine WO.p rfl rfl ?_
  refine WO.nil ?_
  refine W.cond_bl rfl (fun c1 => ?_) (fun c1 => ?_)
  · first
    | (exfalso; omega)
    | (refine W.seq ?_
       refine W.drawD 10 [.r 0 [], .b 1 [], .r 2 [], .b 3 [], .r 4 [], .r 5 [], .b 6 [], .r 7 [], .b 8 [], .r 9 []] [] (A0 := []) (Sub.refl _) (by kernel_rfl) ?_ ?_
       · exact (ALok.r (ALok.b (ALok.r (ALok.b (ALok.r (ALok.r (ALok.b (ALok.r (ALok.b (ALok.r ALok.nil))))))))))
       refine' DT.r rfl rfl rfl ?hq ?_
       case hq =>
         refine WO.field0 rfl rfl rfl ?_
         exact WO.nil ⟨rfl, rfl⟩
       refine' DT.b rfl rfl rfl ?hq ?_
       case hq =>
         refine WO.load rfl rfl (Cell.own (Pick.tail (Pick.head)) rfl) rfl ?_
         exact WO.nil ⟨rfl, rfl⟩
       refine' DT.r rfl rfl rfl ?hq ?_
       case hq =>
         refine WO.fieldL rfl rfl rfl ?_
         exact WO.nil ⟨rfl, rfl⟩
       refine' DT.b rfl rfl rfl ?hq ?_
       case hq =>
         refine WO.load rfl rfl (Cell.own (Pick.tail (Pick.head)) rfl) rfl ?_
         exact WO.nil ⟨rfl, rfl⟩
       refine' DT.r rfl rfl rfl ?hq ?_
       case hq =>
         refine WO.quo rfl rfl (by first | omega | assumption) (by (first | (unfold in64; omega) | (exact tdiv_in ha hb ha') | (exact tdiv_in hc hd hc') | (exact mulmod_in ha hb hb' hd hd') | (exact mulmod_in hc hd hd' hb hb'))) rfl ?_
         exact WO.nil ⟨rfl, rfl⟩
       refine' DT.r rfl rfl rfl ?hq ?_
       case hq =>
         refine WO.field0 rfl rfl rfl ?_
         exact WO.nil ⟨rfl, rfl⟩
       refine' DT.b rfl rfl rfl ?hq ?_
       case hq =>
         refine WO.load rfl rfl (Cell.own Pick.head rfl) rfl ?_
         exact WO.nil ⟨rfl, rfl⟩
       refine' DT.r rfl rfl rfl ?hq ?_
       case hq =>
         refine WO.fieldL rfl rfl rfl ?_
         exact WO.nil ⟨rfl, rfl⟩
       refine' DT.b rfl rfl rfl ?hq ?_
       case hq =>
         refine WO.load rfl rfl (Cell.own Pick.head rfl) rfl ?_
         exact WO.nil ⟨rfl, rfl⟩
       refine' DT.r rfl rfl rfl ?hq ?_
       case hq =>
         refine WO.quo rfl rfl (by first | omega | assumption) (by (first | (unfold in64; omega) | (exact tdiv_in ha hb ha') | (exact tdiv_in hc hd hc') | (exact mulmod_in ha hb hb' hd hd') | (exact mulmod_in hc hd hd' hb hb'))) rfl ?_
         exact WO.nil ⟨rfl, rfl⟩
       refine DT.nil [_, _] rfl ?_
       refine WO.p rfl rfl (WO.p rfl rfl ?_)
       refine WO.nil ?_
       refine W.ret ?_
       refine fin.ret (Res.one rfl (RV.tmp rfl)) ?_
       refine congrArg Value.bool ?_
       first | exact lessQ_1 (by assumption) | exact lessQ_2 (by assumption))
  · first
    | (exfalso; omega)
    | (refine W.skip ?_
       refine W.seq ?_
       refine W.drawD 16 [.r 0 [], .b 1 [], .r 2 [], .b 3 [], .r 4 [], .r 5 [], .b 6 [], .r 7 [], .r 8 [], .b 9 [], .r 10 [], .b 11 [], .r 12 [], .r 13 [], .b 14 [], .r 15 []] [] (A0 := []) (Sub.refl _) (by kernel_rfl) ?_ ?_
       · exact (ALok.r (ALok.b (ALok.r (ALok.b (ALok.r (ALok.r (ALok.b (ALok.r (ALok.r (ALok.b (ALok.r (ALok.b (ALok.r (ALok.r (ALok.b (ALok.r ALok.nil))))))))))))))))
       refine' DT.r rfl rfl rfl ?hq ?_
       case hq =>
         refine WO.field0 rfl rfl rfl ?_
         exact WO.nil ⟨rfl, rfl⟩
       refine' DT.b rfl rfl rfl ?hq ?_
       case hq =>
         refine WO.load rfl rfl (Cell.own (Pick.tail (Pick.head)) rfl) rfl ?_
         exact WO.nil ⟨rfl, rfl⟩
       refine' DT.r rfl rfl rfl ?hq ?_
       case hq =>
         refine WO.fieldL rfl rfl rfl ?_
         exact WO.nil ⟨rfl, rfl⟩
       refine' DT.b rfl rfl rfl ?hq ?_
       case hq =>
         refine WO.load rfl rfl (Cell.own (Pick.tail (Pick.head)) rfl) rfl ?_
         exact WO.nil ⟨rfl, rfl⟩
       refine' DT.r rfl rfl rfl ?hq ?_
       case hq =>
         refine WO.rem rfl rfl (by first | omega | assumption) rfl ?_
         exact WO.nil ⟨rfl, rfl⟩
       refine' DT.r rfl rfl rfl ?hq ?_
       case hq =>
         refine WO.fieldL rfl rfl rfl ?_
         exact WO.nil ⟨rfl, rfl⟩
       refine' DT.b rfl rfl rfl ?hq ?_
       case hq =>
         refine WO.load rfl rfl (Cell.own Pick.head rfl) rfl ?_
         exact WO.nil ⟨rfl, rfl⟩
       refine' DT.r rfl rfl rfl ?hq ?_
       case hq =>
         refine WO.ar rfl rfl rfl (by (first | (unfold in64; omega) | (exact tdiv_in ha hb ha') | (exact tdiv_in hc hd hc') | (exact mulmod_in ha hb hb' hd hd') | (exact mulmod_in hc hd hd' hb hb'))) rfl ?_
         exact WO.nil ⟨rfl, rfl⟩
       refine' DT.r rfl rfl rfl ?hq ?_
       case hq =>
         refine WO.field0 rfl rfl rfl ?_
         exact WO.nil ⟨rfl, rfl⟩
       refine' DT.b rfl rfl rfl ?hq ?_
       case hq =>
         refine WO.load rfl rfl (Cell.own Pick.head rfl) rfl ?_
         exact WO.nil ⟨rfl, rfl⟩
       refine' DT.r rfl rfl rfl ?hq ?_
       case hq =>
         refine WO.fieldL rfl rfl rfl ?_
         exact WO.nil ⟨rfl, rfl⟩
       refine' DT.b rfl rfl rfl ?hq ?_
       case hq =>
         refine WO.load rfl rfl (Cell.own Pick.head rfl) rfl ?_
         exact WO.nil ⟨rfl, rfl⟩
       refine' DT.r rfl rfl rfl ?hq ?_
       case hq =>
         refine WO.rem rfl rfl (by first | omega | assumption) rfl ?_
         exact WO.nil ⟨rfl, rfl⟩
       refine' DT.r rfl rfl rfl ?hq ?_
       case hq =>
         refine WO.fieldL rfl rfl rfl ?_
         exact WO.nil ⟨rfl, rfl⟩
       refine' DT.b rfl rfl rfl ?hq ?_
       case hq =>
         refine WO.load rfl rfl (Cell.own (Pick.tail (Pick.head)) rfl) rfl ?_
         exact WO.nil ⟨rfl, rfl⟩
       refine' DT.r rfl rfl rfl ?hq ?_
       case hq =>
         refine WO.ar rfl rfl rfl (by (first | (unfold in64; omega) | (exact tdiv_in ha hb ha') | (exact tdiv_in hc hd hc') | (exact mulmod_in ha hb hb' hd hd') | (exact mulmod_in hc hd hd' hb hb'))) rfl ?_
         exact WO.nil ⟨rfl, rfl⟩
       refine DT.nil [_, _] rfl ?_
       refine WO.p rfl rfl (WO.p rfl rfl ?_)
       refine WO.nil ?_
       refine W.ret ?_
       refine fin.ret (Res.one rfl (RV.tmp rfl)) ?_
       refine congrArg Value.bool ?_
       first | exact lessQ_1 (by assumption) | exact lessQ_2 (by assumption))
end Go.Proofs.Ytgihklgpehfbpaa
namespace Go.Proofs.Ytgihklgpehfbpaa
open Go Go.TH
attribute [local irreducible] W WO pt
set_option maxRecDepth 10000
theorem take_full {α : Type} {l r : List α} {i : Nat} (h : l.length ≤ i) (hl : l.length = r.length) (e : l.take i = r.take i) : l = r := by
  rw [List.take_of_length_le h, List.take_of_length_le (by omega)] at e; exact e
theorem take_ext {α : Type} {l r : List (List α)} {i : Nat} (e : l.take i = r.take i) (h : i < l.length) (h' : i < r.length) (he : l.getD i [] = r.getD i []) : l.take (i + 1) = r.take (i + 1) := by
  rw [take_succ_getD h [], take_succ_getD h' [], e, he]
theorem law_same (w : World) (o o' : Value) (rv rv' : List Value) (xs ys : List (List Int)) (hR : RdR encI 1 w.heap.size w o rv xs) (hR' : RdR encI 1 w.heap.size w o' rv' ys) :
    Ret Try.prog 38 [o, o'].toArray w (.bool (decide (xs = ys))) := by
  refine Ret.of mixed tyTab Try.func38 rfl rfl ?_
  replace hR : RdR encI 1 (fnCx mixed tyTab Try.f38.ntmps w).B (fnCx mixed tyTab Try.f38.ntmps w).w0 o rv xs := hR
  replace hR' : RdR encI 1 (fnCx mixed tyTab Try.f38.ntmps w).B (fnCx mixed tyTab Try.f38.ntmps w).w0 o' rv' ys := hR'
  have hle := hR.sl.le
  have hle' := hR'.sl.le
  refine W.sreg ?_
  refine WO.p rfl rfl ?_
  refine WO.nil ?_
  refine W.seq ?_
  refine W.sreg ?_
  refine WO.p rfl rfl ?_
  refine' WO.len (n := _) rfl rfl ?hs rfl ?_
  case hs => (first | exact hR.sl | exact hR'.sl | (refine (hR.row _ ?_).sl; omega) | (refine (hR'.row _ ?_).sl; omega))
  refine WO.p rfl rfl ?_
  refine' WO.len (n := _) rfl rfl ?hs rfl ?_
  case hs => (first | exact hR.sl | exact hR'.sl | (refine (hR.row _ ?_).sl; omega) | (refine (hR'.row _ ?_).sl; omega))
  refine WO.p rfl rfl ?_
  refine WO.nil ?_
  refine W.cond_bl rfl (fun c1 => ?_) (fun c1 => ?_)
  · first
    | (exfalso; omega)
    | (refine W.sreg ?_
       refine WO.p rfl rfl ?_
       refine WO.nil ?_
       refine W.ret ?_
       refine fin.ret (Res.one rfl (RV.tmp rfl)) ?_
       refine congrArg Value.bool ?_
       first | (symm; refine decide_eq_false ?_; intro e; subst e; omega) | (symm; refine decide_eq_true ?_; exact take_full (by omega) hl hall))
  · first
    | (exfalso; omega)
    | (refine W.skip ?_
       refine W.seq ?_
       refine W.sreg ?_
       refine WO.p rfl rfl ?_
       refine WO.nil ?_
       refine W.block ?_
       refine W.loop (fun (i : Nat) => xs.length = ys.length ∧ i ≤ xs.length ∧ xs.take i = ys.take i)
         (fun (i : Nat) => [(5, .int .i64 (i : Int)), (0, o), (1, o')])
         (fun (i : Nat) => [])
         (fun (i : Nat) => xs.length - i) 0
         (by exact ⟨by omega, by omega, by simp⟩) ⟨rfl, rfl, rfl, trivial⟩ (by repeat (first | exact Sub.nil | refine Sub.cons (by repeat (first | exact Pick.head | apply Pick.tail)) ?_)) ?_
       rintro i ⟨hl, hi, hall⟩
       refine W.seq ?_
       refine W.sreg ?_
       refine WO.p rfl rfl (WO.p rfl rfl ?_)
       refine' WO.len (n := _) rfl rfl ?hs rfl ?_
       case hs => (first | exact hR.sl | exact hR'.sl | (refine (hR.row _ ?_).sl; omega) | (refine (hR'.row _ ?_).sl; omega))
       refine WO.p rfl rfl ?_
       refine WO.nil ?_
       refine W.cond_bl rfl (fun c2 => ?_) (fun c2 => ?_)
       · first
         | (exfalso; omega)
         | (refine W.skip ?_
            refine W.seq ?_
            refine W.block ?_
            refine W.seq ?_
            refine W.seq ?_
            refine W.drawD 10 [.r 0 [], .r 1 [], .r 2 [], .b 3 [], .r 4 [], .r 5 [], .r 6 [], .r 7 [], .b 8 [], .r 9 []] [] (A0 := []) (Sub.refl _) (by kernel_rfl) ?_ ?_
            · exact (ALok.r (ALok.r (ALok.r (ALok.b (ALok.r (ALok.r (ALok.r (ALok.r (ALok.b (ALok.r ALok.nil))))))))))
            refine' DT.r rfl rfl rfl ?hq ?_
            case hq =>
              refine WO.p rfl rfl ?_
              exact WO.nil ⟨rfl, rfl⟩
            refine' DT.r rfl rfl rfl ?hq ?_
            case hq =>
              refine WO.p rfl rfl ?_
              exact WO.nil ⟨rfl, rfl⟩
            refine' DT.r rfl rfl rfl ?hq ?_
            case hq =>
              refine' WO.indexAddr (n := _) (i := _) rfl rfl rfl ?hs ?h1 rfl ?_
              case hs => (first | exact hR.sl | exact hR'.sl | (refine (hR.row _ ?_).sl; omega) | (refine (hR'.row _ ?_).sl; omega))
              case h1 => (first | omega | (simp; omega))
              exact WO.nil ⟨rfl, rfl⟩
            refine' DT.b rfl rfl rfl ?hq ?_
            case hq =>
              refine' WO.load (v := _) rfl rfl ?hc rfl ?_
              case hc => (first | (refine hR.cellV ?_; omega) | (refine hR'.cellV ?_; omega) | (refine (hR.row _ ?_).cell0 ?_ 0 ?_ <;> first | rfl | omega) | (refine (hR'.row _ ?_).cell0 ?_ 0 ?_ <;> first | rfl | omega))
              exact WO.nil ⟨rfl, rfl⟩
            refine' DT.r rfl rfl rfl ?hq ?_
            case hq =>
              refine' WO.len (n := _) rfl rfl ?hs rfl ?_
              case hs => (first | exact hR.sl | exact hR'.sl | (refine (hR.row _ ?_).sl; omega) | (refine (hR'.row _ ?_).sl; omega))
              exact WO.nil ⟨rfl, rfl⟩
            refine' DT.r rfl rfl rfl ?hq ?_
            case hq =>
              refine WO.p rfl rfl ?_
              exact WO.nil ⟨rfl, rfl⟩
            refine' DT.r rfl rfl rfl ?hq ?_
            case hq =>
              refine WO.p rfl rfl ?_
              exact WO.nil ⟨rfl, rfl⟩
            refine' DT.r rfl rfl rfl ?hq ?_
            case hq =>
              refine' WO.indexAddr (n := _) (i := _) rfl rfl rfl ?hs ?h1 rfl ?_
              case hs => (first | exact hR.sl | exact hR'.sl | (refine (hR.row _ ?_).sl; omega) | (refine (hR'.row _ ?_).sl; omega))
              case h1 => (first | omega | (simp; omega))
              exact WO.nil ⟨rfl, rfl⟩
            refine' DT.b rfl rfl rfl ?hq ?_
            case hq =>
              refine' WO.load (v := _) rfl rfl ?hc rfl ?_
              case hc => (first | (refine hR.cellV ?_; omega) | (refine hR'.cellV ?_; omega) | (refine (hR.row _ ?_).cell0 ?_ 0 ?_ <;> first | rfl | omega) | (refine (hR'.row _ ?_).cell0 ?_ 0 ?_ <;> first | rfl | omega))
              exact WO.nil ⟨rfl, rfl⟩
            refine' DT.r rfl rfl rfl ?hq ?_
            case hq =>
              refine' WO.len (n := _) rfl rfl ?hs rfl ?_
              case hs => (first | exact hR.sl | exact hR'.sl | (refine (hR.row _ ?_).sl; omega) | (refine (hR'.row _ ?_).sl; omega))
              exact WO.nil ⟨rfl, rfl⟩
            refine DT.nil [] rfl ?_
            refine WO.p rfl rfl ?_
            refine WO.nil ?_
            refine W.cond_bl rfl (fun c3 => ?_) (fun c3 => ?_)
            · first
              | (exfalso; omega)
              | (refine W.sreg ?_
                 refine WO.p rfl rfl ?_
                 refine WO.nil ?_
                 refine W.ret ?_
                 refine fin.ret (Res.one rfl (RV.tmp rfl)) ?_
                 refine congrArg Value.bool ?_
                 first | (symm; refine decide_eq_false ?_; intro e; subst e; omega) | (symm; refine decide_eq_true ?_; exact take_full (by omega) hl hall))
            · first
              | (exfalso; omega)
              | (refine W.skip ?_
                 refine W.sreg ?_
                 refine WO.p rfl rfl ?_
                 refine WO.nil ?_
                 refine W.block ?_
                 refine W.loop (fun (k : Nat) => (xs.getD i []).length = (ys.getD i []).length ∧ k ≤ (xs.getD i []).length ∧ (xs.getD i []).take k = (ys.getD i []).take k)
                   (fun (k : Nat) => [(5, .int .i64 (i : Int)), (6, .int .i64 (k : Int)), (0, o), (1, o')])
                   (fun (k : Nat) => [])
                   (fun (k : Nat) => (xs.getD i []).length - k) 0
                   (by exact ⟨by omega, by omega, by simp⟩) ⟨rfl, rfl, rfl, rfl, trivial⟩ (by repeat (first | exact Sub.nil | refine Sub.cons (by repeat (first | exact Pick.head | apply Pick.tail)) ?_)) ?_
                 rintro k ⟨hlr, hk, hkt⟩
                 have hlk := (hR.row i (by omega)).sl.le
                 refine W.seq ?_
                 refine W.sreg ?_
                 refine WO.p rfl rfl (WO.p rfl rfl (WO.p rfl rfl ?_))
                 refine' WO.indexAddr (n := _) (i := _) rfl rfl rfl ?hs ?h1 rfl ?_
                 case hs => (first | exact hR.sl | exact hR'.sl | (refine (hR.row _ ?_).sl; omega) | (refine (hR'.row _ ?_).sl; omega))
                 case h1 => (first | omega | (simp; omega))
                 refine' WO.load (v := _) rfl rfl ?hc rfl ?_
                 case hc => (first | (refine hR.cellV ?_; omega) | (refine hR'.cellV ?_; omega) | (refine (hR.row _ ?_).cell0 ?_ 0 ?_ <;> first | rfl | omega) | (refine (hR'.row _ ?_).cell0 ?_ 0 ?_ <;> first | rfl | omega))
                 refine' WO.len (n := _) rfl rfl ?hs rfl ?_
                 case hs => (first | exact hR.sl | exact hR'.sl | (refine (hR.row _ ?_).sl; omega) | (refine (hR'.row _ ?_).sl; omega))
                 refine WO.p rfl rfl ?_
                 refine WO.nil ?_
                 refine W.cond_bl rfl (fun c4 => ?_) (fun c4 => ?_)
                 · first
                   | (exfalso; omega)
                   | (refine W.skip ?_
                      refine W.seq ?_
                      refine W.block ?_
                      refine W.seq ?_
                      refine W.drawD 14 [.r 0 [], .r 1 [], .r 2 [], .b 3 [], .r 4 [], .r 5 [], .b 6 [], .r 7 [], .r 8 [], .r 9 [], .b 10 [], .r 11 [], .r 12 [], .b 13 []] [] (A0 := []) (Sub.refl _) (by kernel_rfl) ?_ ?_
                      · exact (ALok.r (ALok.r (ALok.r (ALok.b (ALok.r (ALok.r (ALok.b (ALok.r (ALok.r (ALok.r (ALok.b (ALok.r (ALok.r (ALok.b ALok.nil))))))))))))))
                      refine' DT.r rfl rfl rfl ?hq ?_
                      case hq =>
                        refine WO.p rfl rfl ?_
                        exact WO.nil ⟨rfl, rfl⟩
                      refine' DT.r rfl rfl rfl ?hq ?_
                      case hq =>
                        refine WO.p rfl rfl ?_
                        exact WO.nil ⟨rfl, rfl⟩
                      refine' DT.r rfl rfl rfl ?hq ?_
                      case hq =>
                        refine' WO.indexAddr (n := _) (i := _) rfl rfl rfl ?hs ?h1 rfl ?_
                        case hs => (first | exact hR.sl | exact hR'.sl | (refine (hR.row _ ?_).sl; omega) | (refine (hR'.row _ ?_).sl; omega))
                        case h1 => (first | omega | (simp; omega))
                        exact WO.nil ⟨rfl, rfl⟩
                      refine' DT.b rfl rfl rfl ?hq ?_
                      case hq =>
                        refine' WO.load (v := _) rfl rfl ?hc rfl ?_
                        case hc => (first | (refine hR.cellV ?_; omega) | (refine hR'.cellV ?_; omega) | (refine (hR.row _ ?_).cell0 ?_ 0 ?_ <;> first | rfl | omega) | (refine (hR'.row _ ?_).cell0 ?_ 0 ?_ <;> first | rfl | omega))
                        exact WO.nil ⟨rfl, rfl⟩
                      refine' DT.r rfl rfl rfl ?hq ?_
                      case hq =>
                        refine WO.p rfl rfl ?_
                        exact WO.nil ⟨rfl, rfl⟩
                      refine' DT.r rfl rfl rfl ?hq ?_
                      case hq =>
                        refine' WO.indexAddr (n := _) (i := _) rfl rfl rfl ?hs ?h1 rfl ?_
                        case hs => (first | exact hR.sl | exact hR'.sl | (refine (hR.row _ ?_).sl; omega) | (refine (hR'.row _ ?_).sl; omega))
                        case h1 => (first | omega | (simp; omega))
                        exact WO.nil ⟨rfl, rfl⟩
                      refine' DT.b rfl rfl rfl ?hq ?_
                      case hq =>
                        refine' WO.load (v := _) rfl rfl ?hc rfl ?_
                        case hc => (first | (refine hR.cellV ?_; omega) | (refine hR'.cellV ?_; omega) | (refine (hR.row _ ?_).cell0 ?_ 0 ?_ <;> first | rfl | omega) | (refine (hR'.row _ ?_).cell0 ?_ 0 ?_ <;> first | rfl | omega))
                        exact WO.nil ⟨rfl, rfl⟩
                      refine' DT.r rfl rfl rfl ?hq ?_
                      case hq =>
                        refine WO.p rfl rfl ?_
                        exact WO.nil ⟨rfl, rfl⟩
                      refine' DT.r rfl rfl rfl ?hq ?_
                      case hq =>
                        refine WO.p rfl rfl ?_
                        exact WO.nil ⟨rfl, rfl⟩
                      refine' DT.r rfl rfl rfl ?hq ?_
                      case hq =>
                        refine' WO.indexAddr (n := _) (i := _) rfl rfl rfl ?hs ?h1 rfl ?_
                        case hs => (first | exact hR.sl | exact hR'.sl | (refine (hR.row _ ?_).sl; omega) | (refine (hR'.row _ ?_).sl; omega))
                        case h1 => (first | omega | (simp; omega))
                        exact WO.nil ⟨rfl, rfl⟩
                      refine' DT.b rfl rfl rfl ?hq ?_
                      case hq =>
                        refine' WO.load (v := _) rfl rfl ?hc rfl ?_
                        case hc => (first | (refine hR.cellV ?_; omega) | (refine hR'.cellV ?_; omega) | (refine (hR.row _ ?_).cell0 ?_ 0 ?_ <;> first | rfl | omega) | (refine (hR'.row _ ?_).cell0 ?_ 0 ?_ <;> first | rfl | omega))
                        exact WO.nil ⟨rfl, rfl⟩
                      refine' DT.r rfl rfl rfl ?hq ?_
                      case hq =>
                        refine WO.p rfl rfl ?_
                        exact WO.nil ⟨rfl, rfl⟩
                      refine' DT.r rfl rfl rfl ?hq ?_
                      case hq =>
                        refine' WO.indexAddr (n := _) (i := _) rfl rfl rfl ?hs ?h1 rfl ?_
                        case hs => (first | exact hR.sl | exact hR'.sl | (refine (hR.row _ ?_).sl; omega) | (refine (hR'.row _ ?_).sl; omega))
                        case h1 => (first | omega | (simp; omega))
                        exact WO.nil ⟨rfl, rfl⟩
                      refine' DT.b rfl rfl rfl ?hq ?_
                      case hq =>
                        refine' WO.load (v := _) rfl rfl ?hc rfl ?_
                        case hc => (first | (refine hR.cellV ?_; omega) | (refine hR'.cellV ?_; omega) | (refine (hR.row _ ?_).cell0 ?_ 0 ?_ <;> first | rfl | omega) | (refine (hR'.row _ ?_).cell0 ?_ 0 ?_ <;> first | rfl | omega))
                        exact WO.nil ⟨rfl, rfl⟩
                      refine DT.nil [] rfl ?_
                      refine WO.p rfl rfl ?_
                      refine WO.nil ?_
                      refine W.cond_bl rfl (fun c5 => ?_) (fun c5 => ?_)
                      · first
                        | (exfalso; omega)
                        | (refine W.sreg ?_
                           refine WO.p rfl rfl ?_
                           refine WO.nil ?_
                           refine W.ret ?_
                           refine fin.ret (Res.one rfl (RV.tmp rfl)) ?_
                           refine congrArg Value.bool ?_
                           first | (symm; refine decide_eq_false ?_; intro e; subst e; omega) | (symm; refine decide_eq_true ?_; exact take_full (by omega) hl hall))
                      · first
                        | (exfalso; omega)
                        | (refine W.skip ?_
                           refine W.region ?_
                           refine WO.p rfl rfl (WO.ar rfl rfl rfl (by (first | (unfold in64; omega))) rfl (WO.p rfl rfl ?_))
                           refine WO.nil ?_
                           refine' ⟨k + 1, ?hp, ?hmu, ⟨rfl, rfl, rfl, rfl, trivial⟩, ?hS⟩
                           case hS => repeat (first | exact Sub.nil | refine Sub.cons (by repeat (first | exact Pick.head | apply Pick.tail)) ?_)
                           case hp => exact ⟨by omega, by omega, by rw [take_succ_getD (by omega) 0, take_succ_getD (by omega) 0, hkt]; congr 2; omega⟩
                           case hmu => omega))
                 · first
                   | (exfalso; omega)
                   | (refine W.exit (blk_same ?_)
                      refine W.region ?_
                      refine WO.p rfl rfl (WO.ar rfl rfl rfl (by (first | (unfold in64; omega))) rfl (WO.p rfl rfl ?_))
                      refine WO.nil ?_
                      refine' ⟨i + 1, ?hp, ?hmu, ⟨rfl, rfl, rfl, trivial⟩, ?hS⟩
                      case hS => repeat (first | exact Sub.nil | refine Sub.cons (by repeat (first | exact Pick.head | apply Pick.tail)) ?_)
                      case hp => exact ⟨by omega, by omega, take_ext hall (by omega) (by omega) (take_full (by omega) hlr hkt)⟩
                      case hmu => omega)))
       · first
         | (exfalso; omega)
         | (refine W.exit (blk_same ?_)
            refine W.sreg ?_
            refine WO.p rfl rfl ?_
            refine WO.nil ?_
            refine W.ret ?_
            refine fin.ret (Res.one rfl (RV.tmp rfl)) ?_
            refine congrArg Value.bool ?_
            first | (symm; refine decide_eq_false ?_; intro e; subst e; omega) | (symm; refine decide_eq_true ?_; exact take_full (by omega) hl hall)))
/-- has a hull, or have offsets, too many parts? -/
def grt (rows : List (List (Int × Int))) (ys : List (List Int)) : Bool := decide (14 < rows.length ∨ 14 < ys.length ∨ (∃ r ∈ rows, 12 < r.length) ∨ ∃ r ∈ ys, 12 < r.length)
theorem law_great (w : World) (sp st : Int) (o o' : Value) (rv rv' : List Value) (rows : List (List (Int × Int))) (ys : List (List Int)) (hR : RdR encP 2 w.heap.size w o rv rows) (hR' : RdR encI 1 w.heap.size w o' rv' ys) :
    Ret Try.prog 12 [.agg #[.int .i64 sp, .int .i64 st, o], o'].toArray w (.bool (grt rows ys)) := by
  refine Ret.of mixed tyTab Try.func12 rfl rfl ?_
  replace hR : RdR encP 2 (fnCx mixed tyTab Try.f12.ntmps w).B (fnCx mixed tyTab Try.f12.ntmps w).w0 o rv rows := hR
  replace hR' : RdR encI 1 (fnCx mixed tyTab Try.f12.ntmps w).B (fnCx mixed tyTab Try.f12.ntmps w).w0 o' rv' ys := hR'
  have hle := hR.sl.le
  have hle' := hR'.sl.le
  refine W.sreg ?_
  refine WO.boxA rfl rfl (fun b1 hb1 => ?_)
  refine WO.p rfl rfl ?_
  refine WO.nil ?_
  refine W.seq ?_
  refine W.sreg ?_
  refine WO.fieldL rfl rfl rfl (WO.load rfl rfl (Cell.own Pick.head rfl) rfl ?_)
  refine' WO.len (n := _) rfl rfl ?hs rfl ?_
  case hs => (first | exact hR.sl | exact hR'.sl | (refine (hR.row _ ?_).sl; omega) | (refine (hR'.row _ ?_).sl; omega))
  refine WO.p rfl rfl (WO.p rfl rfl ?_)
  refine WO.guard_bl rfl rfl (fun c1 => ?_) (fun c1 => ?_)
  · first
    | (exfalso; omega)
    | (refine WO.no rfl rfl (WO.no rfl rfl (WO.no rfl rfl (WO.p rfl rfl ?_)))
       refine WO.nil ?_
       refine W.cond_t rfl ?_
       refine W.sreg ?_
       refine WO.p rfl rfl ?_
       refine WO.nil ?_
       refine W.ret ?_
       refine fin.ret (Res.one rfl (RV.tmp rfl)) ?_
       refine congrArg Value.bool ?_
       unfold grt
       symm
       first | exact decide_eq_true (by omega) | exact decide_eq_true (.inr (.inr (.inl ⟨rows.getD i [], getD_mem (by omega) [], by omega⟩))) | exact decide_eq_true (.inr (.inr (.inr ⟨ys.getD j [], getD_mem (by omega) [], by omega⟩))) | (refine decide_eq_false ?_; rintro (h | h | ⟨r, h, h'⟩ | ⟨r, h, h'⟩) <;> first | omega | (have := hs1 r h; omega) | (have := all_len (by omega) hs2 r h; omega)))
  · first
    | (exfalso; omega)
    | (refine WO.pg rfl rfl rfl (WO.go' rfl ?_)
       refine' WO.len (n := _) rfl rfl ?hs rfl ?_
       case hs => (first | exact hR.sl | exact hR'.sl | (refine (hR.row _ ?_).sl; omega) | (refine (hR'.row _ ?_).sl; omega))
       refine WO.pg rfl rfl rfl (WO.p rfl rfl ?_)
       refine WO.nil ?_
       refine W.cond_bl rfl (fun c2 => ?_) (fun c2 => ?_)
       · first
         | (exfalso; omega)
         | (refine W.sreg ?_
            refine WO.p rfl rfl ?_
            refine WO.nil ?_
            refine W.ret ?_
            refine fin.ret (Res.one rfl (RV.tmp rfl)) ?_
            refine congrArg Value.bool ?_
            unfold grt
            symm
            first | exact decide_eq_true (by omega) | exact decide_eq_true (.inr (.inr (.inl ⟨rows.getD i [], getD_mem (by omega) [], by omega⟩))) | exact decide_eq_true (.inr (.inr (.inr ⟨ys.getD j [], getD_mem (by omega) [], by omega⟩))) | (refine decide_eq_false ?_; rintro (h | h | ⟨r, h, h'⟩ | ⟨r, h, h'⟩) <;> first | omega | (have := hs1 r h; omega) | (have := all_len (by omega) hs2 r h; omega)))
       · first
         | (exfalso; omega)
         | (refine W.skip ?_
            refine W.seq ?_
            refine W.sreg ?_
            refine WO.p rfl rfl ?_
            refine WO.nil ?_
            refine W.block ?_
            refine W.loop (fun (i : Nat) => i ≤ rows.length ∧ ∀ r ∈ rows.take i, r.length ≤ 12)
              (fun (i : Nat) => [(5, .int .i64 (i : Int)), (1, o'), (2, .pointer (some ⟨b1, 0, none⟩))])
              (fun (i : Nat) => [pt b1 (.cells #[.int .i64 sp, .int .i64 st, o] 24 (0, 0))])
              (fun (i : Nat) => rows.length - i) 0
              (by exact ⟨by omega, by simp⟩) ⟨rfl, rfl, rfl, trivial⟩ (by repeat (first | exact Sub.nil | refine Sub.cons (by repeat (first | exact Pick.head | apply Pick.tail)) ?_)) ?_
            rintro i ⟨hi, hs⟩
            refine W.seq ?_
            refine W.sreg ?_
            refine WO.p rfl rfl (WO.fieldL rfl rfl rfl (WO.load rfl rfl (Cell.own Pick.head rfl) rfl ?_))
            refine' WO.len (n := _) rfl rfl ?hs rfl ?_
            case hs => (first | exact hR.sl | exact hR'.sl | (refine (hR.row _ ?_).sl; omega) | (refine (hR'.row _ ?_).sl; omega))
            refine WO.p rfl rfl ?_
            refine WO.nil ?_
            refine W.cond_bl rfl (fun c3 => ?_) (fun c3 => ?_)
            · first
              | (exfalso; omega)
              | (refine W.skip ?_
                 refine W.seq ?_
                 refine W.block ?_
                 refine W.sreg ?_
                 refine WO.fieldL rfl rfl rfl (WO.load rfl rfl (Cell.own Pick.head rfl) rfl (WO.p rfl rfl ?_))
                 refine' WO.indexAddr (n := _) (i := _) rfl rfl rfl ?hs ?h1 rfl ?_
                 case hs => (first | exact hR.sl | exact hR'.sl | (refine (hR.row _ ?_).sl; omega) | (refine (hR'.row _ ?_).sl; omega))
                 case h1 => (first | omega | (simp; omega))
                 refine' WO.load (v := _) rfl rfl ?hc rfl ?_
                 case hc => (first | (refine hR.cellV ?_; omega) | (refine hR'.cellV ?_; omega))
                 refine' WO.len (n := _) rfl rfl ?hs rfl ?_
                 case hs => (first | exact hR.sl | exact hR'.sl | (refine (hR.row _ ?_).sl; omega) | (refine (hR'.row _ ?_).sl; omega))
                 refine WO.p rfl rfl ?_
                 refine WO.nil ?_
                 refine W.cond_bl rfl (fun c4 => ?_) (fun c4 => ?_)
                 · first
                   | (exfalso; omega)
                   | (refine W.sreg ?_
                      refine WO.p rfl rfl ?_
                      refine WO.nil ?_
                      refine W.ret ?_
                      refine fin.ret (Res.one rfl (RV.tmp rfl)) ?_
                      refine congrArg Value.bool ?_
                      unfold grt
                      symm
                      first | exact decide_eq_true (by omega) | exact decide_eq_true (.inr (.inr (.inl ⟨rows.getD i [], getD_mem (by omega) [], by omega⟩))) | exact decide_eq_true (.inr (.inr (.inr ⟨ys.getD j [], getD_mem (by omega) [], by omega⟩))) | (refine decide_eq_false ?_; rintro (h | h | ⟨r, h, h'⟩ | ⟨r, h, h'⟩) <;> first | omega | (have := hs1 r h; omega) | (have := all_len (by omega) hs2 r h; omega)))
                 · first
                   | (exfalso; omega)
                   | (refine W.skip ?_
                      refine W.region ?_
                      refine WO.p rfl rfl (WO.ar rfl rfl rfl (by (first | (unfold in64; omega))) rfl (WO.p rfl rfl ?_))
                      refine WO.nil ?_
                      refine' ⟨i + 1, ?hp, ?hmu, ⟨rfl, rfl, rfl, trivial⟩, ?hS⟩
                      case hS => repeat (first | exact Sub.nil | refine Sub.cons (by repeat (first | exact Pick.head | apply Pick.tail)) ?_)
                      case hp => exact ⟨by omega, all_succ (by omega) [] hs (by omega)⟩
                      case hmu => omega))
            · first
              | (exfalso; omega)
              | (refine W.exit (blk_same ?_)
                 refine W.seq ?_
                 refine W.sreg ?_
                 refine WO.p rfl rfl ?_
                 refine WO.nil ?_
                 refine W.block ?_
                 refine W.loop (fun (j : Nat) => j ≤ ys.length ∧ (∀ r ∈ rows, r.length ≤ 12) ∧ ∀ r ∈ ys.take j, r.length ≤ 12)
                   (fun (j : Nat) => [(6, .int .i64 (j : Int)), (1, o')])
                   (fun (j : Nat) => [])
                   (fun (j : Nat) => ys.length - j) 0
                   (by exact ⟨by omega, all_len (by omega) hs, by simp⟩) ⟨rfl, rfl, trivial⟩ (by repeat (first | exact Sub.nil | refine Sub.cons (by repeat (first | exact Pick.head | apply Pick.tail)) ?_)) ?_
                 rintro j ⟨hj, hs1, hs2⟩
                 refine W.seq ?_
                 refine W.sreg ?_
                 refine WO.p rfl rfl (WO.p rfl rfl ?_)
                 refine' WO.len (n := _) rfl rfl ?hs rfl ?_
                 case hs => (first | exact hR.sl | exact hR'.sl | (refine (hR.row _ ?_).sl; omega) | (refine (hR'.row _ ?_).sl; omega))
                 refine WO.p rfl rfl ?_
                 refine WO.nil ?_
                 refine W.cond_bl rfl (fun c5 => ?_) (fun c5 => ?_)
                 · first
                   | (exfalso; omega)
                   | (refine W.skip ?_
                      refine W.seq ?_
                      refine W.block ?_
                      refine W.sreg ?_
                      refine WO.p rfl rfl (WO.p rfl rfl ?_)
                      refine' WO.indexAddr (n := _) (i := _) rfl rfl rfl ?hs ?h1 rfl ?_
                      case hs => (first | exact hR.sl | exact hR'.sl | (refine (hR.row _ ?_).sl; omega) | (refine (hR'.row _ ?_).sl; omega))
                      case h1 => (first | omega | (simp; omega))
                      refine' WO.load (v := _) rfl rfl ?hc rfl ?_
                      case hc => (first | (refine hR.cellV ?_; omega) | (refine hR'.cellV ?_; omega))
                      refine' WO.len (n := _) rfl rfl ?hs rfl ?_
                      case hs => (first | exact hR.sl | exact hR'.sl | (refine (hR.row _ ?_).sl; omega) | (refine (hR'.row _ ?_).sl; omega))
                      refine WO.p rfl rfl ?_
                      refine WO.nil ?_
                      refine W.cond_bl rfl (fun c6 => ?_) (fun c6 => ?_)
                      · first
                        | (exfalso; omega)
                        | (refine W.sreg ?_
                           refine WO.p rfl rfl ?_
                           refine WO.nil ?_
                           refine W.ret ?_
                           refine fin.ret (Res.one rfl (RV.tmp rfl)) ?_
                           refine congrArg Value.bool ?_
                           unfold grt
                           symm
                           first | exact decide_eq_true (by omega) | exact decide_eq_true (.inr (.inr (.inl ⟨rows.getD i [], getD_mem (by omega) [], by omega⟩))) | exact decide_eq_true (.inr (.inr (.inr ⟨ys.getD j [], getD_mem (by omega) [], by omega⟩))) | (refine decide_eq_false ?_; rintro (h | h | ⟨r, h, h'⟩ | ⟨r, h, h'⟩) <;> first | omega | (have := hs1 r h; omega) | (have := all_len (by omega) hs2 r h; omega)))
                      · first
                        | (exfalso; omega)
                        | (refine W.skip ?_
                           refine W.region ?_
                           refine WO.p rfl rfl (WO.ar rfl rfl rfl (by (first | (unfold in64; omega))) rfl (WO.p rfl rfl ?_))
                           refine WO.nil ?_
                           refine' ⟨j + 1, ?hp, ?hmu, ⟨rfl, rfl, trivial⟩, ?hS⟩
                           case hS => repeat (first | exact Sub.nil | refine Sub.cons (by repeat (first | exact Pick.head | apply Pick.tail)) ?_)
                           case hp => exact ⟨by omega, hs1, all_succ (by omega) [] hs2 (by omega)⟩
                           case hmu => omega))
                 · first
                   | (exfalso; omega)
                   | (refine W.exit (blk_same ?_)
                      refine W.sreg ?_
                      refine WO.p rfl rfl ?_
                      refine WO.nil ?_
                      refine W.ret ?_
                      refine fin.ret (Res.one rfl (RV.tmp rfl)) ?_
                      refine congrArg Value.bool ?_
                      unfold grt
                      symm
                      first | exact decide_eq_true (by omega) | exact decide_eq_true (.inr (.inr (.inl ⟨rows.getD i [], getD_mem (by omega) [], by omega⟩))) | exact decide_eq_true (.inr (.inr (.inr ⟨ys.getD j [], getD_mem (by omega) [], by omega⟩))) | (refine decide_eq_false ?_; rintro (h | h | ⟨r, h, h'⟩ | ⟨r, h, h'⟩) <;> first | omega | (have := hs1 r h; omega) | (have := all_len (by omega) hs2 r h; omega))))))
end Go.Proofs.Ytgihklgpehfbpaa
namespace Go.Proofs.Ytgihklgpehfbpaa
open Go Go.TH
attribute [local irreducible] W WO pt
set_option maxRecDepth 10000
def pickE (high : Bool) (r : Int × Int) : Int := if high then r.2 else r.1
def endsOf (high : Bool) (rows : List (List (Int × Int))) : List (List Int) := rows.map fun r => r.map (pickE high)
theorem isSl_lit {b n c : Nat} (h : n ≤ 9223372036854775807) : IsSl (.slice (some ⟨b, 0, none⟩) n c) n := ⟨h, _, _, rfl, fun _ => ⟨_, _, rfl⟩⟩
theorem map_take_succ {α β : Type} {l : List α} {i : Nat} (h : i < l.length) (z : α) (f : α → β) : (l.take i).map f ++ [f (l.getD i z)] = (l.take (i + 1)).map f := by
  rw [take_succ_getD h z]; simp
theorem Cells.of_eq {P : Program} {C : Cx P} {H : List HP} {p : Addr} {cs vs : List Value} (e : cs = vs) (h : Cells C H p cs) : Cells C H p vs := e ▸ h
theorem ref_End (w : World) (sp st : Int) (o : Value) (rv : List Value) (rows : List (List (Int × Int))) (high : Bool) (hR : RdR encP 2 w.heap.size w o rv rows) (hsm : rows.length ≤ 1000) (hsm2 : ∀ r ∈ rows, r.length ≤ 1000) :
    Ct Try.prog 54 [.agg #[.int .i64 sp, .int .i64 st, o], .bool high].toArray w fun v w' => ∃ Hq, (∃ rv', Hq = [OwC 53 1 v rows.length rv', RowsE encI 2 1 rv' (endsOf high rows)]) ∧ Inv w [] Hq w' := by
  refine Ct.of mixed tyTab Try.func54 rfl rfl ?_
  replace hR : RdR encP 2 (fnCx mixed tyTab Try.f54.ntmps w).B (fnCx mixed tyTab Try.f54.ntmps w).w0 o rv rows := hR
  have hle := hR.sl.le
  refine W.sreg ?_
  refine WO.boxA rfl rfl (fun b1 hb1 => ?_)
  refine WO.p rfl rfl ?_
  refine WO.nil ?_
  refine W.sreg ?_
  refine WO.p rfl rfl ?_
  refine WO.nil ?_
  refine W.seq ?_
  refine W.sreg ?_
  refine WO.p rfl rfl ?_
  refine WO.nil ?_
  refine W.block ?_
  refine W.chg (owcNil (e := 53) (sz := 1)) ?_
  refine W.chg (rowsNil (enc := encI) (e := 2) (sz := 1)) ?_
  refine W.loop3 (fun (i : Nat) (v : Value) (rv' : List Value) => i ≤ rows.length)
    (fun (i : Nat) (v : Value) (rv' : List Value) => [(6, .int .i64 (i : Int)), (5, v), (1, .bool high), (2, .pointer (some ⟨b1, 0, none⟩))])
    (fun (i : Nat) (v : Value) (rv' : List Value) => [pt b1 (.cells #[.int .i64 sp, .int .i64 st, o] 24 (0, 0)), OwC 53 1 v i rv', RowsE encI 2 1 rv' (endsOf high (rows.take i))])
    (fun (i : Nat) (v : Value) (rv' : List Value) => rows.length - i) 0 (.slice none 0 0) []
    (by omega) ⟨rfl, rfl, rfl, rfl, trivial⟩ (by repeat (first | exact Sub.nil | refine Sub.cons (by repeat (first | exact Pick.head | apply Pick.tail)) ?_)) ?_
  rintro i v rv' hi
  refine W.seq ?_
  refine W.sreg ?_
  refine WO.p rfl rfl (WO.fieldL rfl rfl rfl (WO.load rfl rfl (Cell.own Pick.head rfl) rfl ?_))
  refine' WO.len (n := _) rfl rfl ?hs rfl ?_
  case hs => (first | exact hR.sl | (refine (hR.row _ ?_).sl; omega))
  refine WO.p rfl rfl ?_
  refine WO.nil ?_
  refine W.cond_bl rfl (fun c1 => ?_) (fun c1 => ?_)
  · first
    | (exfalso; omega)
    | (refine W.skip ?_
       refine W.seq ?_
       refine W.block ?_
       refine W.sreg ?_
       refine WO.p rfl rfl ?_
       refine WO.nil ?_
       refine W.seq ?_
       refine W.sreg ?_
       refine WO.p rfl rfl ?_
       refine WO.nil ?_
       refine W.block ?_
       refine W.chg (owNil (enc := encI) (e := 2) (sz := 1)) ?_
       refine W.loop2 (fun (k : Nat) (r : Value) => k ≤ (rows.getD i []).length)
         (fun (k : Nat) (r : Value) => [(8, .int .i64 (k : Int)), (7, r), (6, .int .i64 (i : Int)), (5, v), (1, .bool high), (2, .pointer (some ⟨b1, 0, none⟩))])
         (fun (k : Nat) (r : Value) => [pt b1 (.cells #[.int .i64 sp, .int .i64 st, o] 24 (0, 0)), OwE encI 2 1 r (((rows.getD i []).take k).map (pickE high)), OwC 53 1 v i rv', RowsE encI 2 1 rv' (endsOf high (rows.take i))])
         (fun (k : Nat) (r : Value) => (rows.getD i []).length - k) 0 (.slice none 0 0)
         (by omega) ⟨rfl, rfl, rfl, rfl, rfl, rfl, trivial⟩ (by repeat (first | exact Sub.nil | refine Sub.cons (by repeat (first | exact Pick.head | apply Pick.tail)) ?_)) ?_
       rintro k r hk
       have hlk := (hR.row i (by omega)).sl.le
       have hln := hsm2 _ (getD_mem (show i < rows.length by omega) [])
       refine W.seq ?_
       refine W.sreg ?_
       refine WO.p rfl rfl (WO.fieldL rfl rfl rfl (WO.load rfl rfl (Cell.own Pick.head rfl) rfl (WO.p rfl rfl ?_)))
       refine' WO.indexAddr (n := _) (i := _) rfl rfl rfl ?hs ?h1 rfl ?_
       case hs => (first | exact hR.sl | (refine (hR.row _ ?_).sl; omega))
       case h1 => (first | omega | (simp; omega))
       refine' WO.load (v := _) rfl rfl ?hc rfl ?_
       case hc => (first | (refine hR.cellV ?_; omega) | (refine (hR.row _ ?_).cell0 ?_ (0, 0) ?_ <;> first | rfl | omega) | (refine (hR.row _ ?_).cellAt ?_ (0, 0) ?_ <;> first | rfl | omega))
       refine' WO.len (n := _) rfl rfl ?hs rfl ?_
       case hs => (first | exact hR.sl | (refine (hR.row _ ?_).sl; omega))
       refine WO.p rfl rfl ?_
       refine WO.nil ?_
       refine W.cond_bl rfl (fun c2 => ?_) (fun c2 => ?_)
       · first
         | (exfalso; omega)
         | (refine W.skip ?_
            refine W.seq ?_
            refine W.block ?_
            refine W.sreg ?_
            refine WO.p rfl rfl ?_
            refine WO.nil ?_
            refine W.cond rfl (fun c3 => ?_) (fun c3 => ?_)
            · first
              | (exfalso; omega)
              | (refine W.region ?_
                 refine WO.p rfl rfl (WO.fieldL rfl rfl rfl (WO.load rfl rfl (Cell.own Pick.head rfl) rfl (WO.p rfl rfl ?_)))
                 refine' WO.indexAddr (n := _) (i := _) rfl rfl rfl ?hs ?h1 rfl ?_
                 case hs => (first | exact hR.sl | (refine (hR.row _ ?_).sl; omega))
                 case h1 => (first | omega | (simp; omega))
                 refine' WO.load (v := _) rfl rfl ?hc rfl ?_
                 case hc => (first | (refine hR.cellV ?_; omega) | (refine (hR.row _ ?_).cell0 ?_ (0, 0) ?_ <;> first | rfl | omega) | (refine (hR.row _ ?_).cellAt ?_ (0, 0) ?_ <;> first | rfl | omega))
                 refine WO.p rfl rfl ?_
                 refine' WO.indexAddr (n := _) (i := _) rfl rfl rfl ?hs ?h1 rfl ?_
                 case hs => (first | exact hR.sl | (refine (hR.row _ ?_).sl; omega))
                 case h1 => (first | omega | (simp; omega))
                 refine WO.field rfl rfl rfl ?_
                 refine' WO.load (v := _) rfl rfl ?hc rfl ?_
                 case hc => (first | (refine hR.cellV ?_; omega) | (refine (hR.row _ ?_).cell0 ?_ (0, 0) ?_ <;> first | rfl | omega) | (refine (hR.row _ ?_).cellAt ?_ (0, 0) ?_ <;> first | rfl | omega))
                 refine' WO.buildSl (cs := _) rfl rfl rfl rfl ?hf rfl rfl ?hl rfl (fun v2 => ?_)
                 case hf => (conv => lhs; simp [-List.getD_eq_getElem?_getD, fillL, vcl, wrl, TTab.pl?.lget']) <;> rfl
                 case hl => rfl
                 refine' WO.appendE (enc := encI) (m := 1) (ys := [pickE high ((rows.getD i []).getD k (0, 0))]) encI_ok rfl rfl rfl rfl rfl ?pp (isSl_lit (by omega)) (by omega) rfl ?hc ?hb ?h63 rfl (fun g c => ?_)
                 case pp => repeat (first | exact Pick.head | apply Pick.tail)
                 case hc => (refine Cells.of_eq ?_ (OwC.cells .head); simp [encI, pickE, *])
                 case hb => simp only [List.length_map, List.length_take]; omega
                 case h63 => simp only [List.length_map, List.length_take]; omega
                 rw [map_take_succ (f := pickE high) (by omega) (0, 0)]
                 refine WO.p rfl rfl ?_
                 refine WO.nil ?_
                 refine W.region ?_
                 refine WO.p rfl rfl (WO.ar rfl rfl rfl (by (first | (unfold in64; omega))) rfl (WO.p rfl rfl ?_))
                 refine WO.nil ?_
                 refine' ⟨k + 1, _, ?hp, ?hmu, ⟨rfl, rfl, rfl, rfl, rfl, rfl, trivial⟩, ?hS⟩
                 case hS => repeat (first | exact Sub.nil | refine Sub.cons (by repeat (first | exact Pick.head | apply Pick.tail)) ?_)
                 case hp => omega
                 case hmu => omega)
            · first
              | (exfalso; omega)
              | (refine W.region ?_
                 refine WO.p rfl rfl (WO.fieldL rfl rfl rfl (WO.load rfl rfl (Cell.own Pick.head rfl) rfl (WO.p rfl rfl ?_)))
                 refine' WO.indexAddr (n := _) (i := _) rfl rfl rfl ?hs ?h1 rfl ?_
                 case hs => (first | exact hR.sl | (refine (hR.row _ ?_).sl; omega))
                 case h1 => (first | omega | (simp; omega))
                 refine' WO.load (v := _) rfl rfl ?hc rfl ?_
                 case hc => (first | (refine hR.cellV ?_; omega) | (refine (hR.row _ ?_).cell0 ?_ (0, 0) ?_ <;> first | rfl | omega) | (refine (hR.row _ ?_).cellAt ?_ (0, 0) ?_ <;> first | rfl | omega))
                 refine WO.p rfl rfl ?_
                 refine' WO.indexAddr (n := _) (i := _) rfl rfl rfl ?hs ?h1 rfl ?_
                 case hs => (first | exact hR.sl | (refine (hR.row _ ?_).sl; omega))
                 case h1 => (first | omega | (simp; omega))
                 refine WO.field0 rfl rfl rfl ?_
                 refine' WO.load (v := _) rfl rfl ?hc rfl ?_
                 case hc => (first | (refine hR.cellV ?_; omega) | (refine (hR.row _ ?_).cell0 ?_ (0, 0) ?_ <;> first | rfl | omega) | (refine (hR.row _ ?_).cellAt ?_ (0, 0) ?_ <;> first | rfl | omega))
                 refine' WO.buildSl (cs := _) rfl rfl rfl rfl ?hf rfl rfl ?hl rfl (fun v3 => ?_)
                 case hf => (conv => lhs; simp [-List.getD_eq_getElem?_getD, fillL, vcl, wrl, TTab.pl?.lget']) <;> rfl
                 case hl => rfl
                 refine' WO.appendE (enc := encI) (m := 1) (ys := [pickE high ((rows.getD i []).getD k (0, 0))]) encI_ok rfl rfl rfl rfl rfl ?pp (isSl_lit (by omega)) (by omega) rfl ?hc ?hb ?h63 rfl (fun g c => ?_)
                 case pp => repeat (first | exact Pick.head | apply Pick.tail)
                 case hc => (refine Cells.of_eq ?_ (OwC.cells .head); simp [encI, pickE, *])
                 case hb => simp only [List.length_map, List.length_take]; omega
                 case h63 => simp only [List.length_map, List.length_take]; omega
                 rw [map_take_succ (f := pickE high) (by omega) (0, 0)]
                 refine WO.p rfl rfl ?_
                 refine WO.nil ?_
                 refine W.region ?_
                 refine WO.p rfl rfl (WO.ar rfl rfl rfl (by (first | (unfold in64; omega))) rfl (WO.p rfl rfl ?_))
                 refine WO.nil ?_
                 refine' ⟨k + 1, _, ?hp, ?hmu, ⟨rfl, rfl, rfl, rfl, rfl, rfl, trivial⟩, ?hS⟩
                 case hS => repeat (first | exact Sub.nil | refine Sub.cons (by repeat (first | exact Pick.head | apply Pick.tail)) ?_)
                 case hp => omega
                 case hmu => omega))
       · first
         | (exfalso; omega)
         | (refine W.exit (blk_same ?_)
            refine W.fact (OwE.form (enc := encI) (e := 2) (sz := 1) (by repeat (first | exact Pick.head | apply Pick.tail))) (fun hf => ?_)
            obtain ⟨a, c, rfl⟩ := hf
            generalize hn : (List.map (pickE high) ((rows.getD i []).take k)).length = n
            refine W.region ?_
            refine WO.p rfl rfl (WO.p rfl rfl ?_)
            refine' WO.buildSl (cs := _) rfl rfl rfl rfl ?hf rfl rfl ?hl rfl (fun v4 => ?_)
            case hf => (conv => lhs; simp [-List.getD_eq_getElem?_getD, fillL, vcl, wrl, TTab.pl?.lget']) <;> rfl
            case hl => rfl
            refine' WO.append (m := 1) (news := [.slice a n c]) rfl rfl rfl rfl rfl (by repeat (first | exact Pick.head | apply Pick.tail)) (isSl_lit (by omega)) (by omega) (OwC.cells (by repeat (first | exact Pick.head | apply Pick.tail))) rfl (by simp [Value.oneCell']) (by omega) (by omega) rfl (fun g c' => ?_)
            refine WO.p rfl rfl ?_
            refine WO.nil ?_
            refine W.chg (rowsSnoc (enc := encI) (e := 2) (sz := 1) (by repeat (first | exact Pick.head | apply Pick.tail)) (by repeat (first | exact Pick.head | apply Pick.tail))) ?_
            rw [List.take_of_length_le (show (rows.getD i []).length ≤ k by omega), show endsOf high (rows.take i) ++ [(rows.getD i []).map (pickE high)] = endsOf high (rows.take (i + 1)) from map_take_succ (l := rows) (i := i) (by omega) [] (fun r => r.map (pickE high))]
            refine W.region ?_
            refine WO.p rfl rfl (WO.ar rfl rfl rfl (by (first | (unfold in64; omega))) rfl (WO.p rfl rfl ?_))
            refine WO.nil ?_
            refine' ⟨i + 1, _, _, ?hp, ?hmu, ⟨rfl, rfl, rfl, rfl, trivial⟩, ?hS⟩
            case hS => repeat (first | exact Sub.nil | refine Sub.cons (by repeat (first | exact Pick.head | apply Pick.tail)) ?_)
            case hp => omega
            case hmu => omega))
  · first
    | (exfalso; omega)
    | (refine W.exit (blk_same ?_)
       refine W.chg (H' := [OwC 53 1 v i rv', RowsE encI 2 1 rv' (endsOf high (rows.take i))]) (fun h hs => Sub.sat (.cons (.tail .head) (.cons (.tail .head) .nil)) hs) ?_
       obtain rfl : i = rows.length := by omega
       refine W.sreg ?_
       refine WO.p rfl rfl (WO.p rfl rfl ?_)
       refine WO.nil ?_
       refine W.ret ?_
       exact fin.ret (Res.one rfl (RV.tmp rfl)) ⟨rv', by rw [List.take_length]⟩)
end Go.Proofs.Ytgihklgpehfbpaa
namespace Go.Proofs.Ytgihklgpehfbpaa
open Go Go.TH
attribute [local irreducible] W WO pt
set_option maxRecDepth 10000
theorem RdR.nilI (B : Nat) (w : World) : RdR encI 1 B w (.slice none 0 0) [] [] :=
  ⟨⟨⟨by simp, none, 0, rfl, fun h => by simp at h⟩, fun h => by simp at h, fun i x h => by simp at h⟩, rfl, fun i h => by simp at h⟩
theorem law_fine (w : World) (sp st : Int) (o : Value) (rv : List Value) (rows : List (List (Int × Int))) (hR : RdR encP 2 w.heap.size w o rv rows) :
    Ret Try.prog 24 [.agg #[.int .i64 sp, .int .i64 st, o]].toArray w (.bool (!grt rows [] && decide (chkHull sp st rows = 0))) := by
  refine Ret.of mixed tyTab Try.func24 rfl rfl ?_
  replace hR : RdR encP 2 (fnCx mixed tyTab Try.f24.ntmps w).B (fnCx mixed tyTab Try.f24.ntmps w).w0 o rv rows := hR
  refine W.sreg ?_
  refine WO.boxA rfl rfl (fun b1 hb1 => ?_)
  refine WO.p rfl rfl ?_
  refine WO.nil ?_
  refine W.sreg ?_
  refine WO.loadA rfl rfl (Cells.own Pick.head) rfl rfl ?_
  refine WO.callR (r := .bool (grt rows [])) rfl Try.call12 (fun L w hi => law_great w sp st o (.slice none 0 0) rv [] rows [] (hR.later hi) (RdR.nilI _ _)) rfl ?_
  refine WO.p rfl rfl (WO.p rfl rfl ?_)
  refine WO.guard_b rfl rfl (fun c1 => ?_) (fun c1 => ?_)
  · first
    | (exfalso; omega)
    | (refine WO.go' rfl (WO.loadA rfl rfl (Cells.own Pick.head) rfl rfl (WO.go' rfl ?_))
       refine WO.callR rfl Try.call19 (fun L w hi => ref_checkHull w sp st o rv rows (hR.later hi)) rfl ?_
       refine WO.pg rfl rfl rfl (WO.p rfl rfl (WO.p rfl rfl ?_))
       refine WO.nil ?_
       refine W.ret ?_
       refine fin.ret (Res.one rfl (RV.tmp rfl)) ?_
       refine congrArg Value.bool ?_
       simp_all [bl_eq])
  · first
    | (exfalso; omega)
    | (refine WO.no rfl rfl (WO.no rfl rfl (WO.no rfl rfl (WO.p rfl rfl (WO.p rfl rfl ?_))))
       refine WO.nil ?_
       refine W.ret ?_
       refine fin.ret (Res.one rfl (RV.tmp rfl)) ?_
       refine congrArg Value.bool ?_
       simp_all [bl_eq])
theorem law_minus (w : World) (n a b : Int) (hb : 0 < b) (hx : in64 (n * b)) (h0 : 0 ≤ n * b - a) (h1 : in64 (n * b - a)) (h2 : in64 b) :
    Ret Try.prog 32 [.int .i64 n, .agg #[.int .i64 a, .int .i64 b]].toArray w (.agg (encP (red (n * b - a) b)).toArray) := by
  refine Ret.of mixed tyTab Try.func32 rfl rfl ?_
  refine W.sreg ?_
  refine WO.boxA rfl rfl (fun b1 hb1 => ?_)
  refine WO.alloc rfl rfl rfl (fun b2 hb2 => ?_)
  refine WO.nil ?_
  refine W.sreg ?_
  refine WO.p rfl rfl (WO.fieldL rfl rfl rfl (WO.load rfl rfl (Cell.own (Pick.tail (Pick.head)) rfl) rfl (WO.ar rfl rfl rfl (by (first | (unfold in64; omega) | assumption)) rfl (WO.field0 rfl rfl rfl (WO.load rfl rfl (Cell.own (Pick.tail (Pick.head)) rfl) rfl (WO.ar rfl rfl rfl (by (first | (unfold in64; omega) | assumption)) rfl (WO.fieldL rfl rfl rfl (WO.load rfl rfl (Cell.own (Pick.tail (Pick.head)) rfl) rfl ?_))))))))
  refine WO.callR rfl Try.call31 (fun L w hi => ref_Fraction w (n * b - a) b h0 hb h1 h2) rfl ?_
  refine WO.storeA rfl rfl rfl rfl Pick.head rfl rfl ?_
  refine WO.nil ?_
  refine W.ret ?_
  exact fin.ret (Res.one rfl (RV.cell rfl rfl rfl (Cells.own Pick.head))) rfl
theorem isB_p {n d : Int} (h : isB (n, d) = true) : 0 ≤ n ∧ 0 < d ∧ d ≤ 100000000 ∧ in64 n ∧ n ≤ 100000000000 := by
  unfold isB at h
  simp only [decide_eq_true_eq] at h
  unfold in64
  omega
/-- is the first one between the other two? -/
def insQ (v lo hi : Int × Int) : Bool := isB v && isB lo && isB hi && !lessQ v lo && !lessQ hi v
theorem law_inside (w : World) (a b c d e f : Int) :
    Ret Try.prog 30 [.agg #[.int .i64 a, .int .i64 b], .agg #[.int .i64 c, .int .i64 d, .int .i64 e, .int .i64 f]].toArray w (.bool (insQ (a, b) (c, d) (e, f))) := by
  refine Ret.of mixed tyTab Try.func30 rfl rfl ?_
  refine W.sreg ?_
  refine WO.boxA rfl rfl (fun b1 hb1 => ?_)
  refine WO.boxA rfl rfl (fun b2 hb2 => ?_)
  refine WO.p rfl rfl ?_
  refine WO.nil ?_
  refine W.sreg ?_
  refine WO.loadA rfl rfl (Cells.own (Pick.tail (Pick.head))) rfl rfl ?_
  refine WO.callR (r := .bool (isB (a, b))) rfl Try.call26 (fun L w hi => ref_IsBound w a b) rfl ?_
  refine WO.p rfl rfl ?_
  refine WO.guard_b rfl rfl (fun c1 => ?_) (fun c1 => ?_)
  · first
    | (exfalso; omega)
    | (refine WO.go' rfl (WO.field0 rfl rfl rfl (WO.go' rfl (WO.loadA rfl rfl (Cells.ownAt (n := 2) Pick.head rfl) rfl rfl (WO.go' rfl ?_))))
       refine WO.callR (r := .bool (isB (c, d))) rfl Try.call26 (fun L w hi => ref_IsBound w c d) rfl ?_
       refine WO.p rfl rfl (WO.p rfl rfl ?_)
       refine WO.guard_b rfl rfl (fun c2 => ?_) (fun c2 => ?_)
       · first
         | (exfalso; omega)
         | (refine WO.go' rfl (WO.fieldL rfl rfl rfl (WO.go' rfl (WO.loadA rfl rfl (Cells.ownAt (n := 2) Pick.head rfl) rfl rfl (WO.go' rfl ?_))))
            refine WO.callR (r := .bool (isB (e, f))) rfl Try.call26 (fun L w hi => ref_IsBound w e f) rfl ?_
            refine WO.p rfl rfl (WO.p rfl rfl ?_)
            refine WO.guard_b rfl rfl (fun c3 => ?_) (fun c3 => ?_)
            · first
              | (exfalso; omega)
              | (refine WO.go' rfl (WO.loadA rfl rfl (Cells.own (Pick.tail (Pick.head))) rfl rfl (WO.go' rfl (WO.field0 rfl rfl rfl (WO.go' rfl (WO.loadA rfl rfl (Cells.ownAt (n := 2) Pick.head rfl) rfl rfl (WO.go' rfl ?_))))))
                 have i1 := isB_p (n := a) (d := b) (by assumption)
                 have i2 := isB_p (n := c) (d := d) (by assumption)
                 have i3 := isB_p (n := e) (d := f) (by assumption)
                 refine WO.callR (r := .bool (lessQ (a, b) (c, d))) rfl Try.call27 (fun L w hi => ref_Less w a b c d i1.1 i1.2.1 i2.1 i2.2.1 i1.2.2.2.1 i2.2.2.2.1 i1.2.2.1 i2.2.2.1) rfl ?_
                 refine WO.pg rfl rfl rfl (WO.p rfl rfl (WO.p rfl rfl ?_))
                 refine WO.guard_b rfl rfl (fun c4 => ?_) (fun c4 => ?_)
                 · first
                   | (exfalso; omega)
                   | (refine WO.go' rfl (WO.fieldL rfl rfl rfl (WO.go' rfl (WO.loadA rfl rfl (Cells.ownAt (n := 2) Pick.head rfl) rfl rfl (WO.go' rfl (WO.loadA rfl rfl (Cells.own (Pick.tail (Pick.head))) rfl rfl (WO.go' rfl ?_))))))
                      have i1 := isB_p (n := a) (d := b) (by assumption)
                      have i2 := isB_p (n := c) (d := d) (by assumption)
                      have i3 := isB_p (n := e) (d := f) (by assumption)
                      refine WO.callR (r := .bool (lessQ (e, f) (a, b))) rfl Try.call27 (fun L w hi => ref_Less w e f a b i3.1 i3.2.1 i1.1 i1.2.1 i3.2.2.2.1 i1.2.2.2.1 i3.2.2.1 i1.2.2.1) rfl ?_
                      refine WO.pg rfl rfl rfl (WO.p rfl rfl (WO.p rfl rfl ?_))
                      refine WO.nil ?_
                      refine W.ret ?_
                      refine fin.ret (Res.one rfl (RV.tmp rfl)) ?_
                      refine congrArg Value.bool ?_
                      simp_all [insQ])
                 · first
                   | (exfalso; omega)
                   | (refine WO.no rfl rfl (WO.no rfl rfl (WO.no rfl rfl (WO.no rfl rfl (WO.no rfl rfl (WO.p rfl rfl (WO.p rfl rfl ?_))))))
                      refine WO.nil ?_
                      refine W.ret ?_
                      refine fin.ret (Res.one rfl (RV.tmp rfl)) ?_
                      refine congrArg Value.bool ?_
                      simp_all [insQ]))
            · first
              | (exfalso; omega)
              | (refine WO.no rfl rfl (WO.no rfl rfl (WO.no rfl rfl (WO.no rfl rfl (WO.no rfl rfl (WO.p rfl rfl (WO.p rfl rfl (WO.no rfl rfl (WO.no rfl rfl (WO.no rfl rfl (WO.no rfl rfl (WO.no rfl rfl ?_)))))))))))
                 refine WO.p rfl rfl (WO.p rfl rfl ?_)
                 refine WO.nil ?_
                 refine W.ret ?_
                 refine fin.ret (Res.one rfl (RV.tmp rfl)) ?_
                 refine congrArg Value.bool ?_
                 simp_all [insQ]))
       · first
         | (exfalso; omega)
         | (refine WO.no rfl rfl (WO.no rfl rfl (WO.no rfl rfl (WO.p rfl rfl (WO.p rfl rfl (WO.no rfl rfl (WO.no rfl rfl (WO.no rfl rfl (WO.no rfl rfl (WO.no rfl rfl (WO.p rfl rfl (WO.p rfl rfl ?_)))))))))))
            refine WO.no rfl rfl (WO.no rfl rfl (WO.no rfl rfl (WO.no rfl rfl (WO.no rfl rfl (WO.p rfl rfl (WO.p rfl rfl ?_))))))
            refine WO.nil ?_
            refine W.ret ?_
            refine fin.ret (Res.one rfl (RV.tmp rfl)) ?_
            refine congrArg Value.bool ?_
            simp_all [insQ]))
  · first
    | (exfalso; omega)
    | (refine WO.no rfl rfl (WO.no rfl rfl (WO.no rfl rfl (WO.p rfl rfl (WO.p rfl rfl (WO.no rfl rfl (WO.no rfl rfl (WO.no rfl rfl (WO.p rfl rfl (WO.p rfl rfl (WO.no rfl rfl (WO.no rfl rfl ?_)))))))))))
       refine WO.no rfl rfl (WO.no rfl rfl (WO.no rfl rfl (WO.p rfl rfl (WO.p rfl rfl (WO.no rfl rfl (WO.no rfl rfl (WO.no rfl rfl (WO.no rfl rfl (WO.no rfl rfl (WO.p rfl rfl (WO.p rfl rfl ?_)))))))))))
       refine WO.nil ?_
       refine W.ret ?_
       refine fin.ret (Res.one rfl (RV.tmp rfl)) ?_
       refine congrArg Value.bool ?_
       simp_all [insQ])
end Go.Proofs.Ytgihklgpehfbpaa
namespace Go.Proofs.Ytgihklgpehfbpaa
open Go Go.TH
attribute [local irreducible] W WO pt
set_option maxRecDepth 10000
/-- the sum of f 0, .., f (k - 1) -/
def ps (f : Nat → Int) : Nat → Int
  | 0 => 0
  | k + 1 => ps f k + f k
theorem ps_bound {f : Nat → Int} {B : Int} : ∀ {k : Nat}, (∀ j, j < k → 0 ≤ f j ∧ f j ≤ B) → 0 ≤ ps f k ∧ ps f k ≤ k * B
  | 0, _ => by simp [ps]
  | k + 1, h => by
    have h1 := ps_bound (k := k) (fun j hj => h j (by omega))
    have h2 := h k (by omega)
    have e : ((k + 1 : Nat) : Int) * B = k * B + B := by rw [Int.natCast_add, Int.add_mul]; simp
    simp only [ps]
    omega
theorem mulB {a b A B : Int} (ha : 0 ≤ a ∧ a ≤ A) (hb : 0 ≤ b ∧ b ≤ B) : 0 ≤ a * b ∧ a * b ≤ A * B :=
  ⟨Int.mul_nonneg ha.1 hb.1, Int.mul_le_mul ha.2 hb.2 hb.1 (by omega)⟩
theorem wgtB (i n : Nat) : 0 ≤ wgt i n ∧ wgt i n ≤ 2 := by unfold wgt; split <;> omega
theorem in64B {a A : Int} (h : 0 ≤ a ∧ a ≤ A) (hA : A ≤ 9223372036854775807) : in64 a := by unfold in64; omega
/-- one offset -/
def yy (ys : List (List Int)) (i k : Nat) : Int := (ys.getD i []).getD k 0
/-- what one offset counts, with its weights -/
def xw (ys : List (List Int)) (i k : Nat) : Int := wgt i ys.length * wgt k (ys.getD i []).length * yy ys i k
def sAll (ys : List (List Int)) (i : Nat) : Int := ps (fun i => ps (fun k => xw ys i k) (ys.getD i []).length) i
def sAlong (ys : List (List Int)) (i : Nat) : Int := ps (fun i => ps (fun k => (i : Int) * xw ys i k) (ys.getD i []).length) i
def sAbove (ys : List (List Int)) (i : Nat) : Int := ps (fun i => ps (fun k => (k : Int) * xw ys i k) (ys.getD i []).length) i
def lastY (ys : List (List Int)) (i : Nat) : Int := yy ys i (((ys.getD i []).length : Int) - 1).toNat
def sCubes (ys : List (List Int)) (i : Nat) : Int := ps (fun i => wgt i ys.length * lastY ys i * lastY ys i * lastY ys i) i
/-- offsets that are not beyond all bounds -/
structure Small (ys : List (List Int)) : Prop where
  n : ys.length ≤ 10
  m : ∀ i, i < ys.length → 1 ≤ (ys.getD i []).length ∧ (ys.getD i []).length ≤ 6
  y : ∀ i k, i < ys.length → k < (ys.getD i []).length → 0 ≤ yy ys i k ∧ yy ys i k ≤ 500
section
variable {ys : List (List Int)}
theorem Small.xw (h : Small ys) {i k : Nat} (hi : i < ys.length) (hk : k < (ys.getD i []).length) : 0 ≤ xw ys i k ∧ xw ys i k ≤ 2000 := mulB (mulB (wgtB _ _) (wgtB _ _)) (h.y i k hi hk)
theorem Small.rowp (h : Small ys) {c : Nat → Nat → Int} {B : Int} (hB : 0 ≤ B) (hc : ∀ i k, i < ys.length → k < (ys.getD i []).length → 0 ≤ c i k ∧ c i k ≤ B) {i k : Nat} (hi : i < ys.length) (hk : k ≤ (ys.getD i []).length) : 0 ≤ ps (c i) k ∧ ps (c i) k ≤ 6 * B := by
  have h1 := ps_bound (f := c i) (B := B) (k := k) (fun j hj => hc i j hi (by omega))
  have h2 := h.m i hi
  have h3 : (k : Int) * B ≤ 6 * B := Int.mul_le_mul_of_nonneg_right (by omega) hB
  omega
theorem Small.tot (h : Small ys) {c : Nat → Nat → Int} {B : Int} (hB : 0 ≤ B) (hc : ∀ i k, i < ys.length → k < (ys.getD i []).length → 0 ≤ c i k ∧ c i k ≤ B) {i : Nat} (hi : i ≤ ys.length) : 0 ≤ ps (fun i => ps (c i) (ys.getD i []).length) i ∧ ps (fun i => ps (c i) (ys.getD i []).length) i ≤ 60 * B := by
  have h1 := ps_bound (f := fun i => ps (c i) (ys.getD i []).length) (B := 6 * B) (k := i) (fun j hj => h.rowp hB hc (by omega) (Nat.le_refl _))
  have h2 := h.n
  have h3 : (i : Int) * (6 * B) ≤ 10 * (6 * B) := Int.mul_le_mul_of_nonneg_right (by omega) (by omega)
  omega
theorem Small.ixw (h : Small ys) {i k : Nat} (hi : i < ys.length) (hk : k < (ys.getD i []).length) : 0 ≤ (i : Int) * Go.Proofs.Ytgihklgpehfbpaa.xw ys i k ∧ (i : Int) * Go.Proofs.Ytgihklgpehfbpaa.xw ys i k ≤ 20000 := by
  have h1 := h.n
  exact mulB (A := 10) (B := 2000) ⟨by omega, by omega⟩ (h.xw hi hk)
theorem Small.kxw (h : Small ys) {i k : Nat} (hi : i < ys.length) (hk : k < (ys.getD i []).length) : 0 ≤ (k : Int) * Go.Proofs.Ytgihklgpehfbpaa.xw ys i k ∧ (k : Int) * Go.Proofs.Ytgihklgpehfbpaa.xw ys i k ≤ 12000 := by
  have h1 := h.m i hi
  exact mulB (A := 6) (B := 2000) ⟨by omega, by omega⟩ (h.xw hi hk)
theorem Small.last (h : Small ys) {i : Nat} (hi : i < ys.length) : 0 ≤ lastY ys i ∧ lastY ys i ≤ 500 := by
  have h1 := h.m i hi
  exact h.y i _ hi (by omega)
theorem Small.all (h : Small ys) {i : Nat} (hi : i ≤ ys.length) : 0 ≤ sAll ys i ∧ sAll ys i ≤ 120000 := h.tot (c := fun i k => Go.Proofs.Ytgihklgpehfbpaa.xw ys i k) (B := 2000) (by omega) (fun i k hi hk => h.xw hi hk) hi
theorem Small.along (h : Small ys) {i : Nat} (hi : i ≤ ys.length) : 0 ≤ sAlong ys i ∧ sAlong ys i ≤ 1200000 := h.tot (c := fun i k => (i : Int) * Go.Proofs.Ytgihklgpehfbpaa.xw ys i k) (B := 20000) (by omega) (fun i k hi hk => h.ixw hi hk) hi
theorem Small.above (h : Small ys) {i : Nat} (hi : i ≤ ys.length) : 0 ≤ sAbove ys i ∧ sAbove ys i ≤ 720000 := h.tot (c := fun i k => (k : Int) * Go.Proofs.Ytgihklgpehfbpaa.xw ys i k) (B := 12000) (by omega) (fun i k hi hk => h.kxw hi hk) hi
theorem Small.cubes (h : Small ys) {i : Nat} (hi : i ≤ ys.length) : 0 ≤ sCubes ys i ∧ sCubes ys i ≤ 2500000000 := by
  have h1 := ps_bound (f := fun i => wgt i ys.length * lastY ys i * lastY ys i * lastY ys i) (B := 250000000) (k := i) (fun j hj => mulB (mulB (mulB (wgtB _ _) (h.last (by omega))) (h.last (by omega))) (h.last (by omega)))
  have h2 := h.n
  have h3 : (i : Int) * 250000000 ≤ 10 * 250000000 := Int.mul_le_mul_of_nonneg_right (by omega) (by omega)
  unfold sCubes
  omega
end
theorem addB {a b A B : Int} (ha : 0 ≤ a ∧ a ≤ A) (hb : 0 ≤ b ∧ b ≤ B) : 0 ≤ a + b ∧ a + b ≤ A + B := by omega
theorem ref_sums (w : World) (o : Value) (rv : List Value) (ys : List (List Int)) (hR : RdR encI 1 w.heap.size w o rv ys) (hS : Small ys) :
    Ret Try.prog 40 [o].toArray w (.tuple #[.int .i64 (sAll ys ys.length), .int .i64 (sAlong ys ys.length), .int .i64 (sAbove ys ys.length), .int .i64 (sCubes ys ys.length)]) := by
  refine Ret.of mixed tyTab Try.func40 rfl rfl ?_
  replace hR : RdR encI 1 (fnCx mixed tyTab Try.f40.ntmps w).B (fnCx mixed tyTab Try.f40.ntmps w).w0 o rv ys := hR
  have hle := hR.sl.le
  have hn := hS.n
  refine W.sreg ?_
  refine WO.p rfl rfl (WO.p rfl rfl (WO.p rfl rfl (WO.p rfl rfl ?_)))
  refine WO.nil ?_
  refine W.sreg ?_
  refine WO.p rfl rfl (WO.p rfl rfl (WO.p rfl rfl (WO.p rfl rfl ?_)))
  refine WO.nil ?_
  refine W.seq ?_
  refine W.sreg ?_
  refine WO.p rfl rfl ?_
  refine WO.nil ?_
  refine W.block ?_
  refine W.loop5 (fun (i : Nat) (a : Int) (b : Int) (c : Int) (d : Int) => i ≤ ys.length ∧ a = sAll ys i ∧ b = sAlong ys i ∧ c = sAbove ys i ∧ d = sCubes ys i)
    (fun (i : Nat) (a : Int) (b : Int) (c : Int) (d : Int) => [(10, .int .i64 (i : Int)), (6, .int .i64 a), (7, .int .i64 b), (8, .int .i64 c), (9, .int .i64 d), (0, o)])
    (fun (i : Nat) (a : Int) (b : Int) (c : Int) (d : Int) => [])
    (fun (i : Nat) (a : Int) (b : Int) (c : Int) (d : Int) => ys.length - i) 0 0 0 0 0
    (by exact ⟨by omega, rfl, rfl, rfl, rfl⟩) ⟨rfl, rfl, rfl, rfl, rfl, rfl, trivial⟩ (by repeat (first | exact Sub.nil | refine Sub.cons (by repeat (first | exact Pick.head | apply Pick.tail)) ?_)) ?_
  rintro i a b c d ⟨hi, ea, eb, ec, ed⟩
  refine W.seq ?_
  refine W.sreg ?_
  refine WO.p rfl rfl (WO.p rfl rfl ?_)
  refine' WO.len (n := _) rfl rfl ?hs rfl ?_
  case hs => (first | exact hR.sl | (refine (hR.row _ ?_).sl; omega))
  refine WO.p rfl rfl ?_
  refine WO.nil ?_
  refine W.cond_bl rfl (fun c1 => ?_) (fun c1 => ?_)
  · first
    | (exfalso; omega)
    | (refine W.skip ?_
       refine W.seq ?_
       refine W.block ?_
       refine W.sreg ?_
       refine WO.p rfl rfl (WO.p rfl rfl ?_)
       refine' WO.indexAddr (n := _) (i := _) rfl rfl rfl ?hs ?h1 rfl ?_
       case hs => (first | exact hR.sl | (refine (hR.row _ ?_).sl; omega))
       case h1 => (first | omega | (simp; omega))
       refine' WO.load (v := _) rfl rfl ?hc rfl ?_
       case hc => (first | (refine hR.cellV ?_; omega) | (refine (hR.row _ ?_).cell0 ?_ 0 ?_ <;> first | rfl | omega))
       refine' WO.len (n := _) rfl rfl ?hs rfl ?_
       case hs => (first | exact hR.sl | (refine (hR.row _ ?_).sl; omega))
       refine WO.p rfl rfl ?_
       refine WO.nil ?_
       refine W.seq ?_
       refine W.sreg ?_
       refine WO.p rfl rfl ?_
       refine WO.nil ?_
       refine W.block ?_
       refine W.loop4 (fun (k : Nat) (a' : Int) (b' : Int) (c' : Int) => k ≤ (ys.getD i []).length ∧ a' = a + ps (fun k => xw ys i k) k ∧ b' = b + ps (fun k => (i : Int) * xw ys i k) k ∧ c' = c + ps (fun k => (k : Int) * xw ys i k) k)
         (fun (k : Nat) (a' : Int) (b' : Int) (c' : Int) => [(10, .int .i64 (i : Int)), (11, .int .i64 ((ys.getD i []).length : Int)), (12, .int .i64 (k : Int)), (6, .int .i64 a'), (7, .int .i64 b'), (8, .int .i64 c'), (9, .int .i64 d), (0, o)])
         (fun (k : Nat) (a' : Int) (b' : Int) (c' : Int) => [])
         (fun (k : Nat) (a' : Int) (b' : Int) (c' : Int) => (ys.getD i []).length - k) 0 a b c
         (by exact ⟨by omega, by simp [ps], by simp [ps], by simp [ps]⟩) ⟨rfl, rfl, rfl, rfl, rfl, rfl, rfl, rfl, trivial⟩ (by repeat (first | exact Sub.nil | refine Sub.cons (by repeat (first | exact Pick.head | apply Pick.tail)) ?_)) ?_
       rintro k a' b' c' ⟨hk, ea', eb', ec'⟩
       have hm := hS.m i (by omega)
       have ha : 0 ≤ a' ∧ a' ≤ 1000000 := by have h1 := hS.all hi; have h2 := hS.rowp (c := fun i k => xw ys i k) (B := 2000) (by omega) (fun i k hi hk => hS.xw hi hk) (i := i) (by omega) hk; rw [ea', ea]; omega
       have hb : 0 ≤ b' ∧ b' ≤ 10000000 := by have h1 := hS.along hi; have h2 := hS.rowp (c := fun i k => (i : Int) * xw ys i k) (B := 20000) (by omega) (fun i k hi hk => hS.ixw hi hk) (i := i) (by omega) hk; rw [eb', eb]; omega
       have hc : 0 ≤ c' ∧ c' ≤ 10000000 := by have h1 := hS.above hi; have h2 := hS.rowp (c := fun i k => (k : Int) * xw ys i k) (B := 12000) (by omega) (fun i k hi hk => hS.kxw hi hk) (i := i) (by omega) hk; rw [ec', ec]; omega
       have hd : 0 ≤ d ∧ d ≤ 2500000000 := by rw [ed]; exact hS.cubes hi
       refine W.seq ?_
       refine W.sreg ?_
       refine WO.p rfl rfl (WO.p rfl rfl (WO.p rfl rfl ?_))
       refine WO.nil ?_
       refine W.cond_bl rfl (fun c2 => ?_) (fun c2 => ?_)
       · first
         | (exfalso; omega)
         | (refine W.skip ?_
            refine W.seq ?_
            refine W.block ?_
            refine W.seq ?_
            refine W.drawD 15 [.r 0 [], .r 1 [], .r 2 [], .b 3 [], .r 4 [], .r 5 [], .b 6 [], .r 7 [], .r 8 [], .r 9 [], .r 10 [], .b 11 [], .r 12 [], .r 13 [], .b 14 []] [] (A0 := []) (Sub.refl _) (by kernel_rfl) ?_ ?_
            · exact (ALok.r (ALok.r (ALok.r (ALok.b (ALok.r (ALok.r (ALok.b (ALok.r (ALok.r (ALok.r (ALok.r (ALok.b (ALok.r (ALok.r (ALok.b ALok.nil)))))))))))))))
            refine' DT.r rfl rfl rfl ?hq ?_
            case hq =>
              refine WO.p rfl rfl ?_
              exact WO.nil ⟨rfl, rfl⟩
            refine' DT.r rfl rfl rfl ?hq ?_
            case hq =>
              refine WO.p rfl rfl ?_
              exact WO.nil ⟨rfl, rfl⟩
            refine' DT.r rfl rfl rfl ?hq ?_
            case hq =>
              refine' WO.len (n := _) rfl rfl ?hs rfl ?_
              case hs => (first | exact hR.sl | (refine (hR.row _ ?_).sl; omega))
              exact WO.nil ⟨rfl, rfl⟩
            refine' DT.b rfl rfl rfl ?hq ?_
            case hq =>
              refine WO.callR (r := .int .i64 (wgt i ys.length)) rfl Try.call57 (fun L w hi => ref_weight w i ys.length (by omega) (by omega)) rfl ?_
              exact WO.nil ⟨rfl, rfl⟩
            refine' DT.r rfl rfl rfl ?hq ?_
            case hq =>
              refine WO.p rfl rfl ?_
              exact WO.nil ⟨rfl, rfl⟩
            refine' DT.r rfl rfl rfl ?hq ?_
            case hq =>
              refine WO.p rfl rfl ?_
              exact WO.nil ⟨rfl, rfl⟩
            refine' DT.b rfl rfl rfl ?hq ?_
            case hq =>
              refine WO.callR (r := .int .i64 (wgt k (ys.getD i []).length)) rfl Try.call57 (fun L w hi => ref_weight w k (ys.getD i []).length (by omega) (by omega)) rfl ?_
              exact WO.nil ⟨rfl, rfl⟩
            refine' DT.r rfl rfl rfl ?hq ?_
            case hq =>
              refine WO.ar rfl rfl rfl (by (first | (unfold in64; omega) | (unfold in64; omega) | (exact in64B (mulB (wgtB _ _) (wgtB _ _)) (by omega)) | (exact in64B (hS.xw (by omega) (by omega)) (by omega)) | (exact in64B (hS.ixw (by omega) (by omega)) (by omega)) | (exact in64B (hS.kxw (by omega) (by omega)) (by omega)) | (exact in64B (addB ha (hS.xw (by omega) (by omega))) (by omega)) | (exact in64B (addB hb (hS.ixw (by omega) (by omega))) (by omega)) | (exact in64B (addB hc (hS.kxw (by omega) (by omega))) (by omega)) | (exact in64B (mulB (wgtB _ _) (hS.last (by omega))) (by omega)) | (exact in64B (mulB (mulB (wgtB _ _) (hS.last (by omega))) (hS.last (by omega))) (by omega)) | (exact in64B (mulB (mulB (mulB (wgtB _ _) (hS.last (by omega))) (hS.last (by omega))) (hS.last (by omega))) (by omega)) | (exact in64B (addB hd (mulB (mulB (mulB (wgtB _ _) (hS.last (by omega))) (hS.last (by omega))) (hS.last (by omega)))) (by omega)))) rfl ?_
              exact WO.nil ⟨rfl, rfl⟩
            refine' DT.r rfl rfl rfl ?hq ?_
            case hq =>
              refine WO.p rfl rfl ?_
              exact WO.nil ⟨rfl, rfl⟩
            refine' DT.r rfl rfl rfl ?hq ?_
            case hq =>
              refine WO.p rfl rfl ?_
              exact WO.nil ⟨rfl, rfl⟩
            refine' DT.r rfl rfl rfl ?hq ?_
            case hq =>
              refine' WO.indexAddr (n := _) (i := _) rfl rfl rfl ?hs ?h1 rfl ?_
              case hs => (first | exact hR.sl | (refine (hR.row _ ?_).sl; omega))
              case h1 => (first | omega | (simp; omega))
              exact WO.nil ⟨rfl, rfl⟩
            refine' DT.b rfl rfl rfl ?hq ?_
            case hq =>
              refine' WO.load (v := _) rfl rfl ?hc rfl ?_
              case hc => (first | (refine hR.cellV ?_; omega) | (refine (hR.row _ ?_).cell0 ?_ 0 ?_ <;> first | rfl | omega))
              exact WO.nil ⟨rfl, rfl⟩
            refine' DT.r rfl rfl rfl ?hq ?_
            case hq =>
              refine WO.p rfl rfl ?_
              exact WO.nil ⟨rfl, rfl⟩
            refine' DT.r rfl rfl rfl ?hq ?_
            case hq =>
              refine' WO.indexAddr (n := _) (i := _) rfl rfl rfl ?hs ?h1 rfl ?_
              case hs => (first | exact hR.sl | (refine (hR.row _ ?_).sl; omega))
              case h1 => (first | omega | (simp; omega))
              exact WO.nil ⟨rfl, rfl⟩
            refine' DT.b rfl rfl rfl ?hq ?_
            case hq =>
              refine' WO.load (v := _) rfl rfl ?hc rfl ?_
              case hc => (first | (refine hR.cellV ?_; omega) | (refine (hR.row _ ?_).cell0 ?_ 0 ?_ <;> first | rfl | omega))
              exact WO.nil ⟨rfl, rfl⟩
            refine DT.nil [] rfl ?_
            refine WO.ar rfl rfl rfl (by (first | (unfold in64; omega) | (unfold in64; omega) | (exact in64B (mulB (wgtB _ _) (wgtB _ _)) (by omega)) | (exact in64B (hS.xw (by omega) (by omega)) (by omega)) | (exact in64B (hS.ixw (by omega) (by omega)) (by omega)) | (exact in64B (hS.kxw (by omega) (by omega)) (by omega)) | (exact in64B (addB ha (hS.xw (by omega) (by omega))) (by omega)) | (exact in64B (addB hb (hS.ixw (by omega) (by omega))) (by omega)) | (exact in64B (addB hc (hS.kxw (by omega) (by omega))) (by omega)) | (exact in64B (mulB (wgtB _ _) (hS.last (by omega))) (by omega)) | (exact in64B (mulB (mulB (wgtB _ _) (hS.last (by omega))) (hS.last (by omega))) (by omega)) | (exact in64B (mulB (mulB (mulB (wgtB _ _) (hS.last (by omega))) (hS.last (by omega))) (hS.last (by omega))) (by omega)) | (exact in64B (addB hd (mulB (mulB (mulB (wgtB _ _) (hS.last (by omega))) (hS.last (by omega))) (hS.last (by omega)))) (by omega)))) rfl (WO.p rfl rfl ?_)
            refine WO.nil ?_
            refine W.sreg ?_
            refine WO.p rfl rfl (WO.p rfl rfl (WO.ar rfl rfl rfl (by (first | (unfold in64; omega) | (unfold in64; omega) | (exact in64B (mulB (wgtB _ _) (wgtB _ _)) (by omega)) | (exact in64B (hS.xw (by omega) (by omega)) (by omega)) | (exact in64B (hS.ixw (by omega) (by omega)) (by omega)) | (exact in64B (hS.kxw (by omega) (by omega)) (by omega)) | (exact in64B (addB ha (hS.xw (by omega) (by omega))) (by omega)) | (exact in64B (addB hb (hS.ixw (by omega) (by omega))) (by omega)) | (exact in64B (addB hc (hS.kxw (by omega) (by omega))) (by omega)) | (exact in64B (mulB (wgtB _ _) (hS.last (by omega))) (by omega)) | (exact in64B (mulB (mulB (wgtB _ _) (hS.last (by omega))) (hS.last (by omega))) (by omega)) | (exact in64B (mulB (mulB (mulB (wgtB _ _) (hS.last (by omega))) (hS.last (by omega))) (hS.last (by omega))) (by omega)) | (exact in64B (addB hd (mulB (mulB (mulB (wgtB _ _) (hS.last (by omega))) (hS.last (by omega))) (hS.last (by omega)))) (by omega)))) rfl (WO.p rfl rfl ?_)))
            refine WO.nil ?_
            refine W.sreg ?_
            refine WO.p rfl rfl (WO.p rfl rfl (WO.p rfl rfl (WO.ar rfl rfl rfl (by (first | (unfold in64; omega) | (unfold in64; omega) | (exact in64B (mulB (wgtB _ _) (wgtB _ _)) (by omega)) | (exact in64B (hS.xw (by omega) (by omega)) (by omega)) | (exact in64B (hS.ixw (by omega) (by omega)) (by omega)) | (exact in64B (hS.kxw (by omega) (by omega)) (by omega)) | (exact in64B (addB ha (hS.xw (by omega) (by omega))) (by omega)) | (exact in64B (addB hb (hS.ixw (by omega) (by omega))) (by omega)) | (exact in64B (addB hc (hS.kxw (by omega) (by omega))) (by omega)) | (exact in64B (mulB (wgtB _ _) (hS.last (by omega))) (by omega)) | (exact in64B (mulB (mulB (wgtB _ _) (hS.last (by omega))) (hS.last (by omega))) (by omega)) | (exact in64B (mulB (mulB (mulB (wgtB _ _) (hS.last (by omega))) (hS.last (by omega))) (hS.last (by omega))) (by omega)) | (exact in64B (addB hd (mulB (mulB (mulB (wgtB _ _) (hS.last (by omega))) (hS.last (by omega))) (hS.last (by omega)))) (by omega)))) rfl (WO.ar rfl rfl rfl (by (first | (unfold in64; omega) | (unfold in64; omega) | (exact in64B (mulB (wgtB _ _) (wgtB _ _)) (by omega)) | (exact in64B (hS.xw (by omega) (by omega)) (by omega)) | (exact in64B (hS.ixw (by omega) (by omega)) (by omega)) | (exact in64B (hS.kxw (by omega) (by omega)) (by omega)) | (exact in64B (addB ha (hS.xw (by omega) (by omega))) (by omega)) | (exact in64B (addB hb (hS.ixw (by omega) (by omega))) (by omega)) | (exact in64B (addB hc (hS.kxw (by omega) (by omega))) (by omega)) | (exact in64B (mulB (wgtB _ _) (hS.last (by omega))) (by omega)) | (exact in64B (mulB (mulB (wgtB _ _) (hS.last (by omega))) (hS.last (by omega))) (by omega)) | (exact in64B (mulB (mulB (mulB (wgtB _ _) (hS.last (by omega))) (hS.last (by omega))) (hS.last (by omega))) (by omega)) | (exact in64B (addB hd (mulB (mulB (mulB (wgtB _ _) (hS.last (by omega))) (hS.last (by omega))) (hS.last (by omega)))) (by omega)))) rfl (WO.p rfl rfl ?_)))))
            refine WO.nil ?_
            refine W.region ?_
            refine WO.p rfl rfl (WO.p rfl rfl (WO.p rfl rfl (WO.ar rfl rfl rfl (by (first | (unfold in64; omega) | (unfold in64; omega) | (exact in64B (mulB (wgtB _ _) (wgtB _ _)) (by omega)) | (exact in64B (hS.xw (by omega) (by omega)) (by omega)) | (exact in64B (hS.ixw (by omega) (by omega)) (by omega)) | (exact in64B (hS.kxw (by omega) (by omega)) (by omega)) | (exact in64B (addB ha (hS.xw (by omega) (by omega))) (by omega)) | (exact in64B (addB hb (hS.ixw (by omega) (by omega))) (by omega)) | (exact in64B (addB hc (hS.kxw (by omega) (by omega))) (by omega)) | (exact in64B (mulB (wgtB _ _) (hS.last (by omega))) (by omega)) | (exact in64B (mulB (mulB (wgtB _ _) (hS.last (by omega))) (hS.last (by omega))) (by omega)) | (exact in64B (mulB (mulB (mulB (wgtB _ _) (hS.last (by omega))) (hS.last (by omega))) (hS.last (by omega))) (by omega)) | (exact in64B (addB hd (mulB (mulB (mulB (wgtB _ _) (hS.last (by omega))) (hS.last (by omega))) (hS.last (by omega)))) (by omega)))) rfl (WO.ar rfl rfl rfl (by (first | (unfold in64; omega) | (unfold in64; omega) | (exact in64B (mulB (wgtB _ _) (wgtB _ _)) (by omega)) | (exact in64B (hS.xw (by omega) (by omega)) (by omega)) | (exact in64B (hS.ixw (by omega) (by omega)) (by omega)) | (exact in64B (hS.kxw (by omega) (by omega)) (by omega)) | (exact in64B (addB ha (hS.xw (by omega) (by omega))) (by omega)) | (exact in64B (addB hb (hS.ixw (by omega) (by omega))) (by omega)) | (exact in64B (addB hc (hS.kxw (by omega) (by omega))) (by omega)) | (exact in64B (mulB (wgtB _ _) (hS.last (by omega))) (by omega)) | (exact in64B (mulB (mulB (wgtB _ _) (hS.last (by omega))) (hS.last (by omega))) (by omega)) | (exact in64B (mulB (mulB (mulB (wgtB _ _) (hS.last (by omega))) (hS.last (by omega))) (hS.last (by omega))) (by omega)) | (exact in64B (addB hd (mulB (mulB (mulB (wgtB _ _) (hS.last (by omega))) (hS.last (by omega))) (hS.last (by omega)))) (by omega)))) rfl (WO.p rfl rfl ?_)))))
            refine WO.nil ?_
            refine W.region ?_
            refine WO.p rfl rfl (WO.ar rfl rfl rfl (by (first | (unfold in64; omega) | (unfold in64; omega) | (exact in64B (mulB (wgtB _ _) (wgtB _ _)) (by omega)) | (exact in64B (hS.xw (by omega) (by omega)) (by omega)) | (exact in64B (hS.ixw (by omega) (by omega)) (by omega)) | (exact in64B (hS.kxw (by omega) (by omega)) (by omega)) | (exact in64B (addB ha (hS.xw (by omega) (by omega))) (by omega)) | (exact in64B (addB hb (hS.ixw (by omega) (by omega))) (by omega)) | (exact in64B (addB hc (hS.kxw (by omega) (by omega))) (by omega)) | (exact in64B (mulB (wgtB _ _) (hS.last (by omega))) (by omega)) | (exact in64B (mulB (mulB (wgtB _ _) (hS.last (by omega))) (hS.last (by omega))) (by omega)) | (exact in64B (mulB (mulB (mulB (wgtB _ _) (hS.last (by omega))) (hS.last (by omega))) (hS.last (by omega))) (by omega)) | (exact in64B (addB hd (mulB (mulB (mulB (wgtB _ _) (hS.last (by omega))) (hS.last (by omega))) (hS.last (by omega)))) (by omega)))) rfl (WO.p rfl rfl ?_))
            refine WO.nil ?_
            refine' ⟨k + 1, _, _, _, ?hp, ?hmu, ⟨rfl, rfl, rfl, rfl, rfl, rfl, rfl, rfl, trivial⟩, ?hS⟩
            case hS => repeat (first | exact Sub.nil | refine Sub.cons (by repeat (first | exact Pick.head | apply Pick.tail)) ?_)
            case hp => exact ⟨by omega, by rw [ea', Int.add_assoc]; rfl, by rw [eb', Int.add_assoc]; rfl, by rw [ec', Int.add_assoc]; rfl⟩
            case hmu => omega)
       · first
         | (exfalso; omega)
         | (refine W.exit (blk_same ?_)
            refine W.sreg ?_
            refine WO.p rfl rfl (WO.p rfl rfl ?_)
            refine' WO.indexAddr (n := _) (i := _) rfl rfl rfl ?hs ?h1 rfl ?_
            case hs => (first | exact hR.sl | (refine (hR.row _ ?_).sl; omega))
            case h1 => (first | omega | (simp; omega))
            refine' WO.load (v := _) rfl rfl ?hc rfl ?_
            case hc => (first | (refine hR.cellV ?_; omega) | (refine (hR.row _ ?_).cell0 ?_ 0 ?_ <;> first | rfl | omega))
            refine WO.p rfl rfl (WO.ar rfl rfl rfl (by (first | (unfold in64; omega) | (unfold in64; omega) | (exact in64B (mulB (wgtB _ _) (wgtB _ _)) (by omega)) | (exact in64B (hS.xw (by omega) (by omega)) (by omega)) | (exact in64B (hS.ixw (by omega) (by omega)) (by omega)) | (exact in64B (hS.kxw (by omega) (by omega)) (by omega)) | (exact in64B (addB ha (hS.xw (by omega) (by omega))) (by omega)) | (exact in64B (addB hb (hS.ixw (by omega) (by omega))) (by omega)) | (exact in64B (addB hc (hS.kxw (by omega) (by omega))) (by omega)) | (exact in64B (mulB (wgtB _ _) (hS.last (by omega))) (by omega)) | (exact in64B (mulB (mulB (wgtB _ _) (hS.last (by omega))) (hS.last (by omega))) (by omega)) | (exact in64B (mulB (mulB (mulB (wgtB _ _) (hS.last (by omega))) (hS.last (by omega))) (hS.last (by omega))) (by omega)) | (exact in64B (addB hd (mulB (mulB (mulB (wgtB _ _) (hS.last (by omega))) (hS.last (by omega))) (hS.last (by omega)))) (by omega)))) rfl ?_)
            refine' WO.indexAddrZ (n := _) rfl rfl rfl ?hs ?h00 ?h1 rfl ?_
            case hs => (first | exact hR.sl | (refine (hR.row _ ?_).sl; omega))
            case h00 => omega
            case h1 => (first | omega | (simp; omega))
            refine' WO.load (v := _) rfl rfl ?hc rfl ?_
            case hc => (first | (refine hR.cellV ?_; omega) | (refine (hR.row _ ?_).cell0 ?_ 0 ?_ <;> first | rfl | omega))
            refine WO.p rfl rfl ?_
            refine WO.nil ?_
            refine W.region ?_
            refine WO.p rfl rfl (WO.p rfl rfl (WO.p rfl rfl ?_))
            refine' WO.len (n := _) rfl rfl ?hs rfl ?_
            case hs => (first | exact hR.sl | (refine (hR.row _ ?_).sl; omega))
            refine WO.callR (r := .int .i64 (wgt i ys.length)) rfl Try.call57 (fun L w hi => ref_weight w i ys.length (by omega) (by omega)) rfl ?_
            refine WO.p rfl rfl (WO.ar rfl rfl rfl (by (first | (unfold in64; omega) | (unfold in64; omega) | (exact in64B (mulB (wgtB _ _) (wgtB _ _)) (by omega)) | (exact in64B (hS.xw (by omega) (by omega)) (by omega)) | (exact in64B (hS.ixw (by omega) (by omega)) (by omega)) | (exact in64B (hS.kxw (by omega) (by omega)) (by omega)) | (exact in64B (addB ha (hS.xw (by omega) (by omega))) (by omega)) | (exact in64B (addB hb (hS.ixw (by omega) (by omega))) (by omega)) | (exact in64B (addB hc (hS.kxw (by omega) (by omega))) (by omega)) | (exact in64B (mulB (wgtB _ _) (hS.last (by omega))) (by omega)) | (exact in64B (mulB (mulB (wgtB _ _) (hS.last (by omega))) (hS.last (by omega))) (by omega)) | (exact in64B (mulB (mulB (mulB (wgtB _ _) (hS.last (by omega))) (hS.last (by omega))) (hS.last (by omega))) (by omega)) | (exact in64B (addB hd (mulB (mulB (mulB (wgtB _ _) (hS.last (by omega))) (hS.last (by omega))) (hS.last (by omega)))) (by omega)))) rfl (WO.p rfl rfl (WO.ar rfl rfl rfl (by (first | (unfold in64; omega) | (unfold in64; omega) | (exact in64B (mulB (wgtB _ _) (wgtB _ _)) (by omega)) | (exact in64B (hS.xw (by omega) (by omega)) (by omega)) | (exact in64B (hS.ixw (by omega) (by omega)) (by omega)) | (exact in64B (hS.kxw (by omega) (by omega)) (by omega)) | (exact in64B (addB ha (hS.xw (by omega) (by omega))) (by omega)) | (exact in64B (addB hb (hS.ixw (by omega) (by omega))) (by omega)) | (exact in64B (addB hc (hS.kxw (by omega) (by omega))) (by omega)) | (exact in64B (mulB (wgtB _ _) (hS.last (by omega))) (by omega)) | (exact in64B (mulB (mulB (wgtB _ _) (hS.last (by omega))) (hS.last (by omega))) (by omega)) | (exact in64B (mulB (mulB (mulB (wgtB _ _) (hS.last (by omega))) (hS.last (by omega))) (hS.last (by omega))) (by omega)) | (exact in64B (addB hd (mulB (mulB (mulB (wgtB _ _) (hS.last (by omega))) (hS.last (by omega))) (hS.last (by omega)))) (by omega)))) rfl (WO.p rfl rfl (WO.ar rfl rfl rfl (by (first | (unfold in64; omega) | (unfold in64; omega) | (exact in64B (mulB (wgtB _ _) (wgtB _ _)) (by omega)) | (exact in64B (hS.xw (by omega) (by omega)) (by omega)) | (exact in64B (hS.ixw (by omega) (by omega)) (by omega)) | (exact in64B (hS.kxw (by omega) (by omega)) (by omega)) | (exact in64B (addB ha (hS.xw (by omega) (by omega))) (by omega)) | (exact in64B (addB hb (hS.ixw (by omega) (by omega))) (by omega)) | (exact in64B (addB hc (hS.kxw (by omega) (by omega))) (by omega)) | (exact in64B (mulB (wgtB _ _) (hS.last (by omega))) (by omega)) | (exact in64B (mulB (mulB (wgtB _ _) (hS.last (by omega))) (hS.last (by omega))) (by omega)) | (exact in64B (mulB (mulB (mulB (wgtB _ _) (hS.last (by omega))) (hS.last (by omega))) (hS.last (by omega))) (by omega)) | (exact in64B (addB hd (mulB (mulB (mulB (wgtB _ _) (hS.last (by omega))) (hS.last (by omega))) (hS.last (by omega)))) (by omega)))) rfl (WO.ar rfl rfl rfl (by (first | (unfold in64; omega) | (unfold in64; omega) | (exact in64B (mulB (wgtB _ _) (wgtB _ _)) (by omega)) | (exact in64B (hS.xw (by omega) (by omega)) (by omega)) | (exact in64B (hS.ixw (by omega) (by omega)) (by omega)) | (exact in64B (hS.kxw (by omega) (by omega)) (by omega)) | (exact in64B (addB ha (hS.xw (by omega) (by omega))) (by omega)) | (exact in64B (addB hb (hS.ixw (by omega) (by omega))) (by omega)) | (exact in64B (addB hc (hS.kxw (by omega) (by omega))) (by omega)) | (exact in64B (mulB (wgtB _ _) (hS.last (by omega))) (by omega)) | (exact in64B (mulB (mulB (wgtB _ _) (hS.last (by omega))) (hS.last (by omega))) (by omega)) | (exact in64B (mulB (mulB (mulB (wgtB _ _) (hS.last (by omega))) (hS.last (by omega))) (hS.last (by omega))) (by omega)) | (exact in64B (addB hd (mulB (mulB (mulB (wgtB _ _) (hS.last (by omega))) (hS.last (by omega))) (hS.last (by omega)))) (by omega)))) rfl (WO.p rfl rfl ?_)))))))
            refine WO.nil ?_
            refine W.region ?_
            refine WO.p rfl rfl (WO.ar rfl rfl rfl (by (first | (unfold in64; omega) | (unfold in64; omega) | (exact in64B (mulB (wgtB _ _) (wgtB _ _)) (by omega)) | (exact in64B (hS.xw (by omega) (by omega)) (by omega)) | (exact in64B (hS.ixw (by omega) (by omega)) (by omega)) | (exact in64B (hS.kxw (by omega) (by omega)) (by omega)) | (exact in64B (addB ha (hS.xw (by omega) (by omega))) (by omega)) | (exact in64B (addB hb (hS.ixw (by omega) (by omega))) (by omega)) | (exact in64B (addB hc (hS.kxw (by omega) (by omega))) (by omega)) | (exact in64B (mulB (wgtB _ _) (hS.last (by omega))) (by omega)) | (exact in64B (mulB (mulB (wgtB _ _) (hS.last (by omega))) (hS.last (by omega))) (by omega)) | (exact in64B (mulB (mulB (mulB (wgtB _ _) (hS.last (by omega))) (hS.last (by omega))) (hS.last (by omega))) (by omega)) | (exact in64B (addB hd (mulB (mulB (mulB (wgtB _ _) (hS.last (by omega))) (hS.last (by omega))) (hS.last (by omega)))) (by omega)))) rfl (WO.p rfl rfl ?_))
            refine WO.nil ?_
            refine' ⟨i + 1, _, _, _, _, ?hp, ?hmu, ⟨rfl, rfl, rfl, rfl, rfl, rfl, trivial⟩, ?hS⟩
            case hS => repeat (first | exact Sub.nil | refine Sub.cons (by repeat (first | exact Pick.head | apply Pick.tail)) ?_)
            case hp => (obtain rfl : k = (ys.getD i []).length := by omega); exact ⟨by omega, by rw [ea', ea]; rfl, by rw [eb', eb]; rfl, by rw [ec', ec]; rfl, by rw [ed]; rfl⟩
            case hmu => omega))
  · first
    | (exfalso; omega)
    | (refine W.exit (blk_same ?_)
       refine W.sreg ?_
       refine WO.p rfl rfl (WO.p rfl rfl (WO.p rfl rfl (WO.p rfl rfl (WO.p rfl rfl (WO.p rfl rfl (WO.p rfl rfl (WO.p rfl rfl ?_)))))))
       refine WO.nil ?_
       refine W.ret ?_
       obtain rfl : i = ys.length := by omega
       refine fin.ret (Res.four rfl (RV.tmp rfl) (RV.tmp rfl) (RV.tmp rfl) (RV.tmp rfl)) ?_
       rw [ea, eb, ec, ed])
end Go.Proofs.Ytgihklgpehfbpaa
namespace Go.Proofs.Ytgihklgpehfbpaa
open Go Go.TH
attribute [local irreducible] W WO pt
set_option maxRecDepth 10000
/-- row i of the offsets is within row i of the hull -/
def rowIn (rows : List (List (Int × Int))) (ys : List (List Int)) (i : Nat) : Prop := ∀ k, k < (ys.getD i []).length → ((rows.getD i []).getD k (0, 0)).1 ≤ (ys.getD i []).getD k 0 ∧ (ys.getD i []).getD k 0 ≤ ((rows.getD i []).getD k (0, 0)).2
instance (rows : List (List (Int × Int))) (ys : List (List Int)) (i : Nat) : Decidable (rowIn rows ys i) := by unfold rowIn; infer_instance
def chkTrue (sp st : Int) (rows : List (List (Int × Int))) (ys : List (List Int)) : Int :=
  if chkHull sp st rows ≠ 0 then chkHull sp st rows
  else if ys.length ≠ rows.length then 15
  else if ¬ ∀ i, i < ys.length → (ys.getD i []).length = (rows.getD i []).length then 15
  else if ¬ ∀ i, i < ys.length → rowIn rows ys i then 3
  else 0
section
variable {sp st : Int} {rows : List (List (Int × Int))} {ys : List (List Int)}
theorem ct1 (h : chkHull sp st rows ≠ 0) : chkHull sp st rows = chkTrue sp st rows ys := by rw [chkTrue, if_pos h]
theorem ct2 (h : ¬ chkHull sp st rows ≠ 0) (h1 : ys.length ≠ rows.length) : 15 = chkTrue sp st rows ys := by rw [chkTrue, if_neg h, if_pos h1]
theorem ct3 (h : ¬ chkHull sp st rows ≠ 0) (h1 : ys.length = rows.length) {i : Nat} (hi : i < ys.length) (h2 : (ys.getD i []).length ≠ (rows.getD i []).length) : 15 = chkTrue sp st rows ys := by
  rw [chkTrue, if_neg h, if_neg (fun x => x h1), if_pos (fun x => h2 (x i hi))]
theorem ct4 (h : ¬ chkHull sp st rows ≠ 0) (h1 : ys.length = rows.length) (h2 : ∀ i, i < ys.length → (ys.getD i []).length = (rows.getD i []).length) {i k : Nat} (hi : i < ys.length) (hk : k < (ys.getD i []).length)
    (h3 : (ys.getD i []).getD k 0 < ((rows.getD i []).getD k (0, 0)).1 ∨ ((rows.getD i []).getD k (0, 0)).2 < (ys.getD i []).getD k 0) : 3 = chkTrue sp st rows ys := by
  rw [chkTrue, if_neg h, if_neg (fun x => x h1), if_neg (fun x => x h2), if_pos (fun x => ?_)]
  have := x i hi k hk
  omega
theorem ct5 (h : ¬ chkHull sp st rows ≠ 0) (h1 : ys.length = rows.length) (h2 : ∀ i, i < ys.length → (ys.getD i []).length = (rows.getD i []).length) (h3 : ∀ i, i < ys.length → rowIn rows ys i) : 0 = chkTrue sp st rows ys := by
  rw [chkTrue, if_neg h, if_neg (fun x => x h1), if_neg (fun x => x h2), if_neg (fun x => x h3)]
end
theorem ref_CheckTrue (w : World) (sp st : Int) (o o' : Value) (rv rv' : List Value) (rows : List (List (Int × Int))) (ys : List (List Int)) (hR : RdR encP 2 w.heap.size w o rv rows) (hR' : RdR encI 1 w.heap.size w o' rv' ys) :
    Ret Try.prog 21 [.agg #[.int .i64 sp, .int .i64 st, o], o'].toArray w (.int .i64 (chkTrue sp st rows ys)) := by
  refine Ret.of mixed tyTab Try.func21 rfl rfl ?_
  replace hR : RdR encP 2 (fnCx mixed tyTab Try.f21.ntmps w).B (fnCx mixed tyTab Try.f21.ntmps w).w0 o rv rows := hR
  replace hR' : RdR encI 1 (fnCx mixed tyTab Try.f21.ntmps w).B (fnCx mixed tyTab Try.f21.ntmps w).w0 o' rv' ys := hR'
  have hle := hR.sl.le
  have hle' := hR'.sl.le
  refine W.sreg ?_
  refine WO.boxA rfl rfl (fun b1 hb1 => ?_)
  refine WO.p rfl rfl ?_
  refine WO.nil ?_
  refine W.seq ?_
  refine W.sreg ?_
  refine WO.loadA rfl rfl (Cells.own Pick.head) rfl rfl ?_
  refine WO.callR (r := .int .i64 (chkHull sp st rows)) rfl Try.call19 (fun L w hi => ref_checkHull w sp st o rv rows (hR.later hi)) rfl ?_
  refine WO.p rfl rfl ?_
  refine WO.nil ?_
  refine W.cond_bl rfl (fun c1 => ?_) (fun c1 => ?_)
  · first
    | (exfalso; omega)
    | (refine W.sreg ?_
       refine WO.loadA rfl rfl (Cells.own Pick.head) rfl rfl ?_
       refine WO.callR (r := .int .i64 (chkHull sp st rows)) rfl Try.call19 (fun L w hi => ref_checkHull w sp st o rv rows (hR.later hi)) rfl ?_
       refine WO.p rfl rfl ?_
       refine WO.nil ?_
       refine W.ret ?_
       refine fin.ret (Res.one rfl (RV.tmp rfl)) ?_
       refine congrArg (Value.int .i64) ?_
       first | exact ct1 (by assumption) | exact ct2 (by assumption) (by omega) | exact ct3 (by assumption) (by omega) (i := i) (by omega) (by omega) | exact ct4 (by assumption) (by omega) hlen (i := i) (k := k) (by omega) (by omega) (by omega) | exact ct5 (by assumption) (by omega) hlen (fun j hj => hin j (by omega)))
  · first
    | (exfalso; omega)
    | (refine W.skip ?_
       refine W.seq ?_
       refine W.sreg ?_
       refine WO.p rfl rfl ?_
       refine' WO.len (n := _) rfl rfl ?hs rfl ?_
       case hs => (first | exact hR.sl | exact hR'.sl | (refine (hR.row _ ?_).sl; omega) | (refine (hR'.row _ ?_).sl; omega))
       refine WO.fieldL rfl rfl rfl (WO.load rfl rfl (Cell.own Pick.head rfl) rfl ?_)
       refine' WO.len (n := _) rfl rfl ?hs rfl ?_
       case hs => (first | exact hR.sl | exact hR'.sl | (refine (hR.row _ ?_).sl; omega) | (refine (hR'.row _ ?_).sl; omega))
       refine WO.p rfl rfl ?_
       refine WO.nil ?_
       refine W.cond_bl rfl (fun c2 => ?_) (fun c2 => ?_)
       · first
         | (exfalso; omega)
         | (refine W.sreg ?_
            refine WO.p rfl rfl ?_
            refine WO.nil ?_
            refine W.ret ?_
            refine fin.ret (Res.one rfl (RV.tmp rfl)) ?_
            refine congrArg (Value.int .i64) ?_
            first | exact ct1 (by assumption) | exact ct2 (by assumption) (by omega) | exact ct3 (by assumption) (by omega) (i := i) (by omega) (by omega) | exact ct4 (by assumption) (by omega) hlen (i := i) (k := k) (by omega) (by omega) (by omega) | exact ct5 (by assumption) (by omega) hlen (fun j hj => hin j (by omega)))
       · first
         | (exfalso; omega)
         | (refine W.skip ?_
            refine W.seq ?_
            refine W.sreg ?_
            refine WO.p rfl rfl ?_
            refine WO.nil ?_
            refine W.block ?_
            refine W.loop (fun (i : Nat) => i ≤ ys.length ∧ ∀ j, j < i → (ys.getD j []).length = (rows.getD j []).length)
              (fun (i : Nat) => [(5, .int .i64 (i : Int)), (1, o'), (2, .pointer (some ⟨b1, 0, none⟩))])
              (fun (i : Nat) => [pt b1 (.cells #[.int .i64 sp, .int .i64 st, o] 24 (0, 0))])
              (fun (i : Nat) => ys.length - i) 0
              (by exact ⟨by omega, fun j hj => by omega⟩) ⟨rfl, rfl, rfl, trivial⟩ (by repeat (first | exact Sub.nil | refine Sub.cons (by repeat (first | exact Pick.head | apply Pick.tail)) ?_)) ?_
            rintro i ⟨hi, hs⟩
            refine W.seq ?_
            refine W.sreg ?_
            refine WO.p rfl rfl (WO.p rfl rfl ?_)
            refine' WO.len (n := _) rfl rfl ?hs rfl ?_
            case hs => (first | exact hR.sl | exact hR'.sl | (refine (hR.row _ ?_).sl; omega) | (refine (hR'.row _ ?_).sl; omega))
            refine WO.p rfl rfl ?_
            refine WO.nil ?_
            refine W.cond_bl rfl (fun c3 => ?_) (fun c3 => ?_)
            · first
              | (exfalso; omega)
              | (refine W.skip ?_
                 refine W.seq ?_
                 refine W.block ?_
                 refine W.seq ?_
                 refine W.drawD 11 [.r 0 [], .r 1 [], .r 2 [], .b 3 [], .r 4 [], .r 5 [], .b 6 [], .r 7 [], .r 8 [], .b 9 [], .r 10 []] [] (A0 := []) (Sub.refl _) (by kernel_rfl) ?_ ?_
                 · exact (ALok.r (ALok.r (ALok.r (ALok.b (ALok.r (ALok.r (ALok.b (ALok.r (ALok.r (ALok.b (ALok.r ALok.nil)))))))))))
                 refine' DT.r rfl rfl rfl ?hq ?_
                 case hq =>
                   refine WO.p rfl rfl ?_
                   exact WO.nil ⟨rfl, rfl⟩
                 refine' DT.r rfl rfl rfl ?hq ?_
                 case hq =>
                   refine WO.p rfl rfl ?_
                   exact WO.nil ⟨rfl, rfl⟩
                 refine' DT.r rfl rfl rfl ?hq ?_
                 case hq =>
                   refine' WO.indexAddr (n := _) (i := _) rfl rfl rfl ?hs ?h1 rfl ?_
                   case hs => (first | exact hR.sl | exact hR'.sl | (refine (hR.row _ ?_).sl; omega) | (refine (hR'.row _ ?_).sl; omega))
                   case h1 => (first | omega | (simp; omega))
                   exact WO.nil ⟨rfl, rfl⟩
                 refine' DT.b rfl rfl rfl ?hq ?_
                 case hq =>
                   refine' WO.load (v := _) rfl rfl ?hc rfl ?_
                   case hc => (first | (refine hR.cellV ?_; omega) | (refine hR'.cellV ?_; omega) | (refine (hR.row _ ?_).cell0 ?_ (0, 0) ?_ <;> first | rfl | omega) | (refine (hR.row _ ?_).cellAt ?_ (0, 0) ?_ <;> first | rfl | omega) | (refine (hR'.row _ ?_).cell0 ?_ 0 ?_ <;> first | rfl | omega))
                   exact WO.nil ⟨rfl, rfl⟩
                 refine' DT.r rfl rfl rfl ?hq ?_
                 case hq =>
                   refine' WO.len (n := _) rfl rfl ?hs rfl ?_
                   case hs => (first | exact hR.sl | exact hR'.sl | (refine (hR.row _ ?_).sl; omega) | (refine (hR'.row _ ?_).sl; omega))
                   exact WO.nil ⟨rfl, rfl⟩
                 refine' DT.r rfl rfl rfl ?hq ?_
                 case hq =>
                   refine WO.fieldL rfl rfl rfl ?_
                   exact WO.nil ⟨rfl, rfl⟩
                 refine' DT.b rfl rfl rfl ?hq ?_
                 case hq =>
                   refine WO.load rfl rfl (Cell.own Pick.head rfl) rfl ?_
                   exact WO.nil ⟨rfl, rfl⟩
                 refine' DT.r rfl rfl rfl ?hq ?_
                 case hq =>
                   refine WO.p rfl rfl ?_
                   exact WO.nil ⟨rfl, rfl⟩
                 refine' DT.r rfl rfl rfl ?hq ?_
                 case hq =>
                   refine' WO.indexAddr (n := _) (i := _) rfl rfl rfl ?hs ?h1 rfl ?_
                   case hs => (first | exact hR.sl | exact hR'.sl | (refine (hR.row _ ?_).sl; omega) | (refine (hR'.row _ ?_).sl; omega))
                   case h1 => (first | omega | (simp; omega))
                   exact WO.nil ⟨rfl, rfl⟩
                 refine' DT.b rfl rfl rfl ?hq ?_
                 case hq =>
                   refine' WO.load (v := _) rfl rfl ?hc rfl ?_
                   case hc => (first | (refine hR.cellV ?_; omega) | (refine hR'.cellV ?_; omega) | (refine (hR.row _ ?_).cell0 ?_ (0, 0) ?_ <;> first | rfl | omega) | (refine (hR.row _ ?_).cellAt ?_ (0, 0) ?_ <;> first | rfl | omega) | (refine (hR'.row _ ?_).cell0 ?_ 0 ?_ <;> first | rfl | omega))
                   exact WO.nil ⟨rfl, rfl⟩
                 refine' DT.r rfl rfl rfl ?hq ?_
                 case hq =>
                   refine' WO.len (n := _) rfl rfl ?hs rfl ?_
                   case hs => (first | exact hR.sl | exact hR'.sl | (refine (hR.row _ ?_).sl; omega) | (refine (hR'.row _ ?_).sl; omega))
                   exact WO.nil ⟨rfl, rfl⟩
                 refine DT.nil [_] rfl ?_
                 refine WO.p rfl rfl ?_
                 refine WO.nil ?_
                 refine W.cond_bl rfl (fun c4 => ?_) (fun c4 => ?_)
                 · first
                   | (exfalso; omega)
                   | (refine W.sreg ?_
                      refine WO.p rfl rfl ?_
                      refine WO.nil ?_
                      refine W.ret ?_
                      refine fin.ret (Res.one rfl (RV.tmp rfl)) ?_
                      refine congrArg (Value.int .i64) ?_
                      first | exact ct1 (by assumption) | exact ct2 (by assumption) (by omega) | exact ct3 (by assumption) (by omega) (i := i) (by omega) (by omega) | exact ct4 (by assumption) (by omega) hlen (i := i) (k := k) (by omega) (by omega) (by omega) | exact ct5 (by assumption) (by omega) hlen (fun j hj => hin j (by omega)))
                 · first
                   | (exfalso; omega)
                   | (refine W.skip ?_
                      refine W.region ?_
                      refine WO.p rfl rfl (WO.ar rfl rfl rfl (by (first | (unfold in64; omega))) rfl (WO.p rfl rfl ?_))
                      refine WO.nil ?_
                      refine' ⟨i + 1, ?hp, ?hmu, ⟨rfl, rfl, rfl, trivial⟩, ?hS⟩
                      case hS => repeat (first | exact Sub.nil | refine Sub.cons (by repeat (first | exact Pick.head | apply Pick.tail)) ?_)
                      case hp => exact ⟨by omega, fun j hj => by rcases Nat.lt_or_ge j i with h | h; exact hs j h; obtain rfl : j = i := (by omega); omega⟩
                      case hmu => omega))
            · first
              | (exfalso; omega)
              | (refine W.exit (blk_same ?_)
                 refine W.seq ?_
                 refine W.sreg ?_
                 refine WO.p rfl rfl ?_
                 refine WO.nil ?_
                 refine W.block ?_
                 refine W.loop (fun (i : Nat) => i ≤ ys.length ∧ (∀ j, j < ys.length → (ys.getD j []).length = (rows.getD j []).length) ∧ ∀ j, j < i → rowIn rows ys j)
                   (fun (i : Nat) => [(6, .int .i64 (i : Int)), (1, o'), (2, .pointer (some ⟨b1, 0, none⟩))])
                   (fun (i : Nat) => [pt b1 (.cells #[.int .i64 sp, .int .i64 st, o] 24 (0, 0))])
                   (fun (i : Nat) => ys.length - i) 0
                   (by exact ⟨by omega, fun j hj => hs j (by omega), fun j hj => by omega⟩) ⟨rfl, rfl, rfl, trivial⟩ (by repeat (first | exact Sub.nil | refine Sub.cons (by repeat (first | exact Pick.head | apply Pick.tail)) ?_)) ?_
                 rintro i ⟨hi, hlen, hin⟩
                 refine W.seq ?_
                 refine W.sreg ?_
                 refine WO.p rfl rfl (WO.p rfl rfl ?_)
                 refine' WO.len (n := _) rfl rfl ?hs rfl ?_
                 case hs => (first | exact hR.sl | exact hR'.sl | (refine (hR.row _ ?_).sl; omega) | (refine (hR'.row _ ?_).sl; omega))
                 refine WO.p rfl rfl ?_
                 refine WO.nil ?_
                 refine W.cond_bl rfl (fun c5 => ?_) (fun c5 => ?_)
                 · first
                   | (exfalso; omega)
                   | (refine W.skip ?_
                      refine W.seq ?_
                      refine W.block ?_
                      refine W.sreg ?_
                      refine WO.p rfl rfl ?_
                      refine WO.nil ?_
                      refine W.block ?_
                      refine W.loop (fun (k : Nat) => k ≤ (ys.getD i []).length ∧ ∀ k', k' < k → ((rows.getD i []).getD k' (0, 0)).1 ≤ (ys.getD i []).getD k' 0 ∧ (ys.getD i []).getD k' 0 ≤ ((rows.getD i []).getD k' (0, 0)).2)
                        (fun (k : Nat) => [(6, .int .i64 (i : Int)), (7, .int .i64 (k : Int)), (1, o'), (2, .pointer (some ⟨b1, 0, none⟩))])
                        (fun (k : Nat) => [pt b1 (.cells #[.int .i64 sp, .int .i64 st, o] 24 (0, 0))])
                        (fun (k : Nat) => (ys.getD i []).length - k) 0
                        (by exact ⟨by omega, fun j hj => by omega⟩) ⟨rfl, rfl, rfl, rfl, trivial⟩ (by repeat (first | exact Sub.nil | refine Sub.cons (by repeat (first | exact Pick.head | apply Pick.tail)) ?_)) ?_
                      rintro k ⟨hk, hkk⟩
                      have hlk := (hR'.row i (by omega)).sl.le
                      have hli := hlen i (by omega)
                      refine W.seq ?_
                      refine W.sreg ?_
                      refine WO.p rfl rfl (WO.p rfl rfl (WO.p rfl rfl ?_))
                      refine' WO.indexAddr (n := _) (i := _) rfl rfl rfl ?hs ?h1 rfl ?_
                      case hs => (first | exact hR.sl | exact hR'.sl | (refine (hR.row _ ?_).sl; omega) | (refine (hR'.row _ ?_).sl; omega))
                      case h1 => (first | omega | (simp; omega))
                      refine' WO.load (v := _) rfl rfl ?hc rfl ?_
                      case hc => (first | (refine hR.cellV ?_; omega) | (refine hR'.cellV ?_; omega) | (refine (hR.row _ ?_).cell0 ?_ (0, 0) ?_ <;> first | rfl | omega) | (refine (hR.row _ ?_).cellAt ?_ (0, 0) ?_ <;> first | rfl | omega) | (refine (hR'.row _ ?_).cell0 ?_ 0 ?_ <;> first | rfl | omega))
                      refine' WO.len (n := _) rfl rfl ?hs rfl ?_
                      case hs => (first | exact hR.sl | exact hR'.sl | (refine (hR.row _ ?_).sl; omega) | (refine (hR'.row _ ?_).sl; omega))
                      refine WO.p rfl rfl ?_
                      refine WO.nil ?_
                      refine W.cond_bl rfl (fun c6 => ?_) (fun c6 => ?_)
                      · first
                        | (exfalso; omega)
                        | (refine W.skip ?_
                           refine W.seq ?_
                           refine W.block ?_
                           refine W.seq ?_
                           refine W.drawD 34 [.r 0 [], .r 1 [], .r 2 [], .b 3 [], .r 4 [], .r 5 [], .b 6 [], .r 7 [], .b 8 [], .r 9 [], .r 10 [], .b 11 [], .r 12 [], .r 13 [], .r 14 [], .b 15 [], .r 16 [], .r 17 [], .r 18 [], .r 19 [], .r 20 [], .b 21 [], .r 22 [], .r 23 [], .b 24 [], .r 25 [], .b 26 [], .r 27 [], .r 28 [], .b 29 [], .r 30 [], .r 31 [], .r 32 [], .b 33 []] [] (A0 := []) (Sub.refl _) (by kernel_rfl) ?_ ?_
                           · exact (ALok.r (ALok.r (ALok.r (ALok.b (ALok.r (ALok.r (ALok.b (ALok.r (ALok.b (ALok.r (ALok.r (ALok.b (ALok.r (ALok.r (ALok.r (ALok.b (ALok.r (ALok.r (ALok.r (ALok.r (ALok.r (ALok.b (ALok.r (ALok.r (ALok.b (ALok.r (ALok.b (ALok.r (ALok.r (ALok.b (ALok.r (ALok.r (ALok.r (ALok.b ALok.nil))))))))))))))))))))))))))))))))))
                           refine' DT.r rfl rfl rfl ?hq ?_
                           case hq =>
                             refine WO.p rfl rfl ?_
                             exact WO.nil ⟨rfl, rfl⟩
                           refine' DT.r rfl rfl rfl ?hq ?_
                           case hq =>
                             refine WO.p rfl rfl ?_
                             exact WO.nil ⟨rfl, rfl⟩
                           refine' DT.r rfl rfl rfl ?hq ?_
                           case hq =>
                             refine' WO.indexAddr (n := _) (i := _) rfl rfl rfl ?hs ?h1 rfl ?_
                             case hs => (first | exact hR.sl | exact hR'.sl | (refine (hR.row _ ?_).sl; omega) | (refine (hR'.row _ ?_).sl; omega))
                             case h1 => (first | omega | (simp; omega))
                             exact WO.nil ⟨rfl, rfl⟩
                           refine' DT.b rfl rfl rfl ?hq ?_
                           case hq =>
                             refine' WO.load (v := _) rfl rfl ?hc rfl ?_
                             case hc => (first | (refine hR.cellV ?_; omega) | (refine hR'.cellV ?_; omega) | (refine (hR.row _ ?_).cell0 ?_ (0, 0) ?_ <;> first | rfl | omega) | (refine (hR.row _ ?_).cellAt ?_ (0, 0) ?_ <;> first | rfl | omega) | (refine (hR'.row _ ?_).cell0 ?_ 0 ?_ <;> first | rfl | omega))
                             exact WO.nil ⟨rfl, rfl⟩
                           refine' DT.r rfl rfl rfl ?hq ?_
                           case hq =>
                             refine WO.p rfl rfl ?_
                             exact WO.nil ⟨rfl, rfl⟩
                           refine' DT.r rfl rfl rfl ?hq ?_
                           case hq =>
                             refine' WO.indexAddr (n := _) (i := _) rfl rfl rfl ?hs ?h1 rfl ?_
                             case hs => (first | exact hR.sl | exact hR'.sl | (refine (hR.row _ ?_).sl; omega) | (refine (hR'.row _ ?_).sl; omega))
                             case h1 => (first | omega | (simp; omega))
                             exact WO.nil ⟨rfl, rfl⟩
                           refine' DT.b rfl rfl rfl ?hq ?_
                           case hq =>
                             refine' WO.load (v := _) rfl rfl ?hc rfl ?_
                             case hc => (first | (refine hR.cellV ?_; omega) | (refine hR'.cellV ?_; omega) | (refine (hR.row _ ?_).cell0 ?_ (0, 0) ?_ <;> first | rfl | omega) | (refine (hR.row _ ?_).cellAt ?_ (0, 0) ?_ <;> first | rfl | omega) | (refine (hR'.row _ ?_).cell0 ?_ 0 ?_ <;> first | rfl | omega))
                             exact WO.nil ⟨rfl, rfl⟩
                           refine' DT.r rfl rfl rfl ?hq ?_
                           case hq =>
                             refine WO.fieldL rfl rfl rfl ?_
                             exact WO.nil ⟨rfl, rfl⟩
                           refine' DT.b rfl rfl rfl ?hq ?_
                           case hq =>
                             refine WO.load rfl rfl (Cell.own Pick.head rfl) rfl ?_
                             exact WO.nil ⟨rfl, rfl⟩
                           refine' DT.r rfl rfl rfl ?hq ?_
                           case hq =>
                             refine WO.p rfl rfl ?_
                             exact WO.nil ⟨rfl, rfl⟩
                           refine' DT.r rfl rfl rfl ?hq ?_
                           case hq =>
                             refine' WO.indexAddr (n := _) (i := _) rfl rfl rfl ?hs ?h1 rfl ?_
                             case hs => (first | exact hR.sl | exact hR'.sl | (refine (hR.row _ ?_).sl; omega) | (refine (hR'.row _ ?_).sl; omega))
                             case h1 => (first | omega | (simp; omega))
                             exact WO.nil ⟨rfl, rfl⟩
                           refine' DT.b rfl rfl rfl ?hq ?_
                           case hq =>
                             refine' WO.load (v := _) rfl rfl ?hc rfl ?_
                             case hc => (first | (refine hR.cellV ?_; omega) | (refine hR'.cellV ?_; omega) | (refine (hR.row _ ?_).cell0 ?_ (0, 0) ?_ <;> first | rfl | omega) | (refine (hR.row _ ?_).cellAt ?_ (0, 0) ?_ <;> first | rfl | omega) | (refine (hR'.row _ ?_).cell0 ?_ 0 ?_ <;> first | rfl | omega))
                             exact WO.nil ⟨rfl, rfl⟩
                           refine' DT.r rfl rfl rfl ?hq ?_
                           case hq =>
                             refine WO.p rfl rfl ?_
                             exact WO.nil ⟨rfl, rfl⟩
                           refine' DT.r rfl rfl rfl ?hq ?_
                           case hq =>
                             refine' WO.indexAddr (n := _) (i := _) rfl rfl rfl ?hs ?h1 rfl ?_
                             case hs => (first | exact hR.sl | exact hR'.sl | (refine (hR.row _ ?_).sl; omega) | (refine (hR'.row _ ?_).sl; omega))
                             case h1 => (first | omega | (simp; omega))
                             exact WO.nil ⟨rfl, rfl⟩
                           refine' DT.r rfl rfl rfl ?hq ?_
                           case hq =>
                             refine WO.field0 rfl rfl rfl ?_
                             exact WO.nil ⟨rfl, rfl⟩
                           refine' DT.b rfl rfl rfl ?hq ?_
                           case hq =>
                             refine' WO.load (v := _) rfl rfl ?hc rfl ?_
                             case hc => (first | (refine hR.cellV ?_; omega) | (refine hR'.cellV ?_; omega) | (refine (hR.row _ ?_).cell0 ?_ (0, 0) ?_ <;> first | rfl | omega) | (refine (hR.row _ ?_).cellAt ?_ (0, 0) ?_ <;> first | rfl | omega) | (refine (hR'.row _ ?_).cell0 ?_ 0 ?_ <;> first | rfl | omega))
                             exact WO.nil ⟨rfl, rfl⟩
                           refine' DT.r rfl rfl rfl ?hq ?_
                           case hq =>
                             refine WO.p rfl rfl ?_
                             exact WO.nil ⟨rfl, rfl⟩
                           refine' DT.rB rfl rfl rfl ?hq (fun c7 => ?_) (fun c7 => ?_)
                           case hq =>
                             refine WO.p rfl rfl ?_
                             exact WO.nil ⟨rfl, rfl⟩
                           · first
                             | (exfalso; omega)
                             | (refine' DT.r rfl rfl rfl ?hq ?_
                                case hq =>
                                  refine WO.no rfl rfl ?_
                                  exact WO.nil ⟨rfl, rfl⟩
                                refine' DT.r rfl rfl rfl ?hq ?_
                                case hq =>
                                  refine WO.no rfl rfl ?_
                                  exact WO.nil ⟨rfl, rfl⟩
                                refine' DT.r rfl rfl rfl ?hq ?_
                                case hq =>
                                  refine WO.no rfl rfl ?_
                                  exact WO.nil ⟨rfl, rfl⟩
                                refine' DT.b rfl rfl rfl ?hq ?_
                                case hq =>
                                  refine WO.no rfl rfl ?_
                                  exact WO.nil ⟨rfl, rfl⟩
                                refine' DT.r rfl rfl rfl ?hq ?_
                                case hq =>
                                  refine WO.no rfl rfl ?_
                                  exact WO.nil ⟨rfl, rfl⟩
                                refine' DT.r rfl rfl rfl ?hq ?_
                                case hq =>
                                  refine WO.no rfl rfl ?_
                                  exact WO.nil ⟨rfl, rfl⟩
                                refine' DT.b rfl rfl rfl ?hq ?_
                                case hq =>
                                  refine WO.no rfl rfl ?_
                                  exact WO.nil ⟨rfl, rfl⟩
                                refine' DT.r rfl rfl rfl ?hq ?_
                                case hq =>
                                  refine WO.no rfl rfl ?_
                                  exact WO.nil ⟨rfl, rfl⟩
                                refine' DT.b rfl rfl rfl ?hq ?_
                                case hq =>
                                  refine WO.no rfl rfl ?_
                                  exact WO.nil ⟨rfl, rfl⟩
                                refine' DT.r rfl rfl rfl ?hq ?_
                                case hq =>
                                  refine WO.no rfl rfl ?_
                                  exact WO.nil ⟨rfl, rfl⟩
                                refine' DT.r rfl rfl rfl ?hq ?_
                                case hq =>
                                  refine WO.no rfl rfl ?_
                                  exact WO.nil ⟨rfl, rfl⟩
                                refine' DT.b rfl rfl rfl ?hq ?_
                                case hq =>
                                  refine WO.no rfl rfl ?_
                                  exact WO.nil ⟨rfl, rfl⟩
                                refine' DT.r rfl rfl rfl ?hq ?_
                                case hq =>
                                  refine WO.no rfl rfl ?_
                                  exact WO.nil ⟨rfl, rfl⟩
                                refine' DT.r rfl rfl rfl ?hq ?_
                                case hq =>
                                  refine WO.no rfl rfl ?_
                                  exact WO.nil ⟨rfl, rfl⟩
                                refine' DT.r rfl rfl rfl ?hq ?_
                                case hq =>
                                  refine WO.no rfl rfl ?_
                                  exact WO.nil ⟨rfl, rfl⟩
                                refine' DT.b rfl rfl rfl ?hq ?_
                                case hq =>
                                  refine WO.no rfl rfl ?_
                                  exact WO.nil ⟨rfl, rfl⟩
                                refine DT.nil [_] rfl ?_
                                refine WO.no rfl rfl (WO.p rfl rfl ?_)
                                refine WO.nil ?_
                                refine W.cond_t rfl ?_
                                refine W.sreg ?_
                                refine WO.p rfl rfl ?_
                                refine WO.nil ?_
                                refine W.ret ?_
                                refine fin.ret (Res.one rfl (RV.tmp rfl)) ?_
                                refine congrArg (Value.int .i64) ?_
                                first | exact ct1 (by assumption) | exact ct2 (by assumption) (by omega) | exact ct3 (by assumption) (by omega) (i := i) (by omega) (by omega) | exact ct4 (by assumption) (by omega) hlen (i := i) (k := k) (by omega) (by omega) (by omega) | exact ct5 (by assumption) (by omega) hlen (fun j hj => hin j (by omega)))
                           · first
                             | (exfalso; omega)
                             | (refine' DT.r rfl rfl rfl ?hq ?_
                                case hq =>
                                  refine WO.pg rfl rfl rfl ?_
                                  exact WO.nil ⟨rfl, rfl⟩
                                refine' DT.r rfl rfl rfl ?hq ?_
                                case hq =>
                                  refine WO.pg rfl rfl rfl ?_
                                  exact WO.nil ⟨rfl, rfl⟩
                                refine' DT.r rfl rfl rfl ?hq ?_
                                case hq =>
                                  refine WO.go' rfl ?_
                                  refine' WO.indexAddr (n := _) (i := _) rfl rfl rfl ?hs ?h1 rfl ?_
                                  case hs => (first | exact hR.sl | exact hR'.sl | (refine (hR.row _ ?_).sl; omega) | (refine (hR'.row _ ?_).sl; omega))
                                  case h1 => (first | omega | (simp; omega))
                                  exact WO.nil ⟨rfl, rfl⟩
                                refine' DT.b rfl rfl rfl ?hq ?_
                                case hq =>
                                  refine WO.go' rfl ?_
                                  refine' WO.load (v := _) rfl rfl ?hc rfl ?_
                                  case hc => (first | (refine hR.cellV ?_; omega) | (refine hR'.cellV ?_; omega) | (refine (hR.row _ ?_).cell0 ?_ (0, 0) ?_ <;> first | rfl | omega) | (refine (hR.row _ ?_).cellAt ?_ (0, 0) ?_ <;> first | rfl | omega) | (refine (hR'.row _ ?_).cell0 ?_ 0 ?_ <;> first | rfl | omega))
                                  exact WO.nil ⟨rfl, rfl⟩
                                refine' DT.r rfl rfl rfl ?hq ?_
                                case hq =>
                                  refine WO.pg rfl rfl rfl ?_
                                  exact WO.nil ⟨rfl, rfl⟩
                                refine' DT.r rfl rfl rfl ?hq ?_
                                case hq =>
                                  refine WO.go' rfl ?_
                                  refine' WO.indexAddr (n := _) (i := _) rfl rfl rfl ?hs ?h1 rfl ?_
                                  case hs => (first | exact hR.sl | exact hR'.sl | (refine (hR.row _ ?_).sl; omega) | (refine (hR'.row _ ?_).sl; omega))
                                  case h1 => (first | omega | (simp; omega))
                                  exact WO.nil ⟨rfl, rfl⟩
                                refine' DT.b rfl rfl rfl ?hq ?_
                                case hq =>
                                  refine WO.go' rfl ?_
                                  refine' WO.load (v := _) rfl rfl ?hc rfl ?_
                                  case hc => (first | (refine hR.cellV ?_; omega) | (refine hR'.cellV ?_; omega) | (refine (hR.row _ ?_).cell0 ?_ (0, 0) ?_ <;> first | rfl | omega) | (refine (hR.row _ ?_).cellAt ?_ (0, 0) ?_ <;> first | rfl | omega) | (refine (hR'.row _ ?_).cell0 ?_ 0 ?_ <;> first | rfl | omega))
                                  exact WO.nil ⟨rfl, rfl⟩
                                refine' DT.r rfl rfl rfl ?hq ?_
                                case hq =>
                                  refine WO.go' rfl (WO.fieldL rfl rfl rfl ?_)
                                  exact WO.nil ⟨rfl, rfl⟩
                                refine' DT.b rfl rfl rfl ?hq ?_
                                case hq =>
                                  refine WO.go' rfl (WO.load rfl rfl (Cell.own Pick.head rfl) rfl ?_)
                                  exact WO.nil ⟨rfl, rfl⟩
                                refine' DT.r rfl rfl rfl ?hq ?_
                                case hq =>
                                  refine WO.pg rfl rfl rfl ?_
                                  exact WO.nil ⟨rfl, rfl⟩
                                refine' DT.r rfl rfl rfl ?hq ?_
                                case hq =>
                                  refine WO.go' rfl ?_
                                  refine' WO.indexAddr (n := _) (i := _) rfl rfl rfl ?hs ?h1 rfl ?_
                                  case hs => (first | exact hR.sl | exact hR'.sl | (refine (hR.row _ ?_).sl; omega) | (refine (hR'.row _ ?_).sl; omega))
                                  case h1 => (first | omega | (simp; omega))
                                  exact WO.nil ⟨rfl, rfl⟩
                                refine' DT.b rfl rfl rfl ?hq ?_
                                case hq =>
                                  refine WO.go' rfl ?_
                                  refine' WO.load (v := _) rfl rfl ?hc rfl ?_
                                  case hc => (first | (refine hR.cellV ?_; omega) | (refine hR'.cellV ?_; omega) | (refine (hR.row _ ?_).cell0 ?_ (0, 0) ?_ <;> first | rfl | omega) | (refine (hR.row _ ?_).cellAt ?_ (0, 0) ?_ <;> first | rfl | omega) | (refine (hR'.row _ ?_).cell0 ?_ 0 ?_ <;> first | rfl | omega))
                                  exact WO.nil ⟨rfl, rfl⟩
                                refine' DT.r rfl rfl rfl ?hq ?_
                                case hq =>
                                  refine WO.pg rfl rfl rfl ?_
                                  exact WO.nil ⟨rfl, rfl⟩
                                refine' DT.r rfl rfl rfl ?hq ?_
                                case hq =>
                                  refine WO.go' rfl ?_
                                  refine' WO.indexAddr (n := _) (i := _) rfl rfl rfl ?hs ?h1 rfl ?_
                                  case hs => (first | exact hR.sl | exact hR'.sl | (refine (hR.row _ ?_).sl; omega) | (refine (hR'.row _ ?_).sl; omega))
                                  case h1 => (first | omega | (simp; omega))
                                  exact WO.nil ⟨rfl, rfl⟩
                                refine' DT.r rfl rfl rfl ?hq ?_
                                case hq =>
                                  refine WO.go' rfl (WO.field rfl rfl rfl ?_)
                                  exact WO.nil ⟨rfl, rfl⟩
                                refine' DT.b rfl rfl rfl ?hq ?_
                                case hq =>
                                  refine WO.go' rfl ?_
                                  refine' WO.load (v := _) rfl rfl ?hc rfl ?_
                                  case hc => (first | (refine hR.cellV ?_; omega) | (refine hR'.cellV ?_; omega) | (refine (hR.row _ ?_).cell0 ?_ (0, 0) ?_ <;> first | rfl | omega) | (refine (hR.row _ ?_).cellAt ?_ (0, 0) ?_ <;> first | rfl | omega) | (refine (hR'.row _ ?_).cell0 ?_ 0 ?_ <;> first | rfl | omega))
                                  exact WO.nil ⟨rfl, rfl⟩
                                refine DT.nil [_] rfl ?_
                                refine WO.pg rfl rfl rfl (WO.p rfl rfl ?_)
                                refine WO.nil ?_
                                refine W.cond_bl rfl (fun c8 => ?_) (fun c8 => ?_)
                                · first
                                  | (exfalso; omega)
                                  | (refine W.sreg ?_
                                     refine WO.p rfl rfl ?_
                                     refine WO.nil ?_
                                     refine W.ret ?_
                                     refine fin.ret (Res.one rfl (RV.tmp rfl)) ?_
                                     refine congrArg (Value.int .i64) ?_
                                     first | exact ct1 (by assumption) | exact ct2 (by assumption) (by omega) | exact ct3 (by assumption) (by omega) (i := i) (by omega) (by omega) | exact ct4 (by assumption) (by omega) hlen (i := i) (k := k) (by omega) (by omega) (by omega) | exact ct5 (by assumption) (by omega) hlen (fun j hj => hin j (by omega)))
                                · first
                                  | (exfalso; omega)
                                  | (refine W.skip ?_
                                     refine W.region ?_
                                     refine WO.p rfl rfl (WO.ar rfl rfl rfl (by (first | (unfold in64; omega))) rfl (WO.p rfl rfl ?_))
                                     refine WO.nil ?_
                                     refine' ⟨k + 1, ?hp, ?hmu, ⟨rfl, rfl, rfl, rfl, trivial⟩, ?hS⟩
                                     case hS => repeat (first | exact Sub.nil | refine Sub.cons (by repeat (first | exact Pick.head | apply Pick.tail)) ?_)
                                     case hp => exact ⟨by omega, fun j hj => by rcases Nat.lt_or_ge j k with h | h; exact hkk j h; obtain rfl : j = k := (by omega); omega⟩
                                     case hmu => omega)))
                      · first
                        | (exfalso; omega)
                        | (refine W.exit (blk_same ?_)
                           refine W.region ?_
                           refine WO.p rfl rfl (WO.ar rfl rfl rfl (by (first | (unfold in64; omega))) rfl (WO.p rfl rfl ?_))
                           refine WO.nil ?_
                           refine' ⟨i + 1, ?hp, ?hmu, ⟨rfl, rfl, rfl, trivial⟩, ?hS⟩
                           case hS => repeat (first | exact Sub.nil | refine Sub.cons (by repeat (first | exact Pick.head | apply Pick.tail)) ?_)
                           case hp => exact ⟨by omega, hlen, fun j hj => by rcases Nat.lt_or_ge j i with h | h; exact hin j h; obtain rfl : j = i := (by omega); exact fun k' hk' => hkk k' (by omega)⟩
                           case hmu => omega))
                 · first
                   | (exfalso; omega)
                   | (refine W.exit (blk_same ?_)
                      refine W.sreg ?_
                      refine WO.p rfl rfl ?_
                      refine WO.nil ?_
                      refine W.ret ?_
                      refine fin.ret (Res.one rfl (RV.tmp rfl)) ?_
                      refine congrArg (Value.int .i64) ?_
                      first | exact ct1 (by assumption) | exact ct2 (by assumption) (by omega) | exact ct3 (by assumption) (by omega) (i := i) (by omega) (by omega) | exact ct4 (by assumption) (by omega) hlen (i := i) (k := k) (by omega) (by omega) (by omega) | exact ct5 (by assumption) (by omega) hlen (fun j hj => hin j (by omega))))))
end Go.Proofs.Ytgihklgpehfbpaa
namespace Go.Proofs.Ytgihklgpehfbpaa
open Go Go.TH
attribute [local irreducible] W WO pt
set_option maxRecDepth 10000
/-- a valid hull -/
structure HV (sp st : Int) (rows : List (List (Int × Int))) : Prop where
  n : 2 ≤ rows.length ∧ rows.length ≤ 10
  m : 2 ≤ (rows.getD 0 []).length ∧ (rows.getD 0 []).length ≤ 6
  eq : ∀ i, i < rows.length → (rows.getD i []).length = (rows.getD 0 []).length
  sp : 1 ≤ sp ∧ sp ≤ 1000
  st : 1 ≤ st ∧ st ≤ 100
  ok : ∀ i k, i < rows.length → k < (rows.getD i []).length → 0 ≤ ((rows.getD i []).getD k (0, 0)).1 ∧ ((rows.getD i []).getD k (0, 0)).1 ≤ ((rows.getD i []).getD k (0, 0)).2 ∧ ((rows.getD i []).getD k (0, 0)).2 ≤ 500 ∧ ((rows.getD i []).getD k (0, 0)).2 - ((rows.getD i []).getD k (0, 0)).1 ≤ 20
  pos : ∃ i k, i < rows.length ∧ k < (rows.getD i []).length ∧ 0 < ((rows.getD i []).getD k (0, 0)).1
theorem mem_getD {α : Type} {l : List α} {x : α} (z : α) (h : x ∈ l) : ∃ i, i < l.length ∧ l.getD i z = x := by
  obtain ⟨i, hi, e⟩ := List.mem_iff_getElem.1 h
  exact ⟨i, hi, by simp [hi, e]⟩
theorem HV.of {sp st : Int} {rows : List (List (Int × Int))} (h : chkHull sp st rows = 0) : HV sp st rows := by
  unfold chkHull at h
  split at h; · omega
  split at h; · omega
  split at h; · omega
  split at h; · omega
  split at h; · omega
  rename_i h1 h2 h3 h4 h5
  have h2' := Decidable.not_not.1 h2
  have h4' := Decidable.not_not.1 h4
  have h5' := Decidable.not_not.1 h5
  refine ⟨by omega, by omega, fun i hi => h2' _ (getD_mem hi []), by omega, by omega, fun i k hi hk => ?_, ?_⟩
  · have := h4' _ (getD_mem hi []) _ (getD_mem hk (0, 0))
    simpa only [okR, decide_eq_true_eq] using this
  · obtain ⟨r, hr, x, hx, hp⟩ := h5'
    obtain ⟨i, hi, rfl⟩ := mem_getD [] hr
    obtain ⟨k, hk, rfl⟩ := mem_getD (0, 0) hx
    exact ⟨i, k, hi, hk, by simpa only [posR, decide_eq_true_eq] using hp⟩
theorem HV.to {sp st : Int} {rows : List (List (Int × Int))} (h : HV sp st rows) : chkHull sp st rows = 0 := by
  have h0 := h.n; have h1 := h.m; have h2 := h.sp; have h3 := h.st
  refine (ck0 (by omega) (fun r hr => ?_) (by omega) (fun r hr x hx => ?_) ?_).symm
  · obtain ⟨i, hi, rfl⟩ := mem_getD [] hr
    exact h.eq i hi
  · obtain ⟨i, hi, rfl⟩ := mem_getD [] hr
    obtain ⟨k, hk, rfl⟩ := mem_getD (0, 0) hx
    simpa only [okR, decide_eq_true_eq] using h.ok i k hi hk
  · obtain ⟨i, k, hi, hk, hp⟩ := h.pos
    exact ⟨_, getD_mem hi [], _, getD_mem hk (0, 0), by simpa only [posR, decide_eq_true_eq] using hp⟩
/-- a true hull of it -/
structure TV (rows : List (List (Int × Int))) (ys : List (List Int)) : Prop where
  len : ys.length = rows.length
  row : ∀ i, i < ys.length → (ys.getD i []).length = (rows.getD i []).length
  within : ∀ i k, i < ys.length → k < (ys.getD i []).length → ((rows.getD i []).getD k (0, 0)).1 ≤ yy ys i k ∧ yy ys i k ≤ ((rows.getD i []).getD k (0, 0)).2
theorem TV.of {sp st : Int} {rows : List (List (Int × Int))} {ys : List (List Int)} (h : chkTrue sp st rows ys = 0) : HV sp st rows ∧ TV rows ys := by
  unfold chkTrue at h
  split at h
  · rename_i h1; exact absurd h h1
  split at h; · omega
  split at h; · omega
  split at h; · omega
  rename_i h1 h2 h3 h4
  exact ⟨HV.of (Decidable.not_not.1 h1), Decidable.not_not.1 h2, Decidable.not_not.1 h3, fun i k hi hk => Decidable.not_not.1 h4 i hi k hk⟩
theorem TV.to {sp st : Int} {rows : List (List (Int × Int))} {ys : List (List Int)} (h : HV sp st rows) (t : TV rows ys) : chkTrue sp st rows ys = 0 :=
  (ct5 (by simpa using h.to) t.len t.row (fun i hi k hk => t.within i k hi hk)).symm
theorem TV.small {sp st : Int} {rows : List (List (Int × Int))} {ys : List (List Int)} (h : HV sp st rows) (t : TV rows ys) : Small ys := by
  have hl := t.len
  refine ⟨by have := h.n; omega, fun i hi => ?_, fun i k hi hk => ?_⟩
  · rw [t.row i hi, h.eq i (by omega)]; have := h.m; omega
  · have h1 := t.within i k hi hk
    have h2 := h.ok i k (by omega) (by rw [← t.row i hi]; exact hk)
    omega
theorem ps_pos {f : Nat → Int} : ∀ {k : Nat}, (∀ j, j < k → 0 ≤ f j) → ∀ i, i < k → f i ≤ ps f k
  | 0, _, i, hi => by omega
  | k + 1, h, i, hi => by
    simp only [ps]
    rcases Nat.lt_or_ge i k with h1 | h1
    · have := ps_pos (k := k) (fun j hj => h j (by omega)) i h1
      have := h k (by omega)
      omega
    · obtain rfl : i = k := by omega
      have : 0 ≤ ps f i := by
        clear hi h1
        induction i with
        | zero => simp [ps]
        | succ i ih => simp only [ps]; have := ih (fun j hj => h j (by omega)); have := h i (by omega); omega
      omega
theorem wgt_pos (i n : Nat) : 1 ≤ wgt i n := by unfold wgt; split <;> omega
theorem TV.pos {sp st : Int} {rows : List (List (Int × Int))} {ys : List (List Int)} (h : HV sp st rows) (t : TV rows ys) : 0 < sAll ys ys.length := by
  have hs := t.small h
  obtain ⟨i, k, hi, hk, hp⟩ := h.pos
  have hl := t.len
  have hr := t.row i (by omega)
  have h1 := t.within i k (by omega) (by omega)
  have h2 : xw ys i k ≤ ps (fun k => xw ys i k) (ys.getD i []).length := ps_pos (fun j hj => (hs.xw (by omega) hj).1) k (by omega)
  have h3 : ps (fun k => xw ys i k) (ys.getD i []).length ≤ sAll ys ys.length := ps_pos (f := fun i => ps (fun k => xw ys i k) (ys.getD i []).length) (fun j hj => (hs.rowp (c := fun i k => xw ys i k) (B := 2000) (by omega) (fun i k hi hk => hs.xw hi hk) hj (Nat.le_refl _)).1) i (by omega)
  have h4 : 1 * 1 * 1 ≤ xw ys i k := by
    unfold xw
    have a := wgt_pos i ys.length
    have b := wgt_pos k (ys.getD i []).length
    exact Int.mul_le_mul (Int.mul_le_mul a b (by omega) (by omega)) (by omega) (by omega) (Int.mul_nonneg (by omega) (by omega))
  omega
/-- what stands above, and below, in what is asked -/
def tN (sp st : Int) (ys : List (List Int)) (what : Int) : Int :=
  if what = 0 then sp * sAlong ys ys.length else if what = 1 then st * sAbove ys ys.length else 3 * st * st * sAbove ys ys.length + 2 * sCubes ys ys.length
def tD (st : Int) (ys : List (List Int)) (what : Int) : Int := if what = 0 then sAll ys ys.length else if what = 1 then sAll ys ys.length else 3 * st * sAll ys ys.length
def valQ (sp st : Int) (ys : List (List Int)) (what : Int) : Int × Int := red (tN sp st ys what) (tD st ys what)
/-- the volume of a true hull -/
def volQ (sp st : Int) (ys : List (List Int)) : Int × Int := red (sp * st * sAll ys ys.length) 2
theorem ref_value (w : World) (sp st : Int) (o o' : Value) (rv : List Value) (ys : List (List Int)) (what : Int) (hR : RdR encI 1 w.heap.size w o' rv ys) (hS : Small ys) (hp : 0 < sAll ys ys.length) (hsp : 1 ≤ sp ∧ sp ≤ 1000) (hst : 1 ≤ st ∧ st ≤ 100) :
    Ret Try.prog 43 [.agg #[.int .i64 sp, .int .i64 st, o], o', .int .i64 what].toArray w (.agg (encP (valQ sp st ys what)).toArray) := by
  refine Ret.of mixed tyTab Try.func43 rfl rfl ?_
  replace hR : RdR encI 1 (fnCx mixed tyTab Try.f43.ntmps w).B (fnCx mixed tyTab Try.f43.ntmps w).w0 o' rv ys := hR
  have ba := hS.all (Nat.le_refl _)
  have bl' := hS.along (Nat.le_refl _)
  have bb := hS.above (Nat.le_refl _)
  have bc := hS.cubes (Nat.le_refl _)
  have p1 := mulB (A := 1000) (B := 1200000) ⟨by omega, hsp.2⟩ bl'
  have p2 := mulB (A := 100) (B := 720000) ⟨by omega, hst.2⟩ bb
  have p3 : 0 ≤ 3 * st ∧ 3 * st ≤ 300 := by omega
  have p4 := mulB (A := 300) (B := 100) p3 ⟨by omega, hst.2⟩
  have p5 := mulB p4 bb
  have p6 := mulB p3 ba
  have p7 : 0 < 3 * st * sAll ys ys.length := Int.mul_pos (by omega) hp
  refine W.sreg ?_
  refine WO.boxA rfl rfl (fun b1 hb1 => ?_)
  refine WO.alloc rfl rfl rfl (fun b2 hb2 => ?_)
  refine WO.nil ?_
  refine W.sreg ?_
  refine WO.p rfl rfl ?_
  refine WO.callR rfl Try.call40 (fun L w hi => ref_sums w o' rv ys (hR.later hi) hS) rfl ?_
  refine WO.p rfl rfl (WO.p rfl rfl (WO.p rfl rfl (WO.p rfl rfl (WO.p rfl rfl (WO.p rfl rfl (WO.p rfl rfl (WO.p rfl rfl (WO.p rfl rfl ?_))))))))
  refine WO.nil ?_
  refine W.seq ?_
  refine W.sreg ?_
  refine WO.p rfl rfl ?_
  refine WO.nil ?_
  refine W.block ?_
  refine W.sreg ?_
  refine WO.p rfl rfl (WO.p rfl rfl ?_)
  refine WO.nil ?_
  refine W.cond_bl rfl (fun c1 => ?_) (fun c1 => ?_)
  · first
    | (exfalso; omega)
    | (refine W.sreg ?_
       refine WO.field0 rfl rfl rfl (WO.load rfl rfl (Cell.own (Pick.tail (Pick.head)) rfl) rfl (WO.p rfl rfl (WO.ar rfl rfl rfl (by (first | (unfold in64; omega))) rfl (WO.p rfl rfl ?_))))
       refine WO.callR rfl Try.call31 (fun L w hi => ref_Fraction w _ _ (by omega) (by omega) (by unfold in64; omega) (by unfold in64; omega)) rfl ?_
       refine WO.storeA rfl rfl rfl rfl Pick.head rfl rfl ?_
       refine WO.nil ?_
       refine W.ret ?_
       exact fin.ret (Res.one rfl (RV.cell rfl rfl rfl (Cells.own Pick.head))) (by unfold valQ tN tD; first | (subst what; rfl) | (rw [if_neg (by omega), if_neg (by omega), if_neg (by omega), if_neg (by omega)] <;> rfl)))
  · first
    | (exfalso; omega)
    | (refine W.sreg ?_
       refine WO.p rfl rfl (WO.p rfl rfl ?_)
       refine WO.nil ?_
       refine W.cond_bl rfl (fun c2 => ?_) (fun c2 => ?_)
       · first
         | (exfalso; omega)
         | (refine W.sreg ?_
            refine WO.fieldL rfl rfl rfl (WO.load rfl rfl (Cell.own (Pick.tail (Pick.head)) rfl) rfl (WO.p rfl rfl (WO.ar rfl rfl rfl (by (first | (unfold in64; omega))) rfl (WO.p rfl rfl ?_))))
            refine WO.callR rfl Try.call31 (fun L w hi => ref_Fraction w _ _ (by omega) (by omega) (by unfold in64; omega) (by unfold in64; omega)) rfl ?_
            refine WO.storeA rfl rfl rfl rfl Pick.head rfl rfl ?_
            refine WO.nil ?_
            refine W.ret ?_
            exact fin.ret (Res.one rfl (RV.cell rfl rfl rfl (Cells.own Pick.head))) (by unfold valQ tN tD; first | (subst what; rfl) | (rw [if_neg (by omega), if_neg (by omega), if_neg (by omega), if_neg (by omega)] <;> rfl)))
       · first
         | (exfalso; omega)
         | (refine W.skip ?_
            refine W.sreg ?_
            refine WO.fieldL rfl rfl rfl (WO.load rfl rfl (Cell.own (Pick.tail (Pick.head)) rfl) rfl (WO.ar rfl rfl rfl (by (first | (unfold in64; omega))) rfl (WO.fieldL rfl rfl rfl (WO.load rfl rfl (Cell.own (Pick.tail (Pick.head)) rfl) rfl (WO.ar rfl rfl rfl (by (first | (unfold in64; omega))) rfl (WO.p rfl rfl (WO.ar rfl rfl rfl (by (first | (unfold in64; omega))) rfl (WO.p rfl rfl (WO.ar rfl rfl rfl (by (first | (unfold in64; omega))) rfl (WO.ar rfl rfl rfl (by (first | (unfold in64; omega))) rfl (WO.fieldL rfl rfl rfl ?_)))))))))))
            refine WO.load rfl rfl (Cell.own (Pick.tail (Pick.head)) rfl) rfl (WO.ar rfl rfl rfl (by (first | (unfold in64; omega))) rfl (WO.p rfl rfl (WO.ar rfl rfl rfl (by (first | (unfold in64; omega))) rfl ?_)))
            refine WO.callR rfl Try.call31 (fun L w hi => ref_Fraction w _ _ (by omega) (by omega) (by unfold in64; omega) (by unfold in64; omega)) rfl ?_
            refine WO.storeA rfl rfl rfl rfl Pick.head rfl rfl ?_
            refine WO.nil ?_
            refine W.ret ?_
            exact fin.ret (Res.one rfl (RV.cell rfl rfl rfl (Cells.own Pick.head))) (by unfold valQ tN tD; first | (subst what; rfl) | (rw [if_neg (by omega), if_neg (by omega), if_neg (by omega), if_neg (by omega)] <;> rfl))))
/-- what Volume answers -/
def volV (sp st : Int) (rows : List (List (Int × Int))) (ys : List (List Int)) : Int × Int := if chkTrue sp st rows ys = 0 then volQ sp st ys else (0, 0)
def volR (sp st : Int) (rows : List (List (Int × Int))) (ys : List (List Int)) : Value := .tuple #[.agg (encP (volV sp st rows ys)).toArray, .int .i64 (chkTrue sp st rows ys)]
theorem volR_0 {sp st : Int} {rows : List (List (Int × Int))} {ys : List (List Int)} (h : chkTrue sp st rows ys = 0) : .tuple #[.agg (encP (volQ sp st ys)).toArray, .int .i64 0] = volR sp st rows ys := by unfold volR volV; rw [if_pos h, h]
theorem volR_1 {sp st : Int} {rows : List (List (Int × Int))} {ys : List (List Int)} (h : chkTrue sp st rows ys ≠ 0) : .tuple #[.agg (encP (0, 0)).toArray, .int .i64 (chkTrue sp st rows ys)] = volR sp st rows ys := by unfold volR volV; rw [if_neg h]
theorem ref_Volume (w : World) (sp st : Int) (o o' : Value) (rv rv' : List Value) (rows : List (List (Int × Int))) (ys : List (List Int)) (hR : RdR encP 2 w.heap.size w o rv rows) (hR' : RdR encI 1 w.heap.size w o' rv' ys) :
    Ret Try.prog 15 [.agg #[.int .i64 sp, .int .i64 st, o], o'].toArray w (volR sp st rows ys) := by
  refine Ret.of mixed tyTab Try.func15 rfl rfl ?_
  replace hR : RdR encP 2 (fnCx mixed tyTab Try.f15.ntmps w).B (fnCx mixed tyTab Try.f15.ntmps w).w0 o rv rows := hR
  replace hR' : RdR encI 1 (fnCx mixed tyTab Try.f15.ntmps w).B (fnCx mixed tyTab Try.f15.ntmps w).w0 o' rv' ys := hR'
  refine W.sreg ?_
  refine WO.boxA rfl rfl (fun b1 hb1 => ?_)
  refine WO.alloc rfl rfl rfl (fun b2 hb2 => ?_)
  refine WO.p rfl rfl ?_
  refine WO.nil ?_
  refine W.seq ?_
  refine W.sreg ?_
  refine WO.loadA rfl rfl (Cells.own (Pick.tail (Pick.head))) rfl rfl (WO.p rfl rfl ?_)
  refine WO.callR (r := .int .i64 (chkTrue sp st rows ys)) rfl Try.call21 (fun L w hi => ref_CheckTrue w sp st o o' rv rv' rows ys (hR.later hi) (hR'.later hi)) rfl ?_
  refine WO.p rfl rfl ?_
  refine WO.nil ?_
  refine W.cond_bl rfl (fun c1 => ?_) (fun c1 => ?_)
  · first
    | (exfalso; omega)
    | (refine W.sreg ?_
       refine' WO.build (cs := _) rfl rfl rfl ?hf rfl ?_
       case hf => (conv => lhs; simp [-List.getD_eq_getElem?_getD, fillL, vcl, wrl, TTab.pl?.lget']) <;> rfl
       refine WO.loadA rfl rfl (Cells.own (Pick.tail (Pick.head))) rfl rfl (WO.p rfl rfl ?_)
       refine WO.callR (r := .int .i64 (chkTrue sp st rows ys)) rfl Try.call21 (fun L w hi => ref_CheckTrue w sp st o o' rv rv' rows ys (hR.later hi) (hR'.later hi)) rfl ?_
       refine WO.storeA rfl rfl rfl rfl Pick.head rfl rfl (WO.p rfl rfl ?_)
       refine WO.nil ?_
       refine W.ret ?_
       refine fin.ret (Res.two rfl (RV.cell rfl rfl rfl (Cells.own Pick.head)) (RV.tmp rfl)) ?_
       first | exact volR_0 (by omega) | exact volR_1 (by omega))
  · first
    | (exfalso; omega)
    | (refine W.skip ?_
       refine W.sreg ?_
       refine WO.p rfl rfl ?_
       obtain ⟨hv, tv⟩ := TV.of (sp := sp) (st := st) (rows := rows) (ys := ys) (by omega)
       have hS := tv.small hv
       have ba := hS.all (Nat.le_refl _)
       have q1 := hv.sp
       have q2 := hv.st
       have p1 := mulB (A := 1000) (B := 100) ⟨by omega, q1.2⟩ ⟨by omega, q2.2⟩
       have p2 := mulB p1 ba
       have i1 : in64 (sp * st) := in64B p1 (by omega)
       have i2 : in64 (sp * st * sAll ys ys.length) := in64B p2 (by omega)
       refine WO.callR rfl Try.call40 (fun L w hi => ref_sums w o' rv' ys (hR'.later hi) hS) rfl ?_
       refine WO.p rfl rfl (WO.p rfl rfl (WO.p rfl rfl (WO.p rfl rfl (WO.p rfl rfl (WO.p rfl rfl (WO.p rfl rfl (WO.p rfl rfl (WO.p rfl rfl ?_))))))))
       refine WO.nil ?_
       refine W.sreg ?_
       refine WO.field0 rfl rfl rfl (WO.load rfl rfl (Cell.own (Pick.tail (Pick.head)) rfl) rfl (WO.fieldL rfl rfl rfl (WO.load rfl rfl (Cell.own (Pick.tail (Pick.head)) rfl) rfl (WO.ar rfl rfl rfl (by (first | (unfold in64; omega) | assumption)) rfl (WO.p rfl rfl (WO.ar rfl rfl rfl (by (first | (unfold in64; omega) | assumption)) rfl ?_))))))
       refine WO.callR rfl Try.call31 (fun L w hi => ref_Fraction w _ _ (by omega) (by omega) i2 (by unfold in64; omega)) rfl ?_
       refine WO.storeA rfl rfl rfl rfl Pick.head rfl rfl (WO.p rfl rfl ?_)
       refine WO.nil ?_
       refine W.ret ?_
       refine fin.ret (Res.two rfl (RV.cell rfl rfl rfl (Cells.own Pick.head)) (RV.tmp rfl)) ?_
       first | exact volR_0 (by omega) | exact volR_1 (by omega))
/-- what Value answers -/
def valE (sp st : Int) (rows : List (List (Int × Int))) (ys : List (List Int)) (what : Int) : Int := if chkTrue sp st rows ys = 0 then (if what < 0 ∨ 2 < what then 3 else 0) else chkTrue sp st rows ys
def valV (sp st : Int) (rows : List (List (Int × Int))) (ys : List (List Int)) (what : Int) : Int × Int := if valE sp st rows ys what = 0 then valQ sp st ys what else (0, 0)
def valR (sp st : Int) (rows : List (List (Int × Int))) (ys : List (List Int)) (what : Int) : Value := .tuple #[.agg (encP (valV sp st rows ys what)).toArray, .int .i64 (valE sp st rows ys what)]
section
variable {sp st : Int} {rows : List (List (Int × Int))} {ys : List (List Int)} {what : Int}
theorem valR_0 (h : chkTrue sp st rows ys = 0) (hw : ¬ (what < 0 ∨ 2 < what)) : .tuple #[.agg (encP (valQ sp st ys what)).toArray, .int .i64 0] = valR sp st rows ys what := by
  have e : valE sp st rows ys what = 0 := by unfold valE; rw [if_pos h, if_neg hw]
  unfold valR valV; rw [if_pos e, e]
theorem valR_3 (h : chkTrue sp st rows ys = 0) (hw : what < 0 ∨ 2 < what) : .tuple #[.agg (encP (0, 0)).toArray, .int .i64 3] = valR sp st rows ys what := by
  have e : valE sp st rows ys what = 3 := by unfold valE; rw [if_pos h, if_pos hw]
  unfold valR valV; rw [e]; rfl
theorem valR_1 (h : chkTrue sp st rows ys ≠ 0) : .tuple #[.agg (encP (0, 0)).toArray, .int .i64 (chkTrue sp st rows ys)] = valR sp st rows ys what := by
  have e : valE sp st rows ys what = chkTrue sp st rows ys := by unfold valE; rw [if_neg h]
  unfold valR valV; rw [e, if_neg h]
end
theorem ref_Value (w : World) (sp st : Int) (o o' : Value) (rv rv' : List Value) (rows : List (List (Int × Int))) (ys : List (List Int)) (what : Int) (hR : RdR encP 2 w.heap.size w o rv rows) (hR' : RdR encI 1 w.heap.size w o' rv' ys) :
    Ret Try.prog 17 [.agg #[.int .i64 sp, .int .i64 st, o], o', .int .i64 what].toArray w (valR sp st rows ys what) := by
  refine Ret.of mixed tyTab Try.func17 rfl rfl ?_
  replace hR : RdR encP 2 (fnCx mixed tyTab Try.f17.ntmps w).B (fnCx mixed tyTab Try.f17.ntmps w).w0 o rv rows := hR
  replace hR' : RdR encI 1 (fnCx mixed tyTab Try.f17.ntmps w).B (fnCx mixed tyTab Try.f17.ntmps w).w0 o' rv' ys := hR'
  refine W.sreg ?_
  refine WO.boxA rfl rfl (fun b1 hb1 => ?_)
  refine WO.alloc rfl rfl rfl (fun b2 hb2 => ?_)
  refine WO.p rfl rfl ?_
  refine WO.nil ?_
  refine W.seq ?_
  refine W.sreg ?_
  refine WO.loadA rfl rfl (Cells.own (Pick.tail (Pick.head))) rfl rfl (WO.p rfl rfl ?_)
  refine WO.callR (r := .int .i64 (chkTrue sp st rows ys)) rfl Try.call21 (fun L w hi => ref_CheckTrue w sp st o o' rv rv' rows ys (hR.later hi) (hR'.later hi)) rfl ?_
  refine WO.p rfl rfl ?_
  refine WO.nil ?_
  refine W.cond_bl rfl (fun c1 => ?_) (fun c1 => ?_)
  · first
    | (exfalso; omega)
    | (refine W.sreg ?_
       refine' WO.build (cs := _) rfl rfl rfl ?hf rfl ?_
       case hf => (conv => lhs; simp [-List.getD_eq_getElem?_getD, fillL, vcl, wrl, TTab.pl?.lget']) <;> rfl
       refine WO.loadA rfl rfl (Cells.own (Pick.tail (Pick.head))) rfl rfl (WO.p rfl rfl ?_)
       refine WO.callR (r := .int .i64 (chkTrue sp st rows ys)) rfl Try.call21 (fun L w hi => ref_CheckTrue w sp st o o' rv rv' rows ys (hR.later hi) (hR'.later hi)) rfl ?_
       refine WO.storeA rfl rfl rfl rfl Pick.head rfl rfl (WO.p rfl rfl ?_)
       refine WO.nil ?_
       refine W.ret ?_
       refine fin.ret (Res.two rfl (RV.cell rfl rfl rfl (Cells.own Pick.head)) (RV.tmp rfl)) ?_
       first | exact valR_0 (by omega) (by omega) | exact valR_3 (by omega) (by omega) | exact valR_1 (by omega))
  · first
    | (exfalso; omega)
    | (refine W.skip ?_
       refine W.seq ?_
       refine W.sreg ?_
       refine WO.p rfl rfl (WO.p rfl rfl (WO.p rfl rfl ?_))
       refine WO.guard_bl rfl rfl (fun c2 => ?_) (fun c2 => ?_)
       · first
         | (exfalso; omega)
         | (refine WO.no rfl rfl (WO.no rfl rfl (WO.p rfl rfl ?_))
            refine WO.nil ?_
            refine W.cond_t rfl ?_
            refine W.sreg ?_
            refine' WO.build (cs := _) rfl rfl rfl ?hf rfl ?_
            case hf => (conv => lhs; simp [-List.getD_eq_getElem?_getD, fillL, vcl, wrl, TTab.pl?.lget']) <;> rfl
            refine WO.storeA rfl rfl rfl rfl Pick.head rfl rfl (WO.p rfl rfl ?_)
            refine WO.nil ?_
            refine W.ret ?_
            refine fin.ret (Res.two rfl (RV.cell rfl rfl rfl (Cells.own Pick.head)) (RV.tmp rfl)) ?_
            first | exact valR_0 (by omega) (by omega) | exact valR_3 (by omega) (by omega) | exact valR_1 (by omega))
       · first
         | (exfalso; omega)
         | (refine WO.pg rfl rfl rfl (WO.pg rfl rfl rfl (WO.p rfl rfl ?_))
            refine WO.nil ?_
            refine W.cond_bl rfl (fun c3 => ?_) (fun c3 => ?_)
            · first
              | (exfalso; omega)
              | (refine W.sreg ?_
                 refine' WO.build (cs := _) rfl rfl rfl ?hf rfl ?_
                 case hf => (conv => lhs; simp [-List.getD_eq_getElem?_getD, fillL, vcl, wrl, TTab.pl?.lget']) <;> rfl
                 refine WO.storeA rfl rfl rfl rfl Pick.head rfl rfl (WO.p rfl rfl ?_)
                 refine WO.nil ?_
                 refine W.ret ?_
                 refine fin.ret (Res.two rfl (RV.cell rfl rfl rfl (Cells.own Pick.head)) (RV.tmp rfl)) ?_
                 first | exact valR_0 (by omega) (by omega) | exact valR_3 (by omega) (by omega) | exact valR_1 (by omega))
            · first
              | (exfalso; omega)
              | (refine W.skip ?_
                 refine W.sreg ?_
                 refine WO.loadA rfl rfl (Cells.own (Pick.tail (Pick.head))) rfl rfl (WO.p rfl rfl (WO.p rfl rfl ?_))
                 obtain ⟨hv, tv⟩ := TV.of (sp := sp) (st := st) (rows := rows) (ys := ys) (by omega)
                 refine WO.callR rfl Try.call43 (fun L w hi => ref_value w sp st o o' rv' ys what (hR'.later hi) (tv.small hv) (tv.pos hv) hv.sp hv.st) rfl ?_
                 refine WO.storeA rfl rfl rfl rfl Pick.head rfl rfl (WO.p rfl rfl ?_)
                 refine WO.nil ?_
                 refine W.ret ?_
                 refine fin.ret (Res.two rfl (RV.cell rfl rfl rfl (Cells.own Pick.head)) (RV.tmp rfl)) ?_
                 first | exact valR_0 (by omega) (by omega) | exact valR_3 (by omega) (by omega) | exact valR_1 (by omega))))
end Go.Proofs.Ytgihklgpehfbpaa
namespace Go.Proofs.Ytgihklgpehfbpaa
open Go Go.TH
attribute [local irreducible] W WO pt
set_option maxRecDepth 10000
/-- what Volumes answers -/
def volLo (sp st : Int) (rows : List (List (Int × Int))) (high : Bool) : Int × Int := if chkHull sp st rows = 0 then volV sp st rows (endsOf high rows) else (0, 0)
def volsR (sp st : Int) (rows : List (List (Int × Int))) : Value := .tuple #[.agg (encP (volLo sp st rows false) ++ encP (volLo sp st rows true)).toArray, .int .i64 (chkHull sp st rows)]
theorem volsR_0 {sp st : Int} {rows : List (List (Int × Int))} (h : chkHull sp st rows = 0) : .tuple #[.agg (encP (volV sp st rows (endsOf false rows)) ++ encP (volV sp st rows (endsOf true rows))).toArray, .int .i64 0] = volsR sp st rows := by
  unfold volsR volLo; rw [if_pos h, if_pos h, h]
theorem volsR_1 {sp st : Int} {rows : List (List (Int × Int))} (h : chkHull sp st rows ≠ 0) : .tuple #[.agg (encP (0, 0) ++ encP (0, 0)).toArray, .int .i64 (chkHull sp st rows)] = volsR sp st rows := by
  unfold volsR volLo; rw [if_neg h, if_neg h]
theorem HV.small {sp st : Int} {rows : List (List (Int × Int))} (h : HV sp st rows) : rows.length ≤ 1000 ∧ ∀ r ∈ rows, r.length ≤ 1000 := by
  have h1 := h.n; have h2 := h.m
  refine ⟨by omega, fun r hr => ?_⟩
  obtain ⟨i, hi, rfl⟩ := mem_getD [] hr
  rw [h.eq i hi]; omega
theorem ref_Volumes (w : World) (sp st : Int) (o : Value) (rv : List Value) (rows : List (List (Int × Int))) (hR : RdR encP 2 w.heap.size w o rv rows) :
    Ret Try.prog 35 [.agg #[.int .i64 sp, .int .i64 st, o]].toArray w (volsR sp st rows) := by
  refine Ret.of mixed tyTab Try.func35 rfl rfl ?_
  replace hR : RdR encP 2 (fnCx mixed tyTab Try.f35.ntmps w).B (fnCx mixed tyTab Try.f35.ntmps w).w0 o rv rows := hR
  refine W.sreg ?_
  refine WO.boxA rfl rfl (fun b1 hb1 => ?_)
  refine WO.alloc rfl rfl rfl (fun b2 hb2 => ?_)
  refine WO.p rfl rfl ?_
  refine WO.nil ?_
  refine W.seq ?_
  refine W.sreg ?_
  refine WO.loadA rfl rfl (Cells.own (Pick.tail (Pick.head))) rfl rfl ?_
  refine WO.callR (r := .int .i64 (chkHull sp st rows)) rfl Try.call19 (fun L w hi => ref_checkHull w sp st o rv rows (hR.later hi)) rfl ?_
  refine WO.p rfl rfl ?_
  refine WO.nil ?_
  refine W.cond_bl rfl (fun c1 => ?_) (fun c1 => ?_)
  · first
    | (exfalso; omega)
    | (refine W.sreg ?_
       refine' WO.build (cs := _) rfl rfl rfl ?hf rfl ?_
       case hf => (conv => lhs; simp [-List.getD_eq_getElem?_getD, fillL, vcl, wrl, TTab.pl?.lget']) <;> rfl
       refine WO.loadA rfl rfl (Cells.own (Pick.tail (Pick.head))) rfl rfl ?_
       refine WO.callR (r := .int .i64 (chkHull sp st rows)) rfl Try.call19 (fun L w hi => ref_checkHull w sp st o rv rows (hR.later hi)) rfl ?_
       refine WO.storeA rfl rfl rfl rfl Pick.head rfl rfl (WO.p rfl rfl ?_)
       refine WO.nil ?_
       refine W.ret ?_
       refine fin.ret (Res.two rfl (RV.cell rfl rfl rfl (Cells.own Pick.head)) (RV.tmp rfl)) ?_
       first | exact volsR_0 (by omega) | exact volsR_1 (by omega))
  · first
    | (exfalso; omega)
    | (refine W.skip ?_
       refine W.seq ?_
       refine W.drawD 9 [.b 0 [], .b 1 [], .c 2 [], .f 3 [], .r 4 [], .r 5 [], .r 6 [], .a 7 4 (.cells #[.int .i64 0, .int .i64 0] 29 (0, 0)), .s 8 []] [] (A0 := []) (Sub.refl _) (by kernel_rfl) ?_ ?_
       · exact (ALok.b (ALok.b (ALok.c (ALok.f (ALok.r (ALok.r (ALok.r (ALok.cons rfl rfl rfl rfl rfl (ALok.s ALok.nil)))))))))
       refine' DT.b rfl rfl rfl ?hq ?_
       case hq =>
         refine WO.loadA rfl rfl (Cells.own (Pick.tail (Pick.head))) rfl rfl ?_
         exact WO.nil ⟨rfl, rfl⟩
       refine' DT.b rfl rfl rfl ?hq ?_
       case hq =>
         refine WO.loadA rfl rfl (Cells.own (Pick.tail (Pick.head))) rfl rfl ?_
         exact WO.nil ⟨rfl, rfl⟩
       refine DT.c [_, _] rfl rfl rfl rfl ?_
       have hs := (HV.of (sp := sp) (st := st) (rows := rows) (by omega)).small
       refine WO.call (Post := fun v Hq => ∃ rv', Hq = [OwC 53 1 v rows.length rv', RowsE encI 2 1 rv' (endsOf false rows)]) rfl Try.call54 (fun L w hi => ref_End w sp st o rv rows false (hR.later hi) hs.1 hs.2) rfl ?_
       rintro v1 _ ⟨rv1, rfl⟩
       refine WO.nil ⟨_, [_, _], rfl, rfl, (Keep.b (Keep.b Keep.nil)), ?_⟩
       refine' DT.f [_, _, _, _] rfl rfl rfl rfl ?hq ?_
       case hq =>
         refine WO.callR (r := volR sp st rows (endsOf false rows)) rfl Try.call15 (fun L w hi => ref_Volume w sp st o v1 rv rv1 rows (endsOf false rows) (hR.later hi) (RdR.of_ow encI_ok (by repeat (first | exact Pick.head | apply Pick.tail)) (by repeat (first | exact Pick.head | apply Pick.tail)) hi)) rfl ?_
         exact WO.nil ⟨rfl, rfl⟩
       refine' DT.r rfl rfl rfl ?hq ?_
       case hq =>
         refine WO.p rfl rfl ?_
         exact WO.nil ⟨rfl, rfl⟩
       refine' DT.r rfl rfl rfl ?hq ?_
       case hq =>
         refine WO.p rfl rfl ?_
         exact WO.nil ⟨rfl, rfl⟩
       refine' DT.r rfl rfl rfl ?hq ?_
       case hq =>
         refine WO.p rfl rfl ?_
         exact WO.nil ⟨rfl, rfl⟩
       refine DT.a (fun b3 => ?_)
       refine DT.s [_, _, _, _, _] rfl rfl rfl ?_
       refine WO.storeA rfl rfl rfl rfl Pick.head rfl rfl ?_
       refine WO.nil ⟨[_, _, _], rfl, rfl, (Keep.a (Keep.r (Keep.r (Keep.r (Keep.f (Keep.c (Keep.b (Keep.b Keep.nil)))))))), ?_⟩
       refine DT.nil [_, _, _, _, _] rfl ?_
       refine WO.p rfl rfl ?_
       refine WO.nil ?_
       refine W.seq ?_
       refine W.drawD 9 [.b 0 [], .b 1 [], .c 2 [], .f 3 [], .r 4 [], .r 5 [], .r 6 [], .a 7 6 (.cells #[.int .i64 0, .int .i64 0] 29 (0, 0)), .s 8 []] [] (A0 := []) (Sub.refl _) (by kernel_rfl) ?_ ?_
       · exact (ALok.b (ALok.b (ALok.c (ALok.f (ALok.r (ALok.r (ALok.r (ALok.cons rfl rfl rfl rfl rfl (ALok.s ALok.nil)))))))))
       refine' DT.b rfl rfl rfl ?hq ?_
       case hq =>
         refine WO.loadA rfl rfl (Cells.own (Pick.tail (Pick.tail (Pick.tail (Pick.tail (Pick.head)))))) rfl rfl ?_
         exact WO.nil ⟨rfl, rfl⟩
       refine' DT.b rfl rfl rfl ?hq ?_
       case hq =>
         refine WO.loadA rfl rfl (Cells.own (Pick.tail (Pick.tail (Pick.tail (Pick.tail (Pick.head)))))) rfl rfl ?_
         exact WO.nil ⟨rfl, rfl⟩
       refine DT.c [_, _, _, _, _] rfl rfl rfl rfl ?_
       refine WO.call (Post := fun v Hq => ∃ rv', Hq = [OwC 53 1 v rows.length rv', RowsE encI 2 1 rv' (endsOf true rows)]) rfl Try.call54 (fun L w hi => ref_End w sp st o rv rows true (hR.later hi) hs.1 hs.2) rfl ?_
       rintro v2 _ ⟨rv2, rfl⟩
       refine WO.nil ⟨_, [_, _], rfl, rfl, (Keep.b (Keep.b Keep.nil)), ?_⟩
       refine' DT.f [_, _, _, _, _, _, _] rfl rfl rfl rfl ?hq ?_
       case hq =>
         refine WO.callR (r := volR sp st rows (endsOf true rows)) rfl Try.call15 (fun L w hi => ref_Volume w sp st o v2 rv rv2 rows (endsOf true rows) (hR.later hi) (RdR.of_ow encI_ok (by repeat (first | exact Pick.head | apply Pick.tail)) (by repeat (first | exact Pick.head | apply Pick.tail)) hi)) rfl ?_
         exact WO.nil ⟨rfl, rfl⟩
       refine' DT.r rfl rfl rfl ?hq ?_
       case hq =>
         refine WO.p rfl rfl ?_
         exact WO.nil ⟨rfl, rfl⟩
       refine' DT.r rfl rfl rfl ?hq ?_
       case hq =>
         refine WO.p rfl rfl ?_
         exact WO.nil ⟨rfl, rfl⟩
       refine' DT.r rfl rfl rfl ?hq ?_
       case hq =>
         refine WO.p rfl rfl ?_
         exact WO.nil ⟨rfl, rfl⟩
       refine DT.a (fun b4 => ?_)
       refine DT.s [_, _, _, _, _, _, _, _] rfl rfl rfl ?_
       refine WO.storeA rfl rfl rfl rfl Pick.head rfl rfl ?_
       refine WO.nil ⟨[_, _, _], rfl, rfl, (Keep.a (Keep.r (Keep.r (Keep.r (Keep.f (Keep.c (Keep.b (Keep.b Keep.nil)))))))), ?_⟩
       refine DT.nil [_, _, _, _, _, _, _, _] rfl ?_
       refine WO.p rfl rfl ?_
       refine WO.nil ?_
       refine W.sreg ?_
       refine WO.loadA rfl rfl (Cells.own (Pick.tail (Pick.tail (Pick.tail (Pick.head))))) rfl rfl (WO.loadA rfl rfl (Cells.own Pick.head) rfl rfl ?_)
       refine' WO.build (cs := _) rfl rfl rfl ?hf rfl ?_
       case hf => (conv => lhs; simp [-List.getD_eq_getElem?_getD, fillL, vcl, wrl, TTab.pl?.lget']) <;> rfl
       refine WO.storeA rfl rfl rfl rfl (Pick.tail (Pick.tail (Pick.tail (Pick.tail (Pick.tail (Pick.tail (Pick.head))))))) rfl rfl (WO.p rfl rfl ?_)
       refine WO.nil ?_
       refine W.ret ?_
       refine fin.ret (Res.two rfl (RV.cell rfl rfl rfl (Cells.own Pick.head)) (RV.tmp rfl)) ?_
       first | exact volsR_0 (by omega) | exact volsR_1 (by omega))
end Go.Proofs.Ytgihklgpehfbpaa
namespace Go.Proofs.Ytgihklgpehfbpaa
open Go Go.TH
attribute [local irreducible] W WO pt
set_option maxRecDepth 10000
/-- how many true hulls there are, but not more than a million -/
def cnt (n : Int) (r : Int × Int) : Int := min 1000000 (n * (r.2 - r.1 + 1))
def manyF (n : Int) (l : List (Int × Int)) : Int := l.foldl cnt n
def manyR (n : Int) (rows : List (List (Int × Int))) : Int := rows.foldl manyF n
theorem foldl_take {α β : Type} (f : β → α → β) {l : List α} {i : Nat} (h : i < l.length) (z : α) (b : β) : (l.take (i + 1)).foldl f b = f ((l.take i).foldl f b) (l.getD i z) := by
  rw [take_succ_getD h z, List.foldl_append]; rfl
theorem cntB {n : Int} {r : Int × Int} (h : 1 ≤ n ∧ n ≤ 1000000) (hr : r.1 ≤ r.2 ∧ r.2 - r.1 ≤ 20) : (1 ≤ cnt n r ∧ cnt n r ≤ 1000000) ∧ 0 ≤ n * (r.2 - r.1 + 1) ∧ n * (r.2 - r.1 + 1) ≤ 21000000 := by
  have h1 := mulB (a := n) (b := r.2 - r.1 + 1) (A := 1000000) (B := 21) ⟨by omega, h.2⟩ ⟨by omega, by omega⟩
  have h2 : 1 * 1 ≤ n * (r.2 - r.1 + 1) := Int.mul_le_mul h.1 (by omega) (by omega) (by omega)
  unfold cnt
  omega
theorem ref_Many (w : World) (sp st : Int) (o : Value) (rv : List Value) (rows : List (List (Int × Int))) (hR : RdR encP 2 w.heap.size w o rv rows) (hv : HV sp st rows) :
    Ret Try.prog 33 [.agg #[.int .i64 sp, .int .i64 st, o]].toArray w (.int .i64 (manyR 1 rows)) := by
  refine Ret.of mixed tyTab Try.func33 rfl rfl ?_
  replace hR : RdR encP 2 (fnCx mixed tyTab Try.f33.ntmps w).B (fnCx mixed tyTab Try.f33.ntmps w).w0 o rv rows := hR
  have hle := hR.sl.le
  have hn := hv.n
  refine W.sreg ?_
  refine WO.boxA rfl rfl (fun b1 hb1 => ?_)
  refine WO.p rfl rfl ?_
  refine WO.nil ?_
  refine W.sreg ?_
  refine WO.p rfl rfl ?_
  refine WO.nil ?_
  refine W.seq ?_
  refine W.sreg ?_
  refine WO.p rfl rfl ?_
  refine WO.nil ?_
  refine W.block ?_
  refine W.loop2 (fun (i : Nat) (n : Int) => i ≤ rows.length ∧ n = manyR 1 (rows.take i) ∧ 1 ≤ n ∧ n ≤ 1000000)
    (fun (i : Nat) (n : Int) => [(4, .int .i64 (i : Int)), (3, .int .i64 n), (1, .pointer (some ⟨b1, 0, none⟩))])
    (fun (i : Nat) (n : Int) => [pt b1 (.cells #[.int .i64 sp, .int .i64 st, o] 24 (0, 0))])
    (fun (i : Nat) (n : Int) => rows.length - i) 0 1
    (by exact ⟨by omega, rfl, by omega, by omega⟩) ⟨rfl, rfl, rfl, trivial⟩ (by repeat (first | exact Sub.nil | refine Sub.cons (by repeat (first | exact Pick.head | apply Pick.tail)) ?_)) ?_
  rintro i n ⟨hi, en, hb, hb2⟩
  refine W.seq ?_
  refine W.sreg ?_
  refine WO.p rfl rfl (WO.fieldL rfl rfl rfl (WO.load rfl rfl (Cell.own Pick.head rfl) rfl ?_))
  refine' WO.len (n := _) rfl rfl ?hs rfl ?_
  case hs => (first | exact hR.sl | (refine (hR.row _ ?_).sl; omega))
  refine WO.p rfl rfl ?_
  refine WO.nil ?_
  refine W.cond_bl rfl (fun c1 => ?_) (fun c1 => ?_)
  · first
    | (exfalso; omega)
    | (refine W.skip ?_
       refine W.seq ?_
       refine W.block ?_
       refine W.sreg ?_
       refine WO.p rfl rfl ?_
       refine WO.nil ?_
       refine W.block ?_
       refine W.loop2 (fun (k : Nat) (q : Int) => k ≤ (rows.getD i []).length ∧ q = manyF n ((rows.getD i []).take k) ∧ 1 ≤ q ∧ q ≤ 1000000)
         (fun (k : Nat) (q : Int) => [(4, .int .i64 (i : Int)), (5, .int .i64 (k : Int)), (3, .int .i64 q), (1, .pointer (some ⟨b1, 0, none⟩))])
         (fun (k : Nat) (q : Int) => [pt b1 (.cells #[.int .i64 sp, .int .i64 st, o] 24 (0, 0))])
         (fun (k : Nat) (q : Int) => (rows.getD i []).length - k) 0 n
         (by exact ⟨by omega, rfl, by omega, by omega⟩) ⟨rfl, rfl, rfl, rfl, trivial⟩ (by repeat (first | exact Sub.nil | refine Sub.cons (by repeat (first | exact Pick.head | apply Pick.tail)) ?_)) ?_
       rintro k q ⟨hk, ek, hc, hc2⟩
       have hm := hv.m
       have hm2 := hv.eq i (by omega)
       have hq := fun h => cntB (n := q) (r := (rows.getD i []).getD k (0, 0)) ⟨hc, hc2⟩ (by have := hv.ok i k (by omega) h; omega)
       refine W.seq ?_
       refine W.sreg ?_
       refine WO.p rfl rfl (WO.fieldL rfl rfl rfl (WO.load rfl rfl (Cell.own Pick.head rfl) rfl (WO.p rfl rfl ?_)))
       refine' WO.indexAddr (n := _) (i := _) rfl rfl rfl ?hs ?h1 rfl ?_
       case hs => (first | exact hR.sl | (refine (hR.row _ ?_).sl; omega))
       case h1 => (first | omega | (simp; omega))
       refine' WO.load (v := _) rfl rfl ?hc rfl ?_
       case hc => (first | (refine hR.cellV ?_; omega) | (refine (hR.row _ ?_).cell0 ?_ (0, 0) ?_ <;> first | rfl | omega) | (refine (hR.row _ ?_).cellAt ?_ (0, 0) ?_ <;> first | rfl | omega))
       refine' WO.len (n := _) rfl rfl ?hs rfl ?_
       case hs => (first | exact hR.sl | (refine (hR.row _ ?_).sl; omega))
       refine WO.p rfl rfl ?_
       refine WO.nil ?_
       refine W.cond_bl rfl (fun c2 => ?_) (fun c2 => ?_)
       · first
         | (exfalso; omega)
         | (refine W.skip ?_
            refine W.seq ?_
            refine W.block ?_
            have ho := hv.ok i k (by omega) (by omega)
            have hq := hq (by omega)
            refine W.drawD 21 [.r 0 [], .r 1 [], .b 2 [], .r 3 [], .r 4 [], .b 5 [], .r 6 [], .r 7 [], .r 8 [], .b 9 [], .r 10 [], .b 11 [], .r 12 [], .r 13 [], .b 14 [], .r 15 [], .r 16 [], .r 17 [], .b 18 [], .r 19 [], .r 20 []] [] (A0 := []) (Sub.refl _) (by kernel_rfl) ?_ ?_
            · exact (ALok.r (ALok.r (ALok.b (ALok.r (ALok.r (ALok.b (ALok.r (ALok.r (ALok.r (ALok.b (ALok.r (ALok.b (ALok.r (ALok.r (ALok.b (ALok.r (ALok.r (ALok.r (ALok.b (ALok.r (ALok.r ALok.nil)))))))))))))))))))))
            refine' DT.r rfl rfl rfl ?hq ?_
            case hq =>
              refine WO.p rfl rfl ?_
              exact WO.nil ⟨rfl, rfl⟩
            refine' DT.r rfl rfl rfl ?hq ?_
            case hq =>
              refine WO.fieldL rfl rfl rfl ?_
              exact WO.nil ⟨rfl, rfl⟩
            refine' DT.b rfl rfl rfl ?hq ?_
            case hq =>
              refine WO.load rfl rfl (Cell.own Pick.head rfl) rfl ?_
              exact WO.nil ⟨rfl, rfl⟩
            refine' DT.r rfl rfl rfl ?hq ?_
            case hq =>
              refine WO.p rfl rfl ?_
              exact WO.nil ⟨rfl, rfl⟩
            refine' DT.r rfl rfl rfl ?hq ?_
            case hq =>
              refine' WO.indexAddr (n := _) (i := _) rfl rfl rfl ?hs ?h1 rfl ?_
              case hs => (first | exact hR.sl | (refine (hR.row _ ?_).sl; omega))
              case h1 => (first | omega | (simp; omega))
              exact WO.nil ⟨rfl, rfl⟩
            refine' DT.b rfl rfl rfl ?hq ?_
            case hq =>
              refine' WO.load (v := _) rfl rfl ?hc rfl ?_
              case hc => (first | (refine hR.cellV ?_; omega) | (refine (hR.row _ ?_).cell0 ?_ (0, 0) ?_ <;> first | rfl | omega) | (refine (hR.row _ ?_).cellAt ?_ (0, 0) ?_ <;> first | rfl | omega))
              exact WO.nil ⟨rfl, rfl⟩
            refine' DT.r rfl rfl rfl ?hq ?_
            case hq =>
              refine WO.p rfl rfl ?_
              exact WO.nil ⟨rfl, rfl⟩
            refine' DT.r rfl rfl rfl ?hq ?_
            case hq =>
              refine' WO.indexAddr (n := _) (i := _) rfl rfl rfl ?hs ?h1 rfl ?_
              case hs => (first | exact hR.sl | (refine (hR.row _ ?_).sl; omega))
              case h1 => (first | omega | (simp; omega))
              exact WO.nil ⟨rfl, rfl⟩
            refine' DT.r rfl rfl rfl ?hq ?_
            case hq =>
              refine WO.field rfl rfl rfl ?_
              exact WO.nil ⟨rfl, rfl⟩
            refine' DT.b rfl rfl rfl ?hq ?_
            case hq =>
              refine' WO.load (v := _) rfl rfl ?hc rfl ?_
              case hc => (first | (refine hR.cellV ?_; omega) | (refine (hR.row _ ?_).cell0 ?_ (0, 0) ?_ <;> first | rfl | omega) | (refine (hR.row _ ?_).cellAt ?_ (0, 0) ?_ <;> first | rfl | omega))
              exact WO.nil ⟨rfl, rfl⟩
            refine' DT.r rfl rfl rfl ?hq ?_
            case hq =>
              refine WO.fieldL rfl rfl rfl ?_
              exact WO.nil ⟨rfl, rfl⟩
            refine' DT.b rfl rfl rfl ?hq ?_
            case hq =>
              refine WO.load rfl rfl (Cell.own Pick.head rfl) rfl ?_
              exact WO.nil ⟨rfl, rfl⟩
            refine' DT.r rfl rfl rfl ?hq ?_
            case hq =>
              refine WO.p rfl rfl ?_
              exact WO.nil ⟨rfl, rfl⟩
            refine' DT.r rfl rfl rfl ?hq ?_
            case hq =>
              refine' WO.indexAddr (n := _) (i := _) rfl rfl rfl ?hs ?h1 rfl ?_
              case hs => (first | exact hR.sl | (refine (hR.row _ ?_).sl; omega))
              case h1 => (first | omega | (simp; omega))
              exact WO.nil ⟨rfl, rfl⟩
            refine' DT.b rfl rfl rfl ?hq ?_
            case hq =>
              refine' WO.load (v := _) rfl rfl ?hc rfl ?_
              case hc => (first | (refine hR.cellV ?_; omega) | (refine (hR.row _ ?_).cell0 ?_ (0, 0) ?_ <;> first | rfl | omega) | (refine (hR.row _ ?_).cellAt ?_ (0, 0) ?_ <;> first | rfl | omega))
              exact WO.nil ⟨rfl, rfl⟩
            refine' DT.r rfl rfl rfl ?hq ?_
            case hq =>
              refine WO.p rfl rfl ?_
              exact WO.nil ⟨rfl, rfl⟩
            refine' DT.r rfl rfl rfl ?hq ?_
            case hq =>
              refine' WO.indexAddr (n := _) (i := _) rfl rfl rfl ?hs ?h1 rfl ?_
              case hs => (first | exact hR.sl | (refine (hR.row _ ?_).sl; omega))
              case h1 => (first | omega | (simp; omega))
              exact WO.nil ⟨rfl, rfl⟩
            refine' DT.r rfl rfl rfl ?hq ?_
            case hq =>
              refine WO.field0 rfl rfl rfl ?_
              exact WO.nil ⟨rfl, rfl⟩
            refine' DT.b rfl rfl rfl ?hq ?_
            case hq =>
              refine' WO.load (v := _) rfl rfl ?hc rfl ?_
              case hc => (first | (refine hR.cellV ?_; omega) | (refine (hR.row _ ?_).cell0 ?_ (0, 0) ?_ <;> first | rfl | omega) | (refine (hR.row _ ?_).cellAt ?_ (0, 0) ?_ <;> first | rfl | omega))
              exact WO.nil ⟨rfl, rfl⟩
            refine' DT.r rfl rfl rfl ?hq ?_
            case hq =>
              refine WO.ar rfl rfl rfl (by (first | (unfold in64; omega))) rfl ?_
              exact WO.nil ⟨rfl, rfl⟩
            refine' DT.r rfl rfl rfl ?hq ?_
            case hq =>
              refine WO.ar rfl rfl rfl (by (first | (unfold in64; omega))) rfl ?_
              exact WO.nil ⟨rfl, rfl⟩
            refine DT.nil [_] rfl ?_
            refine WO.ar rfl rfl rfl (by (first | (unfold in64; omega))) rfl ?_
            refine WO.min2 rfl rfl rfl ?_
            refine WO.p rfl rfl ?_
            refine WO.nil ?_
            refine W.region ?_
            refine WO.p rfl rfl (WO.ar rfl rfl rfl (by (first | (unfold in64; omega))) rfl (WO.p rfl rfl ?_))
            refine WO.nil ?_
            refine' ⟨k + 1, _, ?hp, ?hmu, ⟨rfl, rfl, rfl, rfl, trivial⟩, ?hS⟩
            case hS => repeat (first | exact Sub.nil | refine Sub.cons (by repeat (first | exact Pick.head | apply Pick.tail)) ?_)
            case hp => exact ⟨by omega, by rw [ek]; unfold manyF; rw [foldl_take _ (by omega) (0, 0)]; rfl, hq.1.1, hq.1.2⟩
            case hmu => omega)
       · first
         | (exfalso; omega)
         | (refine W.exit (blk_same ?_)
            refine W.region ?_
            refine WO.p rfl rfl (WO.ar rfl rfl rfl (by (first | (unfold in64; omega))) rfl (WO.p rfl rfl ?_))
            refine WO.nil ?_
            refine' ⟨i + 1, _, ?hp, ?hmu, ⟨rfl, rfl, rfl, trivial⟩, ?hS⟩
            case hS => repeat (first | exact Sub.nil | refine Sub.cons (by repeat (first | exact Pick.head | apply Pick.tail)) ?_)
            case hp => (obtain rfl : k = (rows.getD i []).length := by omega); exact ⟨by omega, by rw [ek, en, List.take_length]; unfold manyR; rw [foldl_take _ (by omega) []], by omega, by omega⟩
            case hmu => omega))
  · first
    | (exfalso; omega)
    | (refine W.exit (blk_same ?_)
       refine W.sreg ?_
       refine WO.p rfl rfl (WO.p rfl rfl ?_)
       refine WO.nil ?_
       refine W.ret ?_
       obtain rfl : i = rows.length := by omega
       refine fin.ret (Res.one rfl (RV.tmp rfl)) ?_
       rw [en, List.take_length])
end Go.Proofs.Ytgihklgpehfbpaa
