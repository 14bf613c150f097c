/-
  What is proved here: a table of the program's types (cells, fields, elements, zero values) agrees with the program. Conditions: none.
  What is proved here: contracts of the functions that reduce fractions. Conditions: none; each contract states its own.
  What is proved here: which trials are valid. Conditions: none; each contract states its own.
  What is proved here: the pairs of runs, and the weights of runs before they are in least terms. Conditions: none; each contract states its own.
  What is proved here: the weights of runs by each manner, not yet in least terms. Conditions: none; each contract states its own.
  What is proved here: the weights of runs by means of neighbours, and by the definition. Conditions: none; each contract states its own.
  What is proved here: the weights of runs, in least terms. Conditions: none; each contract states its own.
  What is proved here: how great the weights are (no program in sight). Conditions: none; each theorem states its own.
  What is proved here: the weights, and the widest run. Conditions: none; each contract states its own.
-/
import Derived.Test.YtkiaepcklbidgaaM2
import Derived.Test.YtkiaepcklbidgaaChecked
import Derived.KernelRfl
namespace Go.Proofs.Ytkiaepcklbidgaa
open Go Go.TH
def tyList : List TI := [⟨.none, 0, none⟩,
  ⟨.one, 1, some (.nilFunc)⟩,
  ⟨.int .i64, 1, some (.int .i64 0)⟩,
  ⟨.int .i64, 1, some (.int .i64 0)⟩,
  ⟨.one, 1, some (.bool false)⟩,
  ⟨.int .u8, 1, some (.int .u8 0)⟩,
  ⟨.int .u8, 1, some (.int .u8 0)⟩,
  ⟨.st [(0, 2), (1, 3), (2, 4), (3, 6)], 4, some (.agg #[.int .i64 0, .int .i64 0, .bool false, .int .u8 0])⟩,
  ⟨.st [(0, 2), (1, 3), (2, 4), (3, 6)], 4, some (.agg #[.int .i64 0, .int .i64 0, .bool false, .int .u8 0])⟩,
  ⟨.none, 0, none⟩,
  ⟨.none, 0, none⟩,
  ⟨.none, 0, none⟩,
  ⟨.int .u64, 1, some (.int .u64 0)⟩,
  ⟨.st [(0, 9), (1, 12)], 2, none⟩,
  ⟨.st [(0, 9), (1, 12)], 2, none⟩,
  ⟨.one, 1, some (.pointer none)⟩,
  ⟨.one, 1, some (.pointer none)⟩,
  ⟨.one, 1, some (.pointer none)⟩,
  ⟨.st [(0, 17)], 1, some (.agg #[.pointer none])⟩,
  ⟨.st [(0, 17)], 1, some (.agg #[.pointer none])⟩,
  ⟨.one, 1, some (.nilIface)⟩,
  ⟨.int .i32, 1, some (.int .i32 0)⟩,
  ⟨.sl 66 3 24, 1, some (.slice none 0 0)⟩,
  ⟨.st [(0, 3), (1, 22)], 2, some (.agg #[.int .i64 0, .slice none 0 0])⟩,
  ⟨.st [(0, 3), (1, 22)], 2, some (.agg #[.int .i64 0, .slice none 0 0])⟩,
  ⟨.one, 1, some (.nilFunc)⟩,
  ⟨.sl 2 1 8, 1, some (.slice none 0 0)⟩,
  ⟨.int .i64, 1, some (.int .i64 0)⟩,
  ⟨.none, 0, none⟩,
  ⟨.one, 1, some (.nilFunc)⟩,
  ⟨.none, 0, none⟩,
  ⟨.one, 1, some (.nilFunc)⟩,
  ⟨.one, 1, some (.nilFunc)⟩,
  ⟨.one, 1, some (.nilFunc)⟩,
  ⟨.one, 1, some (.nilFunc)⟩,
  ⟨.st [(0, 2), (1, 2)], 2, some (.agg #[.int .i64 0, .int .i64 0])⟩,
  ⟨.st [(0, 2), (1, 2)], 2, some (.agg #[.int .i64 0, .int .i64 0])⟩,
  ⟨.none, 0, none⟩,
  ⟨.one, 1, some (.nilFunc)⟩,
  ⟨.st [(0, 36), (2, 36)], 4, some (.agg #[.int .i64 0, .int .i64 0, .int .i64 0, .int .i64 0])⟩,
  ⟨.st [(0, 36), (2, 36)], 4, some (.agg #[.int .i64 0, .int .i64 0, .int .i64 0, .int .i64 0])⟩,
  ⟨.none, 0, none⟩,
  ⟨.one, 1, some (.nilFunc)⟩,
  ⟨.one, 1, some (.nilFunc)⟩,
  ⟨.st [(0, 2), (1, 2), (2, 2), (3, 2), (4, 2), (5, 2), (6, 2)], 7, some (.agg #[.int .i64 0, .int .i64 0, .int .i64 0, .int .i64 0, .int .i64 0, .int .i64 0, .int .i64 0])⟩,
  ⟨.st [(0, 2), (1, 2), (2, 2), (3, 2), (4, 2), (5, 2), (6, 2)], 7, some (.agg #[.int .i64 0, .int .i64 0, .int .i64 0, .int .i64 0, .int .i64 0, .int .i64 0, .int .i64 0])⟩,
  ⟨.none, 0, none⟩,
  ⟨.one, 1, some (.nilFunc)⟩,
  ⟨.st [(0, 2), (1, 2)], 2, some (.agg #[.int .i64 0, .int .i64 0])⟩,
  ⟨.st [(0, 2), (1, 2)], 2, some (.agg #[.int .i64 0, .int .i64 0])⟩,
  ⟨.none, 0, none⟩,
  ⟨.one, 1, some (.nilFunc)⟩,
  ⟨.one, 1, some (.nilFunc)⟩,
  ⟨.one, 1, some (.nilFunc)⟩,
  ⟨.int .u16, 1, some (.int .u16 0)⟩,
  ⟨.one, 1, some (.nilFunc)⟩,
  ⟨.one, 1, some (.nilFunc)⟩,
  ⟨.one, 1, some (.nilFunc)⟩,
  ⟨.none, 0, none⟩,
  ⟨.one, 1, some (.nilFunc)⟩,
  ⟨.one, 1, some (.nilFunc)⟩,
  ⟨.one, 1, some (.nilFunc)⟩,
  ⟨.one, 1, some (.nilFunc)⟩,
  ⟨.sl 71 1 4, 1, some (.slice none 0 0)⟩,
  ⟨.one, 1, some (.nilFunc)⟩,
  ⟨.st [(0, 2), (1, 49)], 3, some (.agg #[.int .i64 0, .int .i64 0, .int .i64 0])⟩,
  ⟨.st [(0, 2), (1, 49)], 3, some (.agg #[.int .i64 0, .int .i64 0, .int .i64 0])⟩,
  ⟨.one, 1, some (.nilFunc)⟩,
  ⟨.one, 1, some (.nilFunc)⟩,
  ⟨.sl 24 2 32, 1, some (.slice none 0 0)⟩,
  ⟨.one, 1, some (.nilFunc)⟩,
  ⟨.int .u32, 1, some (.int .u32 0)⟩,
  ⟨.int .u64, 1, some (.int .u64 0)⟩,
  ⟨.one, 1, some (.nilFunc)⟩,
  ⟨.one, 1, some (.nilFunc)⟩,
  ⟨.sl 36 2 16, 1, some (.slice none 0 0)⟩,
  ⟨.one, 1, some (.nilFunc)⟩,
  ⟨.one, 1, some (.pointer none)⟩,
  ⟨.none, 0, none⟩,
  ⟨.one, 1, some (.nilFunc)⟩,
  ⟨.ar 5 2 1, 5, some (.agg #[.int .i64 0, .int .i64 0, .int .i64 0, .int .i64 0, .int .i64 0])⟩,
  ⟨.ar 5 2 1, 5, some (.agg #[.int .i64 0, .int .i64 0, .int .i64 0, .int .i64 0, .int .i64 0])⟩,
  ⟨.st [(0, 24), (2, 81), (7, 2)], 8, some (.agg #[.int .i64 0, .slice none 0 0, .int .i64 0, .int .i64 0, .int .i64 0, .int .i64 0, .int .i64 0, .int .i64 0])⟩,
  ⟨.st [(0, 24), (2, 81), (7, 2)], 8, some (.agg #[.int .i64 0, .slice none 0 0, .int .i64 0, .int .i64 0, .int .i64 0, .int .i64 0, .int .i64 0, .int .i64 0])⟩,
  ⟨.one, 1, some (.nilFunc)⟩,
  ⟨.one, 1, some (.nilFunc)⟩,
  ⟨.one, 1, some (.nilFunc)⟩,
  ⟨.one, 1, some (.nilFunc)⟩,
  ⟨.one, 1, some (.nilFunc)⟩,
  ⟨.st [(0, 3), (1, 2)], 2, some (.agg #[.int .i64 0, .int .i64 0])⟩,
  ⟨.st [(0, 3), (1, 2)], 2, some (.agg #[.int .i64 0, .int .i64 0])⟩,
  ⟨.one, 1, some (.nilFunc)⟩,
  ⟨.one, 1, some (.nilFunc)⟩,
  ⟨.one, 1, some (.nilFunc)⟩,
  ⟨.one, 1, some (.nilFunc)⟩,
  ⟨.one, 1, some (.nilFunc)⟩,
  ⟨.one, 1, some (.nilFunc)⟩,
  ⟨.one, 1, some (.nilFunc)⟩,
  ⟨.one, 1, some (.nilFunc)⟩,
  ⟨.one, 1, some (.nilFunc)⟩,
  ⟨.one, 1, some (.nilFunc)⟩,
  ⟨.one, 1, some (.nilFunc)⟩,
  ⟨.one, 1, some (.nilFunc)⟩,
  ⟨.one, 1, some (.nilFunc)⟩,
  ⟨.one, 1, some (.nilFunc)⟩,
  ⟨.one, 1, some (.map none)⟩,
  ⟨.one, 1, some (.nilFunc)⟩,
  ⟨.one, 1, some (.nilFunc)⟩,
  ⟨.one, 1, some (.nilFunc)⟩,
  ⟨.one, 1, some (.nilFunc)⟩,
  ⟨.one, 1, some (.nilFunc)⟩,
  ⟨.one, 1, some (.nilFunc)⟩,
  ⟨.one, 1, some (.nilFunc)⟩,
  ⟨.st [(0, 17), (1, 17), (2, 17), (3, 9)], 4, none⟩,
  ⟨.st [(0, 17), (1, 17), (2, 17), (3, 9)], 4, none⟩,
  ⟨.none, 0, none⟩,
  ⟨.none, 0, none⟩,
  ⟨.none, 0, none⟩,
  ⟨.one, 1, some (.nilFunc)⟩,
  ⟨.int .u8, 1, some (.int .u8 0)⟩,
  ⟨.int .u8, 1, some (.int .u8 0)⟩,
  ⟨.one, 1, some (.nilFunc)⟩,
  ⟨.one, 1, some (.pointer none)⟩,
  ⟨.int .i32, 1, some (.int .i32 0)⟩,
  ⟨.int .i32, 1, some (.int .i32 0)⟩,
  ⟨.st [(0, 12), (1, 12), (2, 71), (3, 119), (4, 5), (5, 5), (6, 120), (7, 121), (8, 122), (9, 123), (10, 124)], 11, some (.agg #[.int .u64 0, .int .u64 0, .int .u32 0, .int .u8 0, .int .u8 0, .int .u8 0, .int .u8 0, .nilFunc, .pointer none, .int .i32 0, .int .i32 0])⟩,
  ⟨.st [(0, 12), (1, 12), (2, 71), (3, 119), (4, 5), (5, 5), (6, 120), (7, 121), (8, 122), (9, 123), (10, 124)], 11, some (.agg #[.int .u64 0, .int .u64 0, .int .u32 0, .int .u8 0, .int .u8 0, .int .u8 0, .int .u8 0, .nilFunc, .pointer none, .int .i32 0, .int .i32 0])⟩,
  ⟨.none, 0, none⟩]
theorem ty_ok : (tyList.zipIdx.all fun (ti, T) => tiChk Try.prog T ti) = true := by kernel_rfl
def tyTab : TTab Try.prog := ⟨tyList, ty_ok⟩
theorem mixed : Try.prog.follows .mixedOrders = true := by kernel_rfl
end Go.Proofs.Ytkiaepcklbidgaa
namespace Go.Proofs.Ytkiaepcklbidgaa
open Go Go.TH
attribute [local irreducible] W WO pt
set_option maxRecDepth 10000
/-- the greatest common divisor -/
def gcd2 (a b : Int) : Int := (Nat.gcd a.toNat b.toNat : Nat)
theorem gcd2_zero {a : Int} (h : 0 ≤ a) : gcd2 a 0 = a := by simp [gcd2]; omega
theorem gcd2_step {a b : Int} (ha : 0 ≤ a) (hb : 0 < b) : gcd2 b (a.tmod b) = gcd2 a b := by
  unfold gcd2
  obtain ⟨n, rfl⟩ := Int.eq_ofNat_of_zero_le ha
  obtain ⟨m, rfl⟩ := Int.eq_ofNat_of_zero_le (Int.le_of_lt hb)
  rw [Int.tmod_eq_emod_of_nonneg (by omega), ← Int.natCast_emod]
  simp only [Int.toNat_natCast]
  rw [Nat.gcd_comm m (n % m), ← Nat.gcd_rec, Nat.gcd_comm]
theorem tmod_lt {a b : Int} (ha : 0 ≤ a) (hb : 0 < b) : 0 ≤ a.tmod b ∧ a.tmod b < b := ⟨Int.tmod_nonneg b ha, Int.tmod_lt_of_pos a hb⟩
theorem gcd2_pos {a b : Int} (ha : 0 ≤ a) (hb : 0 < b) : 0 < gcd2 a b := by
  unfold gcd2
  have : 0 < Nat.gcd a.toNat b.toNat := Nat.gcd_pos_of_pos_right _ (by omega)
  omega
theorem gcd2_le {a b : Int} (ha : 0 ≤ a) (hb : 0 < b) : gcd2 a b ≤ b := by
  unfold gcd2
  have : Nat.gcd a.toNat b.toNat ≤ b.toNat := Nat.gcd_le_right _ (by omega)
  omega
theorem tdiv_in {a b : Int} (ha : 0 ≤ a) (hb : 0 < b) (h : in64 a) : in64 (a.tdiv b) := by
  unfold in64 at *
  have h1 : 0 ≤ a.tdiv b := Int.tdiv_nonneg ha (by omega)
  have h2 : a.tdiv b ≤ a := by
    rw [Int.tdiv_eq_ediv_of_nonneg ha]
    exact Int.ediv_le_self _ ha
  omega
theorem gcd2_0 {a : Int} (h : 0 ≤ a) : gcd2 0 a = a := by unfold gcd2; rw [show (0 : Int).toNat = 0 from rfl, Nat.gcd_zero_left]; omega
theorem gcd2_nn (a b : Int) : 0 ≤ gcd2 a b := by unfold gcd2; omega
/-- a number without its sign -/
def ab (n : Int) : Int := max n (-n)
theorem ab_nn (n : Int) : 0 ≤ ab n := by unfold ab; omega
/-- a fraction in least terms -/
def red (n d : Int) : Int × Int := (n.tdiv (gcd2 (ab n) d), d.tdiv (gcd2 (ab n) d))
/-- the greatest common divisor of all -/
def gcdL (l : List Int) : Int := l.foldl gcd2 0
theorem tdiv_ab {a b : Int} (hb : 0 < b) : ab (a.tdiv b) ≤ ab a := by
  unfold ab
  have h1 : a.tdiv b ≤ max a (-a) := by
    rcases Int.le_total 0 a with h | h
    · have := Int.tdiv_le_self b h; omega
    · have h2 : a.tdiv b = -((-a).tdiv b) := by rw [Int.neg_tdiv, Int.neg_neg]
      have := Int.tdiv_nonneg (a := -a) (b := b) (by omega) (by omega)
      omega
  have h2 : -(a.tdiv b) ≤ max a (-a) := by
    rcases Int.le_total 0 a with h | h
    · have := Int.tdiv_nonneg (a := a) (b := b) h (by omega); omega
    · have h2 : a.tdiv b = -((-a).tdiv b) := by rw [Int.neg_tdiv, Int.neg_neg]
      have := Int.tdiv_le_self (a := -a) b (by omega)
      omega
  omega
theorem ref_common (w : World) (a b : Int) (ha : 0 ≤ a) (hb : 0 ≤ b) :
    Ret Try.prog 46 [.int .i64 a, .int .i64 b].toArray w (.int .i64 (gcd2 a b)) := by
  refine Ret.of mixed tyTab Try.func46 rfl rfl ?_
  refine W.sreg ?_
  refine WO.p rfl rfl ?_
  refine WO.nil ?_
  refine W.seq ?_
  refine W.block ?_
  refine W.loop2 (fun (x : Int) (y : Int) => 0 ≤ x ∧ 0 ≤ y ∧ gcd2 x y = gcd2 a b)
    (fun (x : Int) (y : Int) => [(0, .int .i64 x), (1, .int .i64 y)])
    (fun (x : Int) (y : Int) => [])
    (fun (x : Int) (y : Int) => y.toNat) a b
    (by exact ⟨ha, hb, rfl⟩) ⟨rfl, rfl, trivial⟩ (by repeat (first | exact Sub.nil | refine Sub.cons (by repeat (first | exact Pick.head | apply Pick.tail)) ?_)) ?_
  rintro x y ⟨hx, hy, hg⟩
  refine W.seq ?_
  refine W.sreg ?_
  refine WO.p rfl rfl (WO.p rfl rfl ?_)
  refine WO.nil ?_
  refine W.cond_bl rfl (fun c1 => ?_) (fun c1 => ?_)
  · first
    | (exfalso; omega)
    | (refine W.skip ?_
       refine W.block ?_
       refine W.drawD 5 [.r 0 [], .r 1 [], .r 2 [0], .r 3 [0], .r 4 [0]] [0] (A0 := []) (Sub.refl _) (by kernel_rfl) ?_ ?_
       · exact (ALok.r (ALok.r (ALok.r (ALok.r (ALok.r ALok.nil)))))
       refine' DT.r rfl rfl rfl ?hq ?_
       case hq =>
         refine WO.p rfl rfl ?_
         exact WO.nil ⟨rfl, rfl⟩
       refine' DT.r rfl rfl rfl ?hq ?_
       case hq =>
         refine WO.p rfl rfl ?_
         exact WO.nil ⟨rfl, rfl⟩
       refine' DT.r rfl rfl rfl ?hq ?_
       case hq =>
         refine WO.p rfl rfl ?_
         exact WO.nil ⟨rfl, rfl⟩
       refine' DT.r rfl rfl rfl ?hq ?_
       case hq =>
         refine WO.rem rfl rfl (by first | omega | assumption) rfl ?_
         exact WO.nil ⟨rfl, rfl⟩
       refine' DT.r rfl rfl rfl ?hq ?_
       case hq =>
         refine WO.p rfl rfl ?_
         exact WO.nil ⟨rfl, rfl⟩
       refine DT.nil [] rfl ?_
       refine WO.p rfl rfl ?_
       refine WO.nil ?_
       refine' ⟨_, _, ?hp, ?hmu, ⟨rfl, rfl, trivial⟩, ?hS⟩
       case hS => repeat (first | exact Sub.nil | refine Sub.cons (by repeat (first | exact Pick.head | apply Pick.tail)) ?_)
       case hp => exact ⟨hy, (tmod_lt hx (by omega)).1, by rw [gcd2_step hx (by omega)]; exact hg⟩
       case hmu => have := tmod_lt hx (show 0 < y by omega); omega)
  · first
    | (exfalso; omega)
    | (refine W.exit (blk_same ?_)
       refine W.sreg ?_
       refine WO.p rfl rfl (WO.p rfl rfl ?_)
       refine WO.nil ?_
       refine W.ret ?_
       refine fin.ret (Res.one rfl (RV.tmp rfl)) ?_
       obtain rfl : y = 0 := by omega
       rw [← hg, gcd2_zero hx])
theorem c_divisor (w : World) (v : Value) (xs : List Int) (hR : RdF encI 1 w.heap.size w v xs) (hp : ∀ x ∈ xs, 0 ≤ x) :
    Ret Try.prog 59 [v].toArray w (.int .i64 (gcdL xs)) := by
  refine Ret.of mixed tyTab Try.func59 rfl rfl ?_
  replace hR : RdF encI 1 (fnCx mixed tyTab Try.f59.ntmps w).B (fnCx mixed tyTab Try.f59.ntmps w).w0 v xs := hR
  have hle := hR.sl.le
  refine W.sreg ?_
  refine WO.p rfl rfl ?_
  refine WO.nil ?_
  refine W.sreg ?_
  refine WO.p rfl rfl ?_
  refine WO.nil ?_
  refine W.seq ?_
  refine W.sreg ?_
  refine WO.p rfl rfl ?_
  refine' WO.len (n := _) rfl rfl ?hs rfl ?_
  case hs => (first | exact hR.sl)
  refine WO.p rfl rfl ?_
  refine WO.nil ?_
  refine W.block ?_
  refine W.loop2 (fun (i : Nat) (d : Int) => i ≤ xs.length ∧ 0 ≤ d ∧ d = (xs.take i).foldl gcd2 0)
    (fun (i : Nat) (d : Int) => [(8, .int .i64 (i : Int)), (7, .int .i64 (xs.length : Int)), (6, v), (3, .int .i64 d)])
    (fun (i : Nat) (d : Int) => [])
    (fun (i : Nat) (d : Int) => xs.length - i) 0 0
    (by exact ⟨by omega, by omega, rfl⟩) ⟨rfl, rfl, rfl, rfl, trivial⟩ (by repeat (first | exact Sub.nil | refine Sub.cons (by repeat (first | exact Pick.head | apply Pick.tail)) ?_)) ?_
  rintro i d ⟨hi, hd0, hd⟩
  refine W.sreg ?_
  refine WO.p rfl rfl ?_
  refine WO.nil ?_
  refine W.seq ?_
  refine W.cond_bl rfl (fun c1 => ?_) (fun c1 => ?_)
  · first
    | (exfalso; omega)
    | (refine W.skip ?_
       refine W.seq ?_
       refine W.block ?_
       refine W.sreg ?_
       refine' WO.indexAddr (n := _) (i := _) rfl rfl rfl ?hs ?h1 rfl ?_
       case hs => (first | exact hR.sl)
       case h1 => (first | omega | (simp; omega))
       refine' WO.load (v := _) rfl rfl ?hc rfl ?_
       case hc => (first | (refine hR.cell0 ?_ 0 ?_ <;> first | rfl | omega))
       refine WO.p rfl rfl ?_
       refine WO.nil ?_
       refine W.block ?_
       refine W.loop2 (fun (x : Int) (y : Int) => 0 ≤ x ∧ 0 ≤ y ∧ gcd2 x y = gcd2 d (xs.getD i 0))
         (fun (x : Int) (y : Int) => [(3, .int .i64 x), (5, .int .i64 y), (8, .int .i64 (i : Int)), (7, .int .i64 (xs.length : Int)), (6, v)])
         (fun (x : Int) (y : Int) => [])
         (fun (x : Int) (y : Int) => y.toNat) d (xs.getD i 0)
         (by exact ⟨hd0, hp _ (getD_mem (by omega) 0), rfl⟩) ⟨rfl, rfl, rfl, rfl, rfl, trivial⟩ (by repeat (first | exact Sub.nil | refine Sub.cons (by repeat (first | exact Pick.head | apply Pick.tail)) ?_)) ?_
       rintro x y ⟨hx, hy, hg⟩
       refine W.seq ?_
       refine W.sreg ?_
       refine WO.p rfl rfl (WO.p rfl rfl ?_)
       refine WO.nil ?_
       refine W.cond_bl rfl (fun c2 => ?_) (fun c2 => ?_)
       · first
         | (exfalso; omega)
         | (refine W.skip ?_
            refine W.block ?_
            refine W.drawD 5 [.r 0 [], .r 1 [], .r 2 [3], .r 3 [3], .r 4 [3]] [3] (A0 := []) (Sub.refl _) (by kernel_rfl) ?_ ?_
            · exact (ALok.r (ALok.r (ALok.r (ALok.r (ALok.r ALok.nil)))))
            refine' DT.r rfl rfl rfl ?hq ?_
            case hq =>
              refine WO.p rfl rfl ?_
              exact WO.nil ⟨rfl, rfl⟩
            refine' DT.r rfl rfl rfl ?hq ?_
            case hq =>
              refine WO.p rfl rfl ?_
              exact WO.nil ⟨rfl, rfl⟩
            refine' DT.r rfl rfl rfl ?hq ?_
            case hq =>
              refine WO.p rfl rfl ?_
              exact WO.nil ⟨rfl, rfl⟩
            refine' DT.r rfl rfl rfl ?hq ?_
            case hq =>
              refine WO.rem rfl rfl (by first | omega | assumption) rfl ?_
              exact WO.nil ⟨rfl, rfl⟩
            refine' DT.r rfl rfl rfl ?hq ?_
            case hq =>
              refine WO.p rfl rfl ?_
              exact WO.nil ⟨rfl, rfl⟩
            refine DT.nil [] rfl ?_
            refine WO.p rfl rfl ?_
            refine WO.nil ?_
            refine' ⟨_, _, ?hp, ?hmu, ⟨rfl, rfl, rfl, rfl, rfl, trivial⟩, ?hS⟩
            case hS => repeat (first | exact Sub.nil | refine Sub.cons (by repeat (first | exact Pick.head | apply Pick.tail)) ?_)
            case hp => exact ⟨hy, (tmod_lt hx (by omega)).1, by rw [gcd2_step hx (by omega)]; exact hg⟩
            case hmu => have := tmod_lt hx (show 0 < y by omega); omega)
       · first
         | (exfalso; omega)
         | (refine W.exit (blk_same ?_)
            refine W.region ?_
            refine WO.ar rfl rfl rfl (by (first | (unfold in64; omega) | (unfold in64; omega))) rfl (WO.p rfl rfl ?_)
            refine WO.nil ?_
            refine' ⟨i + 1, _, ?hp, ?hmu, ⟨rfl, rfl, rfl, rfl, trivial⟩, ?hS⟩
            case hS => repeat (first | exact Sub.nil | refine Sub.cons (by repeat (first | exact Pick.head | apply Pick.tail)) ?_)
            case hp => exact ⟨by omega, hx, by rw [take_succ_getD (by omega) 0, List.foldl_append, ← hd]; show x = gcd2 d (xs.getD i 0); rw [← hg, show y = 0 by omega, gcd2_zero hx]⟩
            case hmu => omega))
  · first
    | (exfalso; omega)
    | (refine W.exit (blk_same ?_)
       refine W.sreg ?_
       refine WO.p rfl rfl (WO.p rfl rfl ?_)
       refine WO.nil ?_
       refine W.ret ?_
       refine fin.ret (Res.one rfl (RV.tmp rfl)) ?_
       obtain rfl : i = xs.length := by omega
       rw [hd, List.take_length]; rfl)
theorem red_in {n d : Int} (h1 : ab n ≤ 9000000000000000000) (hd : 0 < d) (h2 : in64 d) : 0 < gcd2 (ab n) d ∧ in64 (n.tdiv (gcd2 (ab n) d)) ∧ in64 (d.tdiv (gcd2 (ab n) d)) ∧ in64 n ∧ in64 (-n) ∧ 0 ≤ ab n := by
  have hg := gcd2_pos (ab_nn n) hd
  have h3 := tdiv_ab (a := n) hg
  have h4 := tdiv_in (a := d) (b := gcd2 (ab n) d) (by omega) hg h2
  have h5 := ab_nn n
  refine ⟨hg, ?_, h4, ?_, ?_, h5⟩ <;> unfold in64 ab at * <;> omega
theorem ref_Fraction (w : World) (n d : Int) (h1 : ab n ≤ 9000000000000000000) (hd : 0 < d) (h2 : in64 d) :
    Ret Try.prog 42 [.int .i64 n, .int .i64 d].toArray w (.agg (encP (red n d)).toArray) := by
  refine Ret.of mixed tyTab Try.func42 rfl rfl ?_
  obtain ⟨hg, i1, i2, i3, i4, i5⟩ := red_in h1 hd h2
  refine W.sreg ?_
  refine WO.alloc rfl rfl rfl (fun b1 hb1 => ?_)
  refine WO.nil ?_
  refine W.sreg ?_
  refine WO.p rfl rfl (WO.p rfl rfl (WO.neg rfl (by (first | (unfold in64; omega) | assumption)) rfl ?_))
  refine WO.max2 rfl rfl rfl ?_
  refine WO.p rfl rfl ?_
  refine WO.callR rfl Try.call46 (fun L w hi => ref_common w (ab n) d i5 (by omega)) rfl ?_
  refine WO.p rfl rfl ?_
  refine WO.nil ?_
  refine W.seq ?_
  refine W.drawD 6 [.r 0 [], .r 1 [], .r 2 [], .r 3 [], .r 4 [], .r 5 []] [] (A0 := []) (Sub.refl _) (by kernel_rfl) ?_ ?_
  · exact (ALok.r (ALok.r (ALok.r (ALok.r (ALok.r (ALok.r ALok.nil))))))
  refine' DT.r rfl rfl rfl ?hq ?_
  case hq =>
    refine WO.p rfl rfl ?_
    exact WO.nil ⟨rfl, rfl⟩
  refine' DT.r rfl rfl rfl ?hq ?_
  case hq =>
    refine WO.p rfl rfl ?_
    exact WO.nil ⟨rfl, rfl⟩
  refine' DT.r rfl rfl rfl ?hq ?_
  case hq =>
    refine WO.quo rfl rfl (by first | omega | assumption) (by (first | (unfold in64; omega) | assumption)) rfl ?_
    exact WO.nil ⟨rfl, rfl⟩
  refine' DT.r rfl rfl rfl ?hq ?_
  case hq =>
    refine WO.p rfl rfl ?_
    exact WO.nil ⟨rfl, rfl⟩
  refine' DT.r rfl rfl rfl ?hq ?_
  case hq =>
    refine WO.p rfl rfl ?_
    exact WO.nil ⟨rfl, rfl⟩
  refine' DT.r rfl rfl rfl ?hq ?_
  case hq =>
    refine WO.quo rfl rfl (by first | omega | assumption) (by (first | (unfold in64; omega) | assumption)) rfl ?_
    exact WO.nil ⟨rfl, rfl⟩
  refine DT.nil [_] rfl ?_
  refine' WO.build (cs := _) rfl rfl rfl ?hf rfl ?_
  case hf => (conv => lhs; simp [-List.getD_eq_getElem?_getD, fillL, vcl, wrl, TTab.pl?.lget']) <;> rfl
  refine WO.storeA rfl rfl rfl rfl Pick.head rfl rfl ?_
  refine WO.nil ?_
  refine W.ret ?_
  exact fin.ret (Res.one rfl (RV.cell rfl rfl rfl (Cells.own Pick.head))) rfl
theorem c_fraction (w : World) (n d : Int) (h1 : ab n ≤ 9000000000000000000) (hd : 0 < d) (h2 : in64 d) :
    Ret Try.prog 70 [.int .i64 n, .int .i64 d].toArray w (.agg (encP (red n d)).toArray) := by
  refine Ret.of mixed tyTab Try.func70 rfl rfl ?_
  obtain ⟨hg, i1, i2, i3, i4, i5⟩ := red_in h1 hd h2
  have e : gcdL [ab n, d] = gcd2 (ab n) d := by unfold gcdL; simp only [List.foldl]; rw [gcd2_0 i5]
  refine W.sreg ?_
  refine WO.alloc rfl rfl rfl (fun b1 hb1 => ?_)
  refine WO.nil ?_
  refine W.sreg ?_
  refine WO.p rfl rfl (WO.p rfl rfl (WO.neg rfl (by (first | (unfold in64; omega) | assumption)) rfl ?_))
  refine WO.max2 rfl rfl rfl ?_
  refine WO.p rfl rfl ?_
  refine' WO.buildSl (cs := _) rfl rfl rfl rfl ?hf rfl rfl ?hl rfl (fun v2 => ?_)
  case hf => (conv => lhs; simp [-List.getD_eq_getElem?_getD, fillL, vcl, wrl, TTab.pl?.lget']) <;> rfl
  case hl => rfl
  refine WO.callR (r := .int .i64 (gcd2 (ab n) d)) rfl Try.call59 (fun L w hi => by have h := c_divisor w _ [ab n, d] (RdF.of_ow (e := 2) encI_ok (by repeat (first | exact Pick.head | apply Pick.tail)) hi) (by simp; omega); rw [e] at h; exact h) rfl ?_
  refine WO.p rfl rfl ?_
  refine WO.nil ?_
  refine W.seq ?_
  refine W.drawD 6 [.r 0 [], .r 1 [], .r 2 [], .r 3 [], .r 4 [], .r 5 []] [] (A0 := []) (Sub.refl _) (by kernel_rfl) ?_ ?_
  · exact (ALok.r (ALok.r (ALok.r (ALok.r (ALok.r (ALok.r ALok.nil))))))
  refine' DT.r rfl rfl rfl ?hq ?_
  case hq =>
    refine WO.p rfl rfl ?_
    exact WO.nil ⟨rfl, rfl⟩
  refine' DT.r rfl rfl rfl ?hq ?_
  case hq =>
    refine WO.p rfl rfl ?_
    exact WO.nil ⟨rfl, rfl⟩
  refine' DT.r rfl rfl rfl ?hq ?_
  case hq =>
    refine WO.quo rfl rfl (by first | omega | assumption) (by (first | (unfold in64; omega) | assumption)) rfl ?_
    exact WO.nil ⟨rfl, rfl⟩
  refine' DT.r rfl rfl rfl ?hq ?_
  case hq =>
    refine WO.p rfl rfl ?_
    exact WO.nil ⟨rfl, rfl⟩
  refine' DT.r rfl rfl rfl ?hq ?_
  case hq =>
    refine WO.p rfl rfl ?_
    exact WO.nil ⟨rfl, rfl⟩
  refine' DT.r rfl rfl rfl ?hq ?_
  case hq =>
    refine WO.quo rfl rfl (by first | omega | assumption) (by (first | (unfold in64; omega) | assumption)) rfl ?_
    exact WO.nil ⟨rfl, rfl⟩
  refine DT.nil [_, _] rfl ?_
  refine' WO.build (cs := _) rfl rfl rfl ?hf rfl ?_
  case hf => (conv => lhs; simp [-List.getD_eq_getElem?_getD, fillL, vcl, wrl, TTab.pl?.lget']) <;> rfl
  refine WO.storeA rfl rfl rfl rfl (Pick.tail (Pick.head)) rfl rfl ?_
  refine WO.nil ?_
  refine W.ret ?_
  exact fin.ret (Res.one rfl (RV.cell rfl rfl rfl (Cells.own Pick.head))) rfl
end Go.Proofs.Ytkiaepcklbidgaa
namespace Go.Proofs.Ytkiaepcklbidgaa
open Go Go.TH
attribute [local irreducible] W WO pt
set_option maxRecDepth 10000
set_option maxHeartbeats 1000000
theorem foldl_take {α β : Type} (f : β → α → β) {l : List α} {i : Nat} (h : i < l.length) (z : α) (b : β) : (l.take (i + 1)).foldl f b = f ((l.take i).foldl f b) (l.getD i z) := by
  rw [take_succ_getD h z, List.foldl_append]; rfl
/-- the least, and the greatest, of some numbers -/
def minL : List Int → Int
  | [] => 0
  | x :: r => r.foldl min x
def maxL : List Int → Int
  | [] => 0
  | x :: r => r.foldl max x
theorem minL_succ {xs : List Int} {i : Nat} (h : i < xs.length) (h1 : 1 ≤ i) : minL (xs.take (i + 1)) = min (minL (xs.take i)) (xs.getD i 0) := by
  cases xs with
  | nil => simp at h
  | cons x r =>
    obtain ⟨j, rfl⟩ : ∃ j, i = j + 1 := ⟨i - 1, by omega⟩
    simp only [List.take_succ_cons, minL]
    rw [foldl_take _ (by simpa using h) 0]; simp
theorem maxL_succ {xs : List Int} {i : Nat} (h : i < xs.length) (h1 : 1 ≤ i) : maxL (xs.take (i + 1)) = max (maxL (xs.take i)) (xs.getD i 0) := by
  cases xs with
  | nil => simp at h
  | cons x r =>
    obtain ⟨j, rfl⟩ : ∃ j, i = j + 1 := ⟨i - 1, by omega⟩
    simp only [List.take_succ_cons, maxL]
    rw [foldl_take _ (by simpa using h) 0]; simp
theorem minL_one {xs : List Int} (h : 0 < xs.length) : minL (xs.take 1) = xs.getD 0 0 := by
  cases xs with
  | nil => simp at h
  | cons x r => simp [minL]
theorem maxL_one {xs : List Int} (h : 0 < xs.length) : maxL (xs.take 1) = xs.getD 0 0 := by
  cases xs with
  | nil => simp at h
  | cons x r => simp [maxL]
theorem c_Min (w : World) (o : Value) (xs : List Int) (hR : RdF encI 1 w.heap.size w o xs) (hn : 0 < xs.length) : Ret Try.prog 68 [o].toArray w (.int .i64 (minL xs)) := by
  refine Ret.of mixed tyTab Try.func68 rfl rfl ?_
  replace hR : RdF encI 1 (fnCx mixed tyTab Try.f68.ntmps w).B (fnCx mixed tyTab Try.f68.ntmps w).w0 o xs := hR
  have hle := hR.sl.le
  refine W.sreg ?_
  refine WO.p rfl rfl ?_
  refine WO.nil ?_
  refine W.seq ?_
  refine W.sreg ?_
  refine WO.p rfl rfl ?_
  refine' WO.len (n := _) rfl rfl ?hs rfl ?_
  case hs => (first | exact hR.sl)
  refine WO.p rfl rfl ?_
  refine WO.nil ?_
  refine W.cond_bl rfl (fun c1 => ?_) (fun c1 => ?_)
  · first
    | (exfalso; omega)
    | (refine W.region ?_
       omega
       omega
       refine WO.nil ?_
       refine W.sreg ?_
       refine WO.p rfl rfl ?_
       refine' WO.indexAddr (n := _) (i := 0) rfl rfl rfl ?hs ?h1 rfl ?_
       case hs => (first | exact hR.sl)
       case h1 => (first | omega | (simp; omega))
       refine' WO.load (v := _) rfl rfl ?hc rfl ?_
       case hc => (first | (refine hR.cell0 ?_ 0 ?_ <;> first | rfl | omega))
       refine WO.p rfl rfl ?_
       refine WO.nil ?_
       refine W.seq ?_
       refine W.sreg ?_
       refine WO.p rfl rfl ?_
       refine WO.nil ?_
       refine W.block ?_
       refine W.loop2 (fun (i : Nat) (m : Int) => 1 ≤ i ∧ i ≤ xs.length ∧ m = minL (xs.take i))
         (fun (i : Nat) (m : Int) => [(4, .int .i64 (i : Int)), (3, .int .i64 m), (0, o)])
         (fun (i : Nat) (m : Int) => [])
         (fun (i : Nat) (m : Int) => xs.length - i) 1 (xs.getD 0 0)
         (by exact ⟨by omega, by omega, (minL_one hn).symm⟩) ⟨rfl, rfl, rfl, trivial⟩ (by repeat (first | exact Sub.nil | refine Sub.cons (by repeat (first | exact Pick.head | apply Pick.tail)) ?_)) ?_
       rintro i m ⟨h1, hi, em⟩
       refine W.seq ?_
       refine W.sreg ?_
       refine WO.p rfl rfl (WO.p rfl rfl ?_)
       refine' WO.len (n := _) rfl rfl ?hs rfl ?_
       case hs => (first | exact hR.sl)
       refine WO.p rfl rfl ?_
       refine WO.nil ?_
       refine W.cond_bl rfl (fun c2 => ?_) (fun c2 => ?_)
       · first
         | (exfalso; omega)
         | (refine W.skip ?_
            refine W.seq ?_
            refine W.block ?_
            refine W.region ?_
            refine WO.p rfl rfl (WO.p rfl rfl (WO.p rfl rfl ?_))
            refine' WO.indexAddr (n := _) (i := _) rfl rfl rfl ?hs ?h1 rfl ?_
            case hs => (first | exact hR.sl)
            case h1 => (first | omega | (simp; omega))
            refine' WO.load (v := _) rfl rfl ?hc rfl ?_
            case hc => (first | (refine hR.cell0 ?_ 0 ?_ <;> first | rfl | omega))
            refine WO.min2 rfl rfl rfl ?_
            refine WO.p rfl rfl ?_
            refine WO.nil ?_
            refine W.region ?_
            refine WO.p rfl rfl (WO.ar rfl rfl rfl (by (first | (unfold in64; omega))) rfl (WO.p rfl rfl ?_))
            refine WO.nil ?_
            refine' ⟨i + 1, _, ?hp, ?hmu, ⟨rfl, rfl, rfl, trivial⟩, ?hS⟩
            case hS => repeat (first | exact Sub.nil | refine Sub.cons (by repeat (first | exact Pick.head | apply Pick.tail)) ?_)
            case hp => exact ⟨by omega, by omega, by rw [minL_succ (by omega) h1, em]⟩
            case hmu => omega)
       · first
         | (exfalso; omega)
         | (refine W.exit (blk_same ?_)
            refine W.sreg ?_
            refine WO.p rfl rfl (WO.p rfl rfl ?_)
            refine WO.nil ?_
            refine W.ret ?_
            obtain rfl : i = xs.length := by omega
            refine fin.ret (Res.one rfl (RV.tmp rfl)) ?_
            rw [em, List.take_length]))
  · first
    | (exfalso; omega)
    | (refine W.skip ?_
       refine W.sreg ?_
       refine WO.p rfl rfl ?_
       refine' WO.indexAddr (n := _) (i := 0) rfl rfl rfl ?hs ?h1 rfl ?_
       case hs => (first | exact hR.sl)
       case h1 => (first | omega | (simp; omega))
       refine' WO.load (v := _) rfl rfl ?hc rfl ?_
       case hc => (first | (refine hR.cell0 ?_ 0 ?_ <;> first | rfl | omega))
       refine WO.p rfl rfl ?_
       refine WO.nil ?_
       refine W.seq ?_
       refine W.sreg ?_
       refine WO.p rfl rfl ?_
       refine WO.nil ?_
       refine W.block ?_
       refine W.loop2 (fun (i : Nat) (m : Int) => 1 ≤ i ∧ i ≤ xs.length ∧ m = minL (xs.take i))
         (fun (i : Nat) (m : Int) => [(4, .int .i64 (i : Int)), (3, .int .i64 m), (0, o)])
         (fun (i : Nat) (m : Int) => [])
         (fun (i : Nat) (m : Int) => xs.length - i) 1 (xs.getD 0 0)
         (by exact ⟨by omega, by omega, (minL_one hn).symm⟩) ⟨rfl, rfl, rfl, trivial⟩ (by repeat (first | exact Sub.nil | refine Sub.cons (by repeat (first | exact Pick.head | apply Pick.tail)) ?_)) ?_
       rintro i m ⟨h1, hi, em⟩
       refine W.seq ?_
       refine W.sreg ?_
       refine WO.p rfl rfl (WO.p rfl rfl ?_)
       refine' WO.len (n := _) rfl rfl ?hs rfl ?_
       case hs => (first | exact hR.sl)
       refine WO.p rfl rfl ?_
       refine WO.nil ?_
       refine W.cond_bl rfl (fun c3 => ?_) (fun c3 => ?_)
       · first
         | (exfalso; omega)
         | (refine W.skip ?_
            refine W.seq ?_
            refine W.block ?_
            refine W.region ?_
            refine WO.p rfl rfl (WO.p rfl rfl (WO.p rfl rfl ?_))
            refine' WO.indexAddr (n := _) (i := _) rfl rfl rfl ?hs ?h1 rfl ?_
            case hs => (first | exact hR.sl)
            case h1 => (first | omega | (simp; omega))
            refine' WO.load (v := _) rfl rfl ?hc rfl ?_
            case hc => (first | (refine hR.cell0 ?_ 0 ?_ <;> first | rfl | omega))
            refine WO.min2 rfl rfl rfl ?_
            refine WO.p rfl rfl ?_
            refine WO.nil ?_
            refine W.region ?_
            refine WO.p rfl rfl (WO.ar rfl rfl rfl (by (first | (unfold in64; omega))) rfl (WO.p rfl rfl ?_))
            refine WO.nil ?_
            refine' ⟨i + 1, _, ?hp, ?hmu, ⟨rfl, rfl, rfl, trivial⟩, ?hS⟩
            case hS => repeat (first | exact Sub.nil | refine Sub.cons (by repeat (first | exact Pick.head | apply Pick.tail)) ?_)
            case hp => exact ⟨by omega, by omega, by rw [minL_succ (by omega) h1, em]⟩
            case hmu => omega)
       · first
         | (exfalso; omega)
         | (refine W.exit (blk_same ?_)
            refine W.sreg ?_
            refine WO.p rfl rfl (WO.p rfl rfl ?_)
            refine WO.nil ?_
            refine W.ret ?_
            obtain rfl : i = xs.length := by omega
            refine fin.ret (Res.one rfl (RV.tmp rfl)) ?_
            rw [em, List.take_length]))
theorem c_Max (w : World) (o : Value) (xs : List Int) (hR : RdF encI 1 w.heap.size w o xs) (hn : 0 < xs.length) : Ret Try.prog 69 [o].toArray w (.int .i64 (maxL xs)) := by
  refine Ret.of mixed tyTab Try.func69 rfl rfl ?_
  replace hR : RdF encI 1 (fnCx mixed tyTab Try.f69.ntmps w).B (fnCx mixed tyTab Try.f69.ntmps w).w0 o xs := hR
  have hle := hR.sl.le
  refine W.sreg ?_
  refine WO.p rfl rfl ?_
  refine WO.nil ?_
  refine W.seq ?_
  refine W.sreg ?_
  refine WO.p rfl rfl ?_
  refine' WO.len (n := _) rfl rfl ?hs rfl ?_
  case hs => (first | exact hR.sl)
  refine WO.p rfl rfl ?_
  refine WO.nil ?_
  refine W.cond_bl rfl (fun c1 => ?_) (fun c1 => ?_)
  · first
    | (exfalso; omega)
    | (refine W.region ?_
       omega
       omega
       refine WO.nil ?_
       refine W.sreg ?_
       refine WO.p rfl rfl ?_
       refine' WO.indexAddr (n := _) (i := 0) rfl rfl rfl ?hs ?h1 rfl ?_
       case hs => (first | exact hR.sl)
       case h1 => (first | omega | (simp; omega))
       refine' WO.load (v := _) rfl rfl ?hc rfl ?_
       case hc => (first | (refine hR.cell0 ?_ 0 ?_ <;> first | rfl | omega))
       refine WO.p rfl rfl ?_
       refine WO.nil ?_
       refine W.seq ?_
       refine W.sreg ?_
       refine WO.p rfl rfl ?_
       refine WO.nil ?_
       refine W.block ?_
       refine W.loop2 (fun (i : Nat) (m : Int) => 1 ≤ i ∧ i ≤ xs.length ∧ m = maxL (xs.take i))
         (fun (i : Nat) (m : Int) => [(4, .int .i64 (i : Int)), (3, .int .i64 m), (0, o)])
         (fun (i : Nat) (m : Int) => [])
         (fun (i : Nat) (m : Int) => xs.length - i) 1 (xs.getD 0 0)
         (by exact ⟨by omega, by omega, (maxL_one hn).symm⟩) ⟨rfl, rfl, rfl, trivial⟩ (by repeat (first | exact Sub.nil | refine Sub.cons (by repeat (first | exact Pick.head | apply Pick.tail)) ?_)) ?_
       rintro i m ⟨h1, hi, em⟩
       refine W.seq ?_
       refine W.sreg ?_
       refine WO.p rfl rfl (WO.p rfl rfl ?_)
       refine' WO.len (n := _) rfl rfl ?hs rfl ?_
       case hs => (first | exact hR.sl)
       refine WO.p rfl rfl ?_
       refine WO.nil ?_
       refine W.cond_bl rfl (fun c2 => ?_) (fun c2 => ?_)
       · first
         | (exfalso; omega)
         | (refine W.skip ?_
            refine W.seq ?_
            refine W.block ?_
            refine W.region ?_
            refine WO.p rfl rfl (WO.p rfl rfl (WO.p rfl rfl ?_))
            refine' WO.indexAddr (n := _) (i := _) rfl rfl rfl ?hs ?h1 rfl ?_
            case hs => (first | exact hR.sl)
            case h1 => (first | omega | (simp; omega))
            refine' WO.load (v := _) rfl rfl ?hc rfl ?_
            case hc => (first | (refine hR.cell0 ?_ 0 ?_ <;> first | rfl | omega))
            refine WO.max2 rfl rfl rfl ?_
            refine WO.p rfl rfl ?_
            refine WO.nil ?_
            refine W.region ?_
            refine WO.p rfl rfl (WO.ar rfl rfl rfl (by (first | (unfold in64; omega))) rfl (WO.p rfl rfl ?_))
            refine WO.nil ?_
            refine' ⟨i + 1, _, ?hp, ?hmu, ⟨rfl, rfl, rfl, trivial⟩, ?hS⟩
            case hS => repeat (first | exact Sub.nil | refine Sub.cons (by repeat (first | exact Pick.head | apply Pick.tail)) ?_)
            case hp => exact ⟨by omega, by omega, by rw [maxL_succ (by omega) h1, em]⟩
            case hmu => omega)
       · first
         | (exfalso; omega)
         | (refine W.exit (blk_same ?_)
            refine W.sreg ?_
            refine WO.p rfl rfl (WO.p rfl rfl ?_)
            refine WO.nil ?_
            refine W.ret ?_
            obtain rfl : i = xs.length := by omega
            refine fin.ret (Res.one rfl (RV.tmp rfl)) ?_
            rw [em, List.take_length]))
  · first
    | (exfalso; omega)
    | (refine W.skip ?_
       refine W.sreg ?_
       refine WO.p rfl rfl ?_
       refine' WO.indexAddr (n := _) (i := 0) rfl rfl rfl ?hs ?h1 rfl ?_
       case hs => (first | exact hR.sl)
       case h1 => (first | omega | (simp; omega))
       refine' WO.load (v := _) rfl rfl ?hc rfl ?_
       case hc => (first | (refine hR.cell0 ?_ 0 ?_ <;> first | rfl | omega))
       refine WO.p rfl rfl ?_
       refine WO.nil ?_
       refine W.seq ?_
       refine W.sreg ?_
       refine WO.p rfl rfl ?_
       refine WO.nil ?_
       refine W.block ?_
       refine W.loop2 (fun (i : Nat) (m : Int) => 1 ≤ i ∧ i ≤ xs.length ∧ m = maxL (xs.take i))
         (fun (i : Nat) (m : Int) => [(4, .int .i64 (i : Int)), (3, .int .i64 m), (0, o)])
         (fun (i : Nat) (m : Int) => [])
         (fun (i : Nat) (m : Int) => xs.length - i) 1 (xs.getD 0 0)
         (by exact ⟨by omega, by omega, (maxL_one hn).symm⟩) ⟨rfl, rfl, rfl, trivial⟩ (by repeat (first | exact Sub.nil | refine Sub.cons (by repeat (first | exact Pick.head | apply Pick.tail)) ?_)) ?_
       rintro i m ⟨h1, hi, em⟩
       refine W.seq ?_
       refine W.sreg ?_
       refine WO.p rfl rfl (WO.p rfl rfl ?_)
       refine' WO.len (n := _) rfl rfl ?hs rfl ?_
       case hs => (first | exact hR.sl)
       refine WO.p rfl rfl ?_
       refine WO.nil ?_
       refine W.cond_bl rfl (fun c3 => ?_) (fun c3 => ?_)
       · first
         | (exfalso; omega)
         | (refine W.skip ?_
            refine W.seq ?_
            refine W.block ?_
            refine W.region ?_
            refine WO.p rfl rfl (WO.p rfl rfl (WO.p rfl rfl ?_))
            refine' WO.indexAddr (n := _) (i := _) rfl rfl rfl ?hs ?h1 rfl ?_
            case hs => (first | exact hR.sl)
            case h1 => (first | omega | (simp; omega))
            refine' WO.load (v := _) rfl rfl ?hc rfl ?_
            case hc => (first | (refine hR.cell0 ?_ 0 ?_ <;> first | rfl | omega))
            refine WO.max2 rfl rfl rfl ?_
            refine WO.p rfl rfl ?_
            refine WO.nil ?_
            refine W.region ?_
            refine WO.p rfl rfl (WO.ar rfl rfl rfl (by (first | (unfold in64; omega))) rfl (WO.p rfl rfl ?_))
            refine WO.nil ?_
            refine' ⟨i + 1, _, ?hp, ?hmu, ⟨rfl, rfl, rfl, trivial⟩, ?hS⟩
            case hS => repeat (first | exact Sub.nil | refine Sub.cons (by repeat (first | exact Pick.head | apply Pick.tail)) ?_)
            case hp => exact ⟨by omega, by omega, by rw [maxL_succ (by omega) h1, em]⟩
            case hmu => omega)
       · first
         | (exfalso; omega)
         | (refine W.exit (blk_same ?_)
            refine W.sreg ?_
            refine WO.p rfl rfl (WO.p rfl rfl ?_)
            refine WO.nil ?_
            refine W.ret ?_
            obtain rfl : i = xs.length := by omega
            refine fin.ret (Res.one rfl (RV.tmp rfl)) ?_
            rw [em, List.take_length]))
/-- are all from one to another one? -/
def btw (lo hi : Int) (xs : List Int) : Bool := bl (lo ≤ minL xs) && bl (maxL xs ≤ hi)
theorem c_within (w : World) (lo hi : Int) (o : Value) (xs : List Int) (hR : RdF encI 1 w.heap.size w o xs) (hn : 0 < xs.length) : Ret Try.prog 51 [.int .i64 lo, .int .i64 hi, o].toArray w (.bool (btw lo hi xs)) := by
  refine Ret.of mixed tyTab Try.func51 rfl rfl ?_
  replace hR : RdF encI 1 (fnCx mixed tyTab Try.f51.ntmps w).B (fnCx mixed tyTab Try.f51.ntmps w).w0 o xs := hR
  refine W.sreg ?_
  refine WO.p rfl rfl ?_
  refine WO.nil ?_
  refine W.sreg ?_
  refine WO.p rfl rfl ?_
  refine WO.callR rfl Try.call68 (fun L w hi => c_Min w o xs (hR.later hi) hn) rfl ?_
  refine WO.p rfl rfl (WO.p rfl rfl (WO.p rfl rfl ?_))
  refine WO.guard_bl rfl rfl (fun c1 => ?_) (fun c1 => ?_)
  · first
    | (exfalso; omega)
    | (refine WO.pg rfl rfl rfl (WO.go' rfl ?_)
       refine WO.callR rfl Try.call69 (fun L w hi => c_Max w o xs (hR.later hi) hn) rfl ?_
       refine WO.pg rfl rfl rfl (WO.pg rfl rfl rfl (WO.p rfl rfl (WO.p rfl rfl ?_)))
       refine WO.nil ?_
       refine W.ret ?_
       refine fin.ret (Res.one rfl (RV.tmp rfl)) ?_
       refine congrArg Value.bool ?_
       first | (simp_all [btw, bl_eq]; done) | (simp_all [btw, bl_eq]; omega))
  · first
    | (exfalso; omega)
    | (refine WO.no rfl rfl (WO.no rfl rfl (WO.no rfl rfl (WO.no rfl rfl (WO.p rfl rfl (WO.p rfl rfl ?_)))))
       refine WO.nil ?_
       refine W.ret ?_
       refine fin.ret (Res.one rfl (RV.tmp rfl)) ?_
       refine congrArg Value.bool ?_
       first | (simp_all [btw, bl_eq]; done) | (simp_all [btw, bl_eq]; omega))
theorem btw1 (lo hi x : Int) : btw lo hi [x] = bl (lo ≤ x ∧ x ≤ hi) := by
  unfold btw; rw [bl_eq, bl_eq, bl_eq]
  show (decide (lo ≤ x) && decide (x ≤ hi)) = _
  simp
theorem btw2 (lo hi x y : Int) : btw lo hi [x, y] = bl (lo ≤ x ∧ x ≤ hi ∧ lo ≤ y ∧ y ≤ hi) := by
  unfold btw; rw [bl_eq, bl_eq, bl_eq]
  show (decide (lo ≤ min x y) && decide (max x y ≤ hi)) = _
  rw [← Bool.decide_and, decide_eq_decide]
  omega
/-- a run: its minute, and its least and its greatest speed over the ground -/
def encR (r : Int × Int × Int) : List Value := [.int .i64 r.1, .int .i64 r.2.1, .int .i64 r.2.2]
theorem encR_ok : EncOk encR 3 := ⟨fun _ => rfl, fun x u hu => by simp [encR] at hu; rcases hu with rfl | rfl | rfl <;> rfl, by omega⟩
def r0 : Int × Int × Int := (0, 0, 0)
def prevAt (rs : List (Int × Int × Int)) (i : Nat) : Int := if i = 0 then -1 else (rs.getD (i - 1) r0).1
def goodR (p : Int) (r : Int × Int × Int) : Prop := p + 1 ≤ r.1 ∧ r.1 ≤ 60 ∧ 0 ≤ r.2.1 ∧ r.2.1 ≤ r.2.2 ∧ r.2.2 ≤ 20000
instance (p : Int) (r : Int × Int × Int) : Decidable (goodR p r) := by unfold goodR; infer_instance
def goodTo (rs : List (Int × Int × Int)) (n : Nat) : Prop := ∀ i, i < n → goodR (prevAt rs i) (rs.getD i r0)
instance (rs : List (Int × Int × Int)) (n : Nat) : Decidable (goodTo rs n) := by unfold goodTo; infer_instance
/-- what CheckTest answers -/
def chkT (m : Int) (rs : List (Int × Int × Int)) : Int := if rs.length < 2 ∨ 5 < rs.length then 6 else if m < 0 ∨ 2 < m then 2 else if goodTo rs rs.length then 0 else 2
theorem prev_in {rs : List (Int × Int × Int)} {i : Nat} (h : goodTo rs i) : -1 ≤ prevAt rs i ∧ prevAt rs i ≤ 60 := by
  induction i with
  | zero => simp [prevAt]
  | succ i ih =>
    have h1 := h i (by omega)
    have h2 := ih (fun j hj => h j (by omega))
    unfold prevAt
    rw [if_neg (by omega), Nat.add_sub_cancel]
    unfold goodR at h1
    omega
theorem goodTo_succ {rs : List (Int × Int × Int)} {i : Nat} (h : goodTo rs i) (h2 : goodR (prevAt rs i) (rs.getD i r0)) : goodTo rs (i + 1) := by
  intro j hj
  by_cases e : j = i
  · subst e; exact h2
  · exact h j (by omega)
theorem chkT_bad {m : Int} {rs : List (Int × Int × Int)} {i : Nat} (h1 : 2 ≤ rs.length ∧ rs.length ≤ 5) (h2 : 0 ≤ m ∧ m ≤ 2) (hi : i < rs.length) (h : ¬ goodR (prevAt rs i) (rs.getD i r0)) : 2 = chkT m rs := by
  unfold chkT; rw [if_neg (by omega), if_neg (by omega), if_neg (fun hg => h (hg i hi))]
theorem chkT_good {m : Int} {rs : List (Int × Int × Int)} {i : Nat} (h1 : 2 ≤ rs.length ∧ rs.length ≤ 5) (h2 : 0 ≤ m ∧ m ≤ 2) (hi : rs.length ≤ i) (h : goodTo rs i) : 0 = chkT m rs := by
  have h' : goodTo rs rs.length := fun j hj => h j (by omega)
  unfold chkT; rw [if_neg (by omega), if_neg (by omega), if_pos h']
theorem c_CheckTest (w : World) (m : Int) (o : Value) (rs : List (Int × Int × Int)) (hR : RdF encR 3 w.heap.size w o rs) : Ret Try.prog 19 [.agg #[.int .i64 m, o]].toArray w (.int .i64 (chkT m rs)) := by
  refine Ret.of mixed tyTab Try.func19 rfl rfl ?_
  replace hR : RdF encR 3 (fnCx mixed tyTab Try.f19.ntmps w).B (fnCx mixed tyTab Try.f19.ntmps w).w0 o rs := hR
  have hle := hR.sl.le
  have ho := hR.sl.oc
  refine W.sreg ?_
  refine WO.boxA rfl rfl (fun b1 hb1 => ?_)
  refine WO.p rfl rfl ?_
  refine WO.nil ?_
  refine W.seq ?_
  refine W.block ?_
  refine W.sreg ?_
  refine WO.fieldL rfl rfl rfl (WO.load rfl rfl (Cell.own Pick.head rfl) rfl ?_)
  refine' WO.len (n := _) rfl rfl ?hs rfl ?_
  case hs => (first | exact hR.sl)
  refine WO.p rfl rfl (WO.p rfl rfl ?_)
  refine WO.guard_bl rfl rfl (fun c1 => ?_) (fun c1 => ?_)
  · first
    | (exfalso; omega)
    | (refine WO.no rfl rfl (WO.no rfl rfl (WO.no rfl rfl (WO.no rfl rfl (WO.p rfl rfl (WO.p rfl rfl ?_)))))
       refine WO.nil ?_
       refine W.cond_t rfl ?_
       refine W.sreg ?_
       refine WO.p rfl rfl ?_
       refine WO.nil ?_
       refine W.ret ?_
       refine fin.ret (Res.one rfl (RV.tmp rfl)) ?_
       refine congrArg (Value.int .i64) ?_
       first | (unfold chkT; first | rw [if_pos (by omega)] | (rw [if_neg (by omega), if_pos (by omega)]); done) | exact chkT_bad (i := i) (by omega) (by omega) (by omega) (by unfold goodR; omega) | exact chkT_good (by omega) (by omega) (by omega) hg)
  · first
    | (exfalso; omega)
    | (refine WO.go' rfl (WO.fieldL rfl rfl rfl (WO.go' rfl (WO.load rfl rfl (Cell.own Pick.head rfl) rfl (WO.go' rfl ?_))))
       refine' WO.len (n := _) rfl rfl ?hs rfl ?_
       case hs => (first | exact hR.sl)
       refine WO.pg rfl rfl rfl (WO.p rfl rfl (WO.p rfl rfl ?_))
       refine WO.nil ?_
       refine W.cond_bl rfl (fun c2 => ?_) (fun c2 => ?_)
       · first
         | (exfalso; omega)
         | (refine W.sreg ?_
            refine WO.p rfl rfl ?_
            refine WO.nil ?_
            refine W.ret ?_
            refine fin.ret (Res.one rfl (RV.tmp rfl)) ?_
            refine congrArg (Value.int .i64) ?_
            first | (unfold chkT; first | rw [if_pos (by omega)] | (rw [if_neg (by omega), if_pos (by omega)]); done) | exact chkT_bad (i := i) (by omega) (by omega) (by omega) (by unfold goodR; omega) | exact chkT_good (by omega) (by omega) (by omega) hg)
       · first
         | (exfalso; omega)
         | (refine W.sreg ?_
            refine WO.field0 rfl rfl rfl (WO.load rfl rfl (Cell.own Pick.head rfl) rfl (WO.p rfl rfl (WO.p rfl rfl ?_)))
            refine WO.guard_bl rfl rfl (fun c3 => ?_) (fun c3 => ?_)
            · first
              | (exfalso; omega)
              | (refine WO.no rfl rfl (WO.no rfl rfl (WO.no rfl rfl (WO.p rfl rfl (WO.p rfl rfl ?_))))
                 refine WO.nil ?_
                 refine W.cond_t rfl ?_
                 refine W.sreg ?_
                 refine WO.p rfl rfl ?_
                 refine WO.nil ?_
                 refine W.ret ?_
                 refine fin.ret (Res.one rfl (RV.tmp rfl)) ?_
                 refine congrArg (Value.int .i64) ?_
                 first | (unfold chkT; first | rw [if_pos (by omega)] | (rw [if_neg (by omega), if_pos (by omega)]); done) | exact chkT_bad (i := i) (by omega) (by omega) (by omega) (by unfold goodR; omega) | exact chkT_good (by omega) (by omega) (by omega) hg)
            · first
              | (exfalso; omega)
              | (refine WO.go' rfl (WO.field0 rfl rfl rfl (WO.go' rfl (WO.load rfl rfl (Cell.own Pick.head rfl) rfl (WO.pg rfl rfl rfl (WO.p rfl rfl (WO.p rfl rfl ?_))))))
                 refine WO.nil ?_
                 refine W.cond_bl rfl (fun c4 => ?_) (fun c4 => ?_)
                 · first
                   | (exfalso; omega)
                   | (refine W.sreg ?_
                      refine WO.p rfl rfl ?_
                      refine WO.nil ?_
                      refine W.ret ?_
                      refine fin.ret (Res.one rfl (RV.tmp rfl)) ?_
                      refine congrArg (Value.int .i64) ?_
                      first | (unfold chkT; first | rw [if_pos (by omega)] | (rw [if_neg (by omega), if_pos (by omega)]); done) | exact chkT_bad (i := i) (by omega) (by omega) (by omega) (by unfold goodR; omega) | exact chkT_good (by omega) (by omega) (by omega) hg)
                 · first
                   | (exfalso; omega)
                   | (refine W.skip ?_
                      refine W.sreg ?_
                      refine WO.p rfl rfl ?_
                      refine WO.nil ?_
                      refine W.seq ?_
                      refine W.sreg ?_
                      refine WO.fieldL rfl rfl rfl (WO.load rfl rfl (Cell.own Pick.head rfl) rfl ?_)
                      refine' WO.len (n := _) rfl rfl ?hs rfl ?_
                      case hs => (first | exact hR.sl)
                      refine WO.p rfl rfl ?_
                      refine WO.nil ?_
                      refine W.block ?_
                      refine W.loop2 (fun (i : Nat) (last : Int) => i ≤ rs.length ∧ last = prevAt rs i ∧ goodTo rs i)
                        (fun (i : Nat) (last : Int) => [(29, .int .i64 (i : Int)), (28, .int .i64 (rs.length : Int)), (27, o), (3, .int .i64 last)])
                        (fun (i : Nat) (last : Int) => [])
                        (fun (i : Nat) (last : Int) => rs.length - i) 0 (-1)
                        (by exact ⟨by omega, rfl, fun j hj => by omega⟩) ⟨rfl, rfl, rfl, rfl, trivial⟩ (by repeat (first | exact Sub.nil | refine Sub.cons (by repeat (first | exact Pick.head | apply Pick.tail)) ?_)) ?_
                      rintro i last ⟨hi, hl, hg⟩
                      refine W.sreg ?_
                      refine WO.p rfl rfl ?_
                      refine WO.nil ?_
                      refine W.seq ?_
                      refine W.cond_bl rfl (fun c5 => ?_) (fun c5 => ?_)
                      · first
                        | (exfalso; omega)
                        | (refine W.skip ?_
                           refine W.seq ?_
                           refine W.block ?_
                           refine W.sreg ?_
                           refine' WO.indexAddr (n := _) (i := _) rfl rfl rfl ?hs ?h1 rfl ?_
                           case hs => (first | exact hR.sl)
                           case h1 => (first | omega | (simp; omega))
                           refine' WO.loadA (vs := _) rfl rfl ?hc ?hl rfl ?_
                           case hc => (first | (refine hR.cells ?_ r0; omega))
                           case hl => rfl
                           refine WO.alloc rfl rfl rfl (fun b2 hb2 => ?_)
                           refine WO.storeA rfl rfl rfl rfl Pick.head rfl rfl ?_
                           refine WO.nil ?_
                           refine W.seq ?_
                           have hpi := prev_in hg
                           refine W.sreg ?_
                           refine WO.p rfl rfl (WO.ar rfl rfl rfl (by (first | (unfold in64; omega) | (unfold in64; omega))) rfl (WO.field0 rfl rfl rfl (WO.load rfl rfl (Cell.own Pick.head rfl) rfl ?_)))
                           refine' WO.buildSl (cs := _) rfl rfl rfl rfl ?hf rfl rfl ?hl rfl (fun v3 => ?_)
                           case hf => (conv => lhs; simp [-List.getD_eq_getElem?_getD, fillL, vcl, wrl, TTab.pl?.lget']) <;> rfl
                           case hl => rfl
                           refine WO.callR (r := .bool (bl (last + 1 ≤ (rs.getD i r0).1 ∧ (rs.getD i r0).1 ≤ 60))) rfl Try.call51 (fun L w hi => by rw [← btw1]; exact c_within w _ _ _ [(rs.getD i r0).1] (RdF.of_ow (e := 2) encI_ok (by repeat (first | exact Pick.head | apply Pick.tail)) hi) (by simp)) rfl ?_
                           refine WO.p rfl rfl (WO.p rfl rfl ?_)
                           refine WO.guard_nbl rfl rfl (fun c6 => ?_) (fun c6 => ?_)
                           · first
                             | (exfalso; omega)
                             | (refine WO.no rfl rfl (WO.no rfl rfl (WO.no rfl rfl (WO.no rfl rfl (WO.no rfl rfl (WO.no rfl rfl (WO.no rfl rfl (WO.no rfl rfl (WO.no rfl rfl (WO.p rfl rfl (WO.p rfl rfl (WO.no rfl rfl ?_)))))))))))
                                refine WO.no rfl rfl (WO.no rfl rfl (WO.no rfl rfl (WO.no rfl rfl (WO.no rfl rfl (WO.no rfl rfl (WO.p rfl rfl ?_))))))
                                refine WO.nil ?_
                                refine W.cond_t rfl ?_
                                refine W.sreg ?_
                                refine WO.p rfl rfl ?_
                                refine WO.nil ?_
                                refine W.ret ?_
                                refine fin.ret (Res.one rfl (RV.tmp rfl)) ?_
                                refine congrArg (Value.int .i64) ?_
                                first | (unfold chkT; first | rw [if_pos (by omega)] | (rw [if_neg (by omega), if_pos (by omega)]); done) | exact chkT_bad (i := i) (by omega) (by omega) (by omega) (by unfold goodR; omega) | exact chkT_good (by omega) (by omega) (by omega) hg)
                           · first
                             | (exfalso; omega)
                             | (refine WO.go' rfl (WO.fieldL rfl rfl rfl (WO.go' rfl (WO.field0 rfl rfl rfl (WO.go' rfl (WO.load rfl rfl (Cell.own (Pick.tail (Pick.head)) rfl) rfl (WO.go' rfl (WO.fieldL rfl rfl rfl (WO.go' rfl (WO.fieldL rfl rfl rfl (WO.go' rfl (WO.load rfl rfl (Cell.own (Pick.tail (Pick.head)) rfl) rfl ?_)))))))))))
                                refine WO.go' rfl ?_
                                refine' WO.buildSl (cs := _) rfl rfl rfl rfl ?hf rfl rfl ?hl rfl (fun v4 => ?_)
                                case hf => (conv => lhs; simp [-List.getD_eq_getElem?_getD, fillL, vcl, wrl, TTab.pl?.lget']) <;> rfl
                                case hl => rfl
                                refine WO.go' rfl ?_
                                refine WO.callR (r := .bool (bl (0 ≤ (rs.getD i r0).2.1 ∧ (rs.getD i r0).2.1 ≤ 20000 ∧ 0 ≤ (rs.getD i r0).2.2 ∧ (rs.getD i r0).2.2 ≤ 20000))) rfl Try.call51 (fun L w hi => by rw [← btw2]; exact c_within w _ _ _ [(rs.getD i r0).2.1, (rs.getD i r0).2.2] (RdF.of_ow (e := 2) encI_ok (by repeat (first | exact Pick.head | apply Pick.tail)) hi) (by simp)) rfl ?_
                                refine WO.pg rfl rfl rfl (WO.p rfl rfl (WO.p rfl rfl ?_))
                                refine WO.guard_nbl rfl rfl (fun c7 => ?_) (fun c7 => ?_)
                                · first
                                  | (exfalso; omega)
                                  | (refine WO.no rfl rfl (WO.no rfl rfl (WO.no rfl rfl (WO.no rfl rfl (WO.no rfl rfl (WO.no rfl rfl (WO.no rfl rfl (WO.p rfl rfl ?_)))))))
                                     refine WO.nil ?_
                                     refine W.cond_t rfl ?_
                                     refine W.sreg ?_
                                     refine WO.p rfl rfl ?_
                                     refine WO.nil ?_
                                     refine W.ret ?_
                                     refine fin.ret (Res.one rfl (RV.tmp rfl)) ?_
                                     refine congrArg (Value.int .i64) ?_
                                     first | (unfold chkT; first | rw [if_pos (by omega)] | (rw [if_neg (by omega), if_pos (by omega)]); done) | exact chkT_bad (i := i) (by omega) (by omega) (by omega) (by unfold goodR; omega) | exact chkT_good (by omega) (by omega) (by omega) hg)
                                · first
                                  | (exfalso; omega)
                                  | (refine WO.go' rfl (WO.fieldL rfl rfl rfl (WO.go' rfl (WO.field0 rfl rfl rfl (WO.go' rfl (WO.load rfl rfl (Cell.own (Pick.tail (Pick.tail (Pick.head))) rfl) rfl (WO.go' rfl (WO.fieldL rfl rfl rfl (WO.go' rfl (WO.fieldL rfl rfl rfl (WO.go' rfl (WO.load rfl rfl (Cell.own (Pick.tail (Pick.tail (Pick.head))) rfl) rfl ?_)))))))))))
                                     refine WO.pg rfl rfl rfl (WO.p rfl rfl ?_)
                                     refine WO.nil ?_
                                     refine W.cond_bl rfl (fun c8 => ?_) (fun c8 => ?_)
                                     · first
                                       | (exfalso; omega)
                                       | (refine W.sreg ?_
                                          refine WO.p rfl rfl ?_
                                          refine WO.nil ?_
                                          refine W.ret ?_
                                          refine fin.ret (Res.one rfl (RV.tmp rfl)) ?_
                                          refine congrArg (Value.int .i64) ?_
                                          first | (unfold chkT; first | rw [if_pos (by omega)] | (rw [if_neg (by omega), if_pos (by omega)]); done) | exact chkT_bad (i := i) (by omega) (by omega) (by omega) (by unfold goodR; omega) | exact chkT_good (by omega) (by omega) (by omega) hg)
                                     · first
                                       | (exfalso; omega)
                                       | (refine W.skip ?_
                                          refine W.region ?_
                                          refine WO.field0 rfl rfl rfl (WO.load rfl rfl (Cell.own (Pick.tail (Pick.tail (Pick.head))) rfl) rfl (WO.p rfl rfl ?_))
                                          refine WO.nil ?_
                                          refine W.region ?_
                                          refine WO.ar rfl rfl rfl (by (first | (unfold in64; omega) | (unfold in64; omega))) rfl (WO.p rfl rfl ?_)
                                          refine WO.nil ?_
                                          refine' ⟨i + 1, _, ?hp, ?hmu, ⟨rfl, rfl, rfl, rfl, trivial⟩, ?hS⟩
                                          case hS => repeat (first | exact Sub.nil | refine Sub.cons (by repeat (first | exact Pick.head | apply Pick.tail)) ?_)
                                          case hp => exact ⟨by omega, by unfold prevAt; rw [if_neg (by omega), Nat.add_sub_cancel], goodTo_succ hg (by unfold goodR; omega)⟩
                                          case hmu => omega))))
                      · first
                        | (exfalso; omega)
                        | (refine W.exit (blk_same ?_)
                           refine W.sreg ?_
                           refine WO.p rfl rfl ?_
                           refine WO.nil ?_
                           refine W.ret ?_
                           refine fin.ret (Res.one rfl (RV.tmp rfl)) ?_
                           refine congrArg (Value.int .i64) ?_
                           first | (unfold chkT; first | rw [if_pos (by omega)] | (rw [if_neg (by omega), if_pos (by omega)]); done) | exact chkT_bad (i := i) (by omega) (by omega) (by omega) (by unfold goodR; omega) | exact chkT_good (by omega) (by omega) (by omega) hg)))))
theorem ref_between (w : World) (n lo hi : Int) : Ret Try.prog 52 [.int .i64 n, .int .i64 lo, .int .i64 hi].toArray w (.bool (bl (lo ≤ n ∧ n ≤ hi))) := by
  refine Ret.of mixed tyTab Try.func52 rfl rfl ?_
  refine W.sreg ?_
  refine WO.p rfl rfl ?_
  refine WO.nil ?_
  refine W.sreg ?_
  refine WO.p rfl rfl (WO.p rfl rfl (WO.p rfl rfl (WO.p rfl rfl ?_)))
  refine WO.guard_bl rfl rfl (fun c1 => ?_) (fun c1 => ?_)
  · first
    | (exfalso; omega)
    | (refine WO.pg rfl rfl rfl (WO.pg rfl rfl rfl (WO.pg rfl rfl rfl (WO.p rfl rfl (WO.p rfl rfl ?_))))
       refine WO.nil ?_
       refine W.ret ?_
       refine fin.ret (Res.one rfl (RV.tmp rfl)) ?_
       refine congrArg Value.bool ?_
       first | (simp_all [bl_eq]; done) | (simp_all [bl_eq]; omega))
  · first
    | (exfalso; omega)
    | (refine WO.no rfl rfl (WO.no rfl rfl (WO.no rfl rfl (WO.p rfl rfl (WO.p rfl rfl ?_))))
       refine WO.nil ?_
       refine W.ret ?_
       refine fin.ret (Res.one rfl (RV.tmp rfl)) ?_
       refine congrArg Value.bool ?_
       first | (simp_all [bl_eq]; done) | (simp_all [bl_eq]; omega))
theorem prevAt_pos {rs : List (Int × Int × Int)} {i : Nat} (h : 0 < i) : prevAt rs i = (rs.getD (i - 1) r0).1 := by unfold prevAt; rw [if_neg (by omega)]
theorem prevAt_0 {rs : List (Int × Int × Int)} {i : Nat} (h : ¬ 0 < i) : prevAt rs i = -1 := by unfold prevAt; rw [if_pos (by omega)]
theorem ref_CheckTest (w : World) (m : Int) (o : Value) (rs : List (Int × Int × Int)) (hR : RdF encR 3 w.heap.size w o rs) : Ret Try.prog 20 [.agg #[.int .i64 m, o]].toArray w (.int .i64 (chkT m rs)) := by
  refine Ret.of mixed tyTab Try.func20 rfl rfl ?_
  replace hR : RdF encR 3 (fnCx mixed tyTab Try.f20.ntmps w).B (fnCx mixed tyTab Try.f20.ntmps w).w0 o rs := hR
  have hle := hR.sl.le
  have ho := hR.sl.oc
  refine W.sreg ?_
  refine WO.boxA rfl rfl (fun b1 hb1 => ?_)
  refine WO.p rfl rfl ?_
  refine WO.nil ?_
  refine W.seq ?_
  refine W.sreg ?_
  refine WO.fieldL rfl rfl rfl (WO.load rfl rfl (Cell.own Pick.head rfl) rfl ?_)
  refine' WO.len (n := _) rfl rfl ?hs rfl ?_
  case hs => (first | exact hR.sl)
  refine WO.p rfl rfl (WO.p rfl rfl ?_)
  refine WO.guard_bl rfl rfl (fun c1 => ?_) (fun c1 => ?_)
  · first
    | (exfalso; omega)
    | (refine WO.no rfl rfl (WO.no rfl rfl (WO.no rfl rfl (WO.no rfl rfl (WO.p rfl rfl ?_))))
       refine WO.nil ?_
       refine W.cond_t rfl ?_
       refine W.sreg ?_
       refine WO.p rfl rfl ?_
       refine WO.nil ?_
       refine W.ret ?_
       refine fin.ret (Res.one rfl (RV.tmp rfl)) ?_
       refine congrArg (Value.int .i64) ?_
       first | (unfold chkT; first | rw [if_pos (by omega)] | (rw [if_neg (by omega), if_pos (by omega)]); done) | exact chkT_bad (i := i) (by omega) (by omega) (by omega) (by unfold goodR; omega) | exact chkT_good (by omega) (by omega) (by omega) hg)
  · first
    | (exfalso; omega)
    | (refine WO.go' rfl (WO.fieldL rfl rfl rfl (WO.go' rfl (WO.load rfl rfl (Cell.own Pick.head rfl) rfl (WO.go' rfl ?_))))
       refine' WO.len (n := _) rfl rfl ?hs rfl ?_
       case hs => (first | exact hR.sl)
       refine WO.pg rfl rfl rfl (WO.p rfl rfl ?_)
       refine WO.nil ?_
       refine W.cond_bl rfl (fun c2 => ?_) (fun c2 => ?_)
       · first
         | (exfalso; omega)
         | (refine W.sreg ?_
            refine WO.p rfl rfl ?_
            refine WO.nil ?_
            refine W.ret ?_
            refine fin.ret (Res.one rfl (RV.tmp rfl)) ?_
            refine congrArg (Value.int .i64) ?_
            first | (unfold chkT; first | rw [if_pos (by omega)] | (rw [if_neg (by omega), if_pos (by omega)]); done) | exact chkT_bad (i := i) (by omega) (by omega) (by omega) (by unfold goodR; omega) | exact chkT_good (by omega) (by omega) (by omega) hg)
       · first
         | (exfalso; omega)
         | (refine W.skip ?_
            refine W.seq ?_
            refine W.sreg ?_
            refine WO.field0 rfl rfl rfl (WO.load rfl rfl (Cell.own Pick.head rfl) rfl (WO.p rfl rfl (WO.p rfl rfl ?_)))
            refine WO.guard_bl rfl rfl (fun c3 => ?_) (fun c3 => ?_)
            · first
              | (exfalso; omega)
              | (refine WO.no rfl rfl (WO.no rfl rfl (WO.no rfl rfl (WO.p rfl rfl ?_)))
                 refine WO.nil ?_
                 refine W.cond_t rfl ?_
                 refine W.sreg ?_
                 refine WO.p rfl rfl ?_
                 refine WO.nil ?_
                 refine W.ret ?_
                 refine fin.ret (Res.one rfl (RV.tmp rfl)) ?_
                 refine congrArg (Value.int .i64) ?_
                 first | (unfold chkT; first | rw [if_pos (by omega)] | (rw [if_neg (by omega), if_pos (by omega)]); done) | exact chkT_bad (i := i) (by omega) (by omega) (by omega) (by unfold goodR; omega) | exact chkT_good (by omega) (by omega) (by omega) hg)
            · first
              | (exfalso; omega)
              | (refine WO.go' rfl (WO.field0 rfl rfl rfl (WO.go' rfl (WO.load rfl rfl (Cell.own Pick.head rfl) rfl (WO.pg rfl rfl rfl (WO.p rfl rfl ?_)))))
                 refine WO.nil ?_
                 refine W.cond_bl rfl (fun c4 => ?_) (fun c4 => ?_)
                 · first
                   | (exfalso; omega)
                   | (refine W.sreg ?_
                      refine WO.p rfl rfl ?_
                      refine WO.nil ?_
                      refine W.ret ?_
                      refine fin.ret (Res.one rfl (RV.tmp rfl)) ?_
                      refine congrArg (Value.int .i64) ?_
                      first | (unfold chkT; first | rw [if_pos (by omega)] | (rw [if_neg (by omega), if_pos (by omega)]); done) | exact chkT_bad (i := i) (by omega) (by omega) (by omega) (by unfold goodR; omega) | exact chkT_good (by omega) (by omega) (by omega) hg)
                 · first
                   | (exfalso; omega)
                   | (refine W.skip ?_
                      refine W.seq ?_
                      refine W.sreg ?_
                      refine WO.p rfl rfl ?_
                      refine WO.nil ?_
                      refine W.block ?_
                      refine W.loop (fun (i : Nat) => i ≤ rs.length ∧ goodTo rs i)
                        (fun (i : Nat) => [(3, .int .i64 (i : Int)), (1, .pointer (some ⟨b1, 0, none⟩))])
                        (fun (i : Nat) => [pt b1 (.cells #[.int .i64 m, o] 24 (0, 0))])
                        (fun (i : Nat) => rs.length - i) 0
                        (by exact ⟨by omega, fun j hj => by omega⟩) ⟨rfl, rfl, trivial⟩ (by repeat (first | exact Sub.nil | refine Sub.cons (by repeat (first | exact Pick.head | apply Pick.tail)) ?_)) ?_
                      rintro i ⟨hi, hg⟩
                      refine W.seq ?_
                      refine W.sreg ?_
                      refine WO.p rfl rfl (WO.fieldL rfl rfl rfl (WO.load rfl rfl (Cell.own Pick.head rfl) rfl ?_))
                      refine' WO.len (n := _) rfl rfl ?hs rfl ?_
                      case hs => (first | exact hR.sl)
                      refine WO.p rfl rfl ?_
                      refine WO.nil ?_
                      refine W.cond_bl rfl (fun c5 => ?_) (fun c5 => ?_)
                      · first
                        | (exfalso; omega)
                        | (refine W.skip ?_
                           refine W.seq ?_
                           refine W.block ?_
                           refine W.sreg ?_
                           refine WO.fieldL rfl rfl rfl (WO.load rfl rfl (Cell.own Pick.head rfl) rfl (WO.p rfl rfl ?_))
                           refine' WO.indexAddr (n := _) (i := _) rfl rfl rfl ?hs ?h1 rfl ?_
                           case hs => (first | exact hR.sl)
                           case h1 => (first | omega | (simp; omega))
                           refine' WO.loadA (vs := _) rfl rfl ?hc ?hl rfl ?_
                           case hc => (first | (refine hR.cells ?_ r0; omega))
                           case hl => rfl
                           refine WO.alloc rfl rfl rfl (fun b2 hb2 => ?_)
                           refine WO.storeA rfl rfl rfl rfl Pick.head rfl rfl ?_
                           refine WO.nil ?_
                           refine W.seq ?_
                           have hpi := prev_in hg
                           have hp1 : 0 < i → prevAt rs i = (rs.getD ((i : Int) - 1).toNat r0).1 := fun h => by rw [prevAt_pos h, show ((i : Int) - 1).toNat = i - 1 by omega]
                           have hp0 : ¬ 0 < i → prevAt rs i = -1 := prevAt_0
                           refine W.drawD 33 [.r 0 [], .b 1 [], .b 2 [], .r 3 [], .r 4 [], .r 5 [], .r 6 [], .r 7 [], .r 8 [], .b 9 [], .r 10 [], .b 11 [], .r 12 [], .r 13 [], .r 14 [], .r 15 [], .b 16 [], .r 17 [], .r 18 [], .r 19 [], .r 20 [], .r 21 [], .r 22 [], .b 23 [], .r 24 [], .r 25 [], .r 26 [], .r 27 [], .r 28 [], .b 29 [], .r 30 [], .r 31 [], .b 32 []] [] (A0 := []) (Sub.refl _) (by kernel_rfl) ?_ ?_
                           · exact (ALok.r (ALok.b (ALok.b (ALok.r (ALok.r (ALok.r (ALok.r (ALok.r (ALok.r (ALok.b (ALok.r (ALok.b (ALok.r (ALok.r (ALok.r (ALok.r (ALok.b (ALok.r (ALok.r (ALok.r (ALok.r (ALok.r (ALok.r (ALok.b (ALok.r (ALok.r (ALok.r (ALok.r (ALok.r (ALok.b (ALok.r (ALok.r (ALok.b ALok.nil)))))))))))))))))))))))))))))))))
                           refine' DT.r rfl rfl rfl ?hq ?_
                           case hq =>
                             refine WO.field0 rfl rfl rfl ?_
                             exact WO.nil ⟨rfl, rfl⟩
                           refine' DT.b rfl rfl rfl ?hq ?_
                           case hq =>
                             refine WO.load rfl rfl (Cell.own Pick.head rfl) rfl ?_
                             exact WO.nil ⟨rfl, rfl⟩
                           refine' DT.b rfl rfl rfl ?hq ?_
                           case hq =>
                             refine WO.callR (r := .bool (bl (0 ≤ (rs.getD i r0).1 ∧ (rs.getD i r0).1 ≤ 60))) rfl Try.call52 (fun L w hi => ref_between w _ _ _) rfl ?_
                             exact WO.nil ⟨rfl, rfl⟩
                           refine' DT.r rfl rfl rfl ?hq ?_
                           case hq =>
                             refine WO.p rfl rfl ?_
                             exact WO.nil ⟨rfl, rfl⟩
                           refine' DT.rNB rfl rfl rfl ?hq (fun c6 => ?_) (fun c6 => ?_)
                           case hq =>
                             refine WO.p rfl rfl ?_
                             exact WO.nil ⟨rfl, rfl⟩
                           · first
                             | (exfalso; omega)
                             | (refine' DT.r rfl rfl rfl ?hq ?_
                                case hq =>
                                  refine WO.no rfl rfl ?_
                                  exact WO.nil ⟨rfl, rfl⟩
                                refine' DT.r rfl rfl rfl ?hq ?_
                                case hq =>
                                  refine WO.no rfl rfl ?_
                                  exact WO.nil ⟨rfl, rfl⟩
                                refine' DT.r rfl rfl rfl ?hq ?_
                                case hq =>
                                  refine WO.no rfl rfl ?_
                                  exact WO.nil ⟨rfl, rfl⟩
                                refine' DT.r rfl rfl rfl ?hq ?_
                                case hq =>
                                  refine WO.no rfl rfl ?_
                                  exact WO.nil ⟨rfl, rfl⟩
                                refine' DT.b rfl rfl rfl ?hq ?_
                                case hq =>
                                  refine WO.no rfl rfl ?_
                                  exact WO.nil ⟨rfl, rfl⟩
                                refine' DT.r rfl rfl rfl ?hq ?_
                                case hq =>
                                  refine WO.no rfl rfl ?_
                                  exact WO.nil ⟨rfl, rfl⟩
                                refine' DT.b rfl rfl rfl ?hq ?_
                                case hq =>
                                  refine WO.no rfl rfl ?_
                                  exact WO.nil ⟨rfl, rfl⟩
                                refine' DT.r rfl rfl rfl ?hq ?_
                                case hq =>
                                  refine WO.no rfl rfl ?_
                                  exact WO.nil ⟨rfl, rfl⟩
                                refine' DT.r rfl rfl rfl ?hq ?_
                                case hq =>
                                  refine WO.no rfl rfl ?_
                                  exact WO.nil ⟨rfl, rfl⟩
                                refine' DT.r rfl rfl rfl ?hq ?_
                                case hq =>
                                  refine WO.no rfl rfl ?_
                                  exact WO.nil ⟨rfl, rfl⟩
                                refine' DT.r rfl rfl rfl ?hq ?_
                                case hq =>
                                  refine WO.no rfl rfl ?_
                                  exact WO.nil ⟨rfl, rfl⟩
                                refine' DT.b rfl rfl rfl ?hq ?_
                                case hq =>
                                  refine WO.no rfl rfl ?_
                                  exact WO.nil ⟨rfl, rfl⟩
                                refine' DT.r rfl rfl rfl ?hq ?_
                                case hq =>
                                  refine WO.no rfl rfl ?_
                                  exact WO.nil ⟨rfl, rfl⟩
                                refine' DT.r rfl rfl rfl ?hq ?_
                                case hq =>
                                  refine WO.no rfl rfl ?_
                                  exact WO.nil ⟨rfl, rfl⟩
                                refine' DT.r rfl rfl rfl ?hq ?_
                                case hq =>
                                  refine WO.p rfl rfl ?_
                                  exact WO.nil ⟨rfl, rfl⟩
                                refine' DT.r rfl rfl rfl ?hq ?_
                                case hq =>
                                  refine WO.p rfl rfl ?_
                                  exact WO.nil ⟨rfl, rfl⟩
                                refine' DT.r rfl rfl rfl ?hq ?_
                                case hq =>
                                  refine WO.no rfl rfl ?_
                                  exact WO.nil ⟨rfl, rfl⟩
                                refine' DT.r rfl rfl rfl ?hq ?_
                                case hq =>
                                  refine WO.no rfl rfl ?_
                                  exact WO.nil ⟨rfl, rfl⟩
                                refine' DT.b rfl rfl rfl ?hq ?_
                                case hq =>
                                  refine WO.no rfl rfl ?_
                                  exact WO.nil ⟨rfl, rfl⟩
                                refine' DT.r rfl rfl rfl ?hq ?_
                                case hq =>
                                  refine WO.no rfl rfl ?_
                                  exact WO.nil ⟨rfl, rfl⟩
                                refine' DT.r rfl rfl rfl ?hq ?_
                                case hq =>
                                  refine WO.p rfl rfl ?_
                                  exact WO.nil ⟨rfl, rfl⟩
                                refine' DT.r rfl rfl rfl ?hq ?_
                                case hq =>
                                  refine WO.p rfl rfl ?_
                                  exact WO.nil ⟨rfl, rfl⟩
                                refine' DT.r rfl rfl rfl ?hq ?_
                                case hq =>
                                  refine WO.no rfl rfl ?_
                                  exact WO.nil ⟨rfl, rfl⟩
                                refine' DT.r rfl rfl rfl ?hq ?_
                                case hq =>
                                  refine WO.no rfl rfl ?_
                                  exact WO.nil ⟨rfl, rfl⟩
                                refine' DT.b rfl rfl rfl ?hq ?_
                                case hq =>
                                  refine WO.no rfl rfl ?_
                                  exact WO.nil ⟨rfl, rfl⟩
                                refine' DT.r rfl rfl rfl ?hq ?_
                                case hq =>
                                  refine WO.no rfl rfl ?_
                                  exact WO.nil ⟨rfl, rfl⟩
                                refine' DT.r rfl rfl rfl ?hq ?_
                                case hq =>
                                  refine WO.no rfl rfl ?_
                                  exact WO.nil ⟨rfl, rfl⟩
                                refine' DT.b rfl rfl rfl ?hq ?_
                                case hq =>
                                  refine WO.no rfl rfl ?_
                                  exact WO.nil ⟨rfl, rfl⟩
                                refine DT.nil [_, _] rfl ?_
                                refine WO.no rfl rfl (WO.p rfl rfl (WO.p rfl rfl (WO.no rfl rfl (WO.no rfl rfl (WO.no rfl rfl (WO.no rfl rfl (WO.p rfl rfl ?_)))))))
                                refine WO.nil ?_
                                refine W.cond_t rfl ?_
                                refine W.sreg ?_
                                refine WO.p rfl rfl ?_
                                refine WO.nil ?_
                                refine W.ret ?_
                                refine fin.ret (Res.one rfl (RV.tmp rfl)) ?_
                                refine congrArg (Value.int .i64) ?_
                                first | (unfold chkT; first | rw [if_pos (by omega)] | (rw [if_neg (by omega), if_pos (by omega)]); done) | exact chkT_bad (i := i) (by omega) (by omega) (by omega) (by unfold goodR; omega) | exact chkT_good (by omega) (by omega) (by omega) hg)
                           · first
                             | (exfalso; omega)
                             | (refine' DT.r rfl rfl rfl ?hq ?_
                                case hq =>
                                  refine WO.pg rfl rfl rfl ?_
                                  exact WO.nil ⟨rfl, rfl⟩
                                refine' DT.r rfl rfl rfl ?hq ?_
                                case hq =>
                                  refine WO.pg rfl rfl rfl ?_
                                  exact WO.nil ⟨rfl, rfl⟩
                                refine' DT.rB rfl rfl rfl ?hq (fun c7 => ?_) (fun c7 => ?_)
                                case hq =>
                                  refine WO.pg rfl rfl rfl ?_
                                  exact WO.nil ⟨rfl, rfl⟩
                                · first
                                  | (exfalso; omega)
                                  | (refine' DT.r rfl rfl rfl ?hq ?_
                                     case hq =>
                                       refine WO.go' rfl (WO.field0 rfl rfl rfl ?_)
                                       exact WO.nil ⟨rfl, rfl⟩
                                     refine' DT.b rfl rfl rfl ?hq ?_
                                     case hq =>
                                       refine WO.go' rfl (WO.load rfl rfl (Cell.own Pick.head rfl) rfl ?_)
                                       exact WO.nil ⟨rfl, rfl⟩
                                     refine' DT.r rfl rfl rfl ?hq ?_
                                     case hq =>
                                       refine WO.go' rfl (WO.fieldL rfl rfl rfl ?_)
                                       exact WO.nil ⟨rfl, rfl⟩
                                     refine' DT.b rfl rfl rfl ?hq ?_
                                     case hq =>
                                       refine WO.go' rfl (WO.load rfl rfl (Cell.own (Pick.tail (Pick.head)) rfl) rfl ?_)
                                       exact WO.nil ⟨rfl, rfl⟩
                                     refine' DT.r rfl rfl rfl ?hq ?_
                                     case hq =>
                                       refine WO.pg rfl rfl rfl ?_
                                       exact WO.nil ⟨rfl, rfl⟩
                                     refine' DT.r rfl rfl rfl ?hq ?_
                                     case hq =>
                                       refine WO.go' rfl (WO.ar rfl rfl rfl (by (first | (unfold in64; omega) | (unfold in64; omega))) rfl ?_)
                                       exact WO.nil ⟨rfl, rfl⟩
                                     refine' DT.r rfl rfl rfl ?hq ?_
                                     case hq =>
                                       refine WO.go' rfl ?_
                                       refine' WO.indexAddrZ (n := _) rfl rfl rfl ?hs ?h00 ?h1 rfl ?_
                                       case hs => (first | exact hR.sl)
                                       case h00 => omega
                                       case h1 => (first | omega | (simp; omega))
                                       exact WO.nil ⟨rfl, rfl⟩
                                     refine' DT.r rfl rfl rfl ?hq ?_
                                     case hq =>
                                       refine WO.go' rfl (WO.field0 rfl rfl rfl ?_)
                                       exact WO.nil ⟨rfl, rfl⟩
                                     refine' DT.b rfl rfl rfl ?hq ?_
                                     case hq =>
                                       refine WO.go' rfl ?_
                                       refine' WO.load (v := _) rfl rfl ?hc rfl ?_
                                       case hc => (first | (refine hR.cell0 ?_ r0 ?_ <;> first | rfl | omega))
                                       exact WO.nil ⟨rfl, rfl⟩
                                     refine' DT.r rfl rfl rfl ?hq ?_
                                     case hq =>
                                       refine WO.pg rfl rfl rfl ?_
                                       exact WO.nil ⟨rfl, rfl⟩
                                     refine' DT.r rfl rfl rfl ?hq ?_
                                     case hq =>
                                       refine WO.pg rfl rfl rfl ?_
                                       exact WO.nil ⟨rfl, rfl⟩
                                     refine' DT.r rfl rfl rfl ?hq ?_
                                     case hq =>
                                       refine WO.p rfl rfl ?_
                                       exact WO.nil ⟨rfl, rfl⟩
                                     refine' DT.rB rfl rfl rfl ?hq (fun c8 => ?_) (fun c8 => ?_)
                                     case hq =>
                                       refine WO.p rfl rfl ?_
                                       exact WO.nil ⟨rfl, rfl⟩
                                     · first
                                       | (exfalso; omega)
                                       | (refine' DT.r rfl rfl rfl ?hq ?_
                                          case hq =>
                                            refine WO.no rfl rfl ?_
                                            exact WO.nil ⟨rfl, rfl⟩
                                          refine' DT.r rfl rfl rfl ?hq ?_
                                          case hq =>
                                            refine WO.no rfl rfl ?_
                                            exact WO.nil ⟨rfl, rfl⟩
                                          refine' DT.b rfl rfl rfl ?hq ?_
                                          case hq =>
                                            refine WO.no rfl rfl ?_
                                            exact WO.nil ⟨rfl, rfl⟩
                                          refine' DT.r rfl rfl rfl ?hq ?_
                                          case hq =>
                                            refine WO.no rfl rfl ?_
                                            exact WO.nil ⟨rfl, rfl⟩
                                          refine' DT.r rfl rfl rfl ?hq ?_
                                          case hq =>
                                            refine WO.p rfl rfl ?_
                                            exact WO.nil ⟨rfl, rfl⟩
                                          refine' DT.r rfl rfl rfl ?hq ?_
                                          case hq =>
                                            refine WO.p rfl rfl ?_
                                            exact WO.nil ⟨rfl, rfl⟩
                                          refine' DT.r rfl rfl rfl ?hq ?_
                                          case hq =>
                                            refine WO.no rfl rfl ?_
                                            exact WO.nil ⟨rfl, rfl⟩
                                          refine' DT.r rfl rfl rfl ?hq ?_
                                          case hq =>
                                            refine WO.no rfl rfl ?_
                                            exact WO.nil ⟨rfl, rfl⟩
                                          refine' DT.b rfl rfl rfl ?hq ?_
                                          case hq =>
                                            refine WO.no rfl rfl ?_
                                            exact WO.nil ⟨rfl, rfl⟩
                                          refine' DT.r rfl rfl rfl ?hq ?_
                                          case hq =>
                                            refine WO.no rfl rfl ?_
                                            exact WO.nil ⟨rfl, rfl⟩
                                          refine' DT.r rfl rfl rfl ?hq ?_
                                          case hq =>
                                            refine WO.no rfl rfl ?_
                                            exact WO.nil ⟨rfl, rfl⟩
                                          refine' DT.b rfl rfl rfl ?hq ?_
                                          case hq =>
                                            refine WO.no rfl rfl ?_
                                            exact WO.nil ⟨rfl, rfl⟩
                                          refine DT.nil [_, _] rfl ?_
                                          refine WO.no rfl rfl (WO.p rfl rfl (WO.p rfl rfl (WO.no rfl rfl (WO.no rfl rfl (WO.no rfl rfl (WO.no rfl rfl (WO.p rfl rfl ?_)))))))
                                          refine WO.nil ?_
                                          refine W.cond_t rfl ?_
                                          refine W.sreg ?_
                                          refine WO.p rfl rfl ?_
                                          refine WO.nil ?_
                                          refine W.ret ?_
                                          refine fin.ret (Res.one rfl (RV.tmp rfl)) ?_
                                          refine congrArg (Value.int .i64) ?_
                                          first | (unfold chkT; first | rw [if_pos (by omega)] | (rw [if_neg (by omega), if_pos (by omega)]); done) | exact chkT_bad (i := i) (by omega) (by omega) (by omega) (by unfold goodR; omega) | exact chkT_good (by omega) (by omega) (by omega) hg)
                                     · first
                                       | (exfalso; omega)
                                       | (refine' DT.r rfl rfl rfl ?hq ?_
                                          case hq =>
                                            refine WO.go' rfl (WO.fieldL rfl rfl rfl ?_)
                                            exact WO.nil ⟨rfl, rfl⟩
                                          refine' DT.r rfl rfl rfl ?hq ?_
                                          case hq =>
                                            refine WO.go' rfl (WO.field0 rfl rfl rfl ?_)
                                            exact WO.nil ⟨rfl, rfl⟩
                                          refine' DT.b rfl rfl rfl ?hq ?_
                                          case hq =>
                                            refine WO.go' rfl (WO.load rfl rfl (Cell.own Pick.head rfl) rfl ?_)
                                            exact WO.nil ⟨rfl, rfl⟩
                                          refine' DT.r rfl rfl rfl ?hq ?_
                                          case hq =>
                                            refine WO.pg rfl rfl rfl ?_
                                            exact WO.nil ⟨rfl, rfl⟩
                                          refine' DT.r rfl rfl rfl ?hq ?_
                                          case hq =>
                                            refine WO.p rfl rfl ?_
                                            exact WO.nil ⟨rfl, rfl⟩
                                          refine' DT.rB rfl rfl rfl ?hq (fun c9 => ?_) (fun c9 => ?_)
                                          case hq =>
                                            refine WO.p rfl rfl ?_
                                            exact WO.nil ⟨rfl, rfl⟩
                                          · first
                                            | (exfalso; omega)
                                            | (refine' DT.r rfl rfl rfl ?hq ?_
                                               case hq =>
                                                 refine WO.no rfl rfl ?_
                                                 exact WO.nil ⟨rfl, rfl⟩
                                               refine' DT.r rfl rfl rfl ?hq ?_
                                               case hq =>
                                                 refine WO.no rfl rfl ?_
                                                 exact WO.nil ⟨rfl, rfl⟩
                                               refine' DT.b rfl rfl rfl ?hq ?_
                                               case hq =>
                                                 refine WO.no rfl rfl ?_
                                                 exact WO.nil ⟨rfl, rfl⟩
                                               refine' DT.r rfl rfl rfl ?hq ?_
                                               case hq =>
                                                 refine WO.no rfl rfl ?_
                                                 exact WO.nil ⟨rfl, rfl⟩
                                               refine' DT.r rfl rfl rfl ?hq ?_
                                               case hq =>
                                                 refine WO.no rfl rfl ?_
                                                 exact WO.nil ⟨rfl, rfl⟩
                                               refine' DT.b rfl rfl rfl ?hq ?_
                                               case hq =>
                                                 refine WO.no rfl rfl ?_
                                                 exact WO.nil ⟨rfl, rfl⟩
                                               refine DT.nil [_, _] rfl ?_
                                               refine WO.no rfl rfl (WO.p rfl rfl (WO.p rfl rfl (WO.no rfl rfl (WO.no rfl rfl (WO.no rfl rfl (WO.no rfl rfl (WO.p rfl rfl ?_)))))))
                                               refine WO.nil ?_
                                               refine W.cond_t rfl ?_
                                               refine W.sreg ?_
                                               refine WO.p rfl rfl ?_
                                               refine WO.nil ?_
                                               refine W.ret ?_
                                               refine fin.ret (Res.one rfl (RV.tmp rfl)) ?_
                                               refine congrArg (Value.int .i64) ?_
                                               first | (unfold chkT; first | rw [if_pos (by omega)] | (rw [if_neg (by omega), if_pos (by omega)]); done) | exact chkT_bad (i := i) (by omega) (by omega) (by omega) (by unfold goodR; omega) | exact chkT_good (by omega) (by omega) (by omega) hg)
                                          · first
                                            | (exfalso; omega)
                                            | (refine' DT.r rfl rfl rfl ?hq ?_
                                               case hq =>
                                                 refine WO.go' rfl (WO.fieldL rfl rfl rfl ?_)
                                                 exact WO.nil ⟨rfl, rfl⟩
                                               refine' DT.r rfl rfl rfl ?hq ?_
                                               case hq =>
                                                 refine WO.go' rfl (WO.field0 rfl rfl rfl ?_)
                                                 exact WO.nil ⟨rfl, rfl⟩
                                               refine' DT.b rfl rfl rfl ?hq ?_
                                               case hq =>
                                                 refine WO.go' rfl (WO.load rfl rfl (Cell.own Pick.head rfl) rfl ?_)
                                                 exact WO.nil ⟨rfl, rfl⟩
                                               refine' DT.r rfl rfl rfl ?hq ?_
                                               case hq =>
                                                 refine WO.go' rfl (WO.fieldL rfl rfl rfl ?_)
                                                 exact WO.nil ⟨rfl, rfl⟩
                                               refine' DT.r rfl rfl rfl ?hq ?_
                                               case hq =>
                                                 refine WO.go' rfl (WO.fieldL rfl rfl rfl ?_)
                                                 exact WO.nil ⟨rfl, rfl⟩
                                               refine' DT.b rfl rfl rfl ?hq ?_
                                               case hq =>
                                                 refine WO.go' rfl (WO.load rfl rfl (Cell.own Pick.head rfl) rfl ?_)
                                                 exact WO.nil ⟨rfl, rfl⟩
                                               refine DT.nil [_, _] rfl ?_
                                               refine WO.pg rfl rfl rfl (WO.p rfl rfl (WO.p rfl rfl ?_))
                                               refine WO.guard_bl rfl rfl (fun c10 => ?_) (fun c10 => ?_)
                                               · first
                                                 | (exfalso; omega)
                                                 | (refine WO.no rfl rfl (WO.no rfl rfl (WO.no rfl rfl (WO.no rfl rfl (WO.p rfl rfl ?_))))
                                                    refine WO.nil ?_
                                                    refine W.cond_t rfl ?_
                                                    refine W.sreg ?_
                                                    refine WO.p rfl rfl ?_
                                                    refine WO.nil ?_
                                                    refine W.ret ?_
                                                    refine fin.ret (Res.one rfl (RV.tmp rfl)) ?_
                                                    refine congrArg (Value.int .i64) ?_
                                                    first | (unfold chkT; first | rw [if_pos (by omega)] | (rw [if_neg (by omega), if_pos (by omega)]); done) | exact chkT_bad (i := i) (by omega) (by omega) (by omega) (by unfold goodR; omega) | exact chkT_good (by omega) (by omega) (by omega) hg)
                                               · first
                                                 | (exfalso; omega)
                                                 | (refine WO.go' rfl (WO.fieldL rfl rfl rfl (WO.go' rfl (WO.fieldL rfl rfl rfl (WO.go' rfl (WO.load rfl rfl (Cell.own Pick.head rfl) rfl (WO.pg rfl rfl rfl (WO.p rfl rfl ?_)))))))
                                                    refine WO.nil ?_
                                                    refine W.cond_bl rfl (fun c11 => ?_) (fun c11 => ?_)
                                                    · first
                                                      | (exfalso; omega)
                                                      | (refine W.sreg ?_
                                                         refine WO.p rfl rfl ?_
                                                         refine WO.nil ?_
                                                         refine W.ret ?_
                                                         refine fin.ret (Res.one rfl (RV.tmp rfl)) ?_
                                                         refine congrArg (Value.int .i64) ?_
                                                         first | (unfold chkT; first | rw [if_pos (by omega)] | (rw [if_neg (by omega), if_pos (by omega)]); done) | exact chkT_bad (i := i) (by omega) (by omega) (by omega) (by unfold goodR; omega) | exact chkT_good (by omega) (by omega) (by omega) hg)
                                                    · first
                                                      | (exfalso; omega)
                                                      | (refine W.skip ?_
                                                         refine W.region ?_
                                                         refine WO.p rfl rfl (WO.ar rfl rfl rfl (by (first | (unfold in64; omega) | (unfold in64; omega))) rfl (WO.p rfl rfl ?_))
                                                         refine WO.nil ?_
                                                         refine' ⟨i + 1, ?hp, ?hmu, ⟨rfl, rfl, trivial⟩, ?hS⟩
                                                         case hS => repeat (first | exact Sub.nil | refine Sub.cons (by repeat (first | exact Pick.head | apply Pick.tail)) ?_)
                                                         case hp => exact ⟨by omega, goodTo_succ hg (by unfold goodR; omega)⟩
                                                         case hmu => omega)))))
                                · first
                                  | (exfalso; omega)
                                  | (refine' DT.r rfl rfl rfl ?hq ?_
                                     case hq =>
                                       refine WO.no rfl rfl ?_
                                       exact WO.nil ⟨rfl, rfl⟩
                                     refine' DT.b rfl rfl rfl ?hq ?_
                                     case hq =>
                                       refine WO.no rfl rfl ?_
                                       exact WO.nil ⟨rfl, rfl⟩
                                     refine' DT.r rfl rfl rfl ?hq ?_
                                     case hq =>
                                       refine WO.no rfl rfl ?_
                                       exact WO.nil ⟨rfl, rfl⟩
                                     refine' DT.b rfl rfl rfl ?hq ?_
                                     case hq =>
                                       refine WO.no rfl rfl ?_
                                       exact WO.nil ⟨rfl, rfl⟩
                                     refine' DT.r rfl rfl rfl ?hq ?_
                                     case hq =>
                                       refine WO.no rfl rfl ?_
                                       exact WO.nil ⟨rfl, rfl⟩
                                     refine' DT.r rfl rfl rfl ?hq ?_
                                     case hq =>
                                       refine WO.no rfl rfl ?_
                                       exact WO.nil ⟨rfl, rfl⟩
                                     refine' DT.r rfl rfl rfl ?hq ?_
                                     case hq =>
                                       refine WO.no rfl rfl ?_
                                       exact WO.nil ⟨rfl, rfl⟩
                                     refine' DT.r rfl rfl rfl ?hq ?_
                                     case hq =>
                                       refine WO.no rfl rfl ?_
                                       exact WO.nil ⟨rfl, rfl⟩
                                     refine' DT.b rfl rfl rfl ?hq ?_
                                     case hq =>
                                       refine WO.no rfl rfl ?_
                                       exact WO.nil ⟨rfl, rfl⟩
                                     refine' DT.r rfl rfl rfl ?hq ?_
                                     case hq =>
                                       refine WO.no rfl rfl ?_
                                       exact WO.nil ⟨rfl, rfl⟩
                                     refine' DT.r rfl rfl rfl ?hq ?_
                                     case hq =>
                                       refine WO.pg rfl rfl rfl ?_
                                       exact WO.nil ⟨rfl, rfl⟩
                                     refine' DT.r rfl rfl rfl ?hq ?_
                                     case hq =>
                                       refine WO.p rfl rfl ?_
                                       exact WO.nil ⟨rfl, rfl⟩
                                     refine' DT.r rfl rfl rfl ?hq ?_
                                     case hq =>
                                       refine WO.p rfl rfl ?_
                                       exact WO.nil ⟨rfl, rfl⟩
                                     refine' DT.r rfl rfl rfl ?hq ?_
                                     case hq =>
                                       refine WO.go' rfl (WO.fieldL rfl rfl rfl ?_)
                                       exact WO.nil ⟨rfl, rfl⟩
                                     refine' DT.r rfl rfl rfl ?hq ?_
                                     case hq =>
                                       refine WO.go' rfl (WO.field0 rfl rfl rfl ?_)
                                       exact WO.nil ⟨rfl, rfl⟩
                                     refine' DT.b rfl rfl rfl ?hq ?_
                                     case hq =>
                                       refine WO.go' rfl (WO.load rfl rfl (Cell.own Pick.head rfl) rfl ?_)
                                       exact WO.nil ⟨rfl, rfl⟩
                                     refine' DT.r rfl rfl rfl ?hq ?_
                                     case hq =>
                                       refine WO.pg rfl rfl rfl ?_
                                       exact WO.nil ⟨rfl, rfl⟩
                                     refine' DT.r rfl rfl rfl ?hq ?_
                                     case hq =>
                                       refine WO.p rfl rfl ?_
                                       exact WO.nil ⟨rfl, rfl⟩
                                     refine' DT.rB rfl rfl rfl ?hq (fun c12 => ?_) (fun c12 => ?_)
                                     case hq =>
                                       refine WO.p rfl rfl ?_
                                       exact WO.nil ⟨rfl, rfl⟩
                                     · first
                                       | (exfalso; omega)
                                       | (refine' DT.r rfl rfl rfl ?hq ?_
                                          case hq =>
                                            refine WO.no rfl rfl ?_
                                            exact WO.nil ⟨rfl, rfl⟩
                                          refine' DT.r rfl rfl rfl ?hq ?_
                                          case hq =>
                                            refine WO.no rfl rfl ?_
                                            exact WO.nil ⟨rfl, rfl⟩
                                          refine' DT.b rfl rfl rfl ?hq ?_
                                          case hq =>
                                            refine WO.no rfl rfl ?_
                                            exact WO.nil ⟨rfl, rfl⟩
                                          refine' DT.r rfl rfl rfl ?hq ?_
                                          case hq =>
                                            refine WO.no rfl rfl ?_
                                            exact WO.nil ⟨rfl, rfl⟩
                                          refine' DT.r rfl rfl rfl ?hq ?_
                                          case hq =>
                                            refine WO.no rfl rfl ?_
                                            exact WO.nil ⟨rfl, rfl⟩
                                          refine' DT.b rfl rfl rfl ?hq ?_
                                          case hq =>
                                            refine WO.no rfl rfl ?_
                                            exact WO.nil ⟨rfl, rfl⟩
                                          refine DT.nil [_, _] rfl ?_
                                          refine WO.no rfl rfl (WO.p rfl rfl (WO.p rfl rfl (WO.no rfl rfl (WO.no rfl rfl (WO.no rfl rfl (WO.no rfl rfl (WO.p rfl rfl ?_)))))))
                                          refine WO.nil ?_
                                          refine W.cond_t rfl ?_
                                          refine W.sreg ?_
                                          refine WO.p rfl rfl ?_
                                          refine WO.nil ?_
                                          refine W.ret ?_
                                          refine fin.ret (Res.one rfl (RV.tmp rfl)) ?_
                                          refine congrArg (Value.int .i64) ?_
                                          first | (unfold chkT; first | rw [if_pos (by omega)] | (rw [if_neg (by omega), if_pos (by omega)]); done) | exact chkT_bad (i := i) (by omega) (by omega) (by omega) (by unfold goodR; omega) | exact chkT_good (by omega) (by omega) (by omega) hg)
                                     · first
                                       | (exfalso; omega)
                                       | (refine' DT.r rfl rfl rfl ?hq ?_
                                          case hq =>
                                            refine WO.go' rfl (WO.fieldL rfl rfl rfl ?_)
                                            exact WO.nil ⟨rfl, rfl⟩
                                          refine' DT.r rfl rfl rfl ?hq ?_
                                          case hq =>
                                            refine WO.go' rfl (WO.field0 rfl rfl rfl ?_)
                                            exact WO.nil ⟨rfl, rfl⟩
                                          refine' DT.b rfl rfl rfl ?hq ?_
                                          case hq =>
                                            refine WO.go' rfl (WO.load rfl rfl (Cell.own Pick.head rfl) rfl ?_)
                                            exact WO.nil ⟨rfl, rfl⟩
                                          refine' DT.r rfl rfl rfl ?hq ?_
                                          case hq =>
                                            refine WO.go' rfl (WO.fieldL rfl rfl rfl ?_)
                                            exact WO.nil ⟨rfl, rfl⟩
                                          refine' DT.r rfl rfl rfl ?hq ?_
                                          case hq =>
                                            refine WO.go' rfl (WO.fieldL rfl rfl rfl ?_)
                                            exact WO.nil ⟨rfl, rfl⟩
                                          refine' DT.b rfl rfl rfl ?hq ?_
                                          case hq =>
                                            refine WO.go' rfl (WO.load rfl rfl (Cell.own Pick.head rfl) rfl ?_)
                                            exact WO.nil ⟨rfl, rfl⟩
                                          refine DT.nil [_, _] rfl ?_
                                          refine WO.pg rfl rfl rfl (WO.p rfl rfl (WO.p rfl rfl ?_))
                                          refine WO.guard_bl rfl rfl (fun c13 => ?_) (fun c13 => ?_)
                                          · first
                                            | (exfalso; omega)
                                            | (refine WO.no rfl rfl (WO.no rfl rfl (WO.no rfl rfl (WO.no rfl rfl (WO.p rfl rfl ?_))))
                                               refine WO.nil ?_
                                               refine W.cond_t rfl ?_
                                               refine W.sreg ?_
                                               refine WO.p rfl rfl ?_
                                               refine WO.nil ?_
                                               refine W.ret ?_
                                               refine fin.ret (Res.one rfl (RV.tmp rfl)) ?_
                                               refine congrArg (Value.int .i64) ?_
                                               first | (unfold chkT; first | rw [if_pos (by omega)] | (rw [if_neg (by omega), if_pos (by omega)]); done) | exact chkT_bad (i := i) (by omega) (by omega) (by omega) (by unfold goodR; omega) | exact chkT_good (by omega) (by omega) (by omega) hg)
                                          · first
                                            | (exfalso; omega)
                                            | (refine WO.go' rfl (WO.fieldL rfl rfl rfl (WO.go' rfl (WO.fieldL rfl rfl rfl (WO.go' rfl (WO.load rfl rfl (Cell.own Pick.head rfl) rfl (WO.pg rfl rfl rfl (WO.p rfl rfl ?_)))))))
                                               refine WO.nil ?_
                                               refine W.cond_bl rfl (fun c14 => ?_) (fun c14 => ?_)
                                               · first
                                                 | (exfalso; omega)
                                                 | (refine W.sreg ?_
                                                    refine WO.p rfl rfl ?_
                                                    refine WO.nil ?_
                                                    refine W.ret ?_
                                                    refine fin.ret (Res.one rfl (RV.tmp rfl)) ?_
                                                    refine congrArg (Value.int .i64) ?_
                                                    first | (unfold chkT; first | rw [if_pos (by omega)] | (rw [if_neg (by omega), if_pos (by omega)]); done) | exact chkT_bad (i := i) (by omega) (by omega) (by omega) (by unfold goodR; omega) | exact chkT_good (by omega) (by omega) (by omega) hg)
                                               · first
                                                 | (exfalso; omega)
                                                 | (refine W.skip ?_
                                                    refine W.region ?_
                                                    refine WO.p rfl rfl (WO.ar rfl rfl rfl (by (first | (unfold in64; omega) | (unfold in64; omega))) rfl (WO.p rfl rfl ?_))
                                                    refine WO.nil ?_
                                                    refine' ⟨i + 1, ?hp, ?hmu, ⟨rfl, rfl, trivial⟩, ?hS⟩
                                                    case hS => repeat (first | exact Sub.nil | refine Sub.cons (by repeat (first | exact Pick.head | apply Pick.tail)) ?_)
                                                    case hp => exact ⟨by omega, goodTo_succ hg (by unfold goodR; omega)⟩
                                                    case hmu => omega))))))
                      · first
                        | (exfalso; omega)
                        | (refine W.exit (blk_same ?_)
                           refine W.sreg ?_
                           refine WO.p rfl rfl ?_
                           refine WO.nil ?_
                           refine W.ret ?_
                           refine fin.ret (Res.one rfl (RV.tmp rfl)) ?_
                           refine congrArg (Value.int .i64) ?_
                           first | (unfold chkT; first | rw [if_pos (by omega)] | (rw [if_neg (by omega), if_pos (by omega)]); done) | exact chkT_bad (i := i) (by omega) (by omega) (by omega) (by unfold goodR; omega) | exact chkT_good (by omega) (by omega) (by omega) hg)))))
end Go.Proofs.Ytkiaepcklbidgaa
namespace Go.Proofs.Ytkiaepcklbidgaa
open Go Go.TH
attribute [local irreducible] W WO pt
set_option maxRecDepth 10000
set_option maxHeartbeats 1000000
/-- a valid trial -/
structure VT (m : Int) (rs : List (Int × Int × Int)) : Prop where
  n : 2 ≤ rs.length ∧ rs.length ≤ 5
  m : 0 ≤ m ∧ m ≤ 2
  ok : goodTo rs rs.length
theorem VT.of {m : Int} {rs : List (Int × Int × Int)} (h : chkT m rs = 0) : VT m rs := by
  unfold chkT at h
  split at h; · omega
  split at h; · omega
  split at h
  · exact ⟨by omega, by omega, by assumption⟩
  · omega
theorem VT.to {m : Int} {rs : List (Int × Int × Int)} (h : VT m rs) : chkT m rs = 0 := by
  have h1 := h.n; have h2 := h.m
  unfold chkT; rw [if_neg (by omega), if_neg (by omega), if_pos h.ok]
/-- the minute of a run -/
def tm (rs : List (Int × Int × Int)) (i : Nat) : Int := (rs.getD i r0).1
theorem VT.run {m : Int} {rs : List (Int × Int × Int)} (h : VT m rs) {i : Nat} (hi : i < rs.length) : 0 ≤ tm rs i ∧ tm rs i ≤ 60 ∧ 0 ≤ (rs.getD i r0).2.1 ∧ (rs.getD i r0).2.1 ≤ (rs.getD i r0).2.2 ∧ (rs.getD i r0).2.2 ≤ 20000 := by
  have h1 := h.ok i hi
  have h2 := prev_in (rs := rs) (i := i) (fun j hj => h.ok j (by omega))
  unfold goodR at h1
  unfold tm; omega
theorem VT.next {m : Int} {rs : List (Int × Int × Int)} (h : VT m rs) {i : Nat} (hi : i + 1 < rs.length) : tm rs i + 1 ≤ tm rs (i + 1) := by
  have h1 := h.ok (i + 1) hi
  unfold goodR at h1
  rw [prevAt_pos (by omega), Nat.add_sub_cancel] at h1
  exact h1.1
theorem VT.lt {m : Int} {rs : List (Int × Int × Int)} (h : VT m rs) {j k : Nat} (hjk : j < k) (hk : k < rs.length) : 1 ≤ tm rs k - tm rs j ∧ tm rs k - tm rs j ≤ 60 := by
  have key : ∀ d, j + 1 + d < rs.length → tm rs j + 1 ≤ tm rs (j + 1 + d) := by
    intro d
    induction d with
    | zero => exact fun hd => h.next hd
    | succ d ih => intro hd; have h1 := ih (by omega); have h2 := h.next (i := j + 1 + d) hd; rw [show j + 1 + (d + 1) = j + 1 + d + 1 by omega]; omega
  have h1 := key (k - j - 1) (by omega)
  rw [show j + 1 + (k - j - 1) = k by omega] at h1
  have h2 := h.run (i := j) (by omega)
  have h3 := h.run hk
  omega
/-- two runs, the second one later, in order -/
def pairsTo (k : Nat) : List (Nat × Nat) := (List.range k).flatMap fun k => (List.range k).map fun j => (j, k)
theorem pairsTo_succ (k : Nat) : pairsTo (k + 1) = pairsTo k ++ (List.range k).map fun j => (j, k) := by
  unfold pairsTo; rw [List.range_succ, List.flatMap_append]; simp
theorem pairsTo_len (k : Nat) : (pairsTo (k + 1)).length = (pairsTo k).length + k := by rw [pairsTo_succ]; simp
theorem pairsTo_get {j k : Nat} : ∀ {n : Nat}, k < n → j < k → (pairsTo n)[(pairsTo k).length + j]? = some (j, k)
  | 0, h, _ => by omega
  | n + 1, h, hj => by
    rw [pairsTo_succ]
    rcases Nat.lt_or_ge k n with h1 | h1
    · have := pairsTo_get (n := n) h1 hj
      rw [List.getElem?_append_left (List.getElem?_eq_some_iff.1 this).1]; exact this
    · obtain rfl : k = n := by omega
      rw [List.getElem?_append_right (by omega), Nat.add_sub_cancel_left, List.getElem?_map, List.getElem?_range hj]
      rfl
theorem pairsTo_mem {n : Nat} {q : Nat × Nat} (h : q ∈ pairsTo n) : q.1 < q.2 ∧ q.2 < n := by
  unfold pairsTo at h
  obtain ⟨k, hk, h⟩ := List.mem_flatMap.1 h
  obtain ⟨j, hj, rfl⟩ := List.mem_map.1 h
  simp at hk hj
  exact ⟨hj, hk⟩
def pairV (q : Nat × Nat) : Value × Value := (.int .i64 (q.1 : Int), .int .i64 (q.2 : Int))
theorem pairV_get {j k n : Nat} (hk : k < n) (hj : j < k) : ((pairsTo n).map pairV)[(pairsTo k).length + j]? = some (.int .i64 (j : Int), .int .i64 (k : Int)) := by
  rw [List.getElem?_map, pairsTo_get hk hj]; rfl
theorem c_pairs (w : World) (p : Addr) : Ct Try.prog 74 [.pointer (some p)].toArray w fun v w' => ∃ Hq, (∃ b1, v = .func (.func 75) #[] #[.pointer (some ⟨b1, 0, none⟩)] ∧
    Hq = [pt b1 (.cells #[.pointer (some p)] 77 (0, 0))]) ∧ Inv w [] Hq w' := by
  refine Ct.of mixed tyTab Try.func74 rfl rfl ?_
  refine W.sreg ?_
  refine WO.box1 rfl (by first | rfl | assumption) rfl (fun b1 hb1 => ?_)
  refine WO.p rfl rfl ?_
  refine WO.nil ?_
  refine W.sreg ?_
  refine WO.p rfl rfl (WO.p rfl rfl ?_)
  refine WO.nil ?_
  refine W.ret ?_
  exact fin.ret (Res.one rfl (RV.tmp rfl)) ⟨b1, rfl, rfl⟩
theorem c_pairs1 (B : Nat) (wr : World) (p : Addr) (m : Int) (o : Value) (rest : List Value) (rs : List (Int × Int × Int)) (hP : RdC B wr p (.int .i64 m :: o :: rest)) (hR : RdF encR 3 B wr o rs) (hn : rs.length ≤ 5)
    (l : Nat) (Hc : Nat → List HP) (hy : ∀ k x, ((pairsTo rs.length).map pairV)[k]? = some x → YieldOK Try.prog B wr l #[x.1, x.2] (Hc k) (Hc (k + 1))) (b1 : Nat) (w : World) (M' : List Nat) (hB : B ≤ w.heap.size) (hk : ∀ k, k < B → w.heap[k]? = wr.heap[k]?) (hM : ∀ b ∈ M', B ≤ b)
    (hi : Inv w M' ([pt b1 (.cells #[.pointer (some p)] 77 (0, 0))] ++ Hc 0) w) :
    Ct Try.prog 75 ([.func (.yield l) #[] #[], .pointer (some ⟨b1, 0, none⟩)] : List Value).toArray w fun _ w' => Inv w M' ([pt b1 (.cells #[.pointer (some p)] 77 (0, 0))] ++ Hc ((pairsTo rs.length).map pairV).length) w' := by
  refine Iter.of mixed tyTab hB hM Try.func75 rfl rfl hi ?_
  replace hR : RdF encR 3 (itCx mixed tyTab Try.f75.ntmps w M' B hB hM).B (itCx mixed tyTab Try.f75.ntmps w M' B hB hM).w0 o rs := hR.agree hk
  replace hP : RdC (itCx mixed tyTab Try.f75.ntmps w M' B hB hM).B (itCx mixed tyTab Try.f75.ntmps w M' B hB hM).w0 p (.int .i64 m :: o :: rest) := hP.agree hk
  have hle := hR.sl.le
  refine W.sreg ?_
  refine WO.load rfl rfl (Cell.own Pick.head rfl) rfl (WO.p rfl rfl (WO.field0 rfl rfl rfl (WO.field rfl rfl rfl ?_)))
  refine' WO.load (v := _) rfl rfl ?hc rfl ?_
  case hc => (first | (refine hP.cellAt ?_; rfl))
  refine' WO.len (n := _) rfl rfl ?hs rfl ?_
  case hs => (first | exact hR.sl)
  refine WO.p rfl rfl ?_
  refine WO.nil ?_
  refine W.block ?_
  refine W.loop (fun (k : Nat) => k ≤ rs.length)
    (fun (k : Nat) => [(11, .int .i64 (k : Int)), (10, .int .i64 (rs.length : Int)), (0, .func (.yield l) #[] #[]), (1, .pointer (some ⟨b1, 0, none⟩))])
    (fun (k : Nat) => [pt b1 (.cells #[.pointer (some p)] 77 (0, 0)), sat (Hc (pairsTo k).length)])
    (fun (k : Nat) => rs.length - k) 0
    (by exact Nat.zero_le _) ⟨rfl, rfl, rfl, rfl, trivial⟩ (by repeat (first | exact Sub.nil | refine Sub.cons (by repeat (first | exact Pick.head | apply Pick.tail)) ?_)) ?_
  rintro k hk'
  refine W.sreg ?_
  refine WO.p rfl rfl ?_
  refine WO.nil ?_
  refine W.seq ?_
  refine W.cond_bl rfl (fun c1 => ?_) (fun c1 => ?_)
  · first
    | (exfalso; omega)
    | (refine W.skip ?_
       refine W.seq ?_
       refine W.block ?_
       refine W.sreg ?_
       refine WO.p rfl rfl (WO.p rfl rfl ?_)
       refine WO.nil ?_
       refine W.sreg ?_
       refine WO.p rfl rfl (WO.p rfl rfl ?_)
       refine WO.nil ?_
       refine W.block ?_
       refine W.loop (fun (j : Nat) => j ≤ k)
         (fun (j : Nat) => [(11, .int .i64 (k : Int)), (10, .int .i64 (rs.length : Int)), (3, .int .i64 (k : Int)), (14, .int .i64 (k : Int)), (15, .int .i64 (j : Int)), (0, .func (.yield l) #[] #[]), (1, .pointer (some ⟨b1, 0, none⟩))])
         (fun (j : Nat) => [pt b1 (.cells #[.pointer (some p)] 77 (0, 0)), sat (Hc ((pairsTo k).length + j))])
         (fun (j : Nat) => k - j) 0
         (by exact Nat.zero_le _) ⟨rfl, rfl, rfl, rfl, rfl, rfl, rfl, trivial⟩ (by repeat (first | exact Sub.nil | refine Sub.cons (by repeat (first | exact Pick.head | apply Pick.tail)) ?_)) ?_
       rintro j hj'
       refine W.sreg ?_
       refine WO.p rfl rfl ?_
       refine WO.nil ?_
       refine W.seq ?_
       refine W.cond_bl rfl (fun c2 => ?_) (fun c2 => ?_)
       · first
         | (exfalso; omega)
         | (refine W.skip ?_
            refine W.seq ?_
            refine W.block ?_
            refine W.sreg ?_
            refine WO.p rfl rfl (WO.p rfl rfl ?_)
            refine WO.nil ?_
            refine W.sreg ?_
            refine WO.p rfl rfl (WO.p rfl rfl (WO.p rfl rfl ?_))
            refine WO.yield rfl rfl (by repeat (first | exact Pick.head | apply Pick.tail)) ((hy _ _ (pairV_get (j := j) (k := k) (by omega) (by omega))).one.agree hk) rfl ?_
            refine WO.p rfl rfl ?_
            refine WO.nil ?_
            refine W.cond_f rfl ?_
            refine W.skip ?_
            refine W.region ?_
            refine WO.ar rfl rfl rfl (by (first | (unfold in64; omega) | (unfold in64; omega))) rfl (WO.p rfl rfl ?_)
            refine WO.nil ?_
            refine' ⟨j + 1, ?hp, ?hmu, ⟨rfl, rfl, rfl, rfl, rfl, rfl, rfl, trivial⟩, ?hS⟩
            case hS => repeat (first | exact Sub.nil | refine Sub.cons (by repeat (first | exact Pick.head | apply Pick.tail)) ?_)
            case hp => omega
            case hmu => omega)
       · first
         | (exfalso; omega)
         | (refine W.exit (blk_same ?_)
            obtain rfl : k = j := by omega
            rw [← pairsTo_len]
            refine W.region ?_
            refine WO.ar rfl rfl rfl (by (first | (unfold in64; omega) | (unfold in64; omega))) rfl (WO.p rfl rfl ?_)
            refine WO.nil ?_
            refine' ⟨k + 1, ?hp, ?hmu, ⟨rfl, rfl, rfl, rfl, trivial⟩, ?hS⟩
            case hS => repeat (first | exact Sub.nil | refine Sub.cons (by repeat (first | exact Pick.head | apply Pick.tail)) ?_)
            case hp => omega
            case hmu => omega))
  · first
    | (exfalso; omega)
    | (refine W.exit (blk_same ?_)
       obtain rfl : k = rs.length := by omega
       refine fin.normal (Res.none rfl) ?_
       rw [show ((pairsTo rs.length).map pairV).length = (pairsTo rs.length).length by simp]
       exact .cons .head (.cons .head .nil))
end Go.Proofs.Ytkiaepcklbidgaa
namespace Go.Proofs.Ytkiaepcklbidgaa
open Go Go.TH
attribute [local irreducible] W WO pt
set_option maxRecDepth 10000
set_option maxHeartbeats 1000000
/-- five numbers -/
def a5 (f : Nat → Int) : List Value := [.int .i64 (f 0), .int .i64 (f 1), .int .i64 (f 2), .int .i64 (f 3), .int .i64 (f 4)]
def up (f : Nat → Int) (i : Nat) (x : Int) : Nat → Int := fun j => if j = i then x else f j
/-- the first i of them -/
def wTo (g : Nat → Int) (i : Nat) : Nat → Int := fun j => if j < i then g j else 0
theorem up_wTo (g : Nat → Int) (i : Nat) : up (wTo g i) i (g i) = wTo g (i + 1) := by
  funext j
  show (if j = i then g i else if j < i then g j else 0) = if j < i + 1 then g j else 0
  by_cases e : j = i
  · rw [if_pos e, if_pos (by omega), e]
  · rw [if_neg e]
    by_cases h : j < i
    · rw [if_pos h, if_pos (by omega)]
    · rw [if_neg h, if_neg (by omega)]
theorem a5_set {f : Nat → Int} {i : Nat} {x : Int} (h : i < 5) : (a5 f).set (0 + i) (.int .i64 x) = a5 (up f i x) := by
  match i, h with
  | 0, _ => rfl
  | 1, _ => rfl
  | 2, _ => rfl
  | 3, _ => rfl
  | 4, _ => rfl
theorem a5_congr {f g : Nat → Int} (h : ∀ j, j < 5 → f j = g j) : a5 f = a5 g := by
  unfold a5
  rw [h 0 (by omega), h 1 (by omega), h 2 (by omega), h 3 (by omega), h 4 (by omega)]
theorem a5_get {f : Nat → Int} {i : Nat} (h : i < 5) : lget (a5 f) (0 + i) = some (.int .i64 (f i)) := by
  match i, h with
  | 0, _ => rfl
  | 1, _ => rfl
  | 2, _ => rfl
  | 3, _ => rfl
  | 4, _ => rfl
theorem a5_cell {P : Program} {C : Cx P} {H H' : List HP} {b i : Nat} {t : TypeId} {fr : Nat × Nat} {f : Nat → Int} (p : Pick (pt b (.cells (a5 f).toArray t fr)) H H') (h : i < 5) : Cell C H ⟨b, 0 + i, none⟩ (.int .i64 (f i)) := Cell.own p (a5_get h)
theorem a5_cellE {P : Program} {C : Cx P} {H H' : List HP} {b i : Nat} {t : TypeId} {fr : Nat × Nat} {f : Nat → Int} {x : Int} (p : Pick (pt b (.cells (a5 f).toArray t fr)) H H') (h : i < 5) (e : f i = x) : Cell C H ⟨b, 0 + i, none⟩ (.int .i64 x) := e ▸ a5_cell p h
theorem a5_cellS {P : Program} {C : Cx P} {H : List HP} {b i : Nat} {t : TypeId} {fr : Nat × Nat} {f : Nat → Int} {x : Int} (s : Sub H [pt b (.cells (a5 f).toArray t fr)]) (h : i < 5) (e : f i = x) : Cell C H ⟨b, 0 + i, none⟩ (.int .i64 x) := by
  cases s with
  | cons p _ => exact a5_cellE p h e
theorem a5_blt {f : Nat → Int} {i : Nat} (h : i < 5) : Nat.blt (0 + i) (a5 f).length = true := by rw [Nat.blt_eq, Nat.zero_add]; exact h
/-- what a pair of runs adds to the weight of a run -/
def exF (rs : List (Int × Int × Int)) (i : Nat) (w : Int) (q : Nat × Nat) : Int := if i ≠ q.1 ∧ i ≠ q.2 then w * (tm rs q.2 - tm rs q.1) else w
def exW (rs : List (Int × Int × Int)) (i : Nat) : Int := (pairsTo rs.length).foldl (exF rs i) 1
theorem foldl_take_some {α β : Type} (f : β → α → β) {l : List α} {i : Nat} {x : α} (h : l[i]? = some x) (b : β) : (l.take (i + 1)).foldl f b = f ((l.take i).foldl f b) x := by
  rw [List.take_add_one, h, List.foldl_append]; rfl
theorem exF_in {m : Int} {rs : List (Int × Int × Int)} (hv : VT m rs) {i : Nat} {w : Int} {q : Nat × Nat} (hq : q.1 < q.2 ∧ q.2 < rs.length) {B : Int} (h : 1 ≤ w ∧ w ≤ B) : 1 ≤ exF rs i w q ∧ exF rs i w q ≤ B * 60 := by
  have h1 := hv.lt hq.1 hq.2
  unfold exF
  split
  · constructor
    · have := Int.mul_le_mul h.1 h1.1 (by omega) (by omega); omega
    · exact Int.mul_le_mul h.2 h1.2 (by omega) (by omega)
  · omega
theorem exW_in {m : Int} {rs : List (Int × Int × Int)} (hv : VT m rs) (i : Nat) : ∀ q, q ≤ (pairsTo rs.length).length → 1 ≤ ((pairsTo rs.length).take q).foldl (exF rs i) 1 ∧ ((pairsTo rs.length).take q).foldl (exF rs i) 1 ≤ 60 ^ q
  | 0, _ => by simp
  | q + 1, h => by
    have ih := exW_in hv i q (by omega)
    obtain ⟨x, hx⟩ : ∃ x, (pairsTo rs.length)[q]? = some x := ⟨(pairsTo rs.length)[q], by simp [h]⟩
    rw [foldl_take_some _ hx, Int.pow_succ]
    exact exF_in hv (pairsTo_mem (List.mem_of_getElem? hx)) ih
theorem pairs_ten {n : Nat} (h : n ≤ 5) : (pairsTo n).length ≤ 10 := by
  match n, h with
  | 0, _ => decide
  | 1, _ => decide
  | 2, _ => decide
  | 3, _ => decide
  | 4, _ => decide
  | 5, _ => decide
theorem exW_B {m : Int} {rs : List (Int × Int × Int)} (hv : VT m rs) (i : Nat) {q : Nat} (hq : q ≤ (pairsTo rs.length).length) : 1 ≤ ((pairsTo rs.length).take q).foldl (exF rs i) 1 ∧ ((pairsTo rs.length).take q).foldl (exF rs i) 1 ≤ 604661760000000000 := by
  have h1 := exW_in hv i q hq
  have h2 : q ≤ 10 := Nat.le_trans hq (pairs_ten hv.n.2)
  have h3 := (by decide : ∀ q : Nat, q ≤ 10 → (60 : Int) ^ q ≤ 604661760000000000) q h2
  omega
theorem c_plain (w : World) (p : Addr) (m : Int) (o : Value) (rest : List Value) (rs : List (Int × Int × Int)) (hP : RdC w.heap.size w p (.int .i64 m :: o :: rest)) (hR : RdF encR 3 w.heap.size w o rs) (hn : rs.length ≤ 5) :
    Ret Try.prog 65 [.pointer (some p)].toArray w (.agg (a5 (wTo (fun _ => 1) rs.length)).toArray) := by
  refine Ret.of mixed tyTab Try.func65 rfl rfl ?_
  replace hR : RdF encR 3 (fnCx mixed tyTab Try.f65.ntmps w).B (fnCx mixed tyTab Try.f65.ntmps w).w0 o rs := hR
  replace hP : RdC (fnCx mixed tyTab Try.f65.ntmps w).B (fnCx mixed tyTab Try.f65.ntmps w).w0 p (.int .i64 m :: o :: rest) := hP
  refine W.sreg ?_
  refine WO.alloc rfl rfl rfl (fun b1 hb1 => ?_)
  refine WO.nil ?_
  refine W.sreg ?_
  refine WO.alloc rfl rfl rfl (fun b2 hb2 => ?_)
  refine WO.nil ?_
  refine W.seq ?_
  refine W.sreg ?_
  refine WO.p rfl rfl (WO.p rfl rfl (WO.field0 rfl rfl rfl (WO.field rfl rfl rfl ?_)))
  refine' WO.load (v := _) rfl rfl ?hc rfl ?_
  case hc => (first | (refine hP.cellAt ?_; rfl))
  refine' WO.len (n := _) rfl rfl ?hs rfl ?_
  case hs => (first | exact hR.sl)
  refine WO.p rfl rfl ?_
  refine WO.nil ?_
  refine W.block ?_
  refine W.loop (fun (i : Nat) => i ≤ rs.length)
    (fun (i : Nat) => [(11, .int .i64 (i : Int)), (10, .int .i64 (rs.length : Int)), (3, .pointer (some ⟨b2, 0, none⟩)), (2, .pointer (some ⟨b1, 0, none⟩))])
    (fun (i : Nat) => [pt b1 (.cells #[.int .i64 0, .int .i64 0, .int .i64 0, .int .i64 0, .int .i64 0] 81 (0, 0)), pt b2 (.cells (a5 (wTo (fun _ => 1) i)).toArray 81 (0, 0))])
    (fun (i : Nat) => rs.length - i) 0
    (by omega) ⟨rfl, rfl, rfl, rfl, trivial⟩ (by repeat (first | exact Sub.nil | refine Sub.cons (by repeat (first | exact Pick.head | apply Pick.tail)) ?_)) ?_
  rintro i hi
  refine W.sreg ?_
  refine WO.p rfl rfl ?_
  refine WO.nil ?_
  refine W.seq ?_
  refine W.cond_bl rfl (fun c1 => ?_) (fun c1 => ?_)
  · first
    | (exfalso; omega)
    | (refine W.skip ?_
       refine W.seq ?_
       refine W.block ?_
       refine W.sreg ?_
       refine WO.p rfl rfl (WO.p rfl rfl ?_)
       refine WO.nil ?_
       refine W.region ?_
       refine WO.p rfl rfl ?_
       refine WO.indexArrL (i := i) (o' := 0 + i) rfl rfl rfl (by omega) (by omega) rfl ?_
       refine WO.store1 rfl rfl rfl rfl (by repeat (first | exact Pick.head | apply Pick.tail)) (a5_blt (by omega)) ?_
       rw [a5_set (by omega), up_wTo (fun _ => 1) i]
       refine WO.nil ?_
       refine W.region ?_
       refine WO.ar rfl rfl rfl (by (first | (unfold in64; omega) | (unfold in64; omega))) rfl (WO.p rfl rfl ?_)
       refine WO.nil ?_
       refine' ⟨i + 1, ?hp, ?hmu, ⟨rfl, rfl, rfl, rfl, trivial⟩, ?hS⟩
       case hS => repeat (first | exact Sub.nil | refine Sub.cons (by repeat (first | exact Pick.head | apply Pick.tail)) ?_)
       case hp => omega
       case hmu => omega)
  · first
    | (exfalso; omega)
    | (refine W.exit (blk_same ?_)
       refine W.sreg ?_
       refine WO.loadA rfl rfl (Cells.own (Pick.tail (Pick.head))) rfl rfl (WO.storeA rfl rfl rfl rfl Pick.head rfl rfl ?_)
       refine WO.nil ?_
       refine W.ret ?_
       obtain rfl : i = rs.length := by omega
       exact fin.ret (Res.one rfl (RV.cell rfl rfl rfl (Cells.own Pick.head))) rfl)
theorem exF_q {rs : List (Int × Int × Int)} {i j k : Nat} {w : Int} : exF rs i w (j, k) = if (i : Int) ≠ (j : Int) ∧ (i : Int) ≠ (k : Int) then w * (tm rs k - tm rs j) else w := by
  unfold exF
  by_cases h : i ≠ j ∧ i ≠ k
  · rw [if_pos h, if_pos (by omega)]
  · rw [if_neg h, if_neg (by omega)]
theorem up_up (f : Nat → Int) (i : Nat) (x y : Int) : up (up f i x) i y = up f i y := by
  funext j
  unfold up
  by_cases h : j = i
  · rw [if_pos h, if_pos h]
  · rw [if_neg h, if_neg h, if_neg h]
theorem up_at (f : Nat → Int) (i : Nat) (x : Int) : up f i x i = x := by unfold up; rw [if_pos rfl]
theorem pairV_some {n q : Nat} {x : Value × Value} (h : ((pairsTo n).map pairV)[q]? = some x) : ∃ j k : Nat, (pairsTo n)[q]? = some (j, k) ∧ j < k ∧ k < n ∧ x = (.int .i64 (j : Int), .int .i64 (k : Int)) := by
  rw [List.getElem?_map] at h
  cases hq : (pairsTo n)[q]? with
  | none => rw [hq] at h; cases h
  | some y =>
    rw [hq] at h
    have := pairsTo_mem (List.mem_of_getElem? hq)
    exact ⟨y.1, y.2, rfl, this.1, this.2, (Option.some.inj h).symm⟩
theorem c_exact (w : World) (p : Addr) (m : Int) (o : Value) (rest : List Value) (rs : List (Int × Int × Int)) (hP : RdC w.heap.size w p (.int .i64 m :: o :: rest)) (hR : RdF encR 3 w.heap.size w o rs) (hv : VT m rs) :
    Ret Try.prog 64 [.pointer (some p)].toArray w (.agg (a5 (wTo (exW rs) rs.length)).toArray) := by
  refine Ret.of mixed tyTab Try.func64 rfl rfl ?_
  replace hR : RdF encR 3 (fnCx mixed tyTab Try.f64.ntmps w).B (fnCx mixed tyTab Try.f64.ntmps w).w0 o rs := hR
  replace hP : RdC (fnCx mixed tyTab Try.f64.ntmps w).B (fnCx mixed tyTab Try.f64.ntmps w).w0 p (.int .i64 m :: o :: rest) := hP
  have hn := hv.n
  refine W.sreg ?_
  refine WO.box1 rfl (by first | rfl | assumption) rfl (fun b1 hb1 => ?_)
  refine WO.alloc rfl rfl rfl (fun b2 hb2 => ?_)
  refine WO.nil ?_
  refine W.sreg ?_
  refine WO.alloc rfl rfl rfl (fun b3 hb3 => ?_)
  refine WO.nil ?_
  refine W.seq ?_
  refine W.sreg ?_
  refine WO.load rfl rfl (Cell.own (Pick.tail (Pick.tail (Pick.head))) rfl) rfl (WO.p rfl rfl (WO.field0 rfl rfl rfl (WO.field rfl rfl rfl ?_)))
  refine' WO.load (v := _) rfl rfl ?hc rfl ?_
  case hc => (first | (refine hP.cellAt ?_; rfl) | (refine hP2.cellAt ?_; rfl) | (refine hR2.cell0 ?_ r0 ?_ <;> first | rfl | omega))
  refine' WO.len (n := _) rfl rfl ?hs rfl ?_
  case hs => (first | exact hR.sl | exact hR2.sl)
  refine WO.p rfl rfl ?_
  refine WO.nil ?_
  refine W.block ?_
  refine W.loop (fun (i : Nat) => i ≤ rs.length)
    (fun (i : Nat) => [(13, .int .i64 (i : Int)), (12, .int .i64 (rs.length : Int)), (3, .pointer (some ⟨b3, 0, none⟩)), (2, .pointer (some ⟨b2, 0, none⟩)), (1, .pointer (some ⟨b1, 0, none⟩))])
    (fun (i : Nat) => [pt b1 (.cells #[.pointer (some p)] 77 (0, 0)), pt b2 (.cells #[.int .i64 0, .int .i64 0, .int .i64 0, .int .i64 0, .int .i64 0] 81 (0, 0)), pt b3 (.cells (a5 (wTo (exW rs) i)).toArray 81 (0, 0))])
    (fun (i : Nat) => rs.length - i) 0
    (by omega) ⟨rfl, rfl, rfl, rfl, rfl, trivial⟩ (by repeat (first | exact Sub.nil | refine Sub.cons (by repeat (first | exact Pick.head | apply Pick.tail)) ?_)) ?_
  rintro i hi
  refine W.sreg ?_
  refine WO.p rfl rfl ?_
  refine WO.nil ?_
  refine W.seq ?_
  refine W.cond_bl rfl (fun c1 => ?_) (fun c1 => ?_)
  · first
    | (exfalso; omega)
    | (refine W.skip ?_
       refine W.seq ?_
       refine W.block ?_
       refine W.sreg ?_
       refine WO.p rfl rfl ?_
       refine WO.alloc rfl rfl rfl (fun b4 hb4 => ?_)
       refine WO.store1 rfl rfl rfl (by first | rfl | assumption) Pick.head rfl ?_
       refine WO.nil ?_
       refine W.sreg ?_
       refine WO.load rfl rfl (Cell.own Pick.head rfl) rfl ?_
       refine WO.indexArrL (i := i) (o' := 0 + i) rfl rfl rfl (by omega) (by omega) rfl ?_
       refine WO.store1 rfl rfl rfl rfl (by repeat (first | exact Pick.head | apply Pick.tail)) (a5_blt (by omega)) ?_
       rw [a5_set (by omega)]
       refine WO.nil ?_
       refine W.sreg ?_
       refine WO.load rfl rfl (Cell.own (Pick.tail (Pick.tail (Pick.head))) rfl) rfl ?_
       refine WO.call (Post := fun v Hq => ∃ b1, v = .func (.func 75) #[] #[.pointer (some ⟨b1, 0, none⟩)] ∧ Hq = [pt b1 (.cells #[.pointer (some p)] 77 (0, 0))]) rfl Try.call74 (fun L w hi => c_pairs w _) rfl ?_
       rintro _ _ ⟨e1, rfl, rfl⟩
       refine WO.nil ?_
       refine W.block ?_
       refine W.rangeFunc2 [pt e1 (.cells #[.pointer (some p)] 77 (0, 0))] (fun q => [pt b1 (.cells #[.pointer (some p)] 77 (0, 0)), pt b2 (.cells #[.int .i64 0, .int .i64 0, .int .i64 0, .int .i64 0, .int .i64 0] 81 (0, 0)), pt b4 (.cells #[.int .i64 (i : Int)] 3 (0, 0)), pt b3 (.cells (a5 (up (wTo (exW rs) i) i (((pairsTo rs.length).take q).foldl (exF rs i) 1))).toArray 81 (0, 0))]) ((pairsTo rs.length).map pairV) rfl rfl rfl rfl Try.call75 (by repeat (first | exact Sub.nil | refine Sub.cons (by repeat (first | exact Pick.head | apply Pick.tail)) ?_)) ?_ ?_ ?_
       · intro l Hc hy w1 M' hB hk hM hi
         exact c_pairs1 _ _ p m o rest rs hP hR hn.2 l Hc hy e1 w1 M' hB hk hM hi
       · intro l w1 M hB hM hk q x hx
         obtain ⟨j, k, hq, hjk, hkn, rfl⟩ := pairV_some hx
         have hR2 : RdF encR 3 (rdCx (fnCx mixed tyTab Try.f64.ntmps w) l w1 M hB hM).B (rdCx (fnCx mixed tyTab Try.f64.ntmps w) l w1 M hB hM).w0 o rs := hR.agree hk
         have hP2 : RdC (rdCx (fnCx mixed tyTab Try.f64.ntmps w) l w1 M hB hM).B (rdCx (fnCx mixed tyTab Try.f64.ntmps w) l w1 M hB hM).w0 p (.int .i64 m :: o :: rest) := hP.agree hk
         have hB1 := exW_B hv i (q := q) (Nat.le_of_lt (List.getElem?_eq_some_iff.1 hq).1)
         have hB2 := exW_B hv i (q := q + 1) (List.getElem?_eq_some_iff.1 hq).1
         rw [foldl_take_some _ hq, exF_q] at hB2
         rw [foldl_take_some _ hq, exF_q]
         generalize hwq : ((pairsTo rs.length).take q).foldl (exF rs i) 1 = w2 at hB1 hB2
         have hru := hv.run hkn
         have hlt := hv.lt hjk hkn
         refine W.sreg ?_
         refine WO.p rfl rfl ?_
         refine WO.nil ?_
         refine W.region ?_
         refine WO.p rfl rfl ?_
         refine WO.nil ?_
         refine W.block ?_
         refine W.sreg ?_
         refine WO.load rfl rfl (Cell.own (Pick.tail (Pick.tail (Pick.head))) rfl) rfl (WO.p rfl rfl (WO.p rfl rfl (WO.p rfl rfl ?_)))
         refine WO.guard_bl rfl rfl (fun c2 => ?_) (fun c2 => ?_)
         · first
           | (exfalso; omega)
           | (refine WO.go' rfl (WO.load rfl rfl (Cell.own (Pick.tail (Pick.tail (Pick.head))) rfl) rfl (WO.pg rfl rfl rfl (WO.pg rfl rfl rfl (WO.p rfl rfl ?_))))
              refine WO.nil ?_
              refine W.cond_bl rfl (fun c3 => ?_) (fun c3 => ?_)
              · first
                | (exfalso; omega)
                | (rw [if_pos (by omega)] at hB2
                   unfold tm at hB2 hlt
                   refine W.drawD 22 [.b 0 [], .r 1 [], .b 2 [], .b 3 [], .r 4 [], .r 5 [], .r 6 [], .b 7 [], .r 8 [], .r 9 [], .r 10 [], .b 11 [], .b 12 [], .r 13 [], .r 14 [], .r 15 [], .b 16 [], .r 17 [], .r 18 [], .r 19 [], .b 20 [], .r 21 []] [] (A0 := []) (Sub.refl _) (by kernel_rfl) ?_ ?_
                   · exact (ALok.b (ALok.r (ALok.b (ALok.b (ALok.r (ALok.r (ALok.r (ALok.b (ALok.r (ALok.r (ALok.r (ALok.b (ALok.b (ALok.r (ALok.r (ALok.r (ALok.b (ALok.r (ALok.r (ALok.r (ALok.b (ALok.r ALok.nil))))))))))))))))))))))
                   refine' DT.b rfl rfl rfl ?hq ?_
                   case hq =>
                     refine WO.load rfl rfl (Cell.own (Pick.tail (Pick.tail (Pick.head))) rfl) rfl ?_
                     exact WO.nil ⟨rfl, rfl⟩
                   refine' DT.r rfl rfl rfl ?hq ?_
                   case hq =>
                     refine WO.indexArrL (i := i) (o' := 0 + i) rfl rfl rfl (by omega) (by omega) rfl ?_
                     exact WO.nil ⟨rfl, rfl⟩
                   refine' DT.b rfl rfl rfl ?hq ?_
                   case hq =>
                     refine' WO.load (v := _) rfl rfl ?hc rfl ?_
                     case hc => (first | (refine a5_cellS (t := 81) (fr := (0, 0)) (f := up (wTo (exW rs) i) i w2) ?_ ?_ (up_at _ _ _); (repeat (first | exact Sub.nil | refine Sub.cons (by repeat (first | exact Pick.head | apply Pick.tail)) ?_)); omega))
                     exact WO.nil ⟨rfl, rfl⟩
                   refine' DT.b rfl rfl rfl ?hq ?_
                   case hq =>
                     refine WO.load rfl rfl (Cell.own Pick.head rfl) rfl ?_
                     exact WO.nil ⟨rfl, rfl⟩
                   refine' DT.r rfl rfl rfl ?hq ?_
                   case hq =>
                     refine WO.p rfl rfl ?_
                     exact WO.nil ⟨rfl, rfl⟩
                   refine' DT.r rfl rfl rfl ?hq ?_
                   case hq =>
                     refine WO.field0 rfl rfl rfl ?_
                     exact WO.nil ⟨rfl, rfl⟩
                   refine' DT.r rfl rfl rfl ?hq ?_
                   case hq =>
                     refine WO.field rfl rfl rfl ?_
                     exact WO.nil ⟨rfl, rfl⟩
                   refine' DT.b rfl rfl rfl ?hq ?_
                   case hq =>
                     refine' WO.load (v := _) rfl rfl ?hc rfl ?_
                     case hc => (first | (refine hP.cellAt ?_; rfl) | (refine hP2.cellAt ?_; rfl) | (refine hR2.cell0 ?_ r0 ?_ <;> first | rfl | omega))
                     exact WO.nil ⟨rfl, rfl⟩
                   refine' DT.r rfl rfl rfl ?hq ?_
                   case hq =>
                     refine WO.p rfl rfl ?_
                     exact WO.nil ⟨rfl, rfl⟩
                   refine' DT.r rfl rfl rfl ?hq ?_
                   case hq =>
                     refine' WO.indexAddr (n := _) (i := _) rfl rfl rfl ?hs ?h1 rfl ?_
                     case hs => (first | exact hR.sl | exact hR2.sl)
                     case h1 => (first | omega | (simp; omega))
                     exact WO.nil ⟨rfl, rfl⟩
                   refine' DT.r rfl rfl rfl ?hq ?_
                   case hq =>
                     refine WO.field0 rfl rfl rfl ?_
                     exact WO.nil ⟨rfl, rfl⟩
                   refine' DT.b rfl rfl rfl ?hq ?_
                   case hq =>
                     refine' WO.load (v := _) rfl rfl ?hc rfl ?_
                     case hc => (first | (refine hP.cellAt ?_; rfl) | (refine hP2.cellAt ?_; rfl) | (refine hR2.cell0 ?_ r0 ?_ <;> first | rfl | omega))
                     exact WO.nil ⟨rfl, rfl⟩
                   refine' DT.b rfl rfl rfl ?hq ?_
                   case hq =>
                     refine WO.load rfl rfl (Cell.own Pick.head rfl) rfl ?_
                     exact WO.nil ⟨rfl, rfl⟩
                   refine' DT.r rfl rfl rfl ?hq ?_
                   case hq =>
                     refine WO.p rfl rfl ?_
                     exact WO.nil ⟨rfl, rfl⟩
                   refine' DT.r rfl rfl rfl ?hq ?_
                   case hq =>
                     refine WO.field0 rfl rfl rfl ?_
                     exact WO.nil ⟨rfl, rfl⟩
                   refine' DT.r rfl rfl rfl ?hq ?_
                   case hq =>
                     refine WO.field rfl rfl rfl ?_
                     exact WO.nil ⟨rfl, rfl⟩
                   refine' DT.b rfl rfl rfl ?hq ?_
                   case hq =>
                     refine' WO.load (v := _) rfl rfl ?hc rfl ?_
                     case hc => (first | (refine hP.cellAt ?_; rfl) | (refine hP2.cellAt ?_; rfl) | (refine hR2.cell0 ?_ r0 ?_ <;> first | rfl | omega))
                     exact WO.nil ⟨rfl, rfl⟩
                   refine' DT.r rfl rfl rfl ?hq ?_
                   case hq =>
                     refine WO.p rfl rfl ?_
                     exact WO.nil ⟨rfl, rfl⟩
                   refine' DT.r rfl rfl rfl ?hq ?_
                   case hq =>
                     refine' WO.indexAddr (n := _) (i := _) rfl rfl rfl ?hs ?h1 rfl ?_
                     case hs => (first | exact hR.sl | exact hR2.sl)
                     case h1 => (first | omega | (simp; omega))
                     exact WO.nil ⟨rfl, rfl⟩
                   refine' DT.r rfl rfl rfl ?hq ?_
                   case hq =>
                     refine WO.field0 rfl rfl rfl ?_
                     exact WO.nil ⟨rfl, rfl⟩
                   refine' DT.b rfl rfl rfl ?hq ?_
                   case hq =>
                     refine' WO.load (v := _) rfl rfl ?hc rfl ?_
                     case hc => (first | (refine hP.cellAt ?_; rfl) | (refine hP2.cellAt ?_; rfl) | (refine hR2.cell0 ?_ r0 ?_ <;> first | rfl | omega))
                     exact WO.nil ⟨rfl, rfl⟩
                   refine' DT.r rfl rfl rfl ?hq ?_
                   case hq =>
                     refine WO.ar rfl rfl rfl (by (first | (unfold in64; omega) | (unfold in64; omega))) rfl ?_
                     exact WO.nil ⟨rfl, rfl⟩
                   refine DT.nil [_, _, _, _] rfl ?_
                   refine WO.ar rfl rfl rfl (by (first | (unfold in64; omega) | (unfold in64; omega))) rfl ?_
                   refine WO.indexArrL (i := i) (o' := 0 + i) rfl rfl rfl (by omega) (by omega) rfl ?_
                   refine WO.store1 rfl rfl rfl rfl (by repeat (first | exact Pick.head | apply Pick.tail)) (a5_blt (by omega)) ?_
                   rw [a5_set (by omega), up_up]
                   refine WO.nil ?_
                   first | rw [if_pos (by omega)] | rw [if_neg (by omega)]
                   (repeat (first | exact Sub.nil | refine Sub.cons (by repeat (first | exact Pick.head | apply Pick.tail)) ?_)))
              · first
                | (exfalso; omega)
                | (refine W.skip ?_
                   first | rw [if_pos (by omega)] | rw [if_neg (by omega)]
                   (repeat (first | exact Sub.nil | refine Sub.cons (by repeat (first | exact Pick.head | apply Pick.tail)) ?_))))
         · first
           | (exfalso; omega)
           | (refine WO.no rfl rfl (WO.no rfl rfl (WO.no rfl rfl (WO.p rfl rfl ?_)))
              refine WO.nil ?_
              refine W.cond_f rfl ?_
              refine W.skip ?_
              first | rw [if_pos (by omega)] | rw [if_neg (by omega)]
              (repeat (first | exact Sub.nil | refine Sub.cons (by repeat (first | exact Pick.head | apply Pick.tail)) ?_)))
       rw [List.length_map, List.take_length, show (pairsTo rs.length).foldl (exF rs i) 1 = exW rs i from rfl, up_wTo]
       refine W.region ?_
       refine WO.ar rfl rfl rfl (by (first | (unfold in64; omega) | (unfold in64; omega))) rfl (WO.p rfl rfl ?_)
       refine WO.nil ?_
       refine' ⟨i + 1, ?hp, ?hmu, ⟨rfl, rfl, rfl, rfl, rfl, trivial⟩, ?hS⟩
       case hS => repeat (first | exact Sub.nil | refine Sub.cons (by repeat (first | exact Pick.head | apply Pick.tail)) ?_)
       case hp => omega
       case hmu => omega)
  · first
    | (exfalso; omega)
    | (refine W.exit (blk_same ?_)
       refine W.sreg ?_
       refine WO.loadA rfl rfl (Cells.own (Pick.tail (Pick.tail (Pick.head)))) rfl rfl (WO.storeA rfl rfl rfl rfl (Pick.tail (Pick.head)) rfl rfl ?_)
       refine WO.nil ?_
       refine W.ret ?_
       obtain rfl : i = rs.length := by omega
       exact fin.ret (Res.one rfl (RV.cell rfl rfl rfl (Cells.own Pick.head))) rfl)
end Go.Proofs.Ytkiaepcklbidgaa
namespace Go.Proofs.Ytkiaepcklbidgaa
open Go Go.TH
attribute [local irreducible] W WO pt
set_option maxRecDepth 10000
set_option maxHeartbeats 1000000
/-- how many ways there are to take i of n things -/
def pas : Nat → Nat → Int
  | 0, i => if i = 0 then 1 else 0
  | n + 1, i => pas n i + (if i = 0 then 0 else pas n (i - 1))
def midP (n i : Nat) : Nat → Int := fun j => if i < j then pas n j else pas (n - 1) j
theorem pas_in : ∀ n, n < 5 → ∀ i, i < 5 → 0 ≤ pas n i ∧ pas n i ≤ 6 := by decide
theorem pas_over : ∀ n, n < 5 → ∀ i, i < 5 → n < i → pas n i = 0 := by decide
theorem pas_first : ∀ n, n < 5 → pas n 0 = 1 := by decide
theorem pas_pos : ∀ n, n < 5 → ∀ i, i ≤ n → 1 ≤ pas n i := by decide
theorem midP_in {n i j : Nat} (hn : n < 5) (hj : j < 5) : 0 ≤ midP n i j ∧ midP n i j ≤ 6 := by
  unfold midP; split
  · exact pas_in n hn j hj
  · exact pas_in (n - 1) (by omega) j hj
theorem midP_start {n : Nat} (h1 : 1 ≤ n) (hn : n < 5) : a5 (pas (n - 1)) = a5 (midP n n) := a5_congr fun j hj => by
  unfold midP; split
  · rw [pas_over n hn j hj (by omega), pas_over (n - 1) (by omega) j hj (by omega)]
  · rfl
theorem midP_end {n : Nat} (hn : n < 5) : a5 (midP n 0) = a5 (pas n) := a5_congr fun j hj => by
  unfold midP; split
  · rfl
  · rw [show j = 0 by omega, pas_first n hn, pas_first (n - 1) (by omega)]
theorem midP_step {n i : Nat} (h1 : 1 ≤ n) (hi : 1 ≤ i) : a5 (up (midP n i) i (midP n i i + midP n i (i - 1))) = a5 (midP n (i - 1)) := a5_congr fun j hj => by
  unfold up
  by_cases e : j = i
  · subst e
    rw [if_pos rfl]
    unfold midP
    rw [if_neg (by omega), if_neg (by omega), if_pos (by omega)]
    obtain ⟨m, rfl⟩ : ∃ m, n = m + 1 := ⟨n - 1, by omega⟩
    rw [Nat.add_sub_cancel]
    show _ = pas m j + (if j = 0 then 0 else pas m (j - 1))
    rw [if_neg (by omega)]
  · rw [if_neg e]
    unfold midP
    by_cases h : i < j
    · rw [if_pos h, if_pos (by omega)]
    · rw [if_neg h, if_neg (by omega)]
theorem c_means (w : World) (p : Addr) (m : Int) (o : Value) (rest : List Value) (rs : List (Int × Int × Int)) (hP : RdC w.heap.size w p (.int .i64 m :: o :: rest)) (hR : RdF encR 3 w.heap.size w o rs) (hn : 1 ≤ rs.length ∧ rs.length ≤ 5) :
    Ret Try.prog 66 [.pointer (some p)].toArray w (.agg (a5 (pas (rs.length - 1))).toArray) := by
  refine Ret.of mixed tyTab Try.func66 rfl rfl ?_
  replace hR : RdF encR 3 (fnCx mixed tyTab Try.f66.ntmps w).B (fnCx mixed tyTab Try.f66.ntmps w).w0 o rs := hR
  replace hP : RdC (fnCx mixed tyTab Try.f66.ntmps w).B (fnCx mixed tyTab Try.f66.ntmps w).w0 p (.int .i64 m :: o :: rest) := hP
  refine W.sreg ?_
  refine WO.alloc rfl rfl rfl (fun b1 hb1 => ?_)
  refine WO.nil ?_
  refine W.sreg ?_
  refine' WO.build (cs := _) rfl rfl rfl ?hf rfl ?_
  case hf => (conv => lhs; simp [-List.getD_eq_getElem?_getD, fillL, vcl, wrl, TTab.pl?.lget']) <;> rfl
  refine WO.alloc rfl rfl rfl (fun b2 hb2 => ?_)
  refine WO.storeA rfl rfl rfl rfl Pick.head rfl rfl ?_
  refine WO.nil ?_
  refine W.seq ?_
  refine W.sreg ?_
  refine WO.p rfl rfl ?_
  refine WO.nil ?_
  refine W.block ?_
  refine W.loop (fun (n : Nat) => 1 ≤ n ∧ n ≤ rs.length)
    (fun (n : Nat) => [(4, .int .i64 (n : Int)), (3, .pointer (some ⟨b2, 0, none⟩)), (2, .pointer (some ⟨b1, 0, none⟩)), (0, .pointer (some p))])
    (fun (n : Nat) => [pt b1 (.cells #[.int .i64 0, .int .i64 0, .int .i64 0, .int .i64 0, .int .i64 0] 81 (0, 0)), pt b2 (.cells (a5 (pas (n - 1))).toArray 81 (0, 0))])
    (fun (n : Nat) => rs.length - n) 1
    (by omega) ⟨rfl, rfl, rfl, rfl, trivial⟩ (by repeat (first | exact Sub.nil | refine Sub.cons (by repeat (first | exact Pick.head | apply Pick.tail)) ?_)) ?_
  rintro n hn1
  refine W.seq ?_
  refine W.sreg ?_
  refine WO.p rfl rfl (WO.p rfl rfl (WO.p rfl rfl (WO.field0 rfl rfl rfl (WO.field rfl rfl rfl ?_))))
  refine' WO.load (v := _) rfl rfl ?hc rfl ?_
  case hc => (first | (refine hP.cellAt ?_; rfl))
  refine' WO.len (n := _) rfl rfl ?hs rfl ?_
  case hs => (first | exact hR.sl)
  refine WO.p rfl rfl ?_
  refine WO.nil ?_
  refine W.cond_bl rfl (fun c1 => ?_) (fun c1 => ?_)
  · first
    | (exfalso; omega)
    | (refine W.skip ?_
       refine W.seq ?_
       refine W.block ?_
       refine W.sreg ?_
       refine WO.p rfl rfl (WO.p rfl rfl ?_)
       refine WO.nil ?_
       refine W.block ?_
       rw [midP_start (n := n) (by omega) (by omega)]
       refine W.loop2 (fun (i : Nat) (z : Int) => i ≤ n ∧ z = (i : Int))
         (fun (i : Nat) (z : Int) => [(5, .int .i64 z), (4, .int .i64 (n : Int)), (3, .pointer (some ⟨b2, 0, none⟩)), (2, .pointer (some ⟨b1, 0, none⟩)), (0, .pointer (some p))])
         (fun (i : Nat) (z : Int) => [pt b1 (.cells #[.int .i64 0, .int .i64 0, .int .i64 0, .int .i64 0, .int .i64 0] 81 (0, 0)), pt b2 (.cells (a5 (midP n i)).toArray 81 (0, 0))])
         (fun (i : Nat) (z : Int) => i) n n
         (by omega) ⟨rfl, rfl, rfl, rfl, rfl, trivial⟩ (by repeat (first | exact Sub.nil | refine Sub.cons (by repeat (first | exact Pick.head | apply Pick.tail)) ?_)) ?_
       rintro i z hi1
       refine W.seq ?_
       refine W.sreg ?_
       refine WO.p rfl rfl (WO.p rfl rfl ?_)
       refine WO.nil ?_
       refine W.cond_bl rfl (fun c2 => ?_) (fun c2 => ?_)
       · first
         | (exfalso; omega)
         | (refine W.skip ?_
            refine W.seq ?_
            refine W.block ?_
            have hm1 := midP_in (n := n) (i := i) (j := i) (by omega) (by omega)
            have hm2 := midP_in (n := n) (i := i) (j := i - 1) (by omega) (by omega)
            refine W.drawD 7 [.r 0 [], .r 1 [], .b 2 [], .r 3 [], .r 4 [], .r 5 [], .b 6 []] [] (A0 := []) (Sub.refl _) (by kernel_rfl) ?_ ?_
            · exact (ALok.r (ALok.r (ALok.b (ALok.r (ALok.r (ALok.r (ALok.b ALok.nil)))))))
            refine' DT.r rfl rfl rfl ?hq ?_
            case hq =>
              refine WO.p rfl rfl ?_
              exact WO.nil ⟨rfl, rfl⟩
            refine' DT.r rfl rfl rfl ?hq ?_
            case hq =>
              refine WO.indexArrE (i := i) (o' := 0 + i) rfl rfl rfl (by omega) (by omega) (by omega) rfl ?_
              exact WO.nil ⟨rfl, rfl⟩
            refine' DT.b rfl rfl rfl ?hq ?_
            case hq =>
              refine' WO.load (v := _) rfl rfl ?hc rfl ?_
              case hc => (first | (refine a5_cellS (t := 81) (fr := (0, 0)) (f := midP n i) (i := i) (x := midP n i i) ?_ ?_ rfl; (repeat (first | exact Sub.nil | refine Sub.cons (by repeat (first | exact Pick.head | apply Pick.tail)) ?_)); omega))
              exact WO.nil ⟨rfl, rfl⟩
            refine' DT.r rfl rfl rfl ?hq ?_
            case hq =>
              refine WO.p rfl rfl ?_
              exact WO.nil ⟨rfl, rfl⟩
            refine' DT.r rfl rfl rfl ?hq ?_
            case hq =>
              refine WO.ar rfl rfl rfl (by (first | (unfold in64; omega) | (unfold in64; omega))) rfl ?_
              exact WO.nil ⟨rfl, rfl⟩
            refine' DT.r rfl rfl rfl ?hq ?_
            case hq =>
              refine WO.indexArrE (i := i - 1) (o' := 0 + (i - 1)) rfl rfl rfl (by omega) (by omega) (by omega) rfl ?_
              exact WO.nil ⟨rfl, rfl⟩
            refine' DT.b rfl rfl rfl ?hq ?_
            case hq =>
              refine' WO.load (v := _) rfl rfl ?hc rfl ?_
              case hc => (first | (refine a5_cellS (t := 81) (fr := (0, 0)) (f := midP n i) (i := i - 1) (x := midP n i (i - 1)) ?_ ?_ rfl; (repeat (first | exact Sub.nil | refine Sub.cons (by repeat (first | exact Pick.head | apply Pick.tail)) ?_)); omega))
              exact WO.nil ⟨rfl, rfl⟩
            refine DT.nil [_, _] rfl ?_
            refine WO.ar rfl rfl rfl (by (first | (unfold in64; omega) | (unfold in64; omega))) rfl ?_
            refine WO.indexArrE (i := i) (o' := 0 + i) rfl rfl rfl (by omega) (by omega) (by omega) rfl ?_
            refine WO.store1 rfl rfl rfl rfl (by repeat (first | exact Pick.head | apply Pick.tail)) (a5_blt (by omega)) ?_
            rw [a5_set (by omega), midP_step (n := n) (i := i) (by omega) (by omega)]
            refine WO.nil ?_
            refine W.region ?_
            refine WO.p rfl rfl (WO.ar rfl rfl rfl (by (first | (unfold in64; omega) | (unfold in64; omega))) rfl (WO.p rfl rfl ?_))
            refine WO.nil ?_
            refine' ⟨i - 1, _, ?hp, ?hmu, ⟨rfl, rfl, rfl, rfl, rfl, trivial⟩, ?hS⟩
            case hS => repeat (first | exact Sub.nil | refine Sub.cons (by repeat (first | exact Pick.head | apply Pick.tail)) ?_)
            case hp => omega
            case hmu => omega)
       · first
         | (exfalso; omega)
         | (refine W.exit (blk_same ?_)
            obtain rfl : i = 0 := by omega
            rw [midP_end (n := n) (by omega), show pas n = pas (n + 1 - 1) from rfl]
            refine W.region ?_
            refine WO.p rfl rfl (WO.ar rfl rfl rfl (by (first | (unfold in64; omega) | (unfold in64; omega))) rfl (WO.p rfl rfl ?_))
            refine WO.nil ?_
            refine' ⟨n + 1, ?hp, ?hmu, ⟨rfl, rfl, rfl, rfl, trivial⟩, ?hS⟩
            case hS => repeat (first | exact Sub.nil | refine Sub.cons (by repeat (first | exact Pick.head | apply Pick.tail)) ?_)
            case hp => omega
            case hmu => omega))
  · first
    | (exfalso; omega)
    | (refine W.exit (blk_same ?_)
       refine W.sreg ?_
       refine WO.loadA rfl rfl (Cells.own (Pick.tail (Pick.head))) rfl rfl (WO.storeA rfl rfl rfl rfl Pick.head rfl rfl ?_)
       refine WO.nil ?_
       refine W.ret ?_
       obtain rfl : n = rs.length := by omega
       exact fin.ret (Res.one rfl (RV.cell rfl rfl rfl (Cells.own Pick.head))) rfl)
/-- two runs, the first one in order -/
def seg (n j t : Nat) : List (Nat × Nat) := (List.range t).map fun s => (j, j + 1 + s)
def pairs2 (n j : Nat) : List (Nat × Nat) := (List.range j).flatMap fun j => seg n j (n - (j + 1))
theorem pairs2_succ (n j : Nat) : pairs2 n (j + 1) = pairs2 n j ++ seg n j (n - (j + 1)) := by
  unfold pairs2; rw [List.range_succ, List.flatMap_append]; simp
theorem seg_succ (n j t : Nat) : seg n j (t + 1) = seg n j t ++ [(j, j + 1 + t)] := by
  unfold seg; rw [List.range_succ, List.map_append]; rfl
theorem seg_mem {n j t : Nat} {q : Nat × Nat} (h : q ∈ seg n j t) (ht : j + 1 + t ≤ n) : q.1 < q.2 ∧ q.2 < n := by
  unfold seg at h
  obtain ⟨s, hs, rfl⟩ := List.mem_map.1 h
  simp at hs
  dsimp only
  omega
theorem pairs2_mem {n j : Nat} {q : Nat × Nat} (h : q ∈ pairs2 n j) (hj : j ≤ n) : q.1 < q.2 ∧ q.2 < n := by
  unfold pairs2 at h
  obtain ⟨k, hk, h⟩ := List.mem_flatMap.1 h
  simp at hk
  exact seg_mem h (by omega)
theorem pairs2_ten : ∀ n, n < 6 → ∀ j, j < n → ∀ t, t < 6 → j + 1 + t ≤ n → (pairs2 n j ++ seg n j t).length ≤ 10 := by decide
theorem fold_in {m : Int} {rs : List (Int × Int × Int)} (hv : VT m rs) (i : Nat) : ∀ (l : List (Nat × Nat)) (w : Int) (s : Nat), (∀ q ∈ l, q.1 < q.2 ∧ q.2 < rs.length) → 1 ≤ w → w ≤ 60 ^ s → 1 ≤ l.foldl (exF rs i) w ∧ l.foldl (exF rs i) w ≤ 60 ^ (s + l.length)
  | [], w, s, _, h1, h2 => ⟨h1, h2⟩
  | q :: l, w, s, h, h1, h2 => by
    have h3 := exF_in hv (i := i) (h q (by simp)) ⟨h1, h2⟩
    rw [← Int.pow_succ] at h3
    have h4 := fold_in hv i l _ (s + 1) (fun x hx => h x (by simp [hx])) h3.1 h3.2
    rw [List.length_cons, show s + (l.length + 1) = s + 1 + l.length by omega]
    exact h4
theorem exP_B {m : Int} {rs : List (Int × Int × Int)} (hv : VT m rs) (i : Nat) {j t : Nat} (hj : j < rs.length) (ht : j + 1 + t ≤ rs.length) : 1 ≤ (pairs2 rs.length j ++ seg rs.length j t).foldl (exF rs i) 1 ∧ (pairs2 rs.length j ++ seg rs.length j t).foldl (exF rs i) 1 ≤ 604661760000000000 := by
  have hn := hv.n
  have h1 := fold_in hv i (pairs2 rs.length j ++ seg rs.length j t) 1 0 (fun q hq => by
    rcases List.mem_append.1 hq with h | h
    · exact pairs2_mem h (by omega)
    · exact seg_mem h ht) (by omega) (by simp)
  have h2 := pairs2_ten rs.length (by omega) j hj t (by omega) ht
  have h3 := (by decide : ∀ q : Nat, q ≤ 10 → (60 : Int) ^ q ≤ 604661760000000000) _ h2
  rw [Nat.zero_add] at h1
  omega
theorem exF_comm (rs : List (Int × Int × Int)) (i : Nat) (x y : Nat × Nat) (z : Int) : exF rs i (exF rs i z x) y = exF rs i (exF rs i z y) x := by
  unfold exF
  by_cases h1 : i ≠ x.1 ∧ i ≠ x.2 <;> by_cases h2 : i ≠ y.1 ∧ i ≠ y.2
  · rw [if_pos h1, if_pos h2, if_pos h1, if_pos h2]; exact Int.mul_right_comm _ _ _
  · rw [if_neg h2, if_neg h2]
  · rw [if_neg h1, if_neg h1]
  · rw [if_neg h1, if_neg h2, if_neg h1]
theorem pairs_perm : ∀ n, n < 6 → (pairs2 n n).Perm (pairsTo n) := by decide
theorem exP_all {rs : List (Int × Int × Int)} (hn : rs.length ≤ 5) (i : Nat) : (pairs2 rs.length rs.length).foldl (exF rs i) 1 = exW rs i :=
  (pairs_perm rs.length (by omega)).foldl_eq' (fun x _ y _ z => exF_comm rs i x y z) 1
theorem pas_quo : ∀ n, n < 5 → ∀ k, k < 5 → k + 1 ≤ n → (pas n k * ((n : Int) - (k : Int))).tdiv ((k : Int) + 1) = pas n (k + 1) := by decide
/-- a number in proportion to the weight of a run -/
def raw (m : Int) (rs : List (Int × Int × Int)) (i : Nat) : Int := if m = 1 then 1 else if m = 2 then pas (rs.length - 1) i else exW rs i
theorem mul6 {a b : Int} (h : 0 ≤ a ∧ a ≤ 6) (h2 : 0 ≤ b ∧ b ≤ 5) : 0 ≤ a * b ∧ a * b ≤ 30 := ⟨Int.mul_nonneg h.1 h2.1, Int.mul_le_mul h.2 h2.2 h2.1 (by omega)⟩
theorem ref_raw (w : World) (m : Int) (o : Value) (rs : List (Int × Int × Int)) (i : Nat) (hR : RdF encR 3 w.heap.size w o rs) (hv : VT m rs) (hi : i < rs.length) :
    Ret Try.prog 47 [.agg #[.int .i64 m, o], .int .i64 (i : Int)].toArray w (.int .i64 (raw m rs i)) := by
  refine Ret.of mixed tyTab Try.func47 rfl rfl ?_
  replace hR : RdF encR 3 (fnCx mixed tyTab Try.f47.ntmps w).B (fnCx mixed tyTab Try.f47.ntmps w).w0 o rs := hR
  have hn := hv.n
  have hm := hv.m
  have ho := hR.sl.oc
  refine W.sreg ?_
  refine WO.boxA rfl rfl (fun b1 hb1 => ?_)
  refine WO.p rfl rfl ?_
  refine WO.nil ?_
  refine W.sreg ?_
  refine WO.fieldL rfl rfl rfl (WO.load rfl rfl (Cell.own Pick.head rfl) rfl ?_)
  refine' WO.len (n := _) rfl rfl ?hs rfl ?_
  case hs => (first | exact hR.sl)
  refine WO.p rfl rfl ?_
  refine WO.nil ?_
  refine W.seq ?_
  refine W.sreg ?_
  refine WO.field0 rfl rfl rfl (WO.load rfl rfl (Cell.own Pick.head rfl) rfl ?_)
  refine WO.nil ?_
  refine W.block ?_
  refine W.sreg ?_
  refine WO.p rfl rfl (WO.p rfl rfl ?_)
  refine WO.nil ?_
  refine W.cond_bl rfl (fun c1 => ?_) (fun c1 => ?_)
  · first
    | (exfalso; omega)
    | (refine W.sreg ?_
       refine WO.p rfl rfl ?_
       refine WO.nil ?_
       refine W.ret ?_
       refine fin.ret (Res.one rfl (RV.tmp rfl)) ?_
       refine congrArg (Value.int .i64) ?_
       unfold raw
       first | (rw [if_pos (by omega)]; done) | (rw [if_neg (by omega), if_pos (by omega), show i = k by omega]; done) | (obtain rfl : j = rs.length := (by omega); rw [if_neg (by omega), if_neg (by omega), hc, exP_all hn.2]))
  · first
    | (exfalso; omega)
    | (refine W.sreg ?_
       refine WO.p rfl rfl (WO.p rfl rfl ?_)
       refine WO.nil ?_
       refine W.cond_bl rfl (fun c2 => ?_) (fun c2 => ?_)
       · first
         | (exfalso; omega)
         | (refine W.sreg ?_
            refine WO.p rfl rfl ?_
            refine WO.nil ?_
            refine W.seq ?_
            refine W.sreg ?_
            refine WO.p rfl rfl ?_
            refine WO.nil ?_
            refine W.block ?_
            refine W.loop2 (fun (k : Nat) (c : Int) => k ≤ i ∧ c = pas (rs.length - 1) k)
              (fun (k : Nat) (c : Int) => [(7, .int .i64 (k : Int)), (6, .int .i64 c), (5, .int .i64 (rs.length : Int)), (1, .int .i64 (i : Int))])
              (fun (k : Nat) (c : Int) => [])
              (fun (k : Nat) (c : Int) => i - k) 0 1
              (by exact ⟨by omega, (pas_first _ (by omega)).symm⟩) ⟨rfl, rfl, rfl, rfl, trivial⟩ (by repeat (first | exact Sub.nil | refine Sub.cons (by repeat (first | exact Pick.head | apply Pick.tail)) ?_)) ?_
            rintro k c ⟨hk, hc⟩
            subst hc
            refine W.seq ?_
            refine W.sreg ?_
            refine WO.p rfl rfl (WO.p rfl rfl (WO.p rfl rfl ?_))
            refine WO.nil ?_
            refine W.cond_bl rfl (fun c3 => ?_) (fun c3 => ?_)
            · first
              | (exfalso; omega)
              | (refine W.skip ?_
                 refine W.seq ?_
                 refine W.block ?_
                 have hk5 := pas_in (rs.length - 1) (by omega) k (by omega)
                 have hpb := mul6 hk5 (b := (rs.length : Int) - 1 - k) ⟨by omega, by omega⟩
                 have hpq := pas_quo (rs.length - 1) (by omega) k (by omega) (by omega)
                 rw [show (((rs.length - 1 : Nat) : Int)) - (k : Int) = (rs.length : Int) - 1 - k by omega] at hpq
                 have hk6 := pas_in (rs.length - 1) (by omega) (k + 1) (by omega)
                 refine W.region ?_
                 refine WO.p rfl rfl (WO.p rfl rfl (WO.ar rfl rfl rfl (by (first | (unfold in64; omega) | (unfold in64; omega))) rfl (WO.p rfl rfl (WO.ar rfl rfl rfl (by (first | (unfold in64; omega) | (unfold in64; omega))) rfl (WO.ar rfl rfl rfl (by (first | (unfold in64; omega) | (unfold in64; omega))) rfl (WO.p rfl rfl (WO.ar rfl rfl rfl (by (first | (unfold in64; omega) | (unfold in64; omega))) rfl (WO.quo rfl rfl (by first | omega | assumption) (by (first | (unfold in64; omega) | (unfold in64; omega))) rfl (WO.p rfl rfl ?_)))))))))
                 refine WO.nil ?_
                 refine W.region ?_
                 refine WO.p rfl rfl (WO.ar rfl rfl rfl (by (first | (unfold in64; omega) | (unfold in64; omega))) rfl (WO.p rfl rfl ?_))
                 refine WO.nil ?_
                 refine' ⟨k + 1, _, ?hp, ?hmu, ⟨rfl, rfl, rfl, rfl, trivial⟩, ?hS⟩
                 case hS => repeat (first | exact Sub.nil | refine Sub.cons (by repeat (first | exact Pick.head | apply Pick.tail)) ?_)
                 case hp => exact ⟨by omega, hpq⟩
                 case hmu => omega)
            · first
              | (exfalso; omega)
              | (refine W.exit (blk_same ?_)
                 refine W.sreg ?_
                 refine WO.p rfl rfl (WO.p rfl rfl ?_)
                 refine WO.nil ?_
                 refine W.ret ?_
                 refine fin.ret (Res.one rfl (RV.tmp rfl)) ?_
                 refine congrArg (Value.int .i64) ?_
                 unfold raw
                 first | (rw [if_pos (by omega)]; done) | (rw [if_neg (by omega), if_pos (by omega), show i = k by omega]; done) | (obtain rfl : j = rs.length := (by omega); rw [if_neg (by omega), if_neg (by omega), hc, exP_all hn.2])))
       · first
         | (exfalso; omega)
         | (refine W.skip ?_
            refine W.sreg ?_
            refine WO.p rfl rfl ?_
            refine WO.nil ?_
            refine W.seq ?_
            refine W.sreg ?_
            refine WO.p rfl rfl ?_
            refine WO.nil ?_
            refine W.block ?_
            refine W.loop2 (fun (j : Nat) (c : Int) => j ≤ rs.length ∧ c = (pairs2 rs.length j).foldl (exF rs i) 1)
              (fun (j : Nat) (c : Int) => [(9, .int .i64 (j : Int)), (8, .int .i64 c), (5, .int .i64 (rs.length : Int)), (1, .int .i64 (i : Int)), (2, .pointer (some ⟨b1, 0, none⟩))])
              (fun (j : Nat) (c : Int) => [pt b1 (.cells #[.int .i64 m, o] 24 (0, 0))])
              (fun (j : Nat) (c : Int) => rs.length - j) 0 1
              (by exact ⟨by omega, rfl⟩) ⟨rfl, rfl, rfl, rfl, rfl, trivial⟩ (by repeat (first | exact Sub.nil | refine Sub.cons (by repeat (first | exact Pick.head | apply Pick.tail)) ?_)) ?_
            rintro j c ⟨hj, hc⟩
            refine W.seq ?_
            refine W.sreg ?_
            refine WO.p rfl rfl (WO.p rfl rfl (WO.p rfl rfl ?_))
            refine WO.nil ?_
            refine W.cond_bl rfl (fun c4 => ?_) (fun c4 => ?_)
            · first
              | (exfalso; omega)
              | (refine W.skip ?_
                 refine W.seq ?_
                 refine W.block ?_
                 refine W.sreg ?_
                 refine WO.p rfl rfl (WO.ar rfl rfl rfl (by (first | (unfold in64; omega) | (unfold in64; omega))) rfl (WO.p rfl rfl ?_))
                 refine WO.nil ?_
                 refine W.block ?_
                 refine W.loop2 (fun (t : Nat) (d : Int) => j + 1 + t ≤ rs.length ∧ d = (pairs2 rs.length j ++ seg rs.length j t).foldl (exF rs i) 1)
                   (fun (t : Nat) (d : Int) => [(10, .int .i64 ((j + 1 + t : Nat) : Int)), (9, .int .i64 (j : Int)), (8, .int .i64 d), (5, .int .i64 (rs.length : Int)), (1, .int .i64 (i : Int)), (2, .pointer (some ⟨b1, 0, none⟩))])
                   (fun (t : Nat) (d : Int) => [pt b1 (.cells #[.int .i64 m, o] 24 (0, 0))])
                   (fun (t : Nat) (d : Int) => rs.length - t) 0 c
                   (by exact ⟨by omega, by rw [hc]; simp [seg]⟩) ⟨rfl, rfl, rfl, rfl, rfl, rfl, trivial⟩ (by repeat (first | exact Sub.nil | refine Sub.cons (by repeat (first | exact Pick.head | apply Pick.tail)) ?_)) ?_
                 rintro t d ⟨ht, hw⟩
                 refine W.seq ?_
                 refine W.sreg ?_
                 refine WO.p rfl rfl (WO.p rfl rfl (WO.p rfl rfl ?_))
                 refine WO.nil ?_
                 refine W.cond_bl rfl (fun c5 => ?_) (fun c5 => ?_)
                 · first
                   | (exfalso; omega)
                   | (refine W.skip ?_
                      refine W.seq ?_
                      refine W.block ?_
                      have hB1 := exP_B hv i (j := j) (t := t) (by omega) (by omega)
                      have hB2 := exP_B hv i (j := j) (t := t + 1) (by omega) (by omega)
                      rw [seg_succ, ← List.append_assoc, List.foldl_append] at hB2
                      simp only [List.foldl] at hB2
                      rw [← hw, exF_q] at hB2
                      rw [← hw] at hB1
                      have hlt := hv.lt (j := j) (k := j + 1 + t) (by omega) (by omega)
                      refine W.sreg ?_
                      refine WO.p rfl rfl (WO.p rfl rfl (WO.p rfl rfl (WO.p rfl rfl ?_)))
                      refine WO.guard_bl rfl rfl (fun c6 => ?_) (fun c6 => ?_)
                      · first
                        | (exfalso; omega)
                        | (refine WO.pg rfl rfl rfl (WO.pg rfl rfl rfl (WO.pg rfl rfl rfl (WO.p rfl rfl ?_)))
                           refine WO.nil ?_
                           refine W.cond_bl rfl (fun c7 => ?_) (fun c7 => ?_)
                           · first
                             | (exfalso; omega)
                             | (rw [if_pos (by omega)] at hB2
                                unfold tm at hB2 hlt
                                refine W.drawD 14 [.r 0 [], .r 1 [], .b 2 [], .r 3 [], .r 4 [], .r 5 [], .b 6 [], .r 7 [], .b 8 [], .r 9 [], .r 10 [], .r 11 [], .b 12 [], .r 13 []] [] (A0 := []) (Sub.refl _) (by kernel_rfl) ?_ ?_
                                · exact (ALok.r (ALok.r (ALok.b (ALok.r (ALok.r (ALok.r (ALok.b (ALok.r (ALok.b (ALok.r (ALok.r (ALok.r (ALok.b (ALok.r ALok.nil))))))))))))))
                                refine' DT.r rfl rfl rfl ?hq ?_
                                case hq =>
                                  refine WO.p rfl rfl ?_
                                  exact WO.nil ⟨rfl, rfl⟩
                                refine' DT.r rfl rfl rfl ?hq ?_
                                case hq =>
                                  refine WO.fieldL rfl rfl rfl ?_
                                  exact WO.nil ⟨rfl, rfl⟩
                                refine' DT.b rfl rfl rfl ?hq ?_
                                case hq =>
                                  refine WO.load rfl rfl (Cell.own Pick.head rfl) rfl ?_
                                  exact WO.nil ⟨rfl, rfl⟩
                                refine' DT.r rfl rfl rfl ?hq ?_
                                case hq =>
                                  refine WO.p rfl rfl ?_
                                  exact WO.nil ⟨rfl, rfl⟩
                                refine' DT.r rfl rfl rfl ?hq ?_
                                case hq =>
                                  refine' WO.indexAddr (n := _) (i := _) rfl rfl rfl ?hs ?h1 rfl ?_
                                  case hs => (first | exact hR.sl)
                                  case h1 => (first | omega | (simp; omega))
                                  exact WO.nil ⟨rfl, rfl⟩
                                refine' DT.r rfl rfl rfl ?hq ?_
                                case hq =>
                                  refine WO.field0 rfl rfl rfl ?_
                                  exact WO.nil ⟨rfl, rfl⟩
                                refine' DT.b rfl rfl rfl ?hq ?_
                                case hq =>
                                  refine' WO.load (v := _) rfl rfl ?hc rfl ?_
                                  case hc => (first | (refine hR.cell0 ?_ r0 ?_ <;> first | rfl | omega))
                                  exact WO.nil ⟨rfl, rfl⟩
                                refine' DT.r rfl rfl rfl ?hq ?_
                                case hq =>
                                  refine WO.fieldL rfl rfl rfl ?_
                                  exact WO.nil ⟨rfl, rfl⟩
                                refine' DT.b rfl rfl rfl ?hq ?_
                                case hq =>
                                  refine WO.load rfl rfl (Cell.own Pick.head rfl) rfl ?_
                                  exact WO.nil ⟨rfl, rfl⟩
                                refine' DT.r rfl rfl rfl ?hq ?_
                                case hq =>
                                  refine WO.p rfl rfl ?_
                                  exact WO.nil ⟨rfl, rfl⟩
                                refine' DT.r rfl rfl rfl ?hq ?_
                                case hq =>
                                  refine' WO.indexAddr (n := _) (i := _) rfl rfl rfl ?hs ?h1 rfl ?_
                                  case hs => (first | exact hR.sl)
                                  case h1 => (first | omega | (simp; omega))
                                  exact WO.nil ⟨rfl, rfl⟩
                                refine' DT.r rfl rfl rfl ?hq ?_
                                case hq =>
                                  refine WO.field0 rfl rfl rfl ?_
                                  exact WO.nil ⟨rfl, rfl⟩
                                refine' DT.b rfl rfl rfl ?hq ?_
                                case hq =>
                                  refine' WO.load (v := _) rfl rfl ?hc rfl ?_
                                  case hc => (first | (refine hR.cell0 ?_ r0 ?_ <;> first | rfl | omega))
                                  exact WO.nil ⟨rfl, rfl⟩
                                refine' DT.r rfl rfl rfl ?hq ?_
                                case hq =>
                                  refine WO.ar rfl rfl rfl (by (first | (unfold in64; omega) | (unfold in64; omega))) rfl ?_
                                  exact WO.nil ⟨rfl, rfl⟩
                                refine DT.nil [_] rfl ?_
                                refine WO.ar rfl rfl rfl (by (first | (unfold in64; omega) | (unfold in64; omega))) rfl (WO.p rfl rfl ?_)
                                refine WO.nil ?_
                                refine W.region ?_
                                refine WO.p rfl rfl (WO.ar rfl rfl rfl (by (first | (unfold in64; omega) | (unfold in64; omega))) rfl (WO.p rfl rfl ?_))
                                refine WO.nil ?_
                                refine' ⟨t + 1, _, ?hp, ?hmu, ⟨rfl, rfl, rfl, rfl, rfl, rfl, trivial⟩, ?hS⟩
                                case hS => repeat (first | exact Sub.nil | refine Sub.cons (by repeat (first | exact Pick.head | apply Pick.tail)) ?_)
                                case hp => exact ⟨by omega, by rw [seg_succ, ← List.append_assoc, List.foldl_append]; simp only [List.foldl]; rw [← hw, exF_q]; first | rw [if_pos (by omega)]; rfl | rw [if_neg (by omega)]⟩
                                case hmu => omega)
                           · first
                             | (exfalso; omega)
                             | (refine W.skip ?_
                                refine W.region ?_
                                refine WO.p rfl rfl (WO.ar rfl rfl rfl (by (first | (unfold in64; omega) | (unfold in64; omega))) rfl (WO.p rfl rfl ?_))
                                refine WO.nil ?_
                                refine' ⟨t + 1, _, ?hp, ?hmu, ⟨rfl, rfl, rfl, rfl, rfl, rfl, trivial⟩, ?hS⟩
                                case hS => repeat (first | exact Sub.nil | refine Sub.cons (by repeat (first | exact Pick.head | apply Pick.tail)) ?_)
                                case hp => exact ⟨by omega, by rw [seg_succ, ← List.append_assoc, List.foldl_append]; simp only [List.foldl]; rw [← hw, exF_q]; first | rw [if_pos (by omega)]; rfl | rw [if_neg (by omega)]⟩
                                case hmu => omega))
                      · first
                        | (exfalso; omega)
                        | (refine WO.no rfl rfl (WO.no rfl rfl (WO.no rfl rfl (WO.p rfl rfl ?_)))
                           refine WO.nil ?_
                           refine W.cond_f rfl ?_
                           refine W.skip ?_
                           refine W.region ?_
                           refine WO.p rfl rfl (WO.ar rfl rfl rfl (by (first | (unfold in64; omega) | (unfold in64; omega))) rfl (WO.p rfl rfl ?_))
                           refine WO.nil ?_
                           refine' ⟨t + 1, _, ?hp, ?hmu, ⟨rfl, rfl, rfl, rfl, rfl, rfl, trivial⟩, ?hS⟩
                           case hS => repeat (first | exact Sub.nil | refine Sub.cons (by repeat (first | exact Pick.head | apply Pick.tail)) ?_)
                           case hp => exact ⟨by omega, by rw [seg_succ, ← List.append_assoc, List.foldl_append]; simp only [List.foldl]; rw [← hw, exF_q]; first | rw [if_pos (by omega)]; rfl | rw [if_neg (by omega)]⟩
                           case hmu => omega))
                 · first
                   | (exfalso; omega)
                   | (refine W.exit (blk_same ?_)
                      refine W.region ?_
                      refine WO.p rfl rfl (WO.ar rfl rfl rfl (by (first | (unfold in64; omega) | (unfold in64; omega))) rfl (WO.p rfl rfl ?_))
                      refine WO.nil ?_
                      refine' ⟨j + 1, _, ?hp, ?hmu, ⟨rfl, rfl, rfl, rfl, rfl, trivial⟩, ?hS⟩
                      case hS => repeat (first | exact Sub.nil | refine Sub.cons (by repeat (first | exact Pick.head | apply Pick.tail)) ?_)
                      case hp => exact ⟨by omega, by rw [hw, pairs2_succ, show t = rs.length - (j + 1) by omega]⟩
                      case hmu => omega))
            · first
              | (exfalso; omega)
              | (refine W.exit (blk_same ?_)
                 refine W.sreg ?_
                 refine WO.p rfl rfl (WO.p rfl rfl ?_)
                 refine WO.nil ?_
                 refine W.ret ?_
                 refine fin.ret (Res.one rfl (RV.tmp rfl)) ?_
                 refine congrArg (Value.int .i64) ?_
                 unfold raw
                 first | (rw [if_pos (by omega)]; done) | (rw [if_neg (by omega), if_pos (by omega), show i = k by omega]; done) | (obtain rfl : j = rs.length := (by omega); rw [if_neg (by omega), if_neg (by omega), hc, exP_all hn.2]))))
end Go.Proofs.Ytkiaepcklbidgaa
namespace Go.Proofs.Ytkiaepcklbidgaa
open Go Go.TH
attribute [local irreducible] W WO pt
set_option maxRecDepth 10000
set_option maxHeartbeats 1000000
theorem gcd2_posL {a b : Int} (ha : 0 < a) (hb : 0 ≤ b) : 0 < gcd2 a b := by
  unfold gcd2
  have : 0 < Nat.gcd a.toNat b.toNat := Nat.gcd_pos_of_pos_left _ (by omega)
  omega
theorem gcdF_pos : ∀ (l : List Int) (d : Int), 0 < d → (∀ x ∈ l, 0 ≤ x) → 0 < l.foldl gcd2 d
  | [], _, h, _ => h
  | x :: l, d, h, hx => gcdF_pos l (gcd2 d x) (gcd2_posL h (hx x (by simp))) (fun y hy => hx y (by simp [hy]))
section
variable {m : Int} {rs : List (Int × Int × Int)}
theorem exW_all (hv : VT m rs) (i : Nat) : 1 ≤ exW rs i ∧ exW rs i ≤ 604661760000000000 := by
  have := exW_B hv i (q := (pairsTo rs.length).length) (Nat.le_refl _)
  rw [List.take_length] at this
  exact this
theorem raw_in (hv : VT m rs) {i : Nat} (hi : i < rs.length) : 1 ≤ raw m rs i ∧ raw m rs i ≤ 604661760000000000 := by
  have hn := hv.n
  unfold raw
  split
  · omega
  split
  · have h1 := pas_pos (rs.length - 1) (by omega) i (by omega)
    have h2 := pas_in (rs.length - 1) (by omega) i (by omega)
    omega
  · exact exW_all hv i
/-- the greatest common divisor of all of them -/
def gcdR (m : Int) (rs : List (Int × Int × Int)) : Int := gcdL ((List.range rs.length).map (raw m rs))
theorem raws_nn (hv : VT m rs) : ∀ x ∈ (List.range rs.length).map (raw m rs), 0 ≤ x := by
  intro x hx
  obtain ⟨i, hi, rfl⟩ := List.mem_map.1 hx
  have := raw_in hv (List.mem_range.1 hi)
  omega
theorem gcdR_pos (hv : VT m rs) : 0 < gcdR m rs := by
  have hn := hv.n
  have h0 := raw_in hv (i := 0) (by omega)
  have hnn := raws_nn hv
  unfold gcdR gcdL
  obtain ⟨k, hk⟩ : ∃ k, rs.length = k + 1 := ⟨rs.length - 1, by omega⟩
  rw [hk, List.range_succ_eq_map] at hnn ⊢
  simp only [List.map_cons, List.foldl]
  refine gcdF_pos _ _ (by rw [gcd2_0 (by omega)]; omega) (fun x hx => hnn x (by simp only [List.map_cons, List.mem_cons]; exact .inr hx))
/-- the weight of a run -/
def wts (m : Int) (rs : List (Int × Int × Int)) (i : Nat) : Int := (raw m rs i).tdiv (gcdR m rs)
theorem wts_in (hv : VT m rs) {i : Nat} (hi : i < rs.length) : 0 ≤ wts m rs i ∧ wts m rs i ≤ 604661760000000000 := by
  have h1 := raw_in hv hi
  have h2 := gcdR_pos hv
  unfold wts
  have h3 := Int.tdiv_nonneg (a := raw m rs i) (b := gcdR m rs) (by omega) (by omega)
  have h4 := Int.tdiv_le_self (a := raw m rs i) (gcdR m rs) (by omega)
  omega
/-- the sum of the first weights -/
def wsum (m : Int) (rs : List (Int × Int × Int)) : Nat → Int
  | 0 => 0
  | i + 1 => wsum m rs i + wts m rs i
theorem wsum_in (hv : VT m rs) : ∀ {i : Nat}, i ≤ rs.length → 0 ≤ wsum m rs i ∧ wsum m rs i ≤ 604661760000000000 * i
  | 0, _ => by simp [wsum]
  | i + 1, h => by
    have h1 := wsum_in hv (i := i) (by omega)
    have h2 := wts_in hv (i := i) (by omega)
    have e : wsum m rs (i + 1) = wsum m rs i + wts m rs i := rfl
    omega
/-- the weights while they are brought into least terms -/
def wMid (m : Int) (rs : List (Int × Int × Int)) (i : Nat) : Nat → Int := fun j => if j < rs.length then (if j < i then wts m rs j else raw m rs j) else 0
theorem wMid_0 : a5 (wTo (raw m rs) rs.length) = a5 (wMid m rs 0) := a5_congr fun j _ => by
  unfold wTo wMid
  split
  · rw [if_neg (by omega)]
  · rfl
theorem wMid_n : a5 (wMid m rs rs.length) = a5 (wTo (wts m rs) rs.length) := a5_congr fun j _ => by
  unfold wTo wMid
  split
  · rfl
  · rfl
theorem wMid_up {i : Nat} (hi : i < rs.length) : up (wMid m rs i) i (wts m rs i) = wMid m rs (i + 1) := by
  funext j
  unfold up wMid
  by_cases e : j = i
  · subst e; rw [if_pos rfl, if_pos hi, if_pos (by omega)]
  · rw [if_neg e]
    split
    · by_cases h : j < i
      · rw [if_pos h, if_pos (by omega)]
      · rw [if_neg h, if_neg (by omega)]
    · rfl
theorem wMid_at {i : Nat} (hi : i < rs.length) : wMid m rs i i = raw m rs i := by unfold wMid; rw [if_pos hi, if_neg (by omega)]
theorem wMid_at1 {i : Nat} (hi : i < rs.length) : wMid m rs (i + 1) i = wts m rs i := by unfold wMid; rw [if_pos hi, if_pos (by omega)]
end
theorem wMid_list {m : Int} {rs : List (Int × Int × Int)} : (List.range rs.length).map (wMid m rs 0) = (List.range rs.length).map (raw m rs) := by
  refine List.map_congr_left fun i hi => ?_
  have := List.mem_range.1 hi
  unfold wMid; rw [if_pos this, if_neg (by omega)]
/-- what lies in memory: a trial with its weights, and their sum -/
def sc (m : Int) (o : Value) (f : Nat → Int) (s : Int) : List Value := [.int .i64 m, o, .int .i64 (f 0), .int .i64 (f 1), .int .i64 (f 2), .int .i64 (f 3), .int .i64 (f 4), .int .i64 s]
theorem sc_set {m : Int} {o : Value} {f : Nat → Int} {s : Int} {i : Nat} {x : Int} (h : i < 5) : (sc m o f s).set (2 + i) (.int .i64 x) = sc m o (up f i x) s := by
  match i, h with
  | 0, _ => rfl
  | 1, _ => rfl
  | 2, _ => rfl
  | 3, _ => rfl
  | 4, _ => rfl
theorem sc_a5 {m : Int} {o : Value} {f g : Nat → Int} {s : Int} (h : a5 f = a5 g) : sc m o f s = sc m o g s := by
  unfold a5 at h
  simp only [List.cons.injEq, Value.int.injEq, true_and, and_true] at h
  unfold sc
  rw [h.1, h.2.1, h.2.2.1, h.2.2.2.1, h.2.2.2.2]
theorem sc_get {m : Int} {o : Value} {f : Nat → Int} {s : Int} {i : Nat} (h : i < 5) : lget (sc m o f s) (2 + i) = some (.int .i64 (f i)) := by
  match i, h with
  | 0, _ => rfl
  | 1, _ => rfl
  | 2, _ => rfl
  | 3, _ => rfl
  | 4, _ => rfl
theorem sc_blt {m : Int} {o : Value} {f : Nat → Int} {s : Int} {i : Nat} (h : i < 5) : Nat.blt (2 + i) (sc m o f s).length = true := by rw [Nat.blt_eq]; show 2 + i < 8; omega
theorem sc_cellS {P : Program} {C : Cx P} {H : List HP} {b i : Nat} {t : TypeId} {fr : Nat × Nat} {m : Int} {o : Value} {f : Nat → Int} {s x : Int} (h1 : Sub H [pt b (.cells (sc m o f s).toArray t fr)]) (h : i < 5) (e : f i = x) : Cell C H ⟨b, 2 + i, none⟩ (.int .i64 x) := by
  subst e
  cases h1 with
  | cons p _ => exact Cell.own p (sc_get h)
theorem sc_rd {P : Program} {C : Cx P} {H H' L : List HP} {b n : Nat} {t : TypeId} {fr : Nat × Nat} {m : Int} {o : Value} {f : Nat → Int} {s : Int} {w : World} (p : Pick (pt b (.cells (sc m o f s).toArray t fr)) H H') (hi : Inv C.w0 C.M (L ++ H) w) (hn : n ≤ 5) : RdF encI 1 w.heap.size w (.slice (some ⟨b, 2, none⟩) n 5) ((List.range n).map f) := by
  refine RdF.of_pt (fun a => ⟨_, rfl⟩) p hi (by simp) (by omega) fun i x hx => ⟨_, rfl, ?_⟩
  rw [List.getElem?_map] at hx
  cases h : (List.range n)[i]? with
  | none => rw [h] at hx; cases hx
  | some j =>
    rw [h] at hx
    obtain ⟨hlt, hj⟩ := List.getElem?_eq_some_iff.1 h
    rw [List.getElem_range] at hj
    rw [List.length_range] at hlt
    subst hj
    simp at hx
    subst hx
    exact sc_get (by omega)
/-- the function of a manner -/
def manF (m : Int) : Nat := if m = 0 then 64 else if m = 1 then 65 else 66
theorem manF_call {m : Int} : ∀ (args : Array Value) (w : World), (callFunc (manF m) args).run Try.prog w = .ok (.enter (manF m) args) w := by
  unfold manF
  split
  · exact Try.call64
  split
  · exact Try.call65
  · exact Try.call66
theorem c_man (w : World) (p : Addr) (m : Int) (o : Value) (rest : List Value) (rs : List (Int × Int × Int)) (hP : RdC w.heap.size w p (.int .i64 m :: o :: rest)) (hR : RdF encR 3 w.heap.size w o rs) (hv : VT m rs) :
    Ret Try.prog (manF m) [.pointer (some p)].toArray w (.agg (a5 (wMid m rs 0)).toArray) := by
  have hn := hv.n
  have hm := hv.m
  rw [← wMid_0]
  unfold manF
  split
  · rename_i h0
    have := c_exact w p m o rest rs hP hR hv
    rw [show a5 (wTo (exW rs) rs.length) = a5 (wTo (raw m rs) rs.length) from a5_congr fun j _ => by
      have e : raw m rs j = exW rs j := by unfold raw; rw [if_neg (by omega), if_neg (by omega)]
      unfold wTo; rw [e]] at this
    exact this
  split
  · rename_i h0 h1
    have := c_plain w p m o rest rs hP hR hn.2
    rw [show a5 (wTo (fun _ => 1) rs.length) = a5 (wTo (raw m rs) rs.length) from a5_congr fun j _ => by
      have e : raw m rs j = 1 := by unfold raw; rw [if_pos h1]
      unfold wTo; rw [e]] at this
    exact this
  · rename_i h0 h1
    have := c_means w p m o rest rs hP hR ⟨by omega, hn.2⟩
    rw [show a5 (pas (rs.length - 1)) = a5 (wTo (raw m rs) rs.length) from a5_congr fun j hj => by
      have e : raw m rs j = pas (rs.length - 1) j := by unfold raw; rw [if_neg h1, if_pos (by omega)]
      unfold wTo; rw [e]
      split
      · rfl
      · exact pas_over (rs.length - 1) (by omega) j hj (by omega)] at this
    exact this
theorem man_find {m : Int} (hm : 0 ≤ m ∧ m ≤ 2) {es : Array MapEntry} (h : es.toList = [⟨.int .i64 0, .func (.func 64) #[] #[], 0⟩, ⟨.int .i64 1, .func (.func 65) #[] #[], 1⟩, ⟨.int .i64 2, .func (.func 66) #[] #[], 2⟩]) :
    Instr.findNow (.int .i64) (.int .i64 m) es.toList 0 = some (some (m.toNat, .func (.func (manF m)) (([] : List Value).toArray) (([] : List Value).toArray))) := by
  rw [h]
  obtain rfl | rfl | rfl : m = 0 ∨ m = 1 ∨ m = 2 := by omega
  · rfl
  · rfl
  · rfl
theorem c_newScales (w : World) (m : Int) (o : Value) (rs : List (Int × Int × Int)) (hR : RdF encR 3 w.heap.size w o rs) :
    Ct Try.prog 45 [.agg #[.int .i64 m, o]].toArray w fun v w' => ∃ Hq, (∃ pv, v = .tuple #[pv, .int .i64 (chkT m rs)] ∧ Hq = [PtrP pv (chkT m rs) (sc m o (wTo (wts m rs) rs.length) (wsum m rs rs.length)) 83]) ∧ Inv w [] Hq w' := by
  refine Ct.ofI mixed tyTab Try.func45 rfl rfl ?_
  replace hR : RdF encR 3 (fnCx mixed tyTab Try.f45.ntmps w).B (fnCx mixed tyTab Try.f45.ntmps w).w0 o rs := hR
  have ho := hR.sl.oc
  obtain ⟨_, oa, oc, hoe, _⟩ := hR.sl
  subst hoe
  refine W.sreg ?_
  refine WO.boxA rfl rfl (fun b1 hb1 => ?_)
  refine WO.p rfl rfl (WO.p rfl rfl ?_)
  refine WO.nil ?_
  refine W.seq ?_
  refine W.sreg ?_
  refine WO.loadA rfl rfl (Cells.own Pick.head) rfl rfl ?_
  refine WO.callR (r := .int .i64 (chkT m rs)) rfl Try.call19 (fun L w hi => c_CheckTest w m _ rs (hR.later hi)) rfl ?_
  refine WO.p rfl rfl ?_
  refine WO.nil ?_
  refine W.sreg ?_
  refine WO.p rfl rfl (WO.p rfl rfl ?_)
  refine WO.nil ?_
  refine W.cond_bl rfl (fun c1 => ?_) (fun c1 => ?_)
  · first
    | (exfalso; omega)
    | (refine W.sreg ?_
       refine WO.p rfl rfl (WO.p rfl rfl (WO.p rfl rfl ?_))
       refine WO.nil ?_
       refine W.ret ?_
       refine fin.ret (Res.two rfl (RV.tmp rfl) (RV.tmp rfl)) ?_
       first | exact ⟨_, rfl, fun h hs => Sub.sat (.cons .head .nil) (PtrP.no (by assumption) h hs)⟩ | exact ⟨_, by rw [hv.to], fun h hs => Sub.sat (.cons .head .nil) (PtrP.yes .head h hs)⟩)
  · first
    | (exfalso; omega)
    | (refine W.skip ?_
       have hv : VT m rs := VT.of (by omega)
       have hn := hv.n
       have hm := hv.m
       have hgp := gcdR_pos hv
       refine W.sreg ?_
       refine WO.loadA rfl rfl (Cells.own Pick.head) rfl rfl ?_
       refine' WO.build (cs := _) rfl rfl rfl ?hf rfl ?_
       case hf => (conv => lhs; simp [-List.getD_eq_getElem?_getD, fillL, vcl, wrl, TTab.pl?.lget']) <;> rfl
       refine WO.boxA rfl rfl (fun b2 hb2 => ?_)
       refine WO.p rfl rfl ?_
       refine WO.nil ?_
       refine W.sreg ?_
       refine WO.makeMap rfl (fun b3 => ?_)
       refine WO.insertI Try.underlying105 Try.underlying3 rfl rfl rfl (by repeat (first | exact Pick.head | apply Pick.tail)) rfl ?_
       refine WO.insertI Try.underlying105 Try.underlying3 rfl rfl rfl (by repeat (first | exact Pick.head | apply Pick.tail)) rfl ?_
       refine WO.insertI Try.underlying105 Try.underlying3 rfl rfl rfl (by repeat (first | exact Pick.head | apply Pick.tail)) rfl ?_
       refine WO.p rfl rfl (WO.p rfl rfl ?_)
       refine WO.nil ?_
       refine W.sreg ?_
       refine WO.p rfl rfl (WO.p rfl rfl (WO.field0 rfl rfl rfl (WO.load rfl rfl (Cell.own (Pick.tail (Pick.tail (Pick.head))) rfl) rfl ?_)))
       refine WO.lookupI Try.underlying105 Try.underlying3 rfl rfl (by repeat (first | exact Pick.head | apply Pick.tail)) (man_find hm rfl) rfl ?_
       refine WO.p rfl rfl ?_
       refine WO.callCR (first := []) (captured := []) rfl rfl manF_call (fun L w hi => c_man w ⟨b2, 0, none⟩ m _ _ rs (RdC.own (b := b2) (by repeat (first | exact Pick.head | apply Pick.tail)) hi) (hR.later hi) hv) rfl ?_
       refine WO.p rfl rfl (WO.fieldL rfl rfl rfl (WO.storeP rfl rfl rfl rfl (Pick.tail (Pick.head)) (Nat.le_of_ble_eq_true rfl) rfl ?_))
       refine WO.nil ?_
       refine W.seq ?_
       refine W.drawD 6 [.r 0 [], .r 1 [], .r 2 [], .r 3 [], .b 4 [], .r 5 []] [] (A0 := []) (Sub.refl _) (by kernel_rfl) ?_ ?_
       · exact (ALok.r (ALok.r (ALok.r (ALok.r (ALok.b (ALok.r ALok.nil))))))
       refine' DT.r rfl rfl rfl ?hq ?_
       case hq =>
         refine WO.p rfl rfl ?_
         exact WO.nil ⟨rfl, rfl⟩
       refine' DT.r rfl rfl rfl ?hq ?_
       case hq =>
         refine WO.p rfl rfl ?_
         exact WO.nil ⟨rfl, rfl⟩
       refine' DT.r rfl rfl rfl ?hq ?_
       case hq =>
         refine WO.fieldL rfl rfl rfl ?_
         exact WO.nil ⟨rfl, rfl⟩
       refine' DT.r rfl rfl rfl ?hq ?_
       case hq =>
         refine WO.fieldL rfl rfl rfl ?_
         exact WO.nil ⟨rfl, rfl⟩
       refine' DT.b rfl rfl rfl ?hq ?_
       case hq =>
         refine WO.load rfl rfl (Cell.own (Pick.tail (Pick.tail (Pick.head))) rfl) rfl ?_
         exact WO.nil ⟨rfl, rfl⟩
       refine' DT.r rfl rfl rfl ?hq ?_
       case hq =>
         refine' WO.len (n := _) rfl rfl ?hs rfl ?_
         case hs => (first | exact hR.sl)
         exact WO.nil ⟨rfl, rfl⟩
       refine DT.nil [_, _, _] rfl ?_
       refine WO.sliceArrH rfl rfl rfl (by omega) rfl ?_
       refine WO.callR (r := .int .i64 (gcdR m rs)) rfl Try.call59 (fun L w hi => by have h := c_divisor w _ ((List.range rs.length).map (wMid m rs 0)) (sc_rd (b := b2) (t := 83) (fr := (0, 0)) (m := m) (o := .slice oa rs.length oc) (f := wMid m rs 0) (s := 0) (by repeat (first | exact Pick.head | apply Pick.tail)) hi hn.2) (by rw [wMid_list]; exact raws_nn hv); rw [wMid_list] at h; exact h) rfl ?_
       refine WO.p rfl rfl ?_
       refine WO.nil ?_
       refine W.seq ?_
       refine W.sreg ?_
       refine WO.fieldL rfl rfl rfl (WO.load rfl rfl (Cell.own (Pick.tail (Pick.tail (Pick.head))) rfl) rfl ?_)
       refine' WO.len (n := _) rfl rfl ?hs rfl ?_
       case hs => (first | exact hR.sl)
       refine WO.p rfl rfl ?_
       refine WO.nil ?_
       refine W.block ?_
       refine W.loop (fun (i : Nat) => i ≤ rs.length)
         (fun (i : Nat) => [(39, .int .i64 (i : Int)), (38, .int .i64 (rs.length : Int)), (7, .int .i64 (gcdR m rs)), (5, .pointer (some ⟨b2, 0, none⟩))])
         (fun (i : Nat) => [pt b2 (.cells (sc m (.slice oa rs.length oc) (wMid m rs i) (wsum m rs i)).toArray 83 (0, 0))])
         (fun (i : Nat) => rs.length - i) 0
         (by omega) ⟨rfl, rfl, rfl, rfl, trivial⟩ (by repeat (first | exact Sub.nil | refine Sub.cons (by repeat (first | exact Pick.head | apply Pick.tail)) ?_)) ?_
       rintro i hi
       refine W.sreg ?_
       refine WO.p rfl rfl ?_
       refine WO.nil ?_
       refine W.seq ?_
       refine W.cond_bl rfl (fun c2 => ?_) (fun c2 => ?_)
       · first
         | (exfalso; omega)
         | (refine W.skip ?_
            refine W.seq ?_
            refine W.block ?_
            refine W.sreg ?_
            refine WO.p rfl rfl (WO.p rfl rfl ?_)
            refine WO.nil ?_
            refine W.seq ?_
            have hwi := wts_in hv (i := i) (by omega)
            have hsi := wsum_in hv (i := i) (by omega)
            refine W.drawD 10 [.r 0 [], .r 1 [], .r 2 [], .r 3 [], .r 4 [], .b 5 [], .r 6 [], .r 7 [], .r 8 [], .r 9 []] [] (A0 := []) (Sub.refl _) (by kernel_rfl) ?_ ?_
            · exact (ALok.r (ALok.r (ALok.r (ALok.r (ALok.r (ALok.b (ALok.r (ALok.r (ALok.r (ALok.r ALok.nil))))))))))
            refine' DT.r rfl rfl rfl ?hq ?_
            case hq =>
              refine WO.p rfl rfl ?_
              exact WO.nil ⟨rfl, rfl⟩
            refine' DT.r rfl rfl rfl ?hq ?_
            case hq =>
              refine WO.p rfl rfl ?_
              exact WO.nil ⟨rfl, rfl⟩
            refine' DT.r rfl rfl rfl ?hq ?_
            case hq =>
              refine WO.p rfl rfl ?_
              exact WO.nil ⟨rfl, rfl⟩
            refine' DT.r rfl rfl rfl ?hq ?_
            case hq =>
              refine WO.fieldL rfl rfl rfl ?_
              exact WO.nil ⟨rfl, rfl⟩
            refine' DT.r rfl rfl rfl ?hq ?_
            case hq =>
              refine WO.indexArrL (i := i) (o' := 2 + i) rfl rfl rfl (by omega) (by omega) rfl ?_
              exact WO.nil ⟨rfl, rfl⟩
            refine' DT.b rfl rfl rfl ?hq ?_
            case hq =>
              refine' WO.load (v := _) rfl rfl ?hc rfl ?_
              case hc => (first | (refine sc_cellS (t := 83) (fr := (0, 0)) (m := m) (o := .slice oa rs.length oc) (f := wMid m rs i) (s := wsum m rs i) ?_ ?_ (wMid_at (by omega)); (repeat (first | exact Sub.nil | refine Sub.cons (by repeat (first | exact Pick.head | apply Pick.tail)) ?_)); omega))
              exact WO.nil ⟨rfl, rfl⟩
            refine' DT.r rfl rfl rfl ?hq ?_
            case hq =>
              refine WO.p rfl rfl ?_
              exact WO.nil ⟨rfl, rfl⟩
            refine' DT.r rfl rfl rfl ?hq ?_
            case hq =>
              refine WO.quo rfl rfl (by first | omega | assumption) (by (first | (unfold wts at hwi; unfold in64; omega))) rfl ?_
              exact WO.nil ⟨rfl, rfl⟩
            refine' DT.r rfl rfl rfl ?hq ?_
            case hq =>
              refine WO.p rfl rfl ?_
              exact WO.nil ⟨rfl, rfl⟩
            refine' DT.r rfl rfl rfl ?hq ?_
            case hq =>
              refine WO.fieldL rfl rfl rfl ?_
              exact WO.nil ⟨rfl, rfl⟩
            refine DT.nil [_] rfl ?_
            refine WO.indexArrL (i := i) (o' := 2 + i) rfl rfl rfl (by omega) (by omega) rfl ?_
            refine WO.store1 rfl rfl rfl rfl (by repeat (first | exact Pick.head | apply Pick.tail)) (sc_blt (by omega)) ?_
            rw [sc_set (by omega), show (raw m rs i).tdiv (gcdR m rs) = wts m rs i from rfl, wMid_up (by omega)]
            refine WO.nil ?_
            refine W.drawD 10 [.r 0 [], .r 1 [], .r 2 [], .b 3 [], .r 4 [], .r 5 [], .r 6 [], .r 7 [], .r 8 [], .b 9 []] [] (A0 := []) (Sub.refl _) (by kernel_rfl) ?_ ?_
            · exact (ALok.r (ALok.r (ALok.r (ALok.b (ALok.r (ALok.r (ALok.r (ALok.r (ALok.r (ALok.b ALok.nil))))))))))
            refine' DT.r rfl rfl rfl ?hq ?_
            case hq =>
              refine WO.p rfl rfl ?_
              exact WO.nil ⟨rfl, rfl⟩
            refine' DT.r rfl rfl rfl ?hq ?_
            case hq =>
              refine WO.p rfl rfl ?_
              exact WO.nil ⟨rfl, rfl⟩
            refine' DT.r rfl rfl rfl ?hq ?_
            case hq =>
              refine WO.fieldL rfl rfl rfl ?_
              exact WO.nil ⟨rfl, rfl⟩
            refine' DT.b rfl rfl rfl ?hq ?_
            case hq =>
              refine WO.load rfl rfl (Cell.own Pick.head rfl) rfl ?_
              exact WO.nil ⟨rfl, rfl⟩
            refine' DT.r rfl rfl rfl ?hq ?_
            case hq =>
              refine WO.p rfl rfl ?_
              exact WO.nil ⟨rfl, rfl⟩
            refine' DT.r rfl rfl rfl ?hq ?_
            case hq =>
              refine WO.p rfl rfl ?_
              exact WO.nil ⟨rfl, rfl⟩
            refine' DT.r rfl rfl rfl ?hq ?_
            case hq =>
              refine WO.p rfl rfl ?_
              exact WO.nil ⟨rfl, rfl⟩
            refine' DT.r rfl rfl rfl ?hq ?_
            case hq =>
              refine WO.fieldL rfl rfl rfl ?_
              exact WO.nil ⟨rfl, rfl⟩
            refine' DT.r rfl rfl rfl ?hq ?_
            case hq =>
              refine WO.indexArrL (i := i) (o' := 2 + i) rfl rfl rfl (by omega) (by omega) rfl ?_
              exact WO.nil ⟨rfl, rfl⟩
            refine' DT.b rfl rfl rfl ?hq ?_
            case hq =>
              refine' WO.load (v := _) rfl rfl ?hc rfl ?_
              case hc => (first | (refine sc_cellS (t := 83) (fr := (0, 0)) (m := m) (o := .slice oa rs.length oc) (f := wMid m rs (i + 1)) (s := wsum m rs i) ?_ ?_ (wMid_at1 (by omega)); (repeat (first | exact Sub.nil | refine Sub.cons (by repeat (first | exact Pick.head | apply Pick.tail)) ?_)); omega))
              exact WO.nil ⟨rfl, rfl⟩
            refine DT.nil [_] rfl ?_
            refine WO.ar rfl rfl rfl (by (first | (unfold in64; omega) | (unfold in64; omega))) rfl (WO.p rfl rfl (WO.fieldL rfl rfl rfl (WO.store1 rfl rfl rfl (by first | rfl | assumption) Pick.head rfl ?_)))
            refine WO.nil ?_
            refine W.region ?_
            refine WO.ar rfl rfl rfl (by (first | (unfold in64; omega) | (unfold in64; omega))) rfl (WO.p rfl rfl ?_)
            refine WO.nil ?_
            refine' ⟨i + 1, ?hp, ?hmu, ⟨rfl, rfl, rfl, rfl, trivial⟩, ?hS⟩
            case hS => repeat (first | exact Sub.nil | refine Sub.cons (by repeat (first | exact Pick.head | apply Pick.tail)) ?_)
            case hp => omega
            case hmu => omega)
       · first
         | (exfalso; omega)
         | (refine W.exit (blk_same ?_)
            obtain rfl : i = rs.length := by omega
            rw [sc_a5 wMid_n]
            refine W.sreg ?_
            refine WO.p rfl rfl (WO.p rfl rfl (WO.p rfl rfl ?_))
            refine WO.nil ?_
            refine W.ret ?_
            refine fin.ret (Res.two rfl (RV.tmp rfl) (RV.tmp rfl)) ?_
            first | exact ⟨_, rfl, fun h hs => Sub.sat (.cons .head .nil) (PtrP.no (by assumption) h hs)⟩ | exact ⟨_, by rw [hv.to], fun h hs => Sub.sat (.cons .head .nil) (PtrP.yes .head h hs)⟩))
end Go.Proofs.Ytkiaepcklbidgaa
namespace Go.Proofs.Ytkiaepcklbidgaa
open Go Go.TH
set_option maxRecDepth 10000
theorem sq (x z : Int) : 4*(x*z) ≤ (x+z)*(x+z) := by
  have : 0 ≤ (x-z)*(x-z) := by
    rcases Int.le_total 0 (x-z) with h | h
    · exact Int.mul_nonneg h h
    · have := Int.mul_nonneg (a := -(x-z)) (b := -(x-z)) (by omega) (by omega)
      rwa [Int.neg_mul_neg] at this
  grind
theorem xyz {x y z : Int} (hx : 1 ≤ x) (hy : 1 ≤ y) (hz : 1 ≤ z) (h : x + y + z ≤ 60) : y * (x * z) ≤ 8000 := by
  have h1 := sq x z
  have h2 : (x+z)*(x+z) ≤ (60-y)*(60-y) := Int.mul_le_mul (by omega) (by omega) (by omega) (by omega)
  have h3 : y * (4*(x*z)) ≤ y * ((60-y)*(60-y)) := Int.mul_le_mul_of_nonneg_left (by omega) (by omega)
  have h4 : ∀ n : Nat, n < 60 → ((n:Int) * ((60-(n:Int))*(60-(n:Int)))) ≤ 32000 := by decide
  have h5 := h4 y.toNat (by omega)
  rw [show (y.toNat : Int) = y by omega] at h5
  have h6 : y * (4*(x*z)) = 4 * (y*(x*z)) := by rw [Int.mul_left_comm]
  omega
theorem V4 {a b c d : Int} (h1 : 1 ≤ b - a) (h2 : 1 ≤ c - b) (h3 : 1 ≤ d - c) (h : d - a ≤ 60) : 1*(b-a)*(c-a)*(c-b)*(d-a)*(d-b)*(d-c) ≤ 1670880000 := by
  obtain ⟨x, hx⟩ : ∃ x, x = b - a := ⟨_, rfl⟩
  obtain ⟨y, hy⟩ : ∃ x, x = c - b := ⟨_, rfl⟩
  obtain ⟨z, hz⟩ : ∃ x, x = d - c := ⟨_, rfl⟩
  have e : 1*(b-a)*(c-a)*(c-b)*(d-a)*(d-b)*(d-c) = (y*(x*z)) * (((x+y)*(y+z)) * (x+y+z)) := by
    subst hx hy hz; grind
  rw [e]
  have k1 := xyz (x := x) (y := y) (z := z) (by omega) (by omega) (by omega) (by omega)
  have k2 := sq (x+y) (y+z)
  have k3 : (x+y+(y+z))*(x+y+(y+z)) ≤ 118 * 118 := Int.mul_le_mul (by omega) (by omega) (by omega) (by omega)
  have k4 : (x+y)*(y+z) ≤ 3481 := by omega
  have n0 : 0 ≤ (x+y)*(y+z) := Int.mul_nonneg (by omega) (by omega)
  have k5 : ((x+y)*(y+z)) * (x+y+z) ≤ 3481 * 60 := Int.mul_le_mul k4 (by omega) (by omega) (by omega)
  have n1 : 0 ≤ ((x+y)*(y+z)) * (x+y+z) := Int.mul_nonneg n0 (by omega)
  exact Int.mul_le_mul k1 k5 n1 (by omega)
theorem V3 {a b c : Int} (h1 : 1 ≤ b - a) (h2 : 1 ≤ c - b) (h : c - a ≤ 60) : 1*(b-a)*(c-a)*(c-b) ≤ 1670880000 := by
  have k1 : (b - a) * (c - a) ≤ 60 * 60 := Int.mul_le_mul (by omega) (by omega) (by omega) (by omega)
  have k0 : 0 ≤ (b - a) * (c - a) := Int.mul_nonneg (by omega) (by omega)
  have k2 : (b - a) * (c - a) * (c - b) ≤ 3600 * 60 := Int.mul_le_mul k1 (by omega) (by omega) (by omega)
  rw [Int.one_mul]
  omega
section
variable {m : Int} {rs : List (Int × Int × Int)}
theorem ex20 (h : rs.length = 2) : exW rs 0 = 1 := by unfold exW; rw [h]; rfl
theorem ex21 (h : rs.length = 2) : exW rs 1 = 1 := by unfold exW; rw [h]; rfl
theorem ex30 (h : rs.length = 3) : exW rs 0 = 1 * (tm rs 2 - tm rs 1) := by unfold exW; rw [h]; rfl
theorem ex31 (h : rs.length = 3) : exW rs 1 = 1 * (tm rs 2 - tm rs 0) := by unfold exW; rw [h]; rfl
theorem ex32 (h : rs.length = 3) : exW rs 2 = 1 * (tm rs 1 - tm rs 0) := by unfold exW; rw [h]; rfl
theorem ex40 (h : rs.length = 4) : exW rs 0 = 1 * (tm rs 2 - tm rs 1) * (tm rs 3 - tm rs 1) * (tm rs 3 - tm rs 2) := by unfold exW; rw [h]; rfl
theorem ex41 (h : rs.length = 4) : exW rs 1 = 1 * (tm rs 2 - tm rs 0) * (tm rs 3 - tm rs 0) * (tm rs 3 - tm rs 2) := by unfold exW; rw [h]; rfl
theorem ex42 (h : rs.length = 4) : exW rs 2 = 1 * (tm rs 1 - tm rs 0) * (tm rs 3 - tm rs 0) * (tm rs 3 - tm rs 1) := by unfold exW; rw [h]; rfl
theorem ex43 (h : rs.length = 4) : exW rs 3 = 1 * (tm rs 1 - tm rs 0) * (tm rs 2 - tm rs 0) * (tm rs 2 - tm rs 1) := by unfold exW; rw [h]; rfl
theorem ex50 (h : rs.length = 5) : exW rs 0 = 1 * (tm rs 2 - tm rs 1) * (tm rs 3 - tm rs 1) * (tm rs 3 - tm rs 2) * (tm rs 4 - tm rs 1) * (tm rs 4 - tm rs 2) * (tm rs 4 - tm rs 3) := by unfold exW; rw [h]; rfl
theorem ex51 (h : rs.length = 5) : exW rs 1 = 1 * (tm rs 2 - tm rs 0) * (tm rs 3 - tm rs 0) * (tm rs 3 - tm rs 2) * (tm rs 4 - tm rs 0) * (tm rs 4 - tm rs 2) * (tm rs 4 - tm rs 3) := by unfold exW; rw [h]; rfl
theorem ex52 (h : rs.length = 5) : exW rs 2 = 1 * (tm rs 1 - tm rs 0) * (tm rs 3 - tm rs 0) * (tm rs 3 - tm rs 1) * (tm rs 4 - tm rs 0) * (tm rs 4 - tm rs 1) * (tm rs 4 - tm rs 3) := by unfold exW; rw [h]; rfl
theorem ex53 (h : rs.length = 5) : exW rs 3 = 1 * (tm rs 1 - tm rs 0) * (tm rs 2 - tm rs 0) * (tm rs 2 - tm rs 1) * (tm rs 4 - tm rs 0) * (tm rs 4 - tm rs 1) * (tm rs 4 - tm rs 2) := by unfold exW; rw [h]; rfl
theorem ex54 (h : rs.length = 5) : exW rs 4 = 1 * (tm rs 1 - tm rs 0) * (tm rs 2 - tm rs 0) * (tm rs 2 - tm rs 1) * (tm rs 3 - tm rs 0) * (tm rs 3 - tm rs 1) * (tm rs 3 - tm rs 2) := by unfold exW; rw [h]; rfl
theorem exW_lt (hv : VT m rs) {i : Nat} (hi : i < rs.length) : exW rs i ≤ 1670880000 := by
  have hn := hv.n
  have hl := fun j k (hjk : j < k) (hk : k < rs.length) => hv.lt hjk hk
  obtain h | h | h | h : rs.length = 2 ∨ rs.length = 3 ∨ rs.length = 4 ∨ rs.length = 5 := by omega
  · obtain rfl | rfl : i = 0 ∨ i = 1 := by omega
    · rw [ex20 h]; omega
    · rw [ex21 h]; omega
  · obtain rfl | rfl | rfl : i = 0 ∨ i = 1 ∨ i = 2 := by omega
    · rw [ex30 h]; have := hl 1 2 (by omega) (by omega); omega
    · rw [ex31 h]; have := hl 0 2 (by omega) (by omega); omega
    · rw [ex32 h]; have := hl 0 1 (by omega) (by omega); omega
  · obtain rfl | rfl | rfl | rfl : i = 0 ∨ i = 1 ∨ i = 2 ∨ i = 3 := by omega
    · rw [ex40 h]; exact V3 (hl 1 2 (by omega) (by omega)).1 (hl 2 3 (by omega) (by omega)).1 (hl 1 3 (by omega) (by omega)).2
    · rw [ex41 h]; exact V3 (hl 0 2 (by omega) (by omega)).1 (hl 2 3 (by omega) (by omega)).1 (hl 0 3 (by omega) (by omega)).2
    · rw [ex42 h]; exact V3 (hl 0 1 (by omega) (by omega)).1 (hl 1 3 (by omega) (by omega)).1 (hl 0 3 (by omega) (by omega)).2
    · rw [ex43 h]; exact V3 (hl 0 1 (by omega) (by omega)).1 (hl 1 2 (by omega) (by omega)).1 (hl 0 2 (by omega) (by omega)).2
  · obtain rfl | rfl | rfl | rfl | rfl : i = 0 ∨ i = 1 ∨ i = 2 ∨ i = 3 ∨ i = 4 := by omega
    · rw [ex50 h]; exact V4 (hl 1 2 (by omega) (by omega)).1 (hl 2 3 (by omega) (by omega)).1 (hl 3 4 (by omega) (by omega)).1 (hl 1 4 (by omega) (by omega)).2
    · rw [ex51 h]; exact V4 (hl 0 2 (by omega) (by omega)).1 (hl 2 3 (by omega) (by omega)).1 (hl 3 4 (by omega) (by omega)).1 (hl 0 4 (by omega) (by omega)).2
    · rw [ex52 h]; exact V4 (hl 0 1 (by omega) (by omega)).1 (hl 1 3 (by omega) (by omega)).1 (hl 3 4 (by omega) (by omega)).1 (hl 0 4 (by omega) (by omega)).2
    · rw [ex53 h]; exact V4 (hl 0 1 (by omega) (by omega)).1 (hl 1 2 (by omega) (by omega)).1 (hl 2 4 (by omega) (by omega)).1 (hl 0 4 (by omega) (by omega)).2
    · rw [ex54 h]; exact V4 (hl 0 1 (by omega) (by omega)).1 (hl 1 2 (by omega) (by omega)).1 (hl 2 3 (by omega) (by omega)).1 (hl 0 3 (by omega) (by omega)).2
theorem raw_lt (hv : VT m rs) {i : Nat} (hi : i < rs.length) : 1 ≤ raw m rs i ∧ raw m rs i ≤ 1670880000 := by
  have hn := hv.n
  refine ⟨(raw_in hv hi).1, ?_⟩
  unfold raw
  split
  · omega
  split
  · have h2 := pas_in (rs.length - 1) (by omega) i (by omega)
    omega
  · exact exW_lt hv hi
theorem gcd2_dvdL (a b : Int) (ha : 0 ≤ a) : gcd2 a b ∣ a := by
  obtain ⟨n, rfl⟩ := Int.eq_ofNat_of_zero_le ha
  exact Int.natCast_dvd_natCast.2 (Nat.gcd_dvd_left n b.toNat)
theorem gcd2_dvdR (a b : Int) (hb : 0 ≤ b) : gcd2 a b ∣ b := by
  obtain ⟨n, rfl⟩ := Int.eq_ofNat_of_zero_le hb
  exact Int.natCast_dvd_natCast.2 (Nat.gcd_dvd_right a.toNat n)
theorem gcdF_dvd : ∀ (l : List Int) (d : Int), 0 ≤ d → (∀ x ∈ l, 0 ≤ x) → l.foldl gcd2 d ∣ d ∧ ∀ x ∈ l, l.foldl gcd2 d ∣ x
  | [], d, _, _ => ⟨Int.dvd_refl d, fun x hx => by simp at hx⟩
  | y :: l, d, hd, h => by
    have ih := gcdF_dvd l (gcd2 d y) (gcd2_nn d y) (fun x hx => h x (by simp [hx]))
    have h1 := gcd2_dvdL d y hd
    have h2 := gcd2_dvdR d y (h y (by simp))
    refine ⟨Int.dvd_trans ih.1 h1, fun x hx => ?_⟩
    rcases List.mem_cons.1 hx with rfl | hx
    · exact Int.dvd_trans ih.1 h2
    · exact ih.2 x hx
theorem gcdR_dvd (hv : VT m rs) {i : Nat} (hi : i < rs.length) : gcdR m rs ∣ raw m rs i :=
  (gcdF_dvd _ 0 (by omega) (raws_nn hv)).2 _ (List.mem_map.2 ⟨i, List.mem_range.2 hi, rfl⟩)
theorem wts_mul (hv : VT m rs) {i : Nat} (hi : i < rs.length) : wts m rs i * gcdR m rs = raw m rs i := by
  unfold wts
  exact Int.tdiv_mul_cancel (gcdR_dvd hv hi)
theorem wts_lt (hv : VT m rs) {i : Nat} (hi : i < rs.length) : 1 ≤ wts m rs i ∧ wts m rs i ≤ 1670880000 := by
  have h1 := raw_lt hv hi
  have h2 := gcdR_pos hv
  have h3 := wts_mul hv hi
  have h4 := (wts_in hv hi).1
  have h5 := Int.tdiv_le_self (a := raw m rs i) (gcdR m rs) (by omega)
  have h6 : wts m rs i ≤ raw m rs i := h5
  refine ⟨?_, by omega⟩
  rcases Int.lt_or_le 0 (wts m rs i) with h | h
  · omega
  · have e : wts m rs i = 0 := by omega
    rw [e, Int.zero_mul] at h3
    omega
theorem wsum_lt (hv : VT m rs) : ∀ {i : Nat}, i ≤ rs.length → (i : Int) ≤ wsum m rs i ∧ wsum m rs i ≤ 1670880000 * i
  | 0, _ => by simp [wsum]
  | i + 1, h => by
    have h1 := wsum_lt hv (i := i) (by omega)
    have h2 := wts_lt hv (i := i) (by omega)
    have e : wsum m rs (i + 1) = wsum m rs i + wts m rs i := rfl
    omega
end
end Go.Proofs.Ytkiaepcklbidgaa
namespace Go.Proofs.Ytkiaepcklbidgaa
open Go Go.TH
attribute [local irreducible] W WO pt
set_option maxRecDepth 10000
set_option maxHeartbeats 1000000
/-- the weights, as a list -/
def wL (m : Int) (rs : List (Int × Int × Int)) : List Int := (List.range rs.length).map (wts m rs)
/-- what Weights answers -/
def wA (m : Int) (rs : List (Int × Int × Int)) : List Int := if chkT m rs = 0 then wL m rs else []
theorem wL_len (m : Int) (rs : List (Int × Int × Int)) : (wL m rs).length = rs.length := by unfold wL; simp
theorem range_getD {f : Nat → Int} {n i : Nat} (h : i < n) : ((List.range n).map f).getD i 0 = f i := by
  rw [List.getD_eq_getElem?_getD, List.getElem?_map, List.getElem?_range h]; rfl
theorem wL_at {m : Int} {rs : List (Int × Int × Int)} {i : Nat} (h : i < rs.length) : (wL m rs).getD i 0 = wts m rs i := range_getD h
theorem range_take {f : Nat → Int} {n i : Nat} (h : i < n) : ((List.range n).map f).take i ++ [f i] = ((List.range n).map f).take (i + 1) := by
  rw [take_succ_getD (by simpa using h) 0, range_getD h]
theorem wTo_list (g : Nat → Int) (n : Nat) : (List.range n).map (wTo g n) = (List.range n).map g := by
  refine List.map_congr_left fun i hi => ?_
  have := List.mem_range.1 hi
  unfold wTo; rw [if_pos this]
theorem foldl_snoc (f : Nat → Int) (n : Nat) : ((List.range (n + 1)).map f).foldl gcd2 0 = gcd2 (((List.range n).map f).foldl gcd2 0) (f n) := by
  rw [List.range_succ, List.map_append, List.foldl_append]; rfl
theorem isSl_lit {a0 : Option Addr} {n c : Nat} (h : n ≤ 9223372036854775807) (h2 : 0 < n → ∃ b o, a0 = some ⟨b, o, none⟩) : IsSl (.slice a0 n c) n := ⟨h, a0, c, rfl, h2⟩
theorem sc_wts {P : Program} {C : Cx P} {H H' : List HP} {b : Nat} {t : TypeId} {fr : Nat × Nat} {m : Int} {o : Value} {rs : List (Int × Int × Int)} {s : Int} (p : Pick (pt b (.cells (sc m o (wTo (wts m rs) rs.length) s).toArray t fr)) H H') (hn : rs.length ≤ 5) : Cells C H ⟨b, 2, none⟩ ((wL m rs).flatMap encI) := by
  intro j u hu
  have hj : j < rs.length := by
    have := (List.getElem?_eq_some_iff.1 hu).1
    rw [encI_ok.flat_len, wL_len] at this
    omega
  have hg := encI_ok.flat_get (wL m rs) j 0 (wts m rs j) (by unfold wL; rw [List.getElem?_map, List.getElem?_range hj]; rfl) (by omega)
  rw [Nat.mul_one, Nat.add_zero, hu] at hg
  have hc : Cell C H ⟨b, 2 + j, none⟩ (.int .i64 (wTo (wts m rs) rs.length j)) := Cell.own p (sc_get (by omega))
  have e : (Addr.add ⟨b, 2, none⟩ j) = ⟨b, 2 + j, none⟩ := by unfold Addr.add; split <;> simp_all
  rw [e]
  have e2 : wTo (wts m rs) rs.length j = wts m rs j := by unfold wTo; rw [if_pos hj]
  rw [e2] at hc
  rw [show u = .int .i64 (wts m rs j) from Option.some.inj hg]
  exact hc
theorem ext_getD {α : Type} {l r : List α} (z : α) (hl : l.length = r.length) (h : ∀ i, i < l.length → l.getD i z = r.getD i z) : l = r := by
  refine List.ext_getElem hl fun i h1 h2 => ?_
  have := h i h1
  rwa [List.getD_eq_getElem?_getD, List.getD_eq_getElem?_getD, List.getElem?_eq_getElem h1, List.getElem?_eq_getElem h2] at this
theorem c_Weights (w : World) (m : Int) (o : Value) (rs : List (Int × Int × Int)) (hR : RdF encR 3 w.heap.size w o rs) :
    Ct Try.prog 13 [.agg #[.int .i64 m, o]].toArray w fun v w' => ∃ Hq, (∃ x : Value, v = .tuple #[x, .int .i64 (chkT m rs)] ∧ Hq = [OwE encI 2 1 x (wA m rs)]) ∧ Inv w [] Hq w' := by
  refine Ct.ofI mixed tyTab Try.func13 rfl rfl ?_
  replace hR : RdF encR 3 (fnCx mixed tyTab Try.f13.ntmps w).B (fnCx mixed tyTab Try.f13.ntmps w).w0 o rs := hR
  refine W.sreg ?_
  refine WO.boxA rfl rfl (fun b1 hb1 => ?_)
  refine WO.p rfl rfl (WO.p rfl rfl ?_)
  refine WO.nil ?_
  refine W.sreg ?_
  refine WO.loadA rfl rfl (Cells.own Pick.head) rfl rfl ?_
  refine WO.call (Post := fun v Hq => ∃ pv, v = .tuple #[pv, .int .i64 (chkT m rs)] ∧ Hq = [PtrP pv (chkT m rs) (sc m o (wTo (wts m rs) rs.length) (wsum m rs rs.length)) 83]) rfl Try.call45 (fun L w hi => c_newScales w m o rs (hR.later hi)) rfl ?_
  rintro _ _ ⟨pv, rfl, rfl⟩
  refine WO.p rfl rfl (WO.p rfl rfl (WO.p rfl rfl (WO.p rfl rfl (WO.p rfl rfl ?_))))
  refine WO.nil ?_
  refine W.seq ?_
  refine W.sreg ?_
  refine WO.p rfl rfl (WO.p rfl rfl ?_)
  refine WO.nil ?_
  refine W.cond_bl rfl (fun c1 => ?_) (fun c1 => ?_)
  · first
    | (exfalso; omega)
    | (refine W.sreg ?_
       refine WO.p rfl rfl (WO.p rfl rfl (WO.p rfl rfl ?_))
       refine WO.nil ?_
       refine W.ret ?_
       refine fin.ret (Res.two rfl (RV.tmp rfl) (RV.tmp rfl)) ?_
       first | exact ⟨_, rfl, fun h hs => by rw [show wA m rs = [] by unfold wA; rw [if_neg (by assumption)]]; exact Sub.sat (.cons .head .nil) (owNil (enc := encI) (e := 2) (sz := 1) h hs)⟩ | exact ⟨_, by rw [hv.to], fun h hs => by rw [show wA m rs = wL m rs by unfold wA; rw [if_pos hv.to]]; exact Sub.sat (.cons .head .nil) hs⟩)
  · first
    | (exfalso; omega)
    | (refine W.skip ?_
       have hv : VT m rs := VT.of (by omega)
       have hn := hv.n
       refine W.chgE (PtrP.open (by repeat (first | exact Pick.head | apply Pick.tail)) hv.to) ?_
       rintro pb rfl
       refine W.sreg ?_
       refine WO.fieldL rfl rfl rfl (WO.load rfl rfl (Cell.own (Pick.tail (Pick.head)) rfl) rfl ?_)
       refine' WO.len (n := _) rfl rfl ?hs rfl ?_
       case hs => (first | exact hR.sl)
       refine WO.makeI rfl rfl rfl rfl (by omega) (by omega) rfl (fun b2 => ?_)
       refine WO.p rfl rfl ?_
       refine WO.nil ?_
       refine W.sreg ?_
       refine WO.p rfl rfl (WO.p rfl rfl (WO.p rfl rfl (WO.fieldL rfl rfl rfl ?_)))
       refine WO.sliceArr rfl rfl rfl ?_
       refine WO.copyEL (m := 5) (xs := List.replicate rs.length 0) (ys := wL m rs) encI_ok rfl rfl rfl (by repeat (first | exact Pick.head | apply Pick.tail)) (isSl_lit (by omega) (fun _ => ⟨_, _, rfl⟩)) (by rw [List.length_replicate]; exact hn.2) (by rw [List.length_replicate]; omega) (by rw [wL_len, List.length_replicate]) (by exact sc_wts (b := pb) (t := 83) (fr := (0, 0)) (m := m) (o := o) (s := wsum m rs rs.length) (by repeat (first | exact Pick.head | apply Pick.tail)) hn.2) rfl ?_
       refine WO.nil ?_
       refine W.sreg ?_
       refine WO.p rfl rfl (WO.p rfl rfl (WO.p rfl rfl ?_))
       refine WO.nil ?_
       refine W.ret ?_
       refine fin.ret (Res.two rfl (RV.tmp rfl) (RV.tmp rfl)) ?_
       first | exact ⟨_, rfl, fun h hs => by rw [show wA m rs = [] by unfold wA; rw [if_neg (by assumption)]]; exact Sub.sat (.cons .head .nil) (owNil (enc := encI) (e := 2) (sz := 1) h hs)⟩ | exact ⟨_, by rw [hv.to], fun h hs => by rw [show wA m rs = wL m rs by unfold wA; rw [if_pos hv.to]]; exact Sub.sat (.cons .head .nil) hs⟩)
theorem ref_Weights (w : World) (m : Int) (o : Value) (rs : List (Int × Int × Int)) (hR : RdF encR 3 w.heap.size w o rs) :
    Ct Try.prog 14 [.agg #[.int .i64 m, o]].toArray w fun v w' => ∃ Hq, (∃ x : Value, v = .tuple #[x, .int .i64 (chkT m rs)] ∧ Hq = [OwE encI 2 1 x (wA m rs)]) ∧ Inv w [] Hq w' := by
  refine Ct.ofI mixed tyTab Try.func14 rfl rfl ?_
  replace hR : RdF encR 3 (fnCx mixed tyTab Try.f14.ntmps w).B (fnCx mixed tyTab Try.f14.ntmps w).w0 o rs := hR
  have ho := hR.sl.oc
  refine W.sreg ?_
  refine WO.boxA rfl rfl (fun b1 hb1 => ?_)
  refine WO.p rfl rfl (WO.p rfl rfl ?_)
  refine WO.nil ?_
  refine W.seq ?_
  refine W.sreg ?_
  refine WO.loadA rfl rfl (Cells.own Pick.head) rfl rfl ?_
  refine WO.callR (r := .int .i64 (chkT m rs)) rfl Try.call20 (fun L w hi => ref_CheckTest w m _ rs (hR.later hi)) rfl ?_
  refine WO.p rfl rfl ?_
  refine WO.nil ?_
  refine W.cond_bl rfl (fun c1 => ?_) (fun c1 => ?_)
  · first
    | (exfalso; omega)
    | (refine W.sreg ?_
       refine WO.loadA rfl rfl (Cells.own Pick.head) rfl rfl ?_
       refine WO.callR (r := .int .i64 (chkT m rs)) rfl Try.call20 (fun L w hi => ref_CheckTest w m _ rs (hR.later hi)) rfl ?_
       refine WO.p rfl rfl (WO.p rfl rfl ?_)
       refine WO.nil ?_
       refine W.ret ?_
       refine fin.ret (Res.two rfl (RV.tmp rfl) (RV.tmp rfl)) ?_
       first | exact ⟨_, rfl, fun h hs => by rw [show wA m rs = [] by unfold wA; rw [if_neg (by assumption)]]; exact Sub.sat (.cons .head .nil) (owNil (enc := encI) (e := 2) (sz := 1) h hs)⟩ | exact ⟨_, by rw [hv.to], fun h hs => by rw [show wA m rs = wL m rs by unfold wA; rw [if_pos hv.to]]; exact Sub.sat (.cons (by repeat (first | exact Pick.head | apply Pick.tail)) .nil) hs⟩)
  · first
    | (exfalso; omega)
    | (refine W.skip ?_
       have hv : VT m rs := VT.of (by omega)
       have hn := hv.n
       have hgp := gcdR_pos hv
       refine W.sreg ?_
       refine WO.p rfl rfl ?_
       refine WO.nil ?_
       refine W.seq ?_
       refine W.sreg ?_
       refine WO.p rfl rfl ?_
       refine WO.nil ?_
       refine W.block ?_
       refine W.loop2 (fun (i : Nat) (d : Int) => i ≤ rs.length ∧ 0 ≤ d ∧ d = ((List.range i).map (raw m rs)).foldl gcd2 0)
         (fun (i : Nat) (d : Int) => [(5, .int .i64 (i : Int)), (4, .int .i64 d), (1, .pointer (some ⟨b1, 0, none⟩))])
         (fun (i : Nat) (d : Int) => [pt b1 (.cells #[.int .i64 m, o] 24 (0, 0))])
         (fun (i : Nat) (d : Int) => rs.length - i) 0 0
         (by exact ⟨by omega, by omega, rfl⟩) ⟨rfl, rfl, rfl, trivial⟩ (by repeat (first | exact Sub.nil | refine Sub.cons (by repeat (first | exact Pick.head | apply Pick.tail)) ?_)) ?_
       rintro i d ⟨hi, hd0, hd⟩
       refine W.seq ?_
       refine W.sreg ?_
       refine WO.p rfl rfl (WO.fieldL rfl rfl rfl (WO.load rfl rfl (Cell.own Pick.head rfl) rfl ?_))
       refine' WO.len (n := _) rfl rfl ?hs rfl ?_
       case hs => (first | exact hR.sl)
       refine WO.p rfl rfl ?_
       refine WO.nil ?_
       refine W.cond_bl rfl (fun c2 => ?_) (fun c2 => ?_)
       · first
         | (exfalso; omega)
         | (refine W.skip ?_
            refine W.seq ?_
            refine W.block ?_
            have hri := raw_in hv (i := i) (by omega)
            refine W.region ?_
            refine WO.p rfl rfl (WO.loadA rfl rfl (Cells.own Pick.head) rfl rfl (WO.p rfl rfl ?_))
            refine WO.callR (r := .int .i64 (raw m rs i)) rfl Try.call47 (fun L w hi => ref_raw w m _ rs i (hR.later hi) hv (by omega)) rfl ?_
            refine WO.callR (r := .int .i64 (gcd2 d (raw m rs i))) rfl Try.call46 (fun L w hi => ref_common w d _ (by omega) (by omega)) rfl ?_
            refine WO.p rfl rfl ?_
            refine WO.nil ?_
            refine W.region ?_
            refine WO.p rfl rfl (WO.ar rfl rfl rfl (by (first | (unfold in64; omega) | (unfold in64; omega))) rfl (WO.p rfl rfl ?_))
            refine WO.nil ?_
            refine' ⟨i + 1, _, ?hp, ?hmu, ⟨rfl, rfl, rfl, trivial⟩, ?hS⟩
            case hS => repeat (first | exact Sub.nil | refine Sub.cons (by repeat (first | exact Pick.head | apply Pick.tail)) ?_)
            case hp => exact ⟨by omega, gcd2_nn _ _, by rw [foldl_snoc, ← hd]⟩
            case hmu => omega)
       · first
         | (exfalso; omega)
         | (refine W.exit (blk_same ?_)
            obtain rfl : i = rs.length := by omega
            have hdg : d = gcdR m rs := hd
            clear hd
            subst hdg
            refine W.sreg ?_
            refine WO.p rfl rfl ?_
            refine WO.nil ?_
            refine W.seq ?_
            refine W.sreg ?_
            refine WO.p rfl rfl ?_
            refine WO.nil ?_
            refine W.block ?_
            refine W.chg (owNil (enc := encI) (e := 2) (sz := 1)) ?_
            refine W.loop2 (fun (j : Nat) (v : Value) => j ≤ rs.length)
              (fun (j : Nat) (v : Value) => [(7, .int .i64 (j : Int)), (6, v), (4, .int .i64 (gcdR m rs)), (1, .pointer (some ⟨b1, 0, none⟩))])
              (fun (j : Nat) (v : Value) => [pt b1 (.cells #[.int .i64 m, o] 24 (0, 0)), OwE encI 2 1 v ((wL m rs).take j)])
              (fun (j : Nat) (v : Value) => rs.length - j) 0 (.slice none 0 0)
              (by omega) ⟨rfl, rfl, rfl, rfl, trivial⟩ (by repeat (first | exact Sub.nil | refine Sub.cons (by repeat (first | exact Pick.head | apply Pick.tail)) ?_)) ?_
            rintro j v hj
            refine W.seq ?_
            refine W.sreg ?_
            refine WO.p rfl rfl (WO.fieldL rfl rfl rfl (WO.load rfl rfl (Cell.own Pick.head rfl) rfl ?_))
            refine' WO.len (n := _) rfl rfl ?hs rfl ?_
            case hs => (first | exact hR.sl)
            refine WO.p rfl rfl ?_
            refine WO.nil ?_
            refine W.cond_bl rfl (fun c3 => ?_) (fun c3 => ?_)
            · first
              | (exfalso; omega)
              | (refine W.skip ?_
                 refine W.seq ?_
                 refine W.block ?_
                 have hwl := wts_lt hv (i := j) (by omega)
                 refine W.region ?_
                 refine WO.p rfl rfl (WO.loadA rfl rfl (Cells.own Pick.head) rfl rfl (WO.p rfl rfl ?_))
                 refine WO.callR (r := .int .i64 (raw m rs j)) rfl Try.call47 (fun L w hi => ref_raw w m _ rs j (hR.later hi) hv (by omega)) rfl ?_
                 refine WO.p rfl rfl (WO.quo rfl rfl (by first | omega | assumption) (by (first | (unfold wts at hwl; unfold in64; omega))) rfl ?_)
                 refine' WO.buildSl (cs := _) rfl rfl rfl rfl ?hf rfl rfl ?hl rfl (fun v2 => ?_)
                 case hf => (conv => lhs; simp [-List.getD_eq_getElem?_getD, fillL, vcl, wrl, TTab.pl?.lget']) <;> rfl
                 case hl => rfl
                 refine' WO.appendE (enc := encI) (m := 1) (ys := [wts m rs j]) encI_ok rfl rfl rfl rfl rfl (by repeat (first | exact Pick.head | apply Pick.tail)) (isSl_lit (by omega) (fun _ => ⟨_, _, rfl⟩)) (by omega) rfl (OwC.cells .head) (by rw [List.length_take, wL_len]; omega) (by rw [List.length_take, wL_len]; omega) rfl (fun g c => ?_)
                 rw [show (wL m rs).take j ++ [wts m rs j] = (wL m rs).take (j + 1) from range_take (by omega)]
                 refine WO.p rfl rfl ?_
                 refine WO.nil ?_
                 refine W.region ?_
                 refine WO.p rfl rfl (WO.ar rfl rfl rfl (by (first | (unfold in64; omega) | (unfold in64; omega))) rfl (WO.p rfl rfl ?_))
                 refine WO.nil ?_
                 refine' ⟨j + 1, _, ?hp, ?hmu, ⟨rfl, rfl, rfl, rfl, trivial⟩, ?hS⟩
                 case hS => repeat (first | exact Sub.nil | refine Sub.cons (by repeat (first | exact Pick.head | apply Pick.tail)) ?_)
                 case hp => omega
                 case hmu => omega)
            · first
              | (exfalso; omega)
              | (refine W.exit (blk_same ?_)
                 obtain rfl : j = rs.length := by omega
                 rw [show (wL m rs).take rs.length = wL m rs by rw [← wL_len m rs, List.take_length]]
                 refine W.sreg ?_
                 refine WO.p rfl rfl (WO.p rfl rfl (WO.p rfl rfl ?_))
                 refine WO.nil ?_
                 refine W.ret ?_
                 refine fin.ret (Res.two rfl (RV.tmp rfl) (RV.tmp rfl)) ?_
                 first | exact ⟨_, rfl, fun h hs => by rw [show wA m rs = [] by unfold wA; rw [if_neg (by assumption)]]; exact Sub.sat (.cons .head .nil) (owNil (enc := encI) (e := 2) (sz := 1) h hs)⟩ | exact ⟨_, by rw [hv.to], fun h hs => by rw [show wA m rs = wL m rs by unfold wA; rw [if_pos hv.to]]; exact Sub.sat (.cons (by repeat (first | exact Pick.head | apply Pick.tail)) .nil) hs⟩)))
theorem law_longs (w : World) (u v : Value) (xs ys : List Int) (hx : RdF encI 1 w.heap.size w u xs) (hy : RdF encI 1 w.heap.size w v ys) : Ret Try.prog 21 [u, v].toArray w (.bool (bl (xs = ys))) := by
  refine Ret.of mixed tyTab Try.func21 rfl rfl ?_
  replace hx : RdF encI 1 (fnCx mixed tyTab Try.f21.ntmps w).B (fnCx mixed tyTab Try.f21.ntmps w).w0 u xs := hx
  replace hy : RdF encI 1 (fnCx mixed tyTab Try.f21.ntmps w).B (fnCx mixed tyTab Try.f21.ntmps w).w0 v ys := hy
  have hlx := hx.sl.le
  have hly := hy.sl.le
  refine W.sreg ?_
  refine WO.p rfl rfl ?_
  refine WO.nil ?_
  refine W.seq ?_
  refine W.sreg ?_
  refine WO.p rfl rfl ?_
  refine' WO.len (n := _) rfl rfl ?hs rfl ?_
  case hs => (first | exact hx.sl | exact hy.sl)
  refine WO.p rfl rfl ?_
  refine' WO.len (n := _) rfl rfl ?hs rfl ?_
  case hs => (first | exact hx.sl | exact hy.sl)
  refine WO.p rfl rfl ?_
  refine WO.nil ?_
  refine W.cond_bl rfl (fun c1 => ?_) (fun c1 => ?_)
  · first
    | (exfalso; omega)
    | (refine W.sreg ?_
       refine WO.p rfl rfl ?_
       refine WO.nil ?_
       refine W.ret ?_
       refine fin.ret (Res.one rfl (RV.tmp rfl)) (congrArg Value.bool ?_)
       first | exact (bl_f.2 (fun e => by subst e; omega)).symm | exact (bl_t.2 (ext_getD 0 (by omega) (fun k hk => hal k (by omega)))).symm)
  · first
    | (exfalso; omega)
    | (refine W.skip ?_
       refine W.seq ?_
       refine W.sreg ?_
       refine WO.p rfl rfl ?_
       refine WO.nil ?_
       refine W.block ?_
       refine W.loop (fun (i : Nat) => i ≤ xs.length ∧ ∀ k, k < i → xs.getD k 0 = ys.getD k 0)
         (fun (i : Nat) => [(5, .int .i64 (i : Int)), (0, u), (1, v)])
         (fun (i : Nat) => [])
         (fun (i : Nat) => xs.length - i) 0
         (by exact ⟨by omega, fun k hk => by omega⟩) ⟨rfl, rfl, rfl, trivial⟩ (by repeat (first | exact Sub.nil | refine Sub.cons (by repeat (first | exact Pick.head | apply Pick.tail)) ?_)) ?_
       rintro i ⟨hi, hal⟩
       refine W.seq ?_
       refine W.sreg ?_
       refine WO.p rfl rfl (WO.p rfl rfl ?_)
       refine' WO.len (n := _) rfl rfl ?hs rfl ?_
       case hs => (first | exact hx.sl | exact hy.sl)
       refine WO.p rfl rfl ?_
       refine WO.nil ?_
       refine W.cond_bl rfl (fun c2 => ?_) (fun c2 => ?_)
       · first
         | (exfalso; omega)
         | (refine W.skip ?_
            refine W.seq ?_
            refine W.block ?_
            refine W.seq ?_
            refine W.drawD 8 [.r 0 [], .r 1 [], .r 2 [], .b 3 [], .r 4 [], .r 5 [], .r 6 [], .b 7 []] [] (A0 := []) (Sub.refl _) (by kernel_rfl) ?_ ?_
            · exact (ALok.r (ALok.r (ALok.r (ALok.b (ALok.r (ALok.r (ALok.r (ALok.b ALok.nil))))))))
            refine' DT.r rfl rfl rfl ?hq ?_
            case hq =>
              refine WO.p rfl rfl ?_
              exact WO.nil ⟨rfl, rfl⟩
            refine' DT.r rfl rfl rfl ?hq ?_
            case hq =>
              refine WO.p rfl rfl ?_
              exact WO.nil ⟨rfl, rfl⟩
            refine' DT.r rfl rfl rfl ?hq ?_
            case hq =>
              refine' WO.indexAddr (n := _) (i := _) rfl rfl rfl ?hs ?h1 rfl ?_
              case hs => (first | exact hx.sl | exact hy.sl)
              case h1 => (first | omega | (simp; omega))
              exact WO.nil ⟨rfl, rfl⟩
            refine' DT.b rfl rfl rfl ?hq ?_
            case hq =>
              refine' WO.load (v := _) rfl rfl ?hc rfl ?_
              case hc => (first | (refine hx.cell0 ?_ 0 ?_ <;> first | rfl | omega) | (refine hy.cell0 ?_ 0 ?_ <;> first | rfl | omega))
              exact WO.nil ⟨rfl, rfl⟩
            refine' DT.r rfl rfl rfl ?hq ?_
            case hq =>
              refine WO.p rfl rfl ?_
              exact WO.nil ⟨rfl, rfl⟩
            refine' DT.r rfl rfl rfl ?hq ?_
            case hq =>
              refine WO.p rfl rfl ?_
              exact WO.nil ⟨rfl, rfl⟩
            refine' DT.r rfl rfl rfl ?hq ?_
            case hq =>
              refine' WO.indexAddr (n := _) (i := _) rfl rfl rfl ?hs ?h1 rfl ?_
              case hs => (first | exact hx.sl | exact hy.sl)
              case h1 => (first | omega | (simp; omega))
              exact WO.nil ⟨rfl, rfl⟩
            refine' DT.b rfl rfl rfl ?hq ?_
            case hq =>
              refine' WO.load (v := _) rfl rfl ?hc rfl ?_
              case hc => (first | (refine hx.cell0 ?_ 0 ?_ <;> first | rfl | omega) | (refine hy.cell0 ?_ 0 ?_ <;> first | rfl | omega))
              exact WO.nil ⟨rfl, rfl⟩
            refine DT.nil [] rfl ?_
            refine WO.p rfl rfl ?_
            refine WO.nil ?_
            refine W.cond_bl rfl (fun c3 => ?_) (fun c3 => ?_)
            · first
              | (exfalso; omega)
              | (refine W.sreg ?_
                 refine WO.p rfl rfl ?_
                 refine WO.nil ?_
                 refine W.ret ?_
                 refine fin.ret (Res.one rfl (RV.tmp rfl)) (congrArg Value.bool ?_)
                 first | exact (bl_f.2 (fun e => by subst e; omega)).symm | exact (bl_t.2 (ext_getD 0 (by omega) (fun k hk => hal k (by omega)))).symm)
            · first
              | (exfalso; omega)
              | (refine W.skip ?_
                 refine W.region ?_
                 refine WO.p rfl rfl (WO.ar rfl rfl rfl (by (first | (unfold in64; omega) | (unfold in64; omega))) rfl (WO.p rfl rfl ?_))
                 refine WO.nil ?_
                 refine' ⟨i + 1, ?hp, ?hmu, ⟨rfl, rfl, rfl, trivial⟩, ?hS⟩
                 case hS => repeat (first | exact Sub.nil | refine Sub.cons (by repeat (first | exact Pick.head | apply Pick.tail)) ?_)
                 case hp => exact ⟨by omega, fun k hk => by (rcases Nat.lt_or_ge k i with h | h; exact hal k h; obtain rfl : k = i := (by omega); omega)⟩
                 case hmu => omega))
       · first
         | (exfalso; omega)
         | (refine W.exit (blk_same ?_)
            refine W.sreg ?_
            refine WO.p rfl rfl ?_
            refine WO.nil ?_
            refine W.ret ?_
            refine fin.ret (Res.one rfl (RV.tmp rfl)) (congrArg Value.bool ?_)
            first | exact (bl_f.2 (fun e => by subst e; omega)).symm | exact (bl_t.2 (ext_getD 0 (by omega) (fun k hk => hal k (by omega)))).symm))
theorem law_fine (w : World) (m : Int) (o : Value) (rs : List (Int × Int × Int)) (hR : RdF encR 3 w.heap.size w o rs) : Ret Try.prog 34 [.agg #[.int .i64 m, o]].toArray w (.bool (bl (chkT m rs = 0))) := by
  refine Ret.of mixed tyTab Try.func34 rfl rfl ?_
  replace hR : RdF encR 3 (fnCx mixed tyTab Try.f34.ntmps w).B (fnCx mixed tyTab Try.f34.ntmps w).w0 o rs := hR
  have ho := hR.sl.oc
  have h6 : 5 < rs.length → chkT m rs = 6 := fun h => by unfold chkT; rw [if_pos (by omega)]
  refine W.sreg ?_
  refine WO.boxA rfl rfl (fun b1 hb1 => ?_)
  refine WO.p rfl rfl ?_
  refine WO.nil ?_
  refine W.sreg ?_
  refine WO.fieldL rfl rfl rfl (WO.load rfl rfl (Cell.own Pick.head rfl) rfl ?_)
  refine' WO.len (n := _) rfl rfl ?hs rfl ?_
  case hs => (first | exact hR.sl)
  refine WO.p rfl rfl (WO.p rfl rfl ?_)
  refine WO.guard_bl rfl rfl (fun c1 => ?_) (fun c1 => ?_)
  · first
    | (exfalso; omega)
    | (refine WO.go' rfl (WO.loadA rfl rfl (Cells.own Pick.head) rfl rfl (WO.go' rfl ?_))
       refine WO.callR (r := .int .i64 (chkT m rs)) rfl Try.call20 (fun L w hi => ref_CheckTest w m _ rs (hR.later hi)) rfl ?_
       refine WO.pg rfl rfl rfl (WO.p rfl rfl (WO.p rfl rfl ?_))
       refine WO.nil ?_
       refine W.ret ?_
       refine fin.ret (Res.one rfl (RV.tmp rfl)) (congrArg Value.bool ?_)
       first | rfl | (exact (bl_f.2 (by omega)).symm) | (exact (bl_t.2 (by omega)).symm))
  · first
    | (exfalso; omega)
    | (refine WO.no rfl rfl (WO.no rfl rfl (WO.no rfl rfl (WO.p rfl rfl (WO.p rfl rfl ?_))))
       refine WO.nil ?_
       refine W.ret ?_
       refine fin.ret (Res.one rfl (RV.tmp rfl)) (congrArg Value.bool ?_)
       first | rfl | (exact (bl_f.2 (by omega)).symm) | (exact (bl_t.2 (by omega)).symm))
end Go.Proofs.Ytkiaepcklbidgaa
