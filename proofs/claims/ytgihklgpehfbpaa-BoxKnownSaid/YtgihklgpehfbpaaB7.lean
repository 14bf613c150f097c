/-
  What is proved here: the sums over all places of a hull, and their bounds. Conditions: none; each contract states its own.
-/
import Derived.Test.YtgihklgpehfbpaaB6
namespace Go.Proofs.Ytgihklgpehfbpaa
open Go Go.TH
attribute [local irreducible] W WO pt
set_option maxRecDepth 10000
/-- the sum of f 0, .., f (k - 1) -/
def ps (f : Nat → Int) : Nat → Int
  | 0 => 0
  | k + 1 => ps f k + f k
theorem ps_bound {f : Nat → Int} {B : Int} : ∀ {k : Nat}, (∀ j, j < k → 0 ≤ f j ∧ f j ≤ B) → 0 ≤ ps f k ∧ ps f k ≤ k * B
  | 0, _ => by simp [ps]
  | k + 1, h => by
    have h1 := ps_bound (k := k) (fun j hj => h j (by omega))
    have h2 := h k (by omega)
    have e : ((k + 1 : Nat) : Int) * B = k * B + B := by rw [Int.natCast_add, Int.add_mul]; simp
    simp only [ps]
    omega
theorem mulB {a b A B : Int} (ha : 0 ≤ a ∧ a ≤ A) (hb : 0 ≤ b ∧ b ≤ B) : 0 ≤ a * b ∧ a * b ≤ A * B :=
  ⟨Int.mul_nonneg ha.1 hb.1, Int.mul_le_mul ha.2 hb.2 hb.1 (by omega)⟩
theorem wgtB (i n : Nat) : 0 ≤ wgt i n ∧ wgt i n ≤ 2 := by unfold wgt; split <;> omega
theorem in64B {a A : Int} (h : 0 ≤ a ∧ a ≤ A) (hA : A ≤ 9223372036854775807) : in64 a := by unfold in64; omega
/-- one offset -/
def yy (ys : List (List Int)) (i k : Nat) : Int := (ys.getD i []).getD k 0
/-- what one offset counts, with its weights -/
def xw (ys : List (List Int)) (i k : Nat) : Int := wgt i ys.length * wgt k (ys.getD i []).length * yy ys i k
def sAll (ys : List (List Int)) (i : Nat) : Int := ps (fun i => ps (fun k => xw ys i k) (ys.getD i []).length) i
def sAlong (ys : List (List Int)) (i : Nat) : Int := ps (fun i => ps (fun k => (i : Int) * xw ys i k) (ys.getD i []).length) i
def sAbove (ys : List (List Int)) (i : Nat) : Int := ps (fun i => ps (fun k => (k : Int) * xw ys i k) (ys.getD i []).length) i
def lastY (ys : List (List Int)) (i : Nat) : Int := yy ys i (((ys.getD i []).length : Int) - 1).toNat
def sCubes (ys : List (List Int)) (i : Nat) : Int := ps (fun i => wgt i ys.length * lastY ys i * lastY ys i * lastY ys i) i
/-- offsets that are not beyond all bounds -/
structure Small (ys : List (List Int)) : Prop where
  n : ys.length ≤ 10
  m : ∀ i, i < ys.length → 1 ≤ (ys.getD i []).length ∧ (ys.getD i []).length ≤ 6
  y : ∀ i k, i < ys.length → k < (ys.getD i []).length → 0 ≤ yy ys i k ∧ yy ys i k ≤ 500
section
variable {ys : List (List Int)}
theorem Small.xw (h : Small ys) {i k : Nat} (hi : i < ys.length) (hk : k < (ys.getD i []).length) : 0 ≤ xw ys i k ∧ xw ys i k ≤ 2000 := mulB (mulB (wgtB _ _) (wgtB _ _)) (h.y i k hi hk)
theorem Small.rowp (h : Small ys) {c : Nat → Nat → Int} {B : Int} (hB : 0 ≤ B) (hc : ∀ i k, i < ys.length → k < (ys.getD i []).length → 0 ≤ c i k ∧ c i k ≤ B) {i k : Nat} (hi : i < ys.length) (hk : k ≤ (ys.getD i []).length) : 0 ≤ ps (c i) k ∧ ps (c i) k ≤ 6 * B := by
  have h1 := ps_bound (f := c i) (B := B) (k := k) (fun j hj => hc i j hi (by omega))
  have h2 := h.m i hi
  have h3 : (k : Int) * B ≤ 6 * B := Int.mul_le_mul_of_nonneg_right (by omega) hB
  omega
theorem Small.tot (h : Small ys) {c : Nat → Nat → Int} {B : Int} (hB : 0 ≤ B) (hc : ∀ i k, i < ys.length → k < (ys.getD i []).length → 0 ≤ c i k ∧ c i k ≤ B) {i : Nat} (hi : i ≤ ys.length) : 0 ≤ ps (fun i => ps (c i) (ys.getD i []).length) i ∧ ps (fun i => ps (c i) (ys.getD i []).length) i ≤ 60 * B := by
  have h1 := ps_bound (f := fun i => ps (c i) (ys.getD i []).length) (B := 6 * B) (k := i) (fun j hj => h.rowp hB hc (by omega) (Nat.le_refl _))
  have h2 := h.n
  have h3 : (i : Int) * (6 * B) ≤ 10 * (6 * B) := Int.mul_le_mul_of_nonneg_right (by omega) (by omega)
  omega
theorem Small.ixw (h : Small ys) {i k : Nat} (hi : i < ys.length) (hk : k < (ys.getD i []).length) : 0 ≤ (i : Int) * Go.Proofs.Ytgihklgpehfbpaa.xw ys i k ∧ (i : Int) * Go.Proofs.Ytgihklgpehfbpaa.xw ys i k ≤ 20000 := by
  have h1 := h.n
  exact mulB (A := 10) (B := 2000) ⟨by omega, by omega⟩ (h.xw hi hk)
theorem Small.kxw (h : Small ys) {i k : Nat} (hi : i < ys.length) (hk : k < (ys.getD i []).length) : 0 ≤ (k : Int) * Go.Proofs.Ytgihklgpehfbpaa.xw ys i k ∧ (k : Int) * Go.Proofs.Ytgihklgpehfbpaa.xw ys i k ≤ 12000 := by
  have h1 := h.m i hi
  exact mulB (A := 6) (B := 2000) ⟨by omega, by omega⟩ (h.xw hi hk)
theorem Small.last (h : Small ys) {i : Nat} (hi : i < ys.length) : 0 ≤ lastY ys i ∧ lastY ys i ≤ 500 := by
  have h1 := h.m i hi
  exact h.y i _ hi (by omega)
theorem Small.all (h : Small ys) {i : Nat} (hi : i ≤ ys.length) : 0 ≤ sAll ys i ∧ sAll ys i ≤ 120000 := h.tot (c := fun i k => Go.Proofs.Ytgihklgpehfbpaa.xw ys i k) (B := 2000) (by omega) (fun i k hi hk => h.xw hi hk) hi
theorem Small.along (h : Small ys) {i : Nat} (hi : i ≤ ys.length) : 0 ≤ sAlong ys i ∧ sAlong ys i ≤ 1200000 := h.tot (c := fun i k => (i : Int) * Go.Proofs.Ytgihklgpehfbpaa.xw ys i k) (B := 20000) (by omega) (fun i k hi hk => h.ixw hi hk) hi
theorem Small.above (h : Small ys) {i : Nat} (hi : i ≤ ys.length) : 0 ≤ sAbove ys i ∧ sAbove ys i ≤ 720000 := h.tot (c := fun i k => (k : Int) * Go.Proofs.Ytgihklgpehfbpaa.xw ys i k) (B := 12000) (by omega) (fun i k hi hk => h.kxw hi hk) hi
theorem Small.cubes (h : Small ys) {i : Nat} (hi : i ≤ ys.length) : 0 ≤ sCubes ys i ∧ sCubes ys i ≤ 2500000000 := by
  have h1 := ps_bound (f := fun i => wgt i ys.length * lastY ys i * lastY ys i * lastY ys i) (B := 250000000) (k := i) (fun j hj => mulB (mulB (mulB (wgtB _ _) (h.last (by omega))) (h.last (by omega))) (h.last (by omega)))
  have h2 := h.n
  have h3 : (i : Int) * 250000000 ≤ 10 * 250000000 := Int.mul_le_mul_of_nonneg_right (by omega) (by omega)
  unfold sCubes
  omega
end
theorem addB {a b A B : Int} (ha : 0 ≤ a ∧ a ≤ A) (hb : 0 ≤ b ∧ b ≤ B) : 0 ≤ a + b ∧ a + b ≤ A + B := by omega
theorem ref_sums (w : World) (o : Value) (rv : List Value) (ys : List (List Int)) (hR : RdR encI 1 w.heap.size w o rv ys) (hS : Small ys) :
    Ret Try.prog 40 [o].toArray w (.tuple #[.int .i64 (sAll ys ys.length), .int .i64 (sAlong ys ys.length), .int .i64 (sAbove ys ys.length), .int .i64 (sCubes ys ys.length)]) := by
  refine Ret.of mixed tyTab Try.func40 rfl rfl ?_
  replace hR : RdR encI 1 (fnCx mixed tyTab Try.f40.ntmps w).B (fnCx mixed tyTab Try.f40.ntmps w).w0 o rv ys := hR
  have hle := hR.sl.le
  have hn := hS.n
  refine W.sreg ?_
  refine WO.p rfl rfl (WO.p rfl rfl (WO.p rfl rfl (WO.p rfl rfl ?_)))
  refine WO.nil ?_
  refine W.sreg ?_
  refine WO.p rfl rfl (WO.p rfl rfl (WO.p rfl rfl (WO.p rfl rfl ?_)))
  refine WO.nil ?_
  refine W.seq ?_
  refine W.sreg ?_
  refine WO.p rfl rfl ?_
  refine WO.nil ?_
  refine W.block ?_
  refine W.loop5 (fun (i : Nat) (a : Int) (b : Int) (c : Int) (d : Int) => i ≤ ys.length ∧ a = sAll ys i ∧ b = sAlong ys i ∧ c = sAbove ys i ∧ d = sCubes ys i)
    (fun (i : Nat) (a : Int) (b : Int) (c : Int) (d : Int) => [(10, .int .i64 (i : Int)), (6, .int .i64 a), (7, .int .i64 b), (8, .int .i64 c), (9, .int .i64 d), (0, o)])
    (fun (i : Nat) (a : Int) (b : Int) (c : Int) (d : Int) => [])
    (fun (i : Nat) (a : Int) (b : Int) (c : Int) (d : Int) => ys.length - i) 0 0 0 0 0
    (by exact ⟨by omega, rfl, rfl, rfl, rfl⟩) ⟨rfl, rfl, rfl, rfl, rfl, rfl, trivial⟩ (by repeat (first | exact Sub.nil | refine Sub.cons (by repeat (first | exact Pick.head | apply Pick.tail)) ?_)) ?_
  rintro i a b c d ⟨hi, ea, eb, ec, ed⟩
  refine W.seq ?_
  refine W.sreg ?_
  refine WO.p rfl rfl (WO.p rfl rfl ?_)
  refine' WO.len (n := _) rfl rfl ?hs rfl ?_
  case hs => (first | exact hR.sl | (refine (hR.row _ ?_).sl; omega))
  refine WO.p rfl rfl ?_
  refine WO.nil ?_
  refine W.cond_bl rfl (fun c1 => ?_) (fun c1 => ?_)
  · first
    | (exfalso; omega)
    | (refine W.skip ?_
       refine W.seq ?_
       refine W.block ?_
       refine W.sreg ?_
       refine WO.p rfl rfl (WO.p rfl rfl ?_)
       refine' WO.indexAddr (n := _) (i := _) rfl rfl rfl ?hs ?h1 rfl ?_
       case hs => (first | exact hR.sl | (refine (hR.row _ ?_).sl; omega))
       case h1 => (first | omega | (simp; omega))
       refine' WO.load (v := _) rfl rfl ?hc rfl ?_
       case hc => (first | (refine hR.cellV ?_; omega) | (refine (hR.row _ ?_).cell0 ?_ 0 ?_ <;> first | rfl | omega))
       refine' WO.len (n := _) rfl rfl ?hs rfl ?_
       case hs => (first | exact hR.sl | (refine (hR.row _ ?_).sl; omega))
       refine WO.p rfl rfl ?_
       refine WO.nil ?_
       refine W.seq ?_
       refine W.sreg ?_
       refine WO.p rfl rfl ?_
       refine WO.nil ?_
       refine W.block ?_
       refine W.loop4 (fun (k : Nat) (a' : Int) (b' : Int) (c' : Int) => k ≤ (ys.getD i []).length ∧ a' = a + ps (fun k => xw ys i k) k ∧ b' = b + ps (fun k => (i : Int) * xw ys i k) k ∧ c' = c + ps (fun k => (k : Int) * xw ys i k) k)
         (fun (k : Nat) (a' : Int) (b' : Int) (c' : Int) => [(10, .int .i64 (i : Int)), (11, .int .i64 ((ys.getD i []).length : Int)), (12, .int .i64 (k : Int)), (6, .int .i64 a'), (7, .int .i64 b'), (8, .int .i64 c'), (9, .int .i64 d), (0, o)])
         (fun (k : Nat) (a' : Int) (b' : Int) (c' : Int) => [])
         (fun (k : Nat) (a' : Int) (b' : Int) (c' : Int) => (ys.getD i []).length - k) 0 a b c
         (by exact ⟨by omega, by simp [ps], by simp [ps], by simp [ps]⟩) ⟨rfl, rfl, rfl, rfl, rfl, rfl, rfl, rfl, trivial⟩ (by repeat (first | exact Sub.nil | refine Sub.cons (by repeat (first | exact Pick.head | apply Pick.tail)) ?_)) ?_
       rintro k a' b' c' ⟨hk, ea', eb', ec'⟩
       have hm := hS.m i (by omega)
       have ha : 0 ≤ a' ∧ a' ≤ 1000000 := by have h1 := hS.all hi; have h2 := hS.rowp (c := fun i k => xw ys i k) (B := 2000) (by omega) (fun i k hi hk => hS.xw hi hk) (i := i) (by omega) hk; rw [ea', ea]; omega
       have hb : 0 ≤ b' ∧ b' ≤ 10000000 := by have h1 := hS.along hi; have h2 := hS.rowp (c := fun i k => (i : Int) * xw ys i k) (B := 20000) (by omega) (fun i k hi hk => hS.ixw hi hk) (i := i) (by omega) hk; rw [eb', eb]; omega
       have hc : 0 ≤ c' ∧ c' ≤ 10000000 := by have h1 := hS.above hi; have h2 := hS.rowp (c := fun i k => (k : Int) * xw ys i k) (B := 12000) (by omega) (fun i k hi hk => hS.kxw hi hk) (i := i) (by omega) hk; rw [ec', ec]; omega
       have hd : 0 ≤ d ∧ d ≤ 2500000000 := by rw [ed]; exact hS.cubes hi
       refine W.seq ?_
       refine W.sreg ?_
       refine WO.p rfl rfl (WO.p rfl rfl (WO.p rfl rfl ?_))
       refine WO.nil ?_
       refine W.cond_bl rfl (fun c2 => ?_) (fun c2 => ?_)
       · first
         | (exfalso; omega)
         | (refine W.skip ?_
            refine W.seq ?_
            refine W.block ?_
            refine W.seq ?_
            refine W.drawD 15 [.r 0 [], .r 1 [], .r 2 [], .b 3 [], .r 4 [], .r 5 [], .b 6 [], .r 7 [], .r 8 [], .r 9 [], .r 10 [], .b 11 [], .r 12 [], .r 13 [], .b 14 []] [] (A0 := []) (Sub.refl _) (by kernel_rfl) ?_ ?_
            · exact (ALok.r (ALok.r (ALok.r (ALok.b (ALok.r (ALok.r (ALok.b (ALok.r (ALok.r (ALok.r (ALok.r (ALok.b (ALok.r (ALok.r (ALok.b ALok.nil)))))))))))))))
            refine' DT.r rfl rfl rfl ?hq ?_
            case hq =>
              refine WO.p rfl rfl ?_
              exact WO.nil ⟨rfl, rfl⟩
            refine' DT.r rfl rfl rfl ?hq ?_
            case hq =>
              refine WO.p rfl rfl ?_
              exact WO.nil ⟨rfl, rfl⟩
            refine' DT.r rfl rfl rfl ?hq ?_
            case hq =>
              refine' WO.len (n := _) rfl rfl ?hs rfl ?_
              case hs => (first | exact hR.sl | (refine (hR.row _ ?_).sl; omega))
              exact WO.nil ⟨rfl, rfl⟩
            refine' DT.b rfl rfl rfl ?hq ?_
            case hq =>
              refine WO.callR (r := .int .i64 (wgt i ys.length)) rfl Try.call57 (fun L w hi => ref_weight w i ys.length (by omega) (by omega)) rfl ?_
              exact WO.nil ⟨rfl, rfl⟩
            refine' DT.r rfl rfl rfl ?hq ?_
            case hq =>
              refine WO.p rfl rfl ?_
              exact WO.nil ⟨rfl, rfl⟩
            refine' DT.r rfl rfl rfl ?hq ?_
            case hq =>
              refine WO.p rfl rfl ?_
              exact WO.nil ⟨rfl, rfl⟩
            refine' DT.b rfl rfl rfl ?hq ?_
            case hq =>
              refine WO.callR (r := .int .i64 (wgt k (ys.getD i []).length)) rfl Try.call57 (fun L w hi => ref_weight w k (ys.getD i []).length (by omega) (by omega)) rfl ?_
              exact WO.nil ⟨rfl, rfl⟩
            refine' DT.r rfl rfl rfl ?hq ?_
            case hq =>
              refine WO.ar rfl rfl rfl (by (first | (unfold in64; omega) | (unfold in64; omega) | (exact in64B (mulB (wgtB _ _) (wgtB _ _)) (by omega)) | (exact in64B (hS.xw (by omega) (by omega)) (by omega)) | (exact in64B (hS.ixw (by omega) (by omega)) (by omega)) | (exact in64B (hS.kxw (by omega) (by omega)) (by omega)) | (exact in64B (addB ha (hS.xw (by omega) (by omega))) (by omega)) | (exact in64B (addB hb (hS.ixw (by omega) (by omega))) (by omega)) | (exact in64B (addB hc (hS.kxw (by omega) (by omega))) (by omega)) | (exact in64B (mulB (wgtB _ _) (hS.last (by omega))) (by omega)) | (exact in64B (mulB (mulB (wgtB _ _) (hS.last (by omega))) (hS.last (by omega))) (by omega)) | (exact in64B (mulB (mulB (mulB (wgtB _ _) (hS.last (by omega))) (hS.last (by omega))) (hS.last (by omega))) (by omega)) | (exact in64B (addB hd (mulB (mulB (mulB (wgtB _ _) (hS.last (by omega))) (hS.last (by omega))) (hS.last (by omega)))) (by omega)))) rfl ?_
              exact WO.nil ⟨rfl, rfl⟩
            refine' DT.r rfl rfl rfl ?hq ?_
            case hq =>
              refine WO.p rfl rfl ?_
              exact WO.nil ⟨rfl, rfl⟩
            refine' DT.r rfl rfl rfl ?hq ?_
            case hq =>
              refine WO.p rfl rfl ?_
              exact WO.nil ⟨rfl, rfl⟩
            refine' DT.r rfl rfl rfl ?hq ?_
            case hq =>
              refine' WO.indexAddr (n := _) (i := _) rfl rfl rfl ?hs ?h1 rfl ?_
              case hs => (first | exact hR.sl | (refine (hR.row _ ?_).sl; omega))
              case h1 => (first | omega | (simp; omega))
              exact WO.nil ⟨rfl, rfl⟩
            refine' DT.b rfl rfl rfl ?hq ?_
            case hq =>
              refine' WO.load (v := _) rfl rfl ?hc rfl ?_
              case hc => (first | (refine hR.cellV ?_; omega) | (refine (hR.row _ ?_).cell0 ?_ 0 ?_ <;> first | rfl | omega))
              exact WO.nil ⟨rfl, rfl⟩
            refine' DT.r rfl rfl rfl ?hq ?_
            case hq =>
              refine WO.p rfl rfl ?_
              exact WO.nil ⟨rfl, rfl⟩
            refine' DT.r rfl rfl rfl ?hq ?_
            case hq =>
              refine' WO.indexAddr (n := _) (i := _) rfl rfl rfl ?hs ?h1 rfl ?_
              case hs => (first | exact hR.sl | (refine (hR.row _ ?_).sl; omega))
              case h1 => (first | omega | (simp; omega))
              exact WO.nil ⟨rfl, rfl⟩
            refine' DT.b rfl rfl rfl ?hq ?_
            case hq =>
              refine' WO.load (v := _) rfl rfl ?hc rfl ?_
              case hc => (first | (refine hR.cellV ?_; omega) | (refine (hR.row _ ?_).cell0 ?_ 0 ?_ <;> first | rfl | omega))
              exact WO.nil ⟨rfl, rfl⟩
            refine DT.nil [] rfl ?_
            refine WO.ar rfl rfl rfl (by (first | (unfold in64; omega) | (unfold in64; omega) | (exact in64B (mulB (wgtB _ _) (wgtB _ _)) (by omega)) | (exact in64B (hS.xw (by omega) (by omega)) (by omega)) | (exact in64B (hS.ixw (by omega) (by omega)) (by omega)) | (exact in64B (hS.kxw (by omega) (by omega)) (by omega)) | (exact in64B (addB ha (hS.xw (by omega) (by omega))) (by omega)) | (exact in64B (addB hb (hS.ixw (by omega) (by omega))) (by omega)) | (exact in64B (addB hc (hS.kxw (by omega) (by omega))) (by omega)) | (exact in64B (mulB (wgtB _ _) (hS.last (by omega))) (by omega)) | (exact in64B (mulB (mulB (wgtB _ _) (hS.last (by omega))) (hS.last (by omega))) (by omega)) | (exact in64B (mulB (mulB (mulB (wgtB _ _) (hS.last (by omega))) (hS.last (by omega))) (hS.last (by omega))) (by omega)) | (exact in64B (addB hd (mulB (mulB (mulB (wgtB _ _) (hS.last (by omega))) (hS.last (by omega))) (hS.last (by omega)))) (by omega)))) rfl (WO.p rfl rfl ?_)
            refine WO.nil ?_
            refine W.sreg ?_
            refine WO.p rfl rfl (WO.p rfl rfl (WO.ar rfl rfl rfl (by (first | (unfold in64; omega) | (unfold in64; omega) | (exact in64B (mulB (wgtB _ _) (wgtB _ _)) (by omega)) | (exact in64B (hS.xw (by omega) (by omega)) (by omega)) | (exact in64B (hS.ixw (by omega) (by omega)) (by omega)) | (exact in64B (hS.kxw (by omega) (by omega)) (by omega)) | (exact in64B (addB ha (hS.xw (by omega) (by omega))) (by omega)) | (exact in64B (addB hb (hS.ixw (by omega) (by omega))) (by omega)) | (exact in64B (addB hc (hS.kxw (by omega) (by omega))) (by omega)) | (exact in64B (mulB (wgtB _ _) (hS.last (by omega))) (by omega)) | (exact in64B (mulB (mulB (wgtB _ _) (hS.last (by omega))) (hS.last (by omega))) (by omega)) | (exact in64B (mulB (mulB (mulB (wgtB _ _) (hS.last (by omega))) (hS.last (by omega))) (hS.last (by omega))) (by omega)) | (exact in64B (addB hd (mulB (mulB (mulB (wgtB _ _) (hS.last (by omega))) (hS.last (by omega))) (hS.last (by omega)))) (by omega)))) rfl (WO.p rfl rfl ?_)))
            refine WO.nil ?_
            refine W.sreg ?_
            refine WO.p rfl rfl (WO.p rfl rfl (WO.p rfl rfl (WO.ar rfl rfl rfl (by (first | (unfold in64; omega) | (unfold in64; omega) | (exact in64B (mulB (wgtB _ _) (wgtB _ _)) (by omega)) | (exact in64B (hS.xw (by omega) (by omega)) (by omega)) | (exact in64B (hS.ixw (by omega) (by omega)) (by omega)) | (exact in64B (hS.kxw (by omega) (by omega)) (by omega)) | (exact in64B (addB ha (hS.xw (by omega) (by omega))) (by omega)) | (exact in64B (addB hb (hS.ixw (by omega) (by omega))) (by omega)) | (exact in64B (addB hc (hS.kxw (by omega) (by omega))) (by omega)) | (exact in64B (mulB (wgtB _ _) (hS.last (by omega))) (by omega)) | (exact in64B (mulB (mulB (wgtB _ _) (hS.last (by omega))) (hS.last (by omega))) (by omega)) | (exact in64B (mulB (mulB (mulB (wgtB _ _) (hS.last (by omega))) (hS.last (by omega))) (hS.last (by omega))) (by omega)) | (exact in64B (addB hd (mulB (mulB (mulB (wgtB _ _) (hS.last (by omega))) (hS.last (by omega))) (hS.last (by omega)))) (by omega)))) rfl (WO.ar rfl rfl rfl (by (first | (unfold in64; omega) | (unfold in64; omega) | (exact in64B (mulB (wgtB _ _) (wgtB _ _)) (by omega)) | (exact in64B (hS.xw (by omega) (by omega)) (by omega)) | (exact in64B (hS.ixw (by omega) (by omega)) (by omega)) | (exact in64B (hS.kxw (by omega) (by omega)) (by omega)) | (exact in64B (addB ha (hS.xw (by omega) (by omega))) (by omega)) | (exact in64B (addB hb (hS.ixw (by omega) (by omega))) (by omega)) | (exact in64B (addB hc (hS.kxw (by omega) (by omega))) (by omega)) | (exact in64B (mulB (wgtB _ _) (hS.last (by omega))) (by omega)) | (exact in64B (mulB (mulB (wgtB _ _) (hS.last (by omega))) (hS.last (by omega))) (by omega)) | (exact in64B (mulB (mulB (mulB (wgtB _ _) (hS.last (by omega))) (hS.last (by omega))) (hS.last (by omega))) (by omega)) | (exact in64B (addB hd (mulB (mulB (mulB (wgtB _ _) (hS.last (by omega))) (hS.last (by omega))) (hS.last (by omega)))) (by omega)))) rfl (WO.p rfl rfl ?_)))))
            refine WO.nil ?_
            refine W.region ?_
            refine WO.p rfl rfl (WO.p rfl rfl (WO.p rfl rfl (WO.ar rfl rfl rfl (by (first | (unfold in64; omega) | (unfold in64; omega) | (exact in64B (mulB (wgtB _ _) (wgtB _ _)) (by omega)) | (exact in64B (hS.xw (by omega) (by omega)) (by omega)) | (exact in64B (hS.ixw (by omega) (by omega)) (by omega)) | (exact in64B (hS.kxw (by omega) (by omega)) (by omega)) | (exact in64B (addB ha (hS.xw (by omega) (by omega))) (by omega)) | (exact in64B (addB hb (hS.ixw (by omega) (by omega))) (by omega)) | (exact in64B (addB hc (hS.kxw (by omega) (by omega))) (by omega)) | (exact in64B (mulB (wgtB _ _) (hS.last (by omega))) (by omega)) | (exact in64B (mulB (mulB (wgtB _ _) (hS.last (by omega))) (hS.last (by omega))) (by omega)) | (exact in64B (mulB (mulB (mulB (wgtB _ _) (hS.last (by omega))) (hS.last (by omega))) (hS.last (by omega))) (by omega)) | (exact in64B (addB hd (mulB (mulB (mulB (wgtB _ _) (hS.last (by omega))) (hS.last (by omega))) (hS.last (by omega)))) (by omega)))) rfl (WO.ar rfl rfl rfl (by (first | (unfold in64; omega) | (unfold in64; omega) | (exact in64B (mulB (wgtB _ _) (wgtB _ _)) (by omega)) | (exact in64B (hS.xw (by omega) (by omega)) (by omega)) | (exact in64B (hS.ixw (by omega) (by omega)) (by omega)) | (exact in64B (hS.kxw (by omega) (by omega)) (by omega)) | (exact in64B (addB ha (hS.xw (by omega) (by omega))) (by omega)) | (exact in64B (addB hb (hS.ixw (by omega) (by omega))) (by omega)) | (exact in64B (addB hc (hS.kxw (by omega) (by omega))) (by omega)) | (exact in64B (mulB (wgtB _ _) (hS.last (by omega))) (by omega)) | (exact in64B (mulB (mulB (wgtB _ _) (hS.last (by omega))) (hS.last (by omega))) (by omega)) | (exact in64B (mulB (mulB (mulB (wgtB _ _) (hS.last (by omega))) (hS.last (by omega))) (hS.last (by omega))) (by omega)) | (exact in64B (addB hd (mulB (mulB (mulB (wgtB _ _) (hS.last (by omega))) (hS.last (by omega))) (hS.last (by omega)))) (by omega)))) rfl (WO.p rfl rfl ?_)))))
            refine WO.nil ?_
            refine W.region ?_
            refine WO.p rfl rfl (WO.ar rfl rfl rfl (by (first | (unfold in64; omega) | (unfold in64; omega) | (exact in64B (mulB (wgtB _ _) (wgtB _ _)) (by omega)) | (exact in64B (hS.xw (by omega) (by omega)) (by omega)) | (exact in64B (hS.ixw (by omega) (by omega)) (by omega)) | (exact in64B (hS.kxw (by omega) (by omega)) (by omega)) | (exact in64B (addB ha (hS.xw (by omega) (by omega))) (by omega)) | (exact in64B (addB hb (hS.ixw (by omega) (by omega))) (by omega)) | (exact in64B (addB hc (hS.kxw (by omega) (by omega))) (by omega)) | (exact in64B (mulB (wgtB _ _) (hS.last (by omega))) (by omega)) | (exact in64B (mulB (mulB (wgtB _ _) (hS.last (by omega))) (hS.last (by omega))) (by omega)) | (exact in64B (mulB (mulB (mulB (wgtB _ _) (hS.last (by omega))) (hS.last (by omega))) (hS.last (by omega))) (by omega)) | (exact in64B (addB hd (mulB (mulB (mulB (wgtB _ _) (hS.last (by omega))) (hS.last (by omega))) (hS.last (by omega)))) (by omega)))) rfl (WO.p rfl rfl ?_))
            refine WO.nil ?_
            refine' ⟨k + 1, _, _, _, ?hp, ?hmu, ⟨rfl, rfl, rfl, rfl, rfl, rfl, rfl, rfl, trivial⟩, ?hS⟩
            case hS => repeat (first | exact Sub.nil | refine Sub.cons (by repeat (first | exact Pick.head | apply Pick.tail)) ?_)
            case hp => exact ⟨by omega, by rw [ea', Int.add_assoc]; rfl, by rw [eb', Int.add_assoc]; rfl, by rw [ec', Int.add_assoc]; rfl⟩
            case hmu => omega)
       · first
         | (exfalso; omega)
         | (refine W.exit (blk_same ?_)
            refine W.sreg ?_
            refine WO.p rfl rfl (WO.p rfl rfl ?_)
            refine' WO.indexAddr (n := _) (i := _) rfl rfl rfl ?hs ?h1 rfl ?_
            case hs => (first | exact hR.sl | (refine (hR.row _ ?_).sl; omega))
            case h1 => (first | omega | (simp; omega))
            refine' WO.load (v := _) rfl rfl ?hc rfl ?_
            case hc => (first | (refine hR.cellV ?_; omega) | (refine (hR.row _ ?_).cell0 ?_ 0 ?_ <;> first | rfl | omega))
            refine WO.p rfl rfl (WO.ar rfl rfl rfl (by (first | (unfold in64; omega) | (unfold in64; omega) | (exact in64B (mulB (wgtB _ _) (wgtB _ _)) (by omega)) | (exact in64B (hS.xw (by omega) (by omega)) (by omega)) | (exact in64B (hS.ixw (by omega) (by omega)) (by omega)) | (exact in64B (hS.kxw (by omega) (by omega)) (by omega)) | (exact in64B (addB ha (hS.xw (by omega) (by omega))) (by omega)) | (exact in64B (addB hb (hS.ixw (by omega) (by omega))) (by omega)) | (exact in64B (addB hc (hS.kxw (by omega) (by omega))) (by omega)) | (exact in64B (mulB (wgtB _ _) (hS.last (by omega))) (by omega)) | (exact in64B (mulB (mulB (wgtB _ _) (hS.last (by omega))) (hS.last (by omega))) (by omega)) | (exact in64B (mulB (mulB (mulB (wgtB _ _) (hS.last (by omega))) (hS.last (by omega))) (hS.last (by omega))) (by omega)) | (exact in64B (addB hd (mulB (mulB (mulB (wgtB _ _) (hS.last (by omega))) (hS.last (by omega))) (hS.last (by omega)))) (by omega)))) rfl ?_)
            refine' WO.indexAddrZ (n := _) rfl rfl rfl ?hs ?h00 ?h1 rfl ?_
            case hs => (first | exact hR.sl | (refine (hR.row _ ?_).sl; omega))
            case h00 => omega
            case h1 => (first | omega | (simp; omega))
            refine' WO.load (v := _) rfl rfl ?hc rfl ?_
            case hc => (first | (refine hR.cellV ?_; omega) | (refine (hR.row _ ?_).cell0 ?_ 0 ?_ <;> first | rfl | omega))
            refine WO.p rfl rfl ?_
            refine WO.nil ?_
            refine W.region ?_
            refine WO.p rfl rfl (WO.p rfl rfl (WO.p rfl rfl ?_))
            refine' WO.len (n := _) rfl rfl ?hs rfl ?_
            case hs => (first | exact hR.sl | (refine (hR.row _ ?_).sl; omega))
            refine WO.callR (r := .int .i64 (wgt i ys.length)) rfl Try.call57 (fun L w hi => ref_weight w i ys.length (by omega) (by omega)) rfl ?_
            refine WO.p rfl rfl (WO.ar rfl rfl rfl (by (first | (unfold in64; omega) | (unfold in64; omega) | (exact in64B (mulB (wgtB _ _) (wgtB _ _)) (by omega)) | (exact in64B (hS.xw (by omega) (by omega)) (by omega)) | (exact in64B (hS.ixw (by omega) (by omega)) (by omega)) | (exact in64B (hS.kxw (by omega) (by omega)) (by omega)) | (exact in64B (addB ha (hS.xw (by omega) (by omega))) (by omega)) | (exact in64B (addB hb (hS.ixw (by omega) (by omega))) (by omega)) | (exact in64B (addB hc (hS.kxw (by omega) (by omega))) (by omega)) | (exact in64B (mulB (wgtB _ _) (hS.last (by omega))) (by omega)) | (exact in64B (mulB (mulB (wgtB _ _) (hS.last (by omega))) (hS.last (by omega))) (by omega)) | (exact in64B (mulB (mulB (mulB (wgtB _ _) (hS.last (by omega))) (hS.last (by omega))) (hS.last (by omega))) (by omega)) | (exact in64B (addB hd (mulB (mulB (mulB (wgtB _ _) (hS.last (by omega))) (hS.last (by omega))) (hS.last (by omega)))) (by omega)))) rfl (WO.p rfl rfl (WO.ar rfl rfl rfl (by (first | (unfold in64; omega) | (unfold in64; omega) | (exact in64B (mulB (wgtB _ _) (wgtB _ _)) (by omega)) | (exact in64B (hS.xw (by omega) (by omega)) (by omega)) | (exact in64B (hS.ixw (by omega) (by omega)) (by omega)) | (exact in64B (hS.kxw (by omega) (by omega)) (by omega)) | (exact in64B (addB ha (hS.xw (by omega) (by omega))) (by omega)) | (exact in64B (addB hb (hS.ixw (by omega) (by omega))) (by omega)) | (exact in64B (addB hc (hS.kxw (by omega) (by omega))) (by omega)) | (exact in64B (mulB (wgtB _ _) (hS.last (by omega))) (by omega)) | (exact in64B (mulB (mulB (wgtB _ _) (hS.last (by omega))) (hS.last (by omega))) (by omega)) | (exact in64B (mulB (mulB (mulB (wgtB _ _) (hS.last (by omega))) (hS.last (by omega))) (hS.last (by omega))) (by omega)) | (exact in64B (addB hd (mulB (mulB (mulB (wgtB _ _) (hS.last (by omega))) (hS.last (by omega))) (hS.last (by omega)))) (by omega)))) rfl (WO.p rfl rfl (WO.ar rfl rfl rfl (by (first | (unfold in64; omega) | (unfold in64; omega) | (exact in64B (mulB (wgtB _ _) (wgtB _ _)) (by omega)) | (exact in64B (hS.xw (by omega) (by omega)) (by omega)) | (exact in64B (hS.ixw (by omega) (by omega)) (by omega)) | (exact in64B (hS.kxw (by omega) (by omega)) (by omega)) | (exact in64B (addB ha (hS.xw (by omega) (by omega))) (by omega)) | (exact in64B (addB hb (hS.ixw (by omega) (by omega))) (by omega)) | (exact in64B (addB hc (hS.kxw (by omega) (by omega))) (by omega)) | (exact in64B (mulB (wgtB _ _) (hS.last (by omega))) (by omega)) | (exact in64B (mulB (mulB (wgtB _ _) (hS.last (by omega))) (hS.last (by omega))) (by omega)) | (exact in64B (mulB (mulB (mulB (wgtB _ _) (hS.last (by omega))) (hS.last (by omega))) (hS.last (by omega))) (by omega)) | (exact in64B (addB hd (mulB (mulB (mulB (wgtB _ _) (hS.last (by omega))) (hS.last (by omega))) (hS.last (by omega)))) (by omega)))) rfl (WO.ar rfl rfl rfl (by (first | (unfold in64; omega) | (unfold in64; omega) | (exact in64B (mulB (wgtB _ _) (wgtB _ _)) (by omega)) | (exact in64B (hS.xw (by omega) (by omega)) (by omega)) | (exact in64B (hS.ixw (by omega) (by omega)) (by omega)) | (exact in64B (hS.kxw (by omega) (by omega)) (by omega)) | (exact in64B (addB ha (hS.xw (by omega) (by omega))) (by omega)) | (exact in64B (addB hb (hS.ixw (by omega) (by omega))) (by omega)) | (exact in64B (addB hc (hS.kxw (by omega) (by omega))) (by omega)) | (exact in64B (mulB (wgtB _ _) (hS.last (by omega))) (by omega)) | (exact in64B (mulB (mulB (wgtB _ _) (hS.last (by omega))) (hS.last (by omega))) (by omega)) | (exact in64B (mulB (mulB (mulB (wgtB _ _) (hS.last (by omega))) (hS.last (by omega))) (hS.last (by omega))) (by omega)) | (exact in64B (addB hd (mulB (mulB (mulB (wgtB _ _) (hS.last (by omega))) (hS.last (by omega))) (hS.last (by omega)))) (by omega)))) rfl (WO.p rfl rfl ?_)))))))
            refine WO.nil ?_
            refine W.region ?_
            refine WO.p rfl rfl (WO.ar rfl rfl rfl (by (first | (unfold in64; omega) | (unfold in64; omega) | (exact in64B (mulB (wgtB _ _) (wgtB _ _)) (by omega)) | (exact in64B (hS.xw (by omega) (by omega)) (by omega)) | (exact in64B (hS.ixw (by omega) (by omega)) (by omega)) | (exact in64B (hS.kxw (by omega) (by omega)) (by omega)) | (exact in64B (addB ha (hS.xw (by omega) (by omega))) (by omega)) | (exact in64B (addB hb (hS.ixw (by omega) (by omega))) (by omega)) | (exact in64B (addB hc (hS.kxw (by omega) (by omega))) (by omega)) | (exact in64B (mulB (wgtB _ _) (hS.last (by omega))) (by omega)) | (exact in64B (mulB (mulB (wgtB _ _) (hS.last (by omega))) (hS.last (by omega))) (by omega)) | (exact in64B (mulB (mulB (mulB (wgtB _ _) (hS.last (by omega))) (hS.last (by omega))) (hS.last (by omega))) (by omega)) | (exact in64B (addB hd (mulB (mulB (mulB (wgtB _ _) (hS.last (by omega))) (hS.last (by omega))) (hS.last (by omega)))) (by omega)))) rfl (WO.p rfl rfl ?_))
            refine WO.nil ?_
            refine' ⟨i + 1, _, _, _, _, ?hp, ?hmu, ⟨rfl, rfl, rfl, rfl, rfl, rfl, trivial⟩, ?hS⟩
            case hS => repeat (first | exact Sub.nil | refine Sub.cons (by repeat (first | exact Pick.head | apply Pick.tail)) ?_)
            case hp => (obtain rfl : k = (ys.getD i []).length := by omega); exact ⟨by omega, by rw [ea', ea]; rfl, by rw [eb', eb]; rfl, by rw [ec', ec]; rfl, by rw [ed]; rfl⟩
            case hmu => omega))
  · first
    | (exfalso; omega)
    | (refine W.exit (blk_same ?_)
       refine W.sreg ?_
       refine WO.p rfl rfl (WO.p rfl rfl (WO.p rfl rfl (WO.p rfl rfl (WO.p rfl rfl (WO.p rfl rfl (WO.p rfl rfl (WO.p rfl rfl ?_)))))))
       refine WO.nil ?_
       refine W.ret ?_
       obtain rfl : i = ys.length := by omega
       refine fin.ret (Res.four rfl (RV.tmp rfl) (RV.tmp rfl) (RV.tmp rfl) (RV.tmp rfl)) ?_
       rw [ea, eb, ec, ed])
end Go.Proofs.Ytgihklgpehfbpaa

