/-
  What is proved here: the greatest common divisor of some numbers, and combinations. Conditions: none; each contract states its own.
  What is proved here: combinations in least terms, and the first place that is not 0. Conditions: none; each contract states its own.
  What is proved here: maps from places to combinations. Conditions: none; each rule states its own.
  What is proved here: rows are taken away. Conditions: none; each contract states its own.
  What is proved here: a row is taken away from those that there are. Conditions: none; each contract states its own.
  What is proved here: the table of a book. Conditions: none; each contract states its own.
-/
import Derived.Test.YtelmclmklkiphaaM4
import Derived.Test.YtelmclmklkiphaaM3
import Derived.WideKeyRuns
import Derived.Maps.RangeRun
set_option linter.unusedVariables false
set_option linter.unusedSimpArgs false
namespace Go.Proofs.Ytelmclmklkiphaa
open Go Go.TH
attribute [local irreducible] W WO pt
set_option maxRecDepth 10000
set_option maxHeartbeats 1000000
/-- the greatest common divisor of the first numbers -/
def gcdF (X : Nat → Int) : Nat → Nat
  | 0 => 0
  | n + 1 => Nat.gcd (gcdF X n) (X n).natAbs
theorem gcdF_dvd {X : Nat → Int} {d : Nat} : ∀ {n : Nat}, d ∣ gcdF X n ↔ ∀ k, k < n → d ∣ (X k).natAbs
  | 0 => ⟨fun _ k hk => by omega, fun _ => Nat.dvd_zero d⟩
  | n + 1 => by
    show d ∣ Nat.gcd _ _ ↔ _
    rw [Nat.dvd_gcd_iff, gcdF_dvd (n := n)]
    constructor
    · rintro ⟨h1, h2⟩ k hk
      rcases Nat.lt_or_ge k n with h | h
      · exact h1 k h
      obtain rfl : k = n := by omega
      exact h2
    exact fun h => ⟨fun k hk => h k (by omega), h n (by omega)⟩
theorem gcdF_of {X : Nat → Int} {n k : Nat} (h : k < n) : gcdF X n ∣ (X k).natAbs := gcdF_dvd.1 (Nat.dvd_refl _) k h
theorem gcdF_zero {X : Nat → Int} {n : Nat} : gcdF X n = 0 ↔ ∀ k, k < n → X k = 0 := by
  constructor
  · intro h k hk
    have := gcdF_of (X := X) hk
    rw [h] at this
    have := Nat.eq_zero_of_zero_dvd this
    omega
  intro h
  have : 0 ∣ gcdF X n := gcdF_dvd.2 fun k hk => by rw [h k hk]; exact Nat.dvd_refl 0
  exact Nat.eq_zero_of_zero_dvd this
theorem gcdF_cg {X Y : Nat → Int} {n : Nat} (h : ∀ k, k < n → X k = Y k) : gcdF X n = gcdF Y n :=
  Nat.dvd_antisymm (gcdF_dvd.2 fun k hk => by rw [← h k hk]; exact gcdF_of hk) (gcdF_dvd.2 fun k hk => by rw [h k hk]; exact gcdF_of hk)
theorem gcdF_le {X : Nat → Int} {n : Nat} {M : Nat} (h : ∀ k, k < n → (X k).natAbs ≤ M) : gcdF X n ≤ M := by
  rcases Nat.eq_zero_or_pos (gcdF X n) with g | g
  · omega
  rcases Decidable.em (∃ k, k < n ∧ X k ≠ 0) with ⟨k, hk, hn⟩ | e
  · exact Nat.le_trans (Nat.le_of_dvd (by omega) (gcdF_of hk)) (h k hk)
  have : gcdF X n = 0 := gcdF_zero.2 fun k hk => Decidable.byContradiction fun hn => e ⟨k, hk, hn⟩
  omega
theorem gcdN_step {x y : Nat} (h : y ≠ 0) : Nat.gcd y (x % y) = Nat.gcd x y := by
  rw [Nat.gcd_comm y (x % y), ← Nat.gcd_rec, Nat.gcd_comm]
theorem max_abs (z : Int) : max z (-z) = (z.natAbs : Int) := by omega
theorem c_common (w : World) (o : Value) (xs : List Int) (M : Nat) (hR : RdF encI 1 w.heap.size w o xs) (hM : M ≤ 9223372036854775807) (hx : ∀ k, k < xs.length → (fnL xs k).natAbs ≤ M) : Ret Try.prog 46 [o].toArray w (.int .i64 (gcdF (fnL xs) xs.length : Nat)) := by
  refine Ret.of mixed tyTab Try.func46 rfl rfl ?_
  replace hR : RdF encI 1 (fnCx mixed tyTab Try.f46.ntmps w).B (fnCx mixed tyTab Try.f46.ntmps w).w0 o xs := hR
  have hle := hR.sl.le
  refine W.sreg ?_
  refine WO.p rfl rfl ?_
  refine WO.nil ?_
  refine W.sreg ?_
  refine WO.p rfl rfl (WO.p rfl rfl ?_)
  refine WO.nil ?_
  refine W.seq ?_
  refine W.sreg ?_
  refine WO.p rfl rfl ?_
  refine' WO.len (n := _) rfl rfl ?hs rfl ?_
  case hs => (first | exact hR.sl)
  refine WO.p rfl rfl ?_
  refine WO.nil ?_
  refine W.block ?_
  refine W.loop (fun (i : Nat) => i ≤ xs.length)
    (fun (i : Nat) => [(3, .int .i64 (gcdF (fnL xs) i : Nat)), (7, o), (8, .int .i64 (xs.length : Int)), (9, .int .i64 (i : Int))])
    (fun (i : Nat) => [])
    (fun (i : Nat) => xs.length - i) 0
    (by omega) ⟨rfl, rfl, rfl, rfl, trivial⟩ (by repeat (first | exact Sub.nil | refine Sub.cons (by repeat (first | exact Pick.head | apply Pick.tail)) ?_)) ?_
  rintro i hi
  refine W.sreg ?_
  refine WO.p rfl rfl ?_
  refine WO.nil ?_
  refine W.seq ?_
  refine W.cond_bl rfl (fun c1 => ?_) (fun c1 => ?_)
  · first
    | (exfalso; omega)
    | (refine W.skip ?_
       refine W.seq ?_
       refine W.block ?_
       refine W.sreg ?_
       refine' WO.indexAddr (n := _) (i := _) rfl rfl rfl ?hs ?h1 rfl ?_
       case hs => (first | exact hR.sl)
       case h1 => (first | omega | (simp; omega))
       refine' WO.load (v := _) rfl rfl ?hc rfl ?_
       case hc => (first | (refine hR.cell0 (i := i) ?_ 0 ?_ <;> first | rfl | omega))
       refine WO.p rfl rfl ?_
       refine WO.nil ?_
       have hxi := hx i (by omega)
       unfold fnL at hxi
       refine W.sreg ?_
       refine WO.p rfl rfl (WO.p rfl rfl (WO.neg rfl (by (first | (unfold in64; omega) | (unfold in64; omega))) rfl ?_))
       refine WO.max2 rfl rfl rfl ?_
       rw [show max (xs.getD i 0) (-(xs.getD i 0)) = ((fnL xs i).natAbs : Int) from max_abs _]
       refine WO.p rfl rfl ?_
       refine WO.nil ?_
       refine W.block ?_
       refine W.loop2 (fun (x : Nat) (y : Nat) => Nat.gcd x y = gcdF (fnL xs) (i + 1))
         (fun (x : Nat) (y : Nat) => [(3, .int .i64 (x : Int)), (5, .int .i64 (y : Int)), (7, o), (8, .int .i64 (xs.length : Int)), (9, .int .i64 (i : Int))])
         (fun (x : Nat) (y : Nat) => [])
         (fun (x : Nat) (y : Nat) => y) _ _
         (by rfl) ⟨rfl, rfl, rfl, rfl, rfl, trivial⟩ (by repeat (first | exact Sub.nil | refine Sub.cons (by repeat (first | exact Pick.head | apply Pick.tail)) ?_)) ?_
       rintro x y hg
       refine W.seq ?_
       refine W.sreg ?_
       refine WO.p rfl rfl (WO.p rfl rfl ?_)
       refine WO.nil ?_
       refine W.cond_bl rfl (fun c2 => ?_) (fun c2 => ?_)
       · first
         | (exfalso; omega)
         | (refine W.skip ?_
            refine W.block ?_
            refine W.drawD 5 [.r 0 [], .r 1 [], .r 2 [3], .r 3 [3], .r 4 [3]] [3] (A0 := []) (Sub.refl _) (by kernel_rfl) ?_ ?_
            · exact (ALok.r (ALok.r (ALok.r (ALok.r (ALok.r ALok.nil)))))
            refine' DT.r rfl rfl rfl ?hq ?_
            case hq =>
              refine WO.p rfl rfl ?_
              exact WO.nil ⟨rfl, rfl⟩
            refine' DT.r rfl rfl rfl ?hq ?_
            case hq =>
              refine WO.p rfl rfl ?_
              exact WO.nil ⟨rfl, rfl⟩
            refine' DT.r rfl rfl rfl ?hq ?_
            case hq =>
              refine WO.p rfl rfl ?_
              exact WO.nil ⟨rfl, rfl⟩
            refine' DT.r rfl rfl rfl ?hq ?_
            case hq =>
              refine WO.rem rfl rfl (by omega) rfl ?_
              rw [← Int.ofNat_tmod]
              exact WO.nil ⟨rfl, rfl⟩
            refine' DT.r rfl rfl rfl ?hq ?_
            case hq =>
              refine WO.p rfl rfl ?_
              exact WO.nil ⟨rfl, rfl⟩
            refine DT.nil [] rfl ?_
            refine WO.p rfl rfl ?_
            refine WO.nil ?_
            refine' ⟨y, x % y, ?hp, ?hmu, ⟨rfl, rfl, rfl, rfl, rfl, trivial⟩, ?hS⟩
            case hS => repeat (first | exact Sub.nil | refine Sub.cons (by repeat (first | exact Pick.head | apply Pick.tail)) ?_)
            case hp => rw [gcdN_step (by omega)]; exact hg
            case hmu => exact Nat.mod_lt _ (by omega))
       first
       | (exfalso; omega)
       | (refine W.exit (blk_same ?_)
          obtain rfl : y = 0 := by omega
          rw [Nat.gcd_zero_right] at hg
          subst hg
          refine W.region ?_
          refine WO.ar rfl rfl rfl (by (first | (unfold in64; omega) | (unfold in64; omega))) rfl (WO.p rfl rfl ?_)
          refine WO.nil ?_
          refine' ⟨i + 1, ?hp, ?hmu, ⟨rfl, rfl, rfl, rfl, trivial⟩, ?hS⟩
          case hS => repeat (first | exact Sub.nil | refine Sub.cons (by repeat (first | exact Pick.head | apply Pick.tail)) ?_)
          case hp => omega
          case hmu => omega))
  first
  | (exfalso; omega)
  | (refine W.exit (blk_same ?_)
     refine W.sreg ?_
     refine WO.p rfl rfl (WO.p rfl rfl ?_)
     refine WO.nil ?_
     refine W.ret ?_
     obtain rfl : i = xs.length := by omega
     exact fin.ret (Res.one rfl (RV.tmp rfl)) rfl)
/-! ## Combinations: the row's numbers, the value, how many times each of the rows, and how many times the row that is asked for -/
def m15 (X : Nat → Int) : List Value := [.int .i64 (X 0), .int .i64 (X 1), .int .i64 (X 2), .int .i64 (X 3), .int .i64 (X 4), .int .i64 (X 5), .int .i64 (X 6), .int .i64 (X 7), .int .i64 (X 8), .int .i64 (X 9), .int .i64 (X 10), .int .i64 (X 11), .int .i64 (X 12), .int .i64 (X 13), .int .i64 (X 14)]
def madeV (X : Nat → Int) : Value := .agg (m15 X).toArray
theorem lt15 {p : Nat → Prop} (h : p 0 ∧ p 1 ∧ p 2 ∧ p 3 ∧ p 4 ∧ p 5 ∧ p 6 ∧ p 7 ∧ p 8 ∧ p 9 ∧ p 10 ∧ p 11 ∧ p 12 ∧ p 13 ∧ p 14) {k : Nat} (hk : k < 15) : p k := by
  obtain ⟨h0, h1, h2, h3, h4, h5, h6, h7, h8, h9, h10, h11, h12, h13, h14⟩ := h
  match k, hk with
  | 0, _ => exact h0
  | 1, _ => exact h1
  | 2, _ => exact h2
  | 3, _ => exact h3
  | 4, _ => exact h4
  | 5, _ => exact h5
  | 6, _ => exact h6
  | 7, _ => exact h7
  | 8, _ => exact h8
  | 9, _ => exact h9
  | 10, _ => exact h10
  | 11, _ => exact h11
  | 12, _ => exact h12
  | 13, _ => exact h13
  | 14, _ => exact h14
theorem m15_get {X : Nat → Int} {k : Nat} (h : k < 15) : lget (m15 X) k = some (.int .i64 (X k)) :=
  lt15 (p := fun k => lget (m15 X) k = some (.int .i64 (X k))) ⟨rfl, rfl, rfl, rfl, rfl, rfl, rfl, rfl, rfl, rfl, rfl, rfl, rfl, rfl, rfl⟩ h
theorem m15_set {X : Nat → Int} {k : Nat} {v : Int} (h : k < 15) : (m15 X).set k (.int .i64 v) = m15 (updV X k v) :=
  lt15 (p := fun k => (m15 X).set k (.int .i64 v) = m15 (updV X k v)) ⟨rfl, rfl, rfl, rfl, rfl, rfl, rfl, rfl, rfl, rfl, rfl, rfl, rfl, rfl, rfl⟩ h
theorem m15_cg {X Y : Nat → Int} (h : ∀ k, k < 15 → X k = Y k) : m15 X = m15 Y := by
  unfold m15
  rw [h 0 (by omega), h 1 (by omega), h 2 (by omega), h 3 (by omega), h 4 (by omega), h 5 (by omega), h 6 (by omega), h 7 (by omega), h 8 (by omega), h 9 (by omega), h 10 (by omega), h 11 (by omega), h 12 (by omega), h 13 (by omega), h 14 (by omega)]
/-- F at the places of p, X elsewhere -/
def flF (F X : Nat → Int) (p : Nat → Prop) [DecidablePred p] (k : Nat) : Int := if p k then F k else X k
theorem flF_set {F X : Nat → Int} {p q : Nat → Prop} [DecidablePred p] [DecidablePred q] {k : Nat} (hk : k < 15) (h : ∀ j, j < 15 → (q j ↔ p j ∨ j = k)) : (m15 (flF F X p)).set k (.int .i64 (F k)) = m15 (flF F X q) := by
  rw [m15_set hk]
  refine m15_cg fun j hj => ?_
  unfold updV flF
  have := h j hj
  by_cases g : j = k
  · subst g; rw [if_pos rfl, if_pos (this.2 (.inr rfl))]
  rw [if_neg g]
  by_cases hp : p j
  · rw [if_pos hp, if_pos (this.2 (.inl hp))]
  rw [if_neg hp, if_neg (fun hq => (this.1 hq).elim hp g)]
/-- the places that are done: value, times, and the first ones of the row; then the row, and the first ones of by -/
def P1 (i k : Nat) : Prop := k = 5 ∨ k = 14 ∨ k < i
instance (i : Nat) : DecidablePred (P1 i) := fun k => by unfold P1; infer_instance
def P2 (i k : Nat) : Prop := k = 14 ∨ k < 6 + i
instance (i : Nat) : DecidablePred (P2 i) := fun k => by unfold P2; infer_instance
theorem fl1_0 (F X : Nat → Int) : m15 (updV (updV X 5 (F 5)) 14 (F 14)) = m15 (flF F X (P1 0)) := by
  refine m15_cg fun j _ => ?_
  unfold updV flF
  by_cases h : j = 14
  · subst h; rw [if_pos rfl, if_pos (by unfold P1; omega)]
  rw [if_neg h]
  by_cases g : j = 5
  · subst g; rw [if_pos rfl, if_pos (by unfold P1; omega)]
  rw [if_neg g, if_neg (by unfold P1; omega)]
theorem fl1_set {F X : Nat → Int} {i : Nat} (hi : i < 5) : (m15 (flF F X (P1 i))).set i (.int .i64 (F i)) = m15 (flF F X (P1 (i + 1))) := flF_set (by omega) (fun j _ => by unfold P1; omega)
theorem fl2_set {F X : Nat → Int} {i : Nat} (hi : i < 8) : (m15 (flF F X (P2 i))).set (6 + i) (.int .i64 (F (6 + i))) = m15 (flF F X (P2 (i + 1))) := flF_set (by omega) (fun j _ => by unfold P2; omega)
theorem fl12 (F X : Nat → Int) : m15 (flF F X (P1 5)) = m15 (flF F X (P2 0)) := by
  refine m15_cg fun j _ => ?_
  unfold flF
  by_cases h : P1 5 j
  · rw [if_pos h, if_pos (by unfold P1 at h; unfold P2; omega)]
  rw [if_neg h, if_neg (by unfold P1 at h; unfold P2; omega)]
theorem fl2_end (F X : Nat → Int) : m15 (flF F X (P2 8)) = m15 F := by
  refine m15_cg fun j hj => ?_
  unfold flF
  rw [if_pos (by unfold P2; omega)]
def BdV (X : Nat → Int) : Prop := ∀ k, k < 15 → -268435456 ≤ X k ∧ X k ≤ 268435456
/-- the row that is asked for -/
def askX (r : List Int) (k : Nat) : Int := if k < 5 then fnL r k else if k = 14 then 1 else 0
theorem c_asked (w : World) (o : Value) (r : List Int) (hR : RdF encI 1 w.heap.size w o r) (h0 : 0 < r.length) (h5 : r.length ≤ 5) : Ret Try.prog 39 [o].toArray w (madeV (askX r)) := by
  refine Ret.of mixed tyTab Try.func39 rfl rfl ?_
  replace hR : RdF encI 1 (fnCx mixed tyTab Try.f39.ntmps w).B (fnCx mixed tyTab Try.f39.ntmps w).w0 o r := hR
  refine W.sreg ?_
  refine WO.alloc rfl rfl rfl (fun b1 hb1 => ?_)
  refine WO.nil ?_
  refine W.sreg ?_
  refine WO.p rfl rfl ?_
  refine WO.callR rfl Try.call32 (fun L w' hi => c_newRow w' o r (hR.later hi) h0 h5) rfl ?_
  refine' WO.build (cs := _) rfl rfl rfl ?hf rfl ?_
  case hf => (conv => lhs; simp [-List.getD_eq_getElem?_getD, fillL, vcl, wrl, TTab.pl?.lget']) <;> rfl
  refine' WO.build (cs := _) rfl rfl rfl ?hf rfl ?_
  case hf => (conv => lhs; simp [-List.getD_eq_getElem?_getD, fillL, vcl, wrl, TTab.pl?.lget']) <;> rfl
  refine WO.storeA rfl rfl rfl rfl Pick.head rfl rfl ?_
  refine WO.nil ?_
  refine W.ret ?_
  exact fin.ret (Res.one rfl (RV.cell rfl rfl rfl (Cells.own (by repeat (first | exact Pick.head | apply Pick.tail))))) rfl
def linX (a : Int) (X : Nat → Int) (b : Int) (Y : Nat → Int) (k : Nat) : Int := a * X k + b * Y k
theorem lin_in {a b x y : Int} (ha : -268435456 ≤ a ∧ a ≤ 268435456) (hb : -268435456 ≤ b ∧ b ≤ 268435456) (hx : -268435456 ≤ x ∧ x ≤ 268435456) (hy : -268435456 ≤ y ∧ y ≤ 268435456) : in64 (a * x) ∧ in64 (b * y) ∧ in64 (a * x + b * y) := by
  have h1 := mul_bd ha hx
  have h2 := mul_bd hb hy
  unfold in64
  omega
theorem ptEq {b : Nat} {cs cs' : List Value} {t : TypeId} {fr : Nat × Nat} {H H' : List HP} (pk : Pick (pt b (.cells cs.toArray t fr)) H H') (e : cs = cs') : ∀ h, sat H h → sat (pt b (.cells cs'.toArray t fr) :: H') h := by
  subst e
  exact fun h hs => pk.sat hs
theorem c_plus (w : World) (X Y : Nat → Int) (a b : Int) (hX : BdV X) (hY : BdV Y) (ha : -268435456 ≤ a ∧ a ≤ 268435456) (hb : -268435456 ≤ b ∧ b ≤ 268435456) : Ret Try.prog 40 [madeV X, madeV Y, .int .i64 a, .int .i64 b].toArray w (madeV (linX a X b Y)) := by
  refine Ret.of mixed tyTab Try.func40 rfl rfl ?_
  have hin := fun k (hk : k < 15) => lin_in ha hb (hX k hk) (hY k hk)
  refine W.sreg ?_
  refine WO.boxA rfl rfl (fun b1 hb1 => ?_)
  refine WO.boxA rfl rfl (fun b2 hb2 => ?_)
  refine WO.alloc rfl rfl rfl (fun b3 hb3 => ?_)
  refine WO.nil ?_
  refine W.sreg ?_
  refine WO.p rfl rfl (WO.fieldL rfl rfl rfl (WO.load rfl rfl (Cell.own (Pick.tail (Pick.tail (Pick.head))) rfl) rfl (WO.ar rfl rfl rfl (by (first | exact (hin 14 (by omega)).1)) rfl (WO.p rfl rfl (WO.fieldL rfl rfl rfl (WO.load rfl rfl (Cell.own (Pick.tail (Pick.head)) rfl) rfl (WO.ar rfl rfl rfl (by (first | exact (hin 14 (by omega)).2.1)) rfl (WO.ar rfl rfl rfl (by (first | exact (hin 14 (by omega)).2.2)) rfl ?_))))))))
  refine' WO.build (cs := _) rfl rfl rfl ?hf rfl ?_
  case hf => (conv => lhs; simp [-List.getD_eq_getElem?_getD, fillL, vcl, wrl, TTab.pl?.lget']) <;> rfl
  refine WO.alloc rfl rfl rfl (fun b4 hb4 => ?_)
  refine WO.storeA rfl rfl rfl rfl Pick.head rfl rfl ?_
  refine WO.nil ?_
  refine W.sreg ?_
  refine WO.p rfl rfl (WO.field0 rfl rfl rfl (WO.fieldL rfl rfl rfl (WO.load rfl rfl (Cell.own (Pick.tail (Pick.tail (Pick.tail (Pick.head)))) rfl) rfl (WO.ar rfl rfl rfl (by (first | exact (hin 5 (by omega)).1)) rfl (WO.p rfl rfl (WO.field0 rfl rfl rfl (WO.fieldL rfl rfl rfl (WO.load rfl rfl (Cell.own (Pick.tail (Pick.tail (Pick.head))) rfl) rfl (WO.ar rfl rfl rfl (by (first | exact (hin 5 (by omega)).2.1)) rfl (WO.ar rfl rfl rfl (by (first | exact (hin 5 (by omega)).2.2)) rfl (WO.field0 rfl rfl rfl ?_)))))))))))
  refine WO.fieldL rfl rfl rfl (WO.store1 rfl rfl rfl (by first | rfl | assumption) Pick.head rfl ?_)
  refine WO.nil ?_
  refine W.seq ?_
  refine W.chg (ptEq (b := b4) (by repeat (first | exact Pick.head | apply Pick.tail)) (Eq.trans rfl (fl1_0 (linX a X b Y) (fun _ => 0)))) ?_
  refine W.sreg ?_
  refine WO.p rfl rfl ?_
  refine WO.nil ?_
  refine W.block ?_
  refine W.loop (fun (i : Nat) => i ≤ 5)
    (fun (i : Nat) => [(2, .int .i64 a), (3, .int .i64 b), (4, .pointer (some ⟨b1, 0, none⟩)), (5, .pointer (some ⟨b2, 0, none⟩)), (8, .pointer (some ⟨b3, 0, none⟩)), (9, .pointer (some ⟨b4, 0, none⟩)), (35, .int .i64 (i : Int))])
    (fun (i : Nat) => [pt b1 (.cells (m15 X).toArray 71 (0, 0)), pt b2 (.cells (m15 Y).toArray 71 (0, 0)), pt b3 (.cells (m15 fun _ => 0).toArray 71 (0, 0)), pt b4 (.cells (m15 (flF (linX a X b Y) (fun _ => 0) (P1 i))).toArray 71 (0, 0))])
    (fun (i : Nat) => 5 - i) 0
    (by omega) ⟨rfl, rfl, rfl, rfl, rfl, rfl, rfl, trivial⟩ (by repeat (first | exact Sub.nil | refine Sub.cons (by repeat (first | exact Pick.head | apply Pick.tail)) ?_)) ?_
  rintro i hi
  refine W.sreg ?_
  refine WO.p rfl rfl ?_
  refine WO.nil ?_
  refine W.seq ?_
  refine W.cond_bl rfl (fun c1 => ?_) (fun c1 => ?_)
  · first
    | (exfalso; omega)
    | (refine W.skip ?_
       refine W.seq ?_
       refine W.block ?_
       refine W.sreg ?_
       refine WO.p rfl rfl (WO.p rfl rfl ?_)
       refine WO.nil ?_
       refine W.drawD 18 [.r 0 [], .r 1 [], .r 2 [], .r 3 [], .r 4 [], .r 5 [], .b 6 [], .r 7 [], .r 8 [], .r 9 [], .r 10 [], .r 11 [], .r 12 [], .b 13 [], .r 14 [], .r 15 [], .r 16 [], .r 17 []] [] (A0 := [_]) (H0 := [_, _, _]) (.cons (Pick.tail (Pick.tail (Pick.tail .head))) (.cons .head (.cons .head (.cons .head .nil)))) (by kernel_rfl) ?_ ?_
       · exact (ALok.r (ALok.r (ALok.r (ALok.r (ALok.r (ALok.r (ALok.b (ALok.r (ALok.r (ALok.r (ALok.r (ALok.r (ALok.r (ALok.b (ALok.r (ALok.r (ALok.r (ALok.r ALok.nil))))))))))))))))))
       refine' DT.r rfl rfl rfl ?hq ?_
       case hq =>
         refine WO.p rfl rfl ?_
         exact WO.nil ⟨rfl, rfl⟩
       refine' DT.r rfl rfl rfl ?hq ?_
       case hq =>
         refine WO.p rfl rfl ?_
         exact WO.nil ⟨rfl, rfl⟩
       refine' DT.r rfl rfl rfl ?hq ?_
       case hq =>
         refine WO.p rfl rfl ?_
         exact WO.nil ⟨rfl, rfl⟩
       refine' DT.r rfl rfl rfl ?hq ?_
       case hq =>
         refine WO.field0 rfl rfl rfl ?_
         exact WO.nil ⟨rfl, rfl⟩
       refine' DT.r rfl rfl rfl ?hq ?_
       case hq =>
         refine WO.field0 rfl rfl rfl ?_
         exact WO.nil ⟨rfl, rfl⟩
       refine' DT.r rfl rfl rfl ?hq ?_
       case hq =>
         refine WO.indexArrE (i := i) (o' := i) rfl rfl rfl rfl (by omega) (by omega) rfl ?_
         exact WO.nil ⟨rfl, rfl⟩
       refine' DT.b rfl rfl rfl ?hq ?_
       case hq =>
         refine' WO.load (v := _) rfl rfl ?hc rfl ?_
         case hc => (first | (refine Cell.own (by repeat (first | exact Pick.head | apply Pick.tail)) ?_; exact m15_get (X := X) (k := i) (by omega)))
         exact WO.nil ⟨rfl, rfl⟩
       refine' DT.r rfl rfl rfl ?hq ?_
       case hq =>
         refine WO.ar rfl rfl rfl (by (first | exact (hin i (by omega)).1)) rfl ?_
         exact WO.nil ⟨rfl, rfl⟩
       refine' DT.r rfl rfl rfl ?hq ?_
       case hq =>
         refine WO.p rfl rfl ?_
         exact WO.nil ⟨rfl, rfl⟩
       refine' DT.r rfl rfl rfl ?hq ?_
       case hq =>
         refine WO.p rfl rfl ?_
         exact WO.nil ⟨rfl, rfl⟩
       refine' DT.r rfl rfl rfl ?hq ?_
       case hq =>
         refine WO.field0 rfl rfl rfl ?_
         exact WO.nil ⟨rfl, rfl⟩
       refine' DT.r rfl rfl rfl ?hq ?_
       case hq =>
         refine WO.field0 rfl rfl rfl ?_
         exact WO.nil ⟨rfl, rfl⟩
       refine' DT.r rfl rfl rfl ?hq ?_
       case hq =>
         refine WO.indexArrE (i := i) (o' := i) rfl rfl rfl rfl (by omega) (by omega) rfl ?_
         exact WO.nil ⟨rfl, rfl⟩
       refine' DT.b rfl rfl rfl ?hq ?_
       case hq =>
         refine' WO.load (v := _) rfl rfl ?hc rfl ?_
         case hc => (first | (refine Cell.own (by repeat (first | exact Pick.head | apply Pick.tail)) ?_; exact m15_get (X := Y) (k := i) (by omega)))
         exact WO.nil ⟨rfl, rfl⟩
       refine' DT.r rfl rfl rfl ?hq ?_
       case hq =>
         refine WO.ar rfl rfl rfl (by (first | exact (hin i (by omega)).2.1)) rfl ?_
         exact WO.nil ⟨rfl, rfl⟩
       refine' DT.r rfl rfl rfl ?hq ?_
       case hq =>
         refine WO.ar rfl rfl rfl (by (first | exact (hin i (by omega)).2.2)) rfl ?_
         exact WO.nil ⟨rfl, rfl⟩
       refine' DT.r rfl rfl rfl ?hq ?_
       case hq =>
         refine WO.field0 rfl rfl rfl ?_
         exact WO.nil ⟨rfl, rfl⟩
       refine' DT.r rfl rfl rfl ?hq ?_
       case hq =>
         refine WO.field0 rfl rfl rfl ?_
         exact WO.nil ⟨rfl, rfl⟩
       refine DT.nil [_, _, _, _] rfl ?_
       refine WO.indexArrE (i := i) (o' := i) rfl rfl rfl rfl (by omega) (by omega) rfl ?_
       refine WO.storeK (cs := m15 (flF (linX a X b Y) (fun _ => 0) (P1 i))) rfl rfl rfl rfl (by show i < 15; omega) (fl1_set (F := linX a X b Y) (i := i) (by omega)) (by repeat (first | exact Pick.head | apply Pick.tail)) ?_
       refine WO.nil ?_
       refine W.region ?_
       refine WO.ar rfl rfl rfl (by (first | (unfold in64; omega))) rfl (WO.p rfl rfl ?_)
       refine WO.nil ?_
       refine' ⟨i + 1, ?hp, ?hmu, ⟨rfl, rfl, rfl, rfl, rfl, rfl, rfl, trivial⟩, ?hS⟩
       case hS => repeat (first | exact Sub.nil | refine Sub.cons (by repeat (first | exact Pick.head | apply Pick.tail)) ?_)
       case hp => omega
       case hmu => omega)
  first
  | (exfalso; omega)
  | (refine W.exit (blk_same ?_)
     refine W.seq ?_
     obtain rfl : i = 5 := by omega
     refine W.chg (ptEq (b := b4) (by repeat (first | exact Pick.head | apply Pick.tail)) (fl12 _ _)) ?_
     refine W.sreg ?_
     refine WO.p rfl rfl ?_
     refine WO.nil ?_
     refine W.block ?_
     refine W.loop (fun (i : Nat) => i ≤ 8)
       (fun (i : Nat) => [(2, .int .i64 a), (3, .int .i64 b), (4, .pointer (some ⟨b1, 0, none⟩)), (5, .pointer (some ⟨b2, 0, none⟩)), (8, .pointer (some ⟨b3, 0, none⟩)), (9, .pointer (some ⟨b4, 0, none⟩)), (58, .int .i64 (i : Int))])
       (fun (i : Nat) => [pt b1 (.cells (m15 X).toArray 71 (0, 0)), pt b2 (.cells (m15 Y).toArray 71 (0, 0)), pt b3 (.cells (m15 fun _ => 0).toArray 71 (0, 0)), pt b4 (.cells (m15 (flF (linX a X b Y) (fun _ => 0) (P2 i))).toArray 71 (0, 0))])
       (fun (i : Nat) => 8 - i) 0
       (by omega) ⟨rfl, rfl, rfl, rfl, rfl, rfl, rfl, trivial⟩ (by repeat (first | exact Sub.nil | refine Sub.cons (by repeat (first | exact Pick.head | apply Pick.tail)) ?_)) ?_
     rintro i hi
     refine W.sreg ?_
     refine WO.p rfl rfl ?_
     refine WO.nil ?_
     refine W.seq ?_
     refine W.cond_bl rfl (fun c2 => ?_) (fun c2 => ?_)
     · first
       | (exfalso; omega)
       | (refine W.skip ?_
          refine W.seq ?_
          refine W.block ?_
          refine W.sreg ?_
          refine WO.p rfl rfl (WO.p rfl rfl ?_)
          refine WO.nil ?_
          refine W.drawD 15 [.r 0 [], .r 1 [], .r 2 [], .r 3 [], .r 4 [], .b 5 [], .r 6 [], .r 7 [], .r 8 [], .r 9 [], .r 10 [], .b 11 [], .r 12 [], .r 13 [], .r 14 []] [] (A0 := [_]) (H0 := [_, _, _]) (.cons (Pick.tail (Pick.tail (Pick.tail .head))) (.cons .head (.cons .head (.cons .head .nil)))) (by kernel_rfl) ?_ ?_
          · exact (ALok.r (ALok.r (ALok.r (ALok.r (ALok.r (ALok.b (ALok.r (ALok.r (ALok.r (ALok.r (ALok.r (ALok.b (ALok.r (ALok.r (ALok.r ALok.nil)))))))))))))))
          refine' DT.r rfl rfl rfl ?hq ?_
          case hq =>
            refine WO.p rfl rfl ?_
            exact WO.nil ⟨rfl, rfl⟩
          refine' DT.r rfl rfl rfl ?hq ?_
          case hq =>
            refine WO.p rfl rfl ?_
            exact WO.nil ⟨rfl, rfl⟩
          refine' DT.r rfl rfl rfl ?hq ?_
          case hq =>
            refine WO.p rfl rfl ?_
            exact WO.nil ⟨rfl, rfl⟩
          refine' DT.r rfl rfl rfl ?hq ?_
          case hq =>
            refine WO.fieldL rfl rfl rfl ?_
            exact WO.nil ⟨rfl, rfl⟩
          refine' DT.r rfl rfl rfl ?hq ?_
          case hq =>
            refine WO.indexArrE (i := i) (o' := 6 + i) rfl rfl rfl rfl (by omega) (by omega) rfl ?_
            exact WO.nil ⟨rfl, rfl⟩
          refine' DT.b rfl rfl rfl ?hq ?_
          case hq =>
            refine' WO.load (v := _) rfl rfl ?hc rfl ?_
            case hc => (first | (refine Cell.own (by repeat (first | exact Pick.head | apply Pick.tail)) ?_; exact m15_get (X := X) (k := 6 + i) (by omega)))
            exact WO.nil ⟨rfl, rfl⟩
          refine' DT.r rfl rfl rfl ?hq ?_
          case hq =>
            refine WO.ar rfl rfl rfl (by (first | exact (hin (6 + i) (by omega)).1)) rfl ?_
            exact WO.nil ⟨rfl, rfl⟩
          refine' DT.r rfl rfl rfl ?hq ?_
          case hq =>
            refine WO.p rfl rfl ?_
            exact WO.nil ⟨rfl, rfl⟩
          refine' DT.r rfl rfl rfl ?hq ?_
          case hq =>
            refine WO.p rfl rfl ?_
            exact WO.nil ⟨rfl, rfl⟩
          refine' DT.r rfl rfl rfl ?hq ?_
          case hq =>
            refine WO.fieldL rfl rfl rfl ?_
            exact WO.nil ⟨rfl, rfl⟩
          refine' DT.r rfl rfl rfl ?hq ?_
          case hq =>
            refine WO.indexArrE (i := i) (o' := 6 + i) rfl rfl rfl rfl (by omega) (by omega) rfl ?_
            exact WO.nil ⟨rfl, rfl⟩
          refine' DT.b rfl rfl rfl ?hq ?_
          case hq =>
            refine' WO.load (v := _) rfl rfl ?hc rfl ?_
            case hc => (first | (refine Cell.own (by repeat (first | exact Pick.head | apply Pick.tail)) ?_; exact m15_get (X := Y) (k := 6 + i) (by omega)))
            exact WO.nil ⟨rfl, rfl⟩
          refine' DT.r rfl rfl rfl ?hq ?_
          case hq =>
            refine WO.ar rfl rfl rfl (by (first | exact (hin (6 + i) (by omega)).2.1)) rfl ?_
            exact WO.nil ⟨rfl, rfl⟩
          refine' DT.r rfl rfl rfl ?hq ?_
          case hq =>
            refine WO.ar rfl rfl rfl (by (first | exact (hin (6 + i) (by omega)).2.2)) rfl ?_
            exact WO.nil ⟨rfl, rfl⟩
          refine' DT.r rfl rfl rfl ?hq ?_
          case hq =>
            refine WO.fieldL rfl rfl rfl ?_
            exact WO.nil ⟨rfl, rfl⟩
          refine DT.nil [_, _, _, _] rfl ?_
          refine WO.indexArrE (i := i) (o' := 6 + i) rfl rfl rfl rfl (by omega) (by omega) rfl ?_
          refine WO.storeK (cs := m15 (flF (linX a X b Y) (fun _ => 0) (P2 i))) rfl rfl rfl rfl (by show 6 + i < 15; omega) (fl2_set (F := linX a X b Y) (i := i) (by omega)) (by repeat (first | exact Pick.head | apply Pick.tail)) ?_
          refine WO.nil ?_
          refine W.region ?_
          refine WO.ar rfl rfl rfl (by (first | (unfold in64; omega))) rfl (WO.p rfl rfl ?_)
          refine WO.nil ?_
          refine' ⟨i + 1, ?hp, ?hmu, ⟨rfl, rfl, rfl, rfl, rfl, rfl, rfl, trivial⟩, ?hS⟩
          case hS => repeat (first | exact Sub.nil | refine Sub.cons (by repeat (first | exact Pick.head | apply Pick.tail)) ?_)
          case hp => omega
          case hmu => omega)
     first
     | (exfalso; omega)
     | (refine W.exit (blk_same ?_)
        obtain rfl : i = 8 := by omega
        refine W.chg (ptEq (b := b4) (by repeat (first | exact Pick.head | apply Pick.tail)) (fl2_end _ _)) ?_
        refine W.sreg ?_
        refine WO.loadA rfl rfl (Cells.own Pick.head) rfl rfl (WO.storeA rfl rfl rfl rfl (Pick.tail (Pick.tail (Pick.tail (Pick.head)))) rfl rfl ?_)
        refine WO.nil ?_
        refine W.ret ?_
        exact fin.ret (Res.one rfl (RV.cell rfl rfl rfl (Cells.own (by repeat (first | exact Pick.head | apply Pick.tail))))) rfl))
end Go.Proofs.Ytelmclmklkiphaa
namespace Go.Proofs.Ytelmclmklkiphaa
open Go Go.TH
attribute [local irreducible] W WO pt
set_option maxRecDepth 10000
set_option maxHeartbeats 1000000
/-- divided by the greatest common divisor -/
def primF (X : Nat → Int) (n : Nat) : Nat → Int := if gcdF X n < 2 then X else fun k => (X k).tdiv (gcdF X n : Nat)
theorem tdiv_bd {a M : Int} {g : Nat} (hg : 2 ≤ g) (h : -M ≤ a ∧ a ≤ M) : -M ≤ a.tdiv (g : Int) ∧ a.tdiv (g : Int) ≤ M := by
  have h1 : (a.tdiv (g : Int)).natAbs = a.natAbs / g := by rw [Int.natAbs_tdiv]; rfl
  have h2 := Nat.div_le_self a.natAbs g
  omega
theorem primF_bd {X : Nat → Int} {n : Nat} {M : Int} {k : Nat} (h : -M ≤ X k ∧ X k ≤ M) : -M ≤ primF X n k ∧ primF X n k ≤ M := by
  unfold primF
  split
  · exact h
  exact tdiv_bd (by omega) h
def allX (X : Nat → Int) : List Int := [X 0, X 1, X 2, X 3, X 4, X 6, X 7, X 8, X 9, X 10, X 11, X 12, X 13, X 5, X 14]
def permX (k : Nat) : Nat := if k < 5 then k else if k < 13 then k + 1 else if k = 13 then 5 else 14
theorem allX_at {X : Nat → Int} {k : Nat} (h : k < 15) : fnL (allX X) k = X (permX k) :=
  lt15 (p := fun k => fnL (allX X) k = X (permX k)) ⟨rfl, rfl, rfl, rfl, rfl, rfl, rfl, rfl, rfl, rfl, rfl, rfl, rfl, rfl, rfl⟩ h
theorem allX_gcd (X : Nat → Int) : gcdF (fnL (allX X)) 15 = gcdF X 15 := by
  refine Nat.dvd_antisymm (gcdF_dvd.2 fun k hk => ?_) (gcdF_dvd.2 fun k hk => ?_)
  · have h := fun j (hj : j < 15) => gcdF_of (X := fnL (allX X)) (n := 15) hj
    have e : ∃ j, j < 15 ∧ permX j = k := by
      rcases Nat.lt_or_ge k 5 with g | g
      · exact ⟨k, by omega, by unfold permX; rw [if_pos g]⟩
      rcases Nat.lt_or_ge k 6 with g2 | g2
      · obtain rfl : k = 5 := by omega
        exact ⟨13, by omega, rfl⟩
      rcases Nat.lt_or_ge k 14 with g3 | g3
      · exact ⟨k - 1, by omega, by unfold permX; rw [if_neg (by omega), if_pos (by omega)]; omega⟩
      obtain rfl : k = 14 := by omega
      exact ⟨14, by omega, rfl⟩
    obtain ⟨j, hj, rfl⟩ := e
    have := h j hj
    rw [allX_at hj] at this
    exact this
  rw [allX_at hk]
  exact gcdF_of (by unfold permX; split; omega; split; omega; split <;> omega)
def BdW (X : Nat → Int) : Prop := ∀ k, k < 15 → -4611686018427387904 ≤ X k ∧ X k ≤ 4611686018427387904
theorem c_small (w : World) (X : Nat → Int) (hX : BdW X) : Ret Try.prog 51 [madeV X].toArray w (madeV (primF X 15)) := by
  refine Ret.of mixed tyTab Try.func51 rfl rfl ?_
  refine W.sreg ?_
  refine WO.boxA rfl rfl (fun b1 hb1 => ?_)
  refine WO.alloc rfl rfl rfl (fun b2 hb2 => ?_)
  refine WO.nil ?_
  refine W.seq ?_
  refine DB.W.drawB 12 [.r 0 [], .r 1 [], .r 2 [], .r 3 [], .r 4 [], .r 6 [], .r 7 [], .b 8 [], .r 9 [], .b 10 []] [.c 5 [], .a 11 18 (fun b => OwC 2 1 (.slice (some ⟨b, 0, none⟩) 2 2) 2 [.int .i64 (X 5), .int .i64 (X 14)]) (fun b => .slice (some ⟨b, 0, none⟩) 2 2)] [] (A0 := []) (H0 := [_, _]) (.cons .head (.cons .head .nil)) (by kernel_rfl) ?_
  refine' DB.QB.r rfl rfl rfl ?hq ?_
  case hq =>
    refine WO.field0 rfl rfl rfl ?_
    exact WO.nil ⟨rfl, rfl⟩
  refine' DB.QB.r rfl rfl rfl ?hq ?_
  case hq =>
    refine WO.field0 rfl rfl rfl ?_
    exact WO.nil ⟨rfl, rfl⟩
  refine' DB.QB.r rfl rfl rfl ?hq ?_
  case hq =>
    refine WO.sliceArrM (n := 5) rfl rfl rfl rfl (by omega) rfl ?_
    exact WO.nil ⟨rfl, rfl⟩
  refine' DB.QB.r rfl rfl rfl ?hq ?_
  case hq =>
    refine WO.fieldL rfl rfl rfl ?_
    exact WO.nil ⟨rfl, rfl⟩
  refine' DB.QB.r rfl rfl rfl ?hq ?_
  case hq =>
    refine WO.sliceArr rfl rfl rfl ?_
    exact WO.nil ⟨rfl, rfl⟩
  refine' DB.QB.r rfl rfl rfl ?hq ?_
  case hq =>
    refine WO.field0 rfl rfl rfl ?_
    exact WO.nil ⟨rfl, rfl⟩
  refine' DB.QB.r rfl rfl rfl ?hq ?_
  case hq =>
    refine WO.fieldL rfl rfl rfl ?_
    exact WO.nil ⟨rfl, rfl⟩
  refine' DB.QB.b rfl rfl rfl ?hq ?_
  case hq =>
    refine WO.load rfl rfl (Cell.own (Pick.tail (Pick.head)) rfl) rfl ?_
    exact WO.nil ⟨rfl, rfl⟩
  refine' DB.QB.r rfl rfl rfl ?hq ?_
  case hq =>
    refine WO.fieldL rfl rfl rfl ?_
    exact WO.nil ⟨rfl, rfl⟩
  refine' DB.QB.b rfl rfl rfl ?hq ?_
  case hq =>
    refine WO.load rfl rfl (Cell.own (Pick.tail (Pick.head)) rfl) rfl ?_
    exact WO.nil ⟨rfl, rfl⟩
  refine DB.QB.nil ?_ ?_
  · refine (DB.ALok.r (DB.ALok.r (DB.ALok.r (DB.ALok.r (DB.ALok.r (DB.ALok.r (DB.ALok.r (DB.ALok.b (DB.ALok.r (DB.ALok.b (DB.ALok.c (DB.ALok.n rfl rfl rfl ?_ DB.ALok.nil))))))))))))
    · skip
      refine' WO.buildSl (cs := _) rfl rfl rfl rfl ?hf rfl rfl ?hl rfl (fun v3 => ?_)
      case hf => (conv => lhs; simp [-List.getD_eq_getElem?_getD, fillL, vcl, wrl, TTab.pl?.lget']) <;> rfl
      case hl => rfl
      exact WO.nil ⟨_, rfl, rfl⟩
  refine DB.DT.c [_, _] rfl rfl rfl rfl ?_
  refine WO.appendFull (n := 5) (m := 8) (cs := r5 X) rfl rfl rfl rfl rfl (Cells.ownAt (n := 5) (by repeat (first | exact Pick.head | apply Pick.tail)) rfl) rfl ⟨by omega, some _, 8, rfl, fun _ => ⟨_, _, rfl⟩⟩ (by omega) (Cells.ownAt (n := 8) (by repeat (first | exact Pick.head | apply Pick.tail)) rfl) rfl (by omega) (by omega) rfl (fun g c => ?_)
  refine WO.nil ⟨_, [_], rfl, rfl, (DB.Keep.b (DB.Keep.r (DB.Keep.b (DB.Keep.r (DB.Keep.r (DB.Keep.r (DB.Keep.r (DB.Keep.r (DB.Keep.r (DB.Keep.r DB.Keep.nil)))))))))), ?_⟩
  refine DB.DT.a (fun v4 => ?_)
  refine DB.DT.nil [_, _, _, _] rfl ?_
  refine WO.append (n := 13) (m := 2) rfl rfl rfl rfl rfl (by repeat (first | exact Pick.head | apply Pick.tail)) ⟨by omega, some _, 2, rfl, fun _ => ⟨_, _, rfl⟩⟩ (by omega) (OwC.cells (by repeat (first | exact Pick.head | apply Pick.tail))) rfl (fun u hu => by simp at hu; rcases hu with rfl | rfl <;> rfl) (by omega) (by omega) rfl (fun g2 c2 => ?_)
  refine WO.p rfl rfl ?_
  refine WO.nil ?_
  refine W.sreg ?_
  refine WO.p rfl rfl ?_
  refine WO.callR (r := .int .i64 (gcdF X 15 : Nat)) rfl Try.call46 (fun L w' hi => by rw [← allX_gcd]; exact c_common w' _ (allX X) 4611686018427387904 (RdF.of_ow (e := 2) (xs := allX X) encI_ok (by repeat (first | exact Pick.head | apply Pick.tail)) hi) (by omega) (fun k hk => by rw [allX_at hk]; have := hX (permX k) (by have : k < 15 := hk; unfold permX; split; omega; split; omega; split <;> omega); omega)) rfl ?_
  refine WO.p rfl rfl ?_
  refine WO.nil ?_
  refine W.seq ?_
  refine W.sreg ?_
  refine WO.p rfl rfl (WO.p rfl rfl ?_)
  refine WO.nil ?_
  refine W.cond_bl rfl (fun c1 => ?_) (fun c1 => ?_)
  · first
    | (exfalso; omega)
    | (refine W.sreg ?_
       refine WO.loadA rfl rfl (Cells.own (Pick.tail (Pick.tail (Pick.tail (Pick.head))))) rfl rfl (WO.storeA rfl rfl rfl rfl (Pick.tail (Pick.tail (Pick.head))) rfl rfl ?_)
       refine WO.nil ?_
       refine W.ret ?_
       refine fin.ret (Res.one rfl (RV.cell rfl rfl rfl (Cells.own (by repeat (first | exact Pick.head | apply Pick.tail))))) ?_
       first | (unfold primF; rw [if_pos (by omega)]; rfl) | (unfold primF; rw [if_neg (by omega)]; rfl))
  first
  | (exfalso; omega)
  | (refine W.skip ?_
     refine W.sreg ?_
     refine WO.field0 rfl rfl rfl (WO.fieldL rfl rfl rfl (WO.load rfl rfl (Cell.own (Pick.tail (Pick.tail (Pick.tail (Pick.head)))) rfl) rfl (WO.p rfl rfl (WO.quo rfl rfl (by first | omega | assumption) (by (first | exact (fun h => by unfold in64; omega) (tdiv_bd (g := gcdF X 15) (by omega) (hX 5 (by omega))))) rfl (WO.field0 rfl rfl rfl (WO.fieldL rfl rfl rfl (WO.store1 rfl rfl rfl (by first | rfl | assumption) (Pick.tail (Pick.tail (Pick.tail (Pick.head)))) rfl ?_)))))))
     refine WO.nil ?_
     refine W.sreg ?_
     refine WO.fieldL rfl rfl rfl (WO.load rfl rfl (Cell.own Pick.head rfl) rfl (WO.p rfl rfl (WO.quo rfl rfl (by first | omega | assumption) (by (first | exact (fun h => by unfold in64; omega) (tdiv_bd (g := gcdF X 15) (by omega) (hX 14 (by omega))))) rfl (WO.fieldL rfl rfl rfl (WO.store1 rfl rfl rfl (by first | rfl | assumption) Pick.head rfl ?_)))))
     refine WO.nil ?_
     refine W.seq ?_
     refine W.chg (ptEq (b := b1) (by repeat (first | exact Pick.head | apply Pick.tail)) (Eq.trans rfl (fl1_0 (fun k => (X k).tdiv (gcdF X 15 : Nat)) X))) ?_
     refine W.sreg ?_
     refine WO.p rfl rfl ?_
     refine WO.nil ?_
     refine W.block ?_
     refine W.loop (fun (i : Nat) => i ≤ 5)
       (fun (i : Nat) => [(1, .pointer (some ⟨b1, 0, none⟩)), (2, .pointer (some ⟨b2, 0, none⟩)), (4, .int .i64 (gcdF X 15 : Nat)), (37, .int .i64 (i : Int))])
       (fun (i : Nat) => [pt b1 (.cells (m15 (flF (fun k => (X k).tdiv (gcdF X 15 : Nat)) X (P1 i))).toArray 71 (0, 0)), pt b2 (.cells (m15 fun _ => 0).toArray 71 (0, 0))])
       (fun (i : Nat) => 5 - i) 0
       (by omega) ⟨rfl, rfl, rfl, rfl, trivial⟩ (by repeat (first | exact Sub.nil | refine Sub.cons (by repeat (first | exact Pick.head | apply Pick.tail)) ?_)) ?_
     rintro i hi
     refine W.sreg ?_
     refine WO.p rfl rfl ?_
     refine WO.nil ?_
     refine W.seq ?_
     refine W.cond_bl rfl (fun c2 => ?_) (fun c2 => ?_)
     · first
       | (exfalso; omega)
       | (refine W.skip ?_
          refine W.seq ?_
          refine W.block ?_
          refine W.sreg ?_
          refine WO.p rfl rfl (WO.p rfl rfl ?_)
          refine WO.nil ?_
          refine W.region ?_
          refine WO.p rfl rfl (WO.field0 rfl rfl rfl (WO.field0 rfl rfl rfl ?_))
          refine WO.indexArrE (i := i) (o' := i) rfl rfl rfl rfl (by omega) (by omega) rfl ?_
          refine' WO.load (v := _) rfl rfl ?hc rfl ?_
          case hc => (first | (refine Cell.own (by repeat (first | exact Pick.head | apply Pick.tail)) ?_; rw [m15_get (by omega), show flF (fun k => (X k).tdiv (gcdF X 15 : Nat)) X (P1 i) i = X i from if_neg (by unfold P1; omega)]))
          refine WO.p rfl rfl (WO.quo rfl rfl (by first | omega | assumption) (by (first | exact (fun h => by unfold in64; omega) (tdiv_bd (g := gcdF X 15) (by omega) (hX i (by omega))))) rfl (WO.field0 rfl rfl rfl (WO.field0 rfl rfl rfl ?_)))
          refine WO.indexArrE (i := i) (o' := i) rfl rfl rfl rfl (by omega) (by omega) rfl ?_
          refine WO.storeK (cs := m15 (flF (fun k => (X k).tdiv (gcdF X 15 : Nat)) X (P1 i))) rfl rfl rfl rfl (by show i < 15; omega) (fl1_set (F := fun k => (X k).tdiv (gcdF X 15 : Nat)) (i := i) (by omega)) (by repeat (first | exact Pick.head | apply Pick.tail)) ?_
          refine WO.nil ?_
          refine W.region ?_
          refine WO.ar rfl rfl rfl (by (first | (unfold in64; omega))) rfl (WO.p rfl rfl ?_)
          refine WO.nil ?_
          refine' ⟨i + 1, ?hp, ?hmu, ⟨rfl, rfl, rfl, rfl, trivial⟩, ?hS⟩
          case hS => repeat (first | exact Sub.nil | refine Sub.cons (by repeat (first | exact Pick.head | apply Pick.tail)) ?_)
          case hp => omega
          case hmu => omega)
     first
     | (exfalso; omega)
     | (refine W.exit (blk_same ?_)
        refine W.seq ?_
        obtain rfl : i = 5 := by omega
        refine W.chg (ptEq (b := b1) (by repeat (first | exact Pick.head | apply Pick.tail)) (fl12 _ _)) ?_
        refine W.sreg ?_
        refine WO.p rfl rfl ?_
        refine WO.nil ?_
        refine W.block ?_
        refine W.loop (fun (i : Nat) => i ≤ 8)
          (fun (i : Nat) => [(1, .pointer (some ⟨b1, 0, none⟩)), (2, .pointer (some ⟨b2, 0, none⟩)), (4, .int .i64 (gcdF X 15 : Nat)), (51, .int .i64 (i : Int))])
          (fun (i : Nat) => [pt b1 (.cells (m15 (flF (fun k => (X k).tdiv (gcdF X 15 : Nat)) X (P2 i))).toArray 71 (0, 0)), pt b2 (.cells (m15 fun _ => 0).toArray 71 (0, 0))])
          (fun (i : Nat) => 8 - i) 0
          (by omega) ⟨rfl, rfl, rfl, rfl, trivial⟩ (by repeat (first | exact Sub.nil | refine Sub.cons (by repeat (first | exact Pick.head | apply Pick.tail)) ?_)) ?_
        rintro i hi
        refine W.sreg ?_
        refine WO.p rfl rfl ?_
        refine WO.nil ?_
        refine W.seq ?_
        refine W.cond_bl rfl (fun c3 => ?_) (fun c3 => ?_)
        · first
          | (exfalso; omega)
          | (refine W.skip ?_
             refine W.seq ?_
             refine W.block ?_
             refine W.sreg ?_
             refine WO.p rfl rfl (WO.p rfl rfl ?_)
             refine WO.nil ?_
             refine W.region ?_
             refine WO.p rfl rfl (WO.fieldL rfl rfl rfl ?_)
             refine WO.indexArrE (i := i) (o' := 6 + i) rfl rfl rfl rfl (by omega) (by omega) rfl ?_
             refine' WO.load (v := _) rfl rfl ?hc rfl ?_
             case hc => (first | (refine Cell.own (by repeat (first | exact Pick.head | apply Pick.tail)) ?_; rw [m15_get (by omega), show flF (fun k => (X k).tdiv (gcdF X 15 : Nat)) X (P2 i) (6 + i) = X (6 + i) from if_neg (by unfold P2; omega)]))
             refine WO.p rfl rfl (WO.quo rfl rfl (by first | omega | assumption) (by (first | exact (fun h => by unfold in64; omega) (tdiv_bd (g := gcdF X 15) (by omega) (hX (6 + i) (by omega))))) rfl (WO.fieldL rfl rfl rfl ?_))
             refine WO.indexArrE (i := i) (o' := 6 + i) rfl rfl rfl rfl (by omega) (by omega) rfl ?_
             refine WO.storeK (cs := m15 (flF (fun k => (X k).tdiv (gcdF X 15 : Nat)) X (P2 i))) rfl rfl rfl rfl (by show 6 + i < 15; omega) (fl2_set (F := fun k => (X k).tdiv (gcdF X 15 : Nat)) (i := i) (by omega)) (by repeat (first | exact Pick.head | apply Pick.tail)) ?_
             refine WO.nil ?_
             refine W.region ?_
             refine WO.ar rfl rfl rfl (by (first | (unfold in64; omega))) rfl (WO.p rfl rfl ?_)
             refine WO.nil ?_
             refine' ⟨i + 1, ?hp, ?hmu, ⟨rfl, rfl, rfl, rfl, trivial⟩, ?hS⟩
             case hS => repeat (first | exact Sub.nil | refine Sub.cons (by repeat (first | exact Pick.head | apply Pick.tail)) ?_)
             case hp => omega
             case hmu => omega)
        first
        | (exfalso; omega)
        | (refine W.exit (blk_same ?_)
           obtain rfl : i = 8 := by omega
           refine W.chg (ptEq (b := b1) (by repeat (first | exact Pick.head | apply Pick.tail)) (fl2_end _ _)) ?_
           refine W.sreg ?_
           refine WO.loadA rfl rfl (Cells.own Pick.head) rfl rfl (WO.storeA rfl rfl rfl rfl (Pick.tail (Pick.head)) rfl rfl ?_)
           refine WO.nil ?_
           refine W.ret ?_
           refine fin.ret (Res.one rfl (RV.cell rfl rfl rfl (Cells.own (by repeat (first | exact Pick.head | apply Pick.tail))))) ?_
           first | (unfold primF; rw [if_pos (by omega)]; rfl) | (unfold primF; rw [if_neg (by omega)]; rfl))))
/-- the first place that is not 0; n if there is none -/
def fst (X : Nat → Int) (n : Nat) : Nat := ((List.range n).find? fun k => decide (X k ≠ 0)).getD n
theorem fst_hit {X : Nat → Int} {n i : Nat} (hi : i < n) (h0 : ∀ j, j < i → X j = 0) (h : X i ≠ 0) : fst X n = i := by
  unfold fst
  rw [show (List.range n).find? (fun k => decide (X k ≠ 0)) = some i by
    rw [List.find?_range_eq_some]
    exact ⟨by simpa using h, by simpa using hi, fun j hj => by simp [h0 j hj]⟩]
  rfl
theorem fst_none {X : Nat → Int} {n : Nat} (h0 : ∀ j, j < n → X j = 0) : fst X n = n := by
  unfold fst
  rw [show (List.range n).find? (fun k => decide (X k ≠ 0)) = none by
    rw [List.find?_eq_none]
    intro j hj
    simp [h0 j (by simpa using hj)]]
  rfl
theorem fst_le (X : Nat → Int) (n : Nat) : fst X n ≤ n := by
  rcases Decidable.em (∀ j, j < n → X j = 0) with h | h
  · rw [fst_none h]; omega
  unfold fst
  cases e : (List.range n).find? fun k => decide (X k ≠ 0) with
  | none => exact Nat.le_refl _
  | some i => have := List.mem_of_find?_eq_some e; simp at this; show i ≤ n; omega
theorem fst_spec (X : Nat → Int) (n : Nat) : (fst X n = n ∧ ∀ j, j < n → X j = 0) ∨ (fst X n < n ∧ X (fst X n) ≠ 0 ∧ ∀ j, j < fst X n → X j = 0) := by
  unfold fst
  cases e : (List.range n).find? fun k => decide (X k ≠ 0) with
  | none =>
    rw [List.find?_eq_none] at e
    exact .inl ⟨rfl, fun j hj => Decidable.byContradiction fun h => e j (by simpa using hj) (by simpa using h)⟩
  | some i =>
    rw [List.find?_range_eq_some] at e
    obtain ⟨h1, h2, h3⟩ := e
    refine .inr ⟨by simpa using h2, by simpa using h1, fun j hj => ?_⟩
    have := h3 j hj
    simpa using this
def placeV (X : Nat → Int) : Int := if fst X 5 = 5 then -1 else (fst X 5 : Int)
theorem c_place (w : World) (X : Nat → Int) : Ret Try.prog 52 [madeV X].toArray w (.int .i64 (placeV X)) := by
  refine Ret.of mixed tyTab Try.func52 rfl rfl ?_
  refine W.sreg ?_
  refine WO.boxA rfl rfl (fun b1 hb1 => ?_)
  refine WO.p rfl rfl ?_
  refine WO.nil ?_
  refine W.scope ?_
  refine W.sreg ?_
  refine WO.p rfl rfl ?_
  refine WO.nil ?_
  refine W.seq ?_
  refine W.label ?_
  refine W.seq ?_
  refine W.sreg ?_
  refine WO.field0 rfl rfl rfl (WO.field0 rfl rfl rfl (WO.loadA rfl rfl (Cells.ownAt (n := 5) Pick.head rfl) rfl rfl (WO.p rfl rfl ?_)))
  refine WO.nil ?_
  refine W.block ?_
  refine W.loop (fun (i : Nat) => i ≤ 5 ∧ ∀ j, j < i → X j = 0)
    (fun (i : Nat) => [(3, .int .i64 (-1)), (8, .agg (r5 X).toArray), (9, .int .i64 (i : Int))])
    (fun (i : Nat) => [])
    (fun (i : Nat) => 5 - i) 0
    (by exact ⟨by omega, fun j hj => by omega⟩) ⟨rfl, rfl, rfl, trivial⟩ (by repeat (first | exact Sub.nil | refine Sub.cons (by repeat (first | exact Pick.head | apply Pick.tail)) ?_)) ?_
  rintro i ⟨hi, hz⟩
  refine W.sreg ?_
  refine WO.p rfl rfl ?_
  refine WO.nil ?_
  refine W.seq ?_
  refine W.cond_bl rfl (fun c1 => ?_) (fun c1 => ?_)
  · first
    | (exfalso; omega)
    | (refine W.skip ?_
       refine W.seq ?_
       refine W.block ?_
       refine W.sreg ?_
       refine WO.p rfl rfl ?_
       refine WO.indexV (vs := r5 X) (i := i) rfl rfl rfl rfl (by omega) (r5_get (by omega)) rfl ?_
       refine WO.p rfl rfl (WO.p rfl rfl ?_)
       refine WO.nil ?_
       refine W.sreg ?_
       refine WO.p rfl rfl (WO.p rfl rfl ?_)
       refine WO.nil ?_
       refine W.cond_bl rfl (fun c2 => ?_) (fun c2 => ?_)
       · first
         | (exfalso; omega)
         | (refine W.sreg ?_
            refine WO.p rfl rfl (WO.p rfl rfl ?_)
            refine WO.nil ?_
            refine W.exit (blk_other rfl (blk_same ?_))
            refine W.sreg ?_
            refine WO.p rfl rfl (WO.p rfl rfl ?_)
            refine WO.nil ?_
            refine W.ret ?_
            refine fin.ret (Res.one rfl (RV.tmp rfl)) (congrArg (Value.int .i64) ?_)
            first | (obtain rfl : i = 5 := (by omega); unfold placeV; rw [if_pos (fst_none hz)]; done) | (unfold placeV; rw [if_neg (by rw [fst_hit (i := i) (by omega) hz (by omega)]; omega), fst_hit (i := i) (by omega) hz (by omega)]; done))
       first
       | (exfalso; omega)
       | (refine W.skip ?_
          refine W.region ?_
          refine WO.ar rfl rfl rfl (by (first | (unfold in64; omega) | (unfold in64; omega))) rfl (WO.p rfl rfl ?_)
          refine WO.nil ?_
          refine' ⟨i + 1, ?hp, ?hmu, ⟨rfl, rfl, rfl, trivial⟩, ?hS⟩
          case hS => repeat (first | exact Sub.nil | refine Sub.cons (by repeat (first | exact Pick.head | apply Pick.tail)) ?_)
          case hp => exact ⟨by omega, fun j hj => by (rcases Nat.lt_or_ge j i with g | g; exact hz j g; obtain rfl : j = i := (by omega); omega)⟩
          case hmu => omega))
  first
  | (exfalso; omega)
  | (refine W.exit (blk_same ?_)
     refine W.sreg ?_
     refine WO.p rfl rfl (WO.p rfl rfl ?_)
     refine WO.nil ?_
     refine W.ret ?_
     refine fin.ret (Res.one rfl (RV.tmp rfl)) (congrArg (Value.int .i64) ?_)
     first | (obtain rfl : i = 5 := (by omega); unfold placeV; rw [if_pos (fst_none hz)]; done) | (unfold placeV; rw [if_neg (by rw [fst_hit (i := i) (by omega) hz (by omega)]; omega), fst_hit (i := i) (by omega) hz (by omega)]; done))
theorem ref_gcd (w : World) (a b : Nat) : Ret Try.prog 61 [.int .i64 (a : Int), .int .i64 (b : Int)].toArray w (.int .i64 (Nat.gcd a b : Nat)) := by
  refine Ret.of mixed tyTab Try.func61 rfl rfl ?_
  refine W.sreg ?_
  refine WO.p rfl rfl ?_
  refine WO.nil ?_
  refine W.seq ?_
  refine W.block ?_
  refine W.loop2 (fun (x : Nat) (y : Nat) => Nat.gcd x y = Nat.gcd a b)
    (fun (x : Nat) (y : Nat) => [(0, .int .i64 (x : Int)), (1, .int .i64 (y : Int))])
    (fun (x : Nat) (y : Nat) => [])
    (fun (x : Nat) (y : Nat) => y) a b
    (by rfl) ⟨rfl, rfl, trivial⟩ (by repeat (first | exact Sub.nil | refine Sub.cons (by repeat (first | exact Pick.head | apply Pick.tail)) ?_)) ?_
  rintro x y hg
  refine W.seq ?_
  refine W.sreg ?_
  refine WO.p rfl rfl (WO.p rfl rfl ?_)
  refine WO.nil ?_
  refine W.cond_bl rfl (fun c1 => ?_) (fun c1 => ?_)
  · first
    | (exfalso; omega)
    | (refine W.skip ?_
       refine W.block ?_
       refine W.drawD 5 [.r 0 [], .r 1 [], .r 2 [0], .r 3 [0], .r 4 [0]] [0] (A0 := []) (Sub.refl _) (by kernel_rfl) ?_ ?_
       · exact (ALok.r (ALok.r (ALok.r (ALok.r (ALok.r ALok.nil)))))
       refine' DT.r rfl rfl rfl ?hq ?_
       case hq =>
         refine WO.p rfl rfl ?_
         exact WO.nil ⟨rfl, rfl⟩
       refine' DT.r rfl rfl rfl ?hq ?_
       case hq =>
         refine WO.p rfl rfl ?_
         exact WO.nil ⟨rfl, rfl⟩
       refine' DT.r rfl rfl rfl ?hq ?_
       case hq =>
         refine WO.p rfl rfl ?_
         exact WO.nil ⟨rfl, rfl⟩
       refine' DT.r rfl rfl rfl ?hq ?_
       case hq =>
         refine WO.rem rfl rfl (by omega) rfl ?_
         rw [← Int.ofNat_tmod]
         exact WO.nil ⟨rfl, rfl⟩
       refine' DT.r rfl rfl rfl ?hq ?_
       case hq =>
         refine WO.p rfl rfl ?_
         exact WO.nil ⟨rfl, rfl⟩
       refine DT.nil [] rfl ?_
       refine WO.p rfl rfl ?_
       refine WO.nil ?_
       refine' ⟨y, x % y, ?hp, ?hmu, ⟨rfl, rfl, trivial⟩, ?hS⟩
       case hS => repeat (first | exact Sub.nil | refine Sub.cons (by repeat (first | exact Pick.head | apply Pick.tail)) ?_)
       case hp => rw [gcdN_step (by omega)]; exact hg
       case hmu => exact Nat.mod_lt _ (by omega))
  first
  | (exfalso; omega)
  | (refine W.exit (blk_same ?_)
     refine W.sreg ?_
     refine WO.p rfl rfl (WO.p rfl rfl ?_)
     refine WO.nil ?_
     refine W.ret ?_
     obtain rfl : y = 0 := by omega
     rw [Nat.gcd_zero_right] at hg
     subst hg
     exact fin.ret (Res.one rfl (RV.tmp rfl)) rfl)
theorem ref_first (w : World) (o : Value) (xs : List Int) (n : Nat) (hR : RdF encI 1 w.heap.size w o xs) (hn : n ≤ xs.length) : Ret Try.prog 55 [o, .int .i64 (n : Int)].toArray w (.int .i64 (fst (fnL xs) n : Nat)) := by
  refine Ret.of mixed tyTab Try.func55 rfl rfl ?_
  replace hR : RdF encI 1 (fnCx mixed tyTab Try.f55.ntmps w).B (fnCx mixed tyTab Try.f55.ntmps w).w0 o xs := hR
  have hle := hR.sl.le
  refine W.sreg ?_
  refine WO.p rfl rfl ?_
  refine WO.nil ?_
  refine W.seq ?_
  refine W.sreg ?_
  refine WO.p rfl rfl ?_
  refine WO.nil ?_
  refine W.block ?_
  refine W.loop (fun (i : Nat) => i ≤ n ∧ ∀ j, j < i → fnL xs j = 0)
    (fun (i : Nat) => [(0, o), (1, .int .i64 (n : Int)), (5, .int .i64 (i : Int))])
    (fun (i : Nat) => [])
    (fun (i : Nat) => n - i) 0
    (by exact ⟨by omega, fun j hj => by omega⟩) ⟨rfl, rfl, rfl, trivial⟩ (by repeat (first | exact Sub.nil | refine Sub.cons (by repeat (first | exact Pick.head | apply Pick.tail)) ?_)) ?_
  rintro i ⟨hi, hz⟩
  refine W.seq ?_
  refine W.sreg ?_
  refine WO.p rfl rfl (WO.p rfl rfl (WO.p rfl rfl ?_))
  refine WO.nil ?_
  refine W.cond_bl rfl (fun c1 => ?_) (fun c1 => ?_)
  · first
    | (exfalso; omega)
    | (refine W.skip ?_
       refine W.seq ?_
       refine W.block ?_
       refine W.sreg ?_
       refine WO.p rfl rfl (WO.p rfl rfl ?_)
       refine' WO.indexAddr (n := _) (i := _) rfl rfl rfl ?hs ?h1 rfl ?_
       case hs => (first | exact hR.sl)
       case h1 => (first | omega | (simp; omega))
       refine' WO.load (v := _) rfl rfl ?hc rfl ?_
       case hc => (first | (refine hR.cell0 (i := i) ?_ 0 ?_ <;> first | rfl | omega))
       refine WO.p rfl rfl ?_
       refine WO.nil ?_
       refine W.cond_bl rfl (fun c2 => ?_) (fun c2 => ?_)
       · first
         | (exfalso; omega)
         | (refine W.sreg ?_
            refine WO.p rfl rfl (WO.p rfl rfl ?_)
            refine WO.nil ?_
            refine W.ret ?_
            refine fin.ret (Res.one rfl (RV.tmp rfl)) (congrArg (Value.int .i64) ?_)
            rcases Nat.lt_or_ge i n with hin | hin
            · first | (exfalso; omega) | (rw [fst_hit hin hz (by unfold fnL; omega)])
            first | (exfalso; omega) | (rw [show i = n by omega] at hz; rw [fst_none hz]))
       first
       | (exfalso; omega)
       | (refine W.skip ?_
          refine W.region ?_
          refine WO.p rfl rfl (WO.ar rfl rfl rfl (by (first | (unfold in64; omega) | (unfold in64; omega))) rfl (WO.p rfl rfl ?_))
          refine WO.nil ?_
          refine' ⟨i + 1, ?hp, ?hmu, ⟨rfl, rfl, rfl, trivial⟩, ?hS⟩
          case hS => repeat (first | exact Sub.nil | refine Sub.cons (by repeat (first | exact Pick.head | apply Pick.tail)) ?_)
          case hp => exact ⟨by omega, fun j hj => by (rcases Nat.lt_or_ge j i with g | g; exact hz j g; obtain rfl : j = i := (by omega); unfold fnL; omega)⟩
          case hmu => omega))
  first
  | (exfalso; omega)
  | (refine W.exit (blk_same ?_)
     refine W.sreg ?_
     refine WO.p rfl rfl (WO.p rfl rfl ?_)
     refine WO.nil ?_
     refine W.ret ?_
     refine fin.ret (Res.one rfl (RV.tmp rfl)) (congrArg (Value.int .i64) ?_)
     rcases Nat.lt_or_ge i n with hin | hin
     · first | (exfalso; omega) | (rw [fst_hit hin hz (by unfold fnL; omega)])
     first | (exfalso; omega) | (rw [show i = n by omega] at hz; rw [fst_none hz]))
end Go.Proofs.Ytelmclmklkiphaa
namespace Go.Proofs.Ytelmclmklkiphaa
open Go Go.TH
attribute [local irreducible] W WO pt
set_option maxRecDepth 10000
set_option maxHeartbeats 1000000
/-- an entry: its place, its numbers, its stamp -/
abbrev KE := Nat × (Nat → Int) × Nat
def enE (t : KE) : MapEntry := { key := .int .i64 (t.1 : Int), val := madeV t.2.1, born := t.2.2 }
def ents (ks : List KE) : Array MapEntry := (ks.map enE).toArray
def lkE : List KE → Nat → Option (Nat → Int)
  | [], _ => none
  | t :: r, k => if t.1 = k then some t.2.1 else lkE r k
structure Reg (ks : List KE) (clk : Nat) : Prop where
  kn : (ks.map (·.1)).Nodup
  bn : (ks.map (·.2.2)).Nodup
  lt : ∀ t ∈ ks, t.2.2 < clk
/-- a map of one's own -/
def MapP (b : Nat) (f : Nat → Option (Nat → Int)) : HP := fun h => ∃ (ks : List KE) (clk : Nat), Reg ks clk ∧ (∀ k, lkE ks k = f k) ∧ pt b (.map (ents ks) clk) h
def updM (f : Nat → Option (Nat → Int)) (k : Nat) (X : Nat → Int) : Nat → Option (Nat → Int) := fun k' => if k' = k then some X else f k'
/-- the entry at k is changed -/
def updK (ks : List KE) (k : Nat) (Y : Nat → Int) : List KE := ks.map fun t => if t.1 = k then (t.1, Y, t.2.2) else t
theorem updK_none {k : Nat} {Y : Nat → Int} : ∀ {ks : List KE}, k ∉ ks.map (·.1) → updK ks k Y = ks
  | [], _ => rfl
  | t :: r, h => by
    rw [List.map_cons, List.mem_cons] at h
    show (if t.1 = k then (t.1, Y, t.2.2) else t) :: updK r k Y = t :: r
    rw [if_neg (fun e => h (.inl e.symm)), updK_none (fun e => h (.inr e))]
theorem find_e (k : Nat) : ∀ (ks : List KE) (i : Nat), (ks.map (·.1)).Nodup →
    (lkE ks k = none ∧ k ∉ ks.map (·.1) ∧ Instr.findNow (.int .i64) (.int .i64 (k : Int)) (ks.map enE) i = some none) ∨
    ∃ (j : Nat) (X : Nat → Int) (s : Nat), ks[j]? = some (k, X, s) ∧ lkE ks k = some X ∧ Instr.findNow (.int .i64) (.int .i64 (k : Int)) (ks.map enE) i = some (some (i + j, madeV X)) ∧
      ∀ Y, (ks.map enE).modify j (fun e => { e with key := .int .i64 (k : Int), val := madeV Y }) = (updK ks k Y).map enE
  | [], i, _ => .inl ⟨rfl, by simp, rfl⟩
  | (a, X, s) :: r, i, h => by
    rw [List.map_cons, List.nodup_cons] at h
    by_cases e : a = k
    · subst e
      refine .inr ⟨0, X, s, rfl, if_pos rfl, ?_, fun Y => ?_⟩
      · simp [Instr.findNow, Instr.sameNow, enE]
      rw [List.map_cons]
      show _ = ((if a = a then (a, Y, s) else (a, X, s)) :: updK r a Y).map enE
      rw [if_pos rfl, updK_none h.1, List.map_cons]
      rfl
    have e' : ¬ ((k : Int) = (a : Int)) := by omega
    have hk : Instr.findNow (.int .i64) (.int .i64 (k : Int)) (((a, X, s) :: r).map enE) i = Instr.findNow (.int .i64) (.int .i64 (k : Int)) (r.map enE) (i + 1) := by
      have e2 : ((k : Int) == (a : Int)) = false := by simp [e']
      simp only [List.map_cons, Instr.findNow, Instr.sameNow, enE, if_true, e2]
    rcases find_e k r (i + 1) h.2 with ⟨h1, h2, h3⟩ | ⟨j, Y, s', h1, h2, h3, h4⟩
    · refine .inl ⟨?_, ?_, ?_⟩
      · show (if a = k then some X else lkE r k) = none
        rw [if_neg e, h1]
      · rw [List.map_cons, List.mem_cons]; exact fun q => q.elim (fun q => e q.symm) h2
      rw [hk, h3]
    refine .inr ⟨j + 1, Y, s', by simpa using h1, ?_, ?_, fun Z => ?_⟩
    · show (if a = k then some X else lkE r k) = some Y
      rw [if_neg e, h2]
    · rw [hk, h3]
      have : i + 1 + j = i + (j + 1) := by omega
      rw [this]
    rw [List.map_cons, List.modify_succ_cons, h4]
    show _ = ((if a = k then (a, Z, s) else (a, X, s)) :: updK r k Z).map enE
    rw [if_neg e, List.map_cons]
theorem updK_keys (ks : List KE) (k : Nat) (Y : Nat → Int) : (updK ks k Y).map (·.1) = ks.map (·.1) := by
  unfold updK
  rw [List.map_map]
  refine List.map_congr_left fun t _ => ?_
  show (if t.1 = k then (t.1, Y, t.2.2) else t).1 = t.1
  split <;> rfl
theorem updK_born (ks : List KE) (k : Nat) (Y : Nat → Int) : (updK ks k Y).map (·.2.2) = ks.map (·.2.2) := by
  unfold updK
  rw [List.map_map]
  refine List.map_congr_left fun t _ => ?_
  show (if t.1 = k then (t.1, Y, t.2.2) else t).2.2 = t.2.2
  split <;> rfl
theorem lkE_upd {k : Nat} {Y : Nat → Int} : ∀ {ks : List KE} {X : Nat → Int}, lkE ks k = some X → ∀ k', lkE (updK ks k Y) k' = if k' = k then some Y else lkE ks k'
  | [], _, h, _ => by simp [lkE] at h
  | t :: r, X, h, k' => by
    show lkE ((if t.1 = k then (t.1, Y, t.2.2) else t) :: updK r k Y) k' = _
    have h0 : (if t.1 = k then some t.2.1 else lkE r k) = some X := h
    by_cases e : t.1 = k
    · rw [if_pos e]
      show (if t.1 = k' then some Y else lkE (updK r k Y) k') = if k' = k then some Y else (if t.1 = k' then some t.2.1 else lkE r k')
      by_cases g : k' = k
      · rw [if_pos (by omega), if_pos g]
      rw [if_neg (by omega), if_neg g, if_neg (by omega)]
      clear h h0
      induction r with
      | nil => rfl
      | cons u r ih =>
        show lkE ((if u.1 = k then (u.1, Y, u.2.2) else u) :: updK r k Y) k' = (if u.1 = k' then some u.2.1 else lkE r k')
        by_cases q : u.1 = k
        · rw [if_pos q]
          show (if u.1 = k' then some Y else lkE (updK r k Y) k') = _
          rw [if_neg (by omega), if_neg (by omega), ih]
        rw [if_neg q]
        show (if u.1 = k' then some u.2.1 else lkE (updK r k Y) k') = _
        rw [ih]
    rw [if_neg e] at h0 ⊢
    show (if t.1 = k' then some t.2.1 else lkE (updK r k Y) k') = if k' = k then some Y else (if t.1 = k' then some t.2.1 else lkE r k')
    rw [lkE_upd h0 k']
    by_cases g : k' = k
    · rw [if_pos g, if_pos g, if_neg (by omega)]
    rw [if_neg g, if_neg g]
theorem lkE_app {k : Nat} {Y : Nat → Int} {s : Nat} : ∀ {ks : List KE}, lkE ks k = none → ∀ k', lkE (ks ++ [(k, Y, s)]) k' = if k' = k then some Y else lkE ks k'
  | [], _, k' => by
    show (if k = k' then some Y else none) = if k' = k then some Y else none
    by_cases g : k' = k
    · rw [if_pos g, if_pos g.symm]
    rw [if_neg g, if_neg (fun e => g e.symm)]
  | t :: r, h, k' => by
    have h0 : (if t.1 = k then some t.2.1 else lkE r k) = none := h
    by_cases e : t.1 = k
    · rw [if_pos e] at h0; cases h0
    rw [if_neg e] at h0
    show (if t.1 = k' then some t.2.1 else lkE (r ++ [(k, Y, s)]) k') = if k' = k then some Y else (if t.1 = k' then some t.2.1 else lkE r k')
    rw [lkE_app h0 k']
    by_cases g : k' = k
    · rw [if_pos g, if_pos g, if_neg (by omega)]
    rw [if_neg g, if_neg g]
theorem lkE_mem {k : Nat} {X : Nat → Int} : ∀ {ks : List KE}, lkE ks k = some X → ∃ s, (k, X, s) ∈ ks
  | [], h => by simp [lkE] at h
  | (a, Y, s) :: r, h => by
    have h0 : (if a = k then some Y else lkE r k) = some X := h
    by_cases e : a = k
    · rw [if_pos e] at h0; injection h0 with h0; subst e h0; exact ⟨s, by simp⟩
    rw [if_neg e] at h0
    obtain ⟨s', h1⟩ := lkE_mem h0
    exact ⟨s', by simp [h1]⟩
theorem lkE_of {k : Nat} {X : Nat → Int} {s : Nat} : ∀ {ks : List KE}, (ks.map (·.1)).Nodup → (k, X, s) ∈ ks → lkE ks k = some X
  | [], _, h => by simp at h
  | (a, Y, s') :: r, hn, h => by
    rw [List.map_cons, List.nodup_cons] at hn
    show (if a = k then some Y else lkE r k) = some X
    rcases List.mem_cons.1 h with h | h
    · injection h with h1 h2; injection h2 with h2 h3; subst h1 h2; rw [if_pos rfl]
    rw [if_neg (fun e => hn.1 (List.mem_map.2 ⟨_, h, (show k = a from e.symm)⟩))]
    exact lkE_of hn.2 h
theorem lkE_none {k : Nat} {ks : List KE} (h : lkE ks k = none) (hn : (ks.map (·.1)).Nodup) : k ∉ ks.map (·.1) := fun hm => by
  obtain ⟨⟨a, X, s⟩, h1, h2⟩ := List.mem_map.1 hm
  simp only at h2
  subst h2
  rw [lkE_of hn h1] at h; cases h
theorem Reg.upd {ks : List KE} {clk : Nat} (h : Reg ks clk) (k : Nat) (Y : Nat → Int) : Reg (updK ks k Y) clk := by
  refine ⟨by rw [updK_keys]; exact h.kn, by rw [updK_born]; exact h.bn, fun t ht => ?_⟩
  have : t.2.2 ∈ (updK ks k Y).map (·.2.2) := List.mem_map_of_mem ht
  rw [updK_born] at this
  obtain ⟨u, hu, e⟩ := List.mem_map.1 this
  rw [← e]; exact h.lt u hu
theorem Reg.new {ks : List KE} {clk : Nat} (h : Reg ks clk) {k : Nat} (hk : k ∉ ks.map (·.1)) (Y : Nat → Int) : Reg (ks ++ [(k, Y, clk)]) (clk + 1) := by
  refine ⟨?_, ?_, fun t ht => ?_⟩
  · rw [List.map_append, List.nodup_append]
    refine ⟨h.kn, List.pairwise_singleton _ _, fun x hx y hy e => ?_⟩
    have : y = k := by simpa using hy
    subst this e; exact hk hx
  · rw [List.map_append, List.nodup_append]
    refine ⟨h.bn, List.pairwise_singleton _ _, fun x hx y hy e => ?_⟩
    have h1 : y = clk := by simpa using hy
    obtain ⟨t, ht, rfl⟩ := List.mem_map.1 hx
    have := h.lt t ht
    omega
  rcases List.mem_append.1 ht with h1 | h1
  · have := h.lt t h1; omega
  rw [List.mem_singleton.1 h1]; show clk < clk + 1; omega
theorem MapP.start {b : Nat} {H H' : List HP} (p : Pick (pt b (.map #[] 0)) H H') : ∀ h, sat H h → sat (MapP b (fun _ => none) :: H') h := fun h hs => by
  obtain ⟨h1, h2, s, a, r⟩ := p.sat hs
  exact ⟨h1, h2, s, ⟨[], 0, ⟨List.nodup_nil, List.nodup_nil, fun t h => by simp at h⟩, fun _ => rfl, a⟩, r⟩
theorem stays_i (w : World) (k : Int) : (Instr.keyThatStays (.int .i64 k) (.int .i64 k)).run Try.prog w = .ok (.int .i64 k) w := by
  have h : Instr.sameBits 10000 (.int .i64 k) (.int .i64 k) = true := by simp [Instr.sameBits]
  unfold Instr.keyThatStays
  rw [h]
  rfl
theorem u3 : Try.prog.underlying 3 = some (.int .i64) := Try.underlying3
theorem u78 : Try.prog.underlying 78 = some (.map 3 71) := Try.underlying78
theorem z71 : (zv Try.prog 71) = some (madeV fun _ => 0) := (ZT.of (t := tyTab) (T := 71) rfl).zero
theorem run_upd (w : World) {b clk k : Nat} {ks : List KE} (Y : Nat → Int) (hr : Reg ks clk) (hl : w.heap[b]? = some (.map (ents ks) clk)) :
    ∃ ks' clk', (∀ k', lkE ks' k' = updM (lkE ks) k Y k') ∧ Reg ks' clk' ∧ (lkE ks k ≠ none → ks' = updK ks k Y ∧ clk' = clk) ∧ (Instr.mapUpdate 78 (.map (some b)) (.int .i64 (k : Int)) (madeV Y)).run Try.prog w = .ok () { w with heap := w.heap.setIfInBounds b (.map (ents ks') clk') } := by
  have hlt : b < w.heap.size := (Array.getElem?_eq_some_iff.1 hl).1
  rcases find_e k ks 0 hr.kn with ⟨h1, h2, h3⟩ | ⟨j, X, s, h1, h2, h3, h4⟩
  · refine ⟨ks ++ [(k, Y, clk)], clk + 1, fun k' => lkE_app h1 k', hr.new h2 Y, fun h => absurd h1 h, ?_⟩
    have hf : Instr.findNow (.int .i64) (.int .i64 (k : Int)) (ents ks).toList 0 = some none := h3
    have e : (ents ks).push { key := .int .i64 (k : Int), val := madeV Y, born := clk } = ents (ks ++ [(k, Y, clk)]) := by
      apply Array.ext'
      simp [ents, enE]
    simp [Instr.mapUpdate, run_underlying u78, getMap_run hl, checkKey_int u3, MapKept.run_findKey u3 hf]
    rw [e]
    simp [setObj, Sem.run, hl, Result.andThen]
  refine ⟨updK ks k Y, clk, fun k' => lkE_upd h2 k', hr.upd k Y, fun _ => ⟨rfl, rfl⟩, ?_⟩
  have hf : Instr.findNow (.int .i64) (.int .i64 (k : Int)) (ents ks).toList 0 = some (some (0 + j, madeV X)) := h3
  have hj : (ents ks)[0 + j]? = some (enE (k, X, s)) := by
    rw [Nat.zero_add]
    simp [ents, h1]
  have e : (ents ks).modify (0 + j) (fun e => { e with key := .int .i64 (k : Int), val := madeV Y }) = ents (updK ks k Y) := by
    apply Array.ext'
    rw [Nat.zero_add, Array.toList_modify]
    exact h4 Y
  simp only [Nat.zero_add] at hf hj e
  simp [Instr.mapUpdate, run_underlying u78, getMap_run hl, checkKey_int u3, MapKept.run_findKey u3 hf, hj, enE, stays_i]
  rw [e]
  simp [setObj, Sem.run, hl, Result.andThen]
theorem run_get (w : World) {b clk k : Nat} {ks : List KE} (hr : Reg ks clk) (hl : w.heap[b]? = some (.map (ents ks) clk)) :
    (Instr.lookup 78 (.map (some b)) (.int .i64 (k : Int)) true).run Try.prog w = .ok (.tuple #[madeV ((lkE ks k).getD fun _ => 0), .bool (lkE ks k).isSome]) w := by
  have hz : (zeroValue 71).run Try.prog w = .ok (madeV fun _ => 0) w := run_zeroValue z71
  rcases find_e k ks 0 hr.kn with ⟨h1, h2, h3⟩ | ⟨j, X, s, h1, h2, h3, h4⟩
  · have hf : Instr.findNow (.int .i64) (.int .i64 (k : Int)) (ents ks).toList 0 = some none := h3
    simp [Instr.lookup, run_underlying u78, getMap_run hl, checkKey_int u3, MapKept.run_findKey u3 hf, hz, h1]
    rfl
  have hf : Instr.findNow (.int .i64) (.int .i64 (k : Int)) (ents ks).toList 0 = some (some (0 + j, madeV X)) := h3
  simp [Instr.lookup, run_underlying u78, getMap_run hl, checkKey_int u3, MapKept.run_findKey u3 hf, h2]
section
variable {C : Cx Try.prog} {E : Env} {H H' H2 : List HP}
variable {ops : Array Oper} {K : KP} {rest : List Oper} {d : Nat} {ty : TypeId} {pos : String} {af : Array Edge} {x y z : Operand} {T : TypeId}
theorem MapP.open {w0 w : World} {M : List Nat} {L H' : List HP} {b : Nat} {f : Nat → Option (Nat → Int)} (p : Pick (MapP b f) H H') (hi : TH.Inv w0 M (L ++ H) w) : ∃ (ks : List KE) (clk : Nat), Reg ks clk ∧ (∀ k, lkE ks k = f k) ∧ TH.Inv w0 M (pt b (.map (ents ks) clk) :: (L ++ H')) w := by
  have h1 := (hi.pickL p).perm List.perm_middle
  obtain ⟨ha, hb, s, ⟨ks, clk, e, e', q⟩, hr⟩ := h1.mine
  exact ⟨ks, clk, e, e', h1.os, h1.tape, h1.output, h1.size, h1.keep, ha, hb, s, q, hr⟩
theorem MapP.shut {w0 w : World} {M : List Nat} {L H' : List HP} {b clk : Nat} {ks : List KE} {f : Nat → Option (Nat → Int)} (e : Reg ks clk) (e' : ∀ k, lkE ks k = f k) (hi : TH.Inv w0 M (pt b (.map (ents ks) clk) :: (L ++ H')) w) : TH.Inv w0 M (L ++ MapP b f :: H') w := by
  have h2 : TH.Inv w0 M (MapP b f :: (L ++ H')) w := ⟨hi.os, hi.tape, hi.output, hi.size, hi.keep, sat_mono (fun h q => ⟨ks, clk, e, e', q⟩) hi.mine⟩
  exact h2.perm (List.perm_middle (l₁ := L) (l₂ := H')).symm
theorem MapP.openE {H H' : List HP} {b : Nat} {f : Nat → Option (Nat → Int)} (p : Pick (MapP b f) H H') : ∀ h, sat H h → ∃ y : List KE × Nat, (Reg y.1 y.2 ∧ ∀ k, lkE y.1 k = f k) ∧ sat (pt b (.map (ents y.1) y.2) :: H') h := fun h hs => by
  obtain ⟨h1, h2, s, ⟨ks, clk, e, e', q⟩, hr⟩ := sat_perm p.perm hs
  exact ⟨(ks, clk), ⟨e, e'⟩, h1, h2, s, q, hr⟩
theorem MapP.shutE {H H' : List HP} {b clk : Nat} {ks : List KE} {f : Nat → Option (Nat → Int)} (e : Reg ks clk) (e' : ∀ k, lkE ks k = f k) (p : Pick (pt b (.map (ents ks) clk)) H H') : ∀ h, sat H h → sat (MapP b f :: H') h := fun h hs => by
  obtain ⟨h1, h2, s, q, hr⟩ := p.sat hs
  exact ⟨h1, h2, s, ⟨ks, clk, e, e', q⟩, hr⟩
theorem WO.mapUpd {b : Nat} {f : Nat → Option (Nat → Int)} {k : Nat} {zi : Int} {Y : Nat → Int} (hm : ev E x = some (.map (some b))) (hk : ev E y = some (.int .i64 zi)) (hz : zi = (k : Int)) (hu : ev E z = some (madeV Y)) (p : Pick (MapP b f) H H')
    (h : WO C ops rest K E (MapP b (updM f k Y) :: H')) : WO C ops (⟨none, .mapUpdate 78 x y z, ty, pos, af, none⟩ :: rest) K E H := by
  subst hz
  refine WO.step0 rfl rfl (XO.run (by simp) fun L a w hfr hi => ?_)
  obtain ⟨ks, clk, hreg, hf, hi'⟩ := MapP.open p hi
  have hl := (hi'.look .head).1
  have hlt : b < w.heap.size := (Array.getElem?_eq_some_iff.1 hl).1
  obtain ⟨ks', clk', q1, q2, _, hr⟩ := run_upd (k := k) w Y hreg hl
  refine ⟨undef, { w with heap := w.heap.setIfInBounds b (.map (ents ks') clk') }, _, .inr ⟨?_, rfl⟩, h, ?_⟩
  · simp [execOp, hfr.eval hm, hfr.eval hk, hfr.eval hu, hr]
  have hs := hi'.set (o' := .map (ents ks') clk') .head (w' := { w with heap := w.heap.setIfInBounds b (.map (ents ks') clk') }) rfl rfl rfl (by simp) (by simp [hlt]) (fun k hk => by simp [Array.getElem?_setIfInBounds_ne (Ne.symm hk)])
  exact MapP.shut q2 (fun k' => by rw [q1 k']; unfold updM; rw [hf k']) hs
/-- an entry that there is, in a map whose entries are told -/
theorem WO.mapUpdE {b clk : Nat} {ks : List KE} {k : Nat} {zi : Int} {Y : Nat → Int} (hreg : Reg ks clk) (hh : lkE ks k ≠ none) (hm : ev E x = some (.map (some b))) (hk : ev E y = some (.int .i64 zi)) (hz : zi = (k : Int)) (hu : ev E z = some (madeV Y)) (p : Pick (pt b (.map (ents ks) clk)) H H')
    (h : WO C ops rest K E (pt b (.map (ents (updK ks k Y)) clk) :: H')) : WO C ops (⟨none, .mapUpdate 78 x y z, ty, pos, af, none⟩ :: rest) K E H := by
  subst hz
  refine WO.step0 rfl rfl (XO.run (by simp) fun L a w hfr hi => ?_)
  have hi' := (hi.pickL p).perm List.perm_middle
  have hl := (hi'.look .head).1
  have hlt : b < w.heap.size := (Array.getElem?_eq_some_iff.1 hl).1
  obtain ⟨ks', clk', _, _, q3, hr⟩ := run_upd (k := k) w Y hreg hl
  obtain ⟨rfl, rfl⟩ := q3 hh
  refine ⟨undef, { w with heap := w.heap.setIfInBounds b (.map (ents (updK ks k Y)) clk') }, _, .inr ⟨?_, rfl⟩, h, ?_⟩
  · simp [execOp, hfr.eval hm, hfr.eval hk, hfr.eval hu, hr]
  have hs := hi'.set (o' := .map (ents (updK ks k Y)) clk') .head (w' := { w with heap := w.heap.setIfInBounds b (.map (ents (updK ks k Y)) clk') }) rfl rfl rfl (by simp) (by simp [hlt]) (fun k hk => by simp [Array.getElem?_setIfInBounds_ne (Ne.symm hk)])
  exact hs.perm (List.perm_middle (l₁ := L) (l₂ := H')).symm
/-- a map that is only read -/
def RdM (n : Nat) (w : World) (m : Nat) (f : Nat → Option (Nat → Int)) : Prop := m < n ∧ ∃ (ks : List KE) (clk : Nat), Reg ks clk ∧ (∀ k, lkE ks k = f k) ∧ w.heap[m]? = some (.map (ents ks) clk)
theorem RdM.at_ {L : List HP} {w : World} {m : Nat} {f : Nat → Option (Nat → Int)} (h : RdM C.B C.w0 m f) (hi : TH.Inv C.w0 C.M (L ++ H) w) : ∃ (ks : List KE) (clk : Nat), Reg ks clk ∧ (∀ k, lkE ks k = f k) ∧ w.heap[m]? = some (.map (ents ks) clk) := by
  obtain ⟨h1, ks, clk, h2, h3, h4⟩ := h
  exact ⟨ks, clk, h2, h3, by rw [hi.keepB m h1]; exact h4⟩
theorem RdM.later {L : List HP} {w : World} {m : Nat} {f : Nat → Option (Nat → Int)} (h : RdM C.B C.w0 m f) (hi : TH.Inv C.w0 C.M (L ++ H) w) : RdM w.heap.size w m f :=
  ⟨Nat.lt_of_lt_of_le h.1 (Nat.le_trans C.hB hi.size), h.at_ hi⟩
theorem RdM.own {L : List HP} {w : World} {m : Nat} {f : Nat → Option (Nat → Int)} (p : Pick (MapP m f) H H') (hi : TH.Inv C.w0 C.M (L ++ H) w) : RdM w.heap.size w m f := by
  obtain ⟨ks, clk, h1, h2, hi'⟩ := MapP.open p hi
  have hl := (hi'.look .head).1
  exact ⟨(Array.getElem?_eq_some_iff.1 hl).1, ks, clk, h1, h2, hl⟩
theorem WO.mapGet2R {m k : Nat} {f : Nat → Option (Nat → Int)} {zi : Int} (hm : ev E x = some (.map (some m))) (hk : ev E y = some (.int .i64 zi)) (hz : zi = (k : Int)) (hR : RdM C.B C.w0 m f) (hN : Nat.blt d C.N = true)
    (h : WO C ops rest K ((d, .tuple #[madeV ((f k).getD fun _ => 0), .bool (bl ((f k).isSome = true))]) :: E) H) : WO C ops (⟨some d, .lookup 78 x y true, ty, pos, af, none⟩ :: rest) K E H := by
  subst hz
  refine WO.pure _ (by simp) (fun L a w hfr hi => ?_) hN h
  obtain ⟨ks, clk, h1, h2, hl⟩ := hR.at_ hi
  have hr := run_get (k := k) w h1 hl
  rw [h2 k] at hr
  simp [execOp, hfr.eval hm, hfr.eval hk, hr, bl_eq]
theorem WO.lenMR {m : Nat} {f : Nat → Option (Nat → Int)} (hx : ev E x = some (.map (some m))) (p : Pick (MapP m f) H H') (hN : Nat.blt d C.N = true)
    (h : ∀ ks : List KE, (ks.map (·.1)).Nodup → (∀ k, lkE ks k = f k) → WO C ops rest K ((d, .int .i64 (ks.length : Int)) :: E) H) : WO C ops (⟨some d, .call ⟨.builtin .len, #[x], #[78]⟩, ty, pos, af, none⟩ :: rest) K E H := by
  refine WO.step rfl rfl hN (XO.run (by simp) fun L a w hfr hi => ?_)
  obtain ⟨ks, clk, h1, h2, hi'⟩ := MapP.open p hi
  have hl := (hi'.look .head).1
  refine ⟨.int .i64 (ks.length : Int), w, H, .inl ?_, h ks h1.kn h2, hi⟩
  have hr : (Builtin.len_ #[78] ty #[.map (some m)]).run Try.prog w = .ok (.int .i64 (ks.length : Int)) w := by
    simp [Builtin.len_, run_underlying u78, getMap_run hl, goInt, ents]
  simp [execOp, resolve, hfr.eval hx, Deferred.ofValue, invoke, builtin, hr]
/-! ### loops over maps -/
def nv : Option KE → Value
  | none => .tuple #[.bool false]
  | some e => .tuple #[.bool true, .int .i64 (e.1 : Int), madeV e.2.1]
def sn (seen : Array Nat) : Option KE → Array Nat
  | none => seen
  | some e => seen.push e.2.2
/-- those that have not been handed out -/
def lft (ks : List KE) (seen : Array Nat) : List KE := ks.filter fun t => !seen.contains t.2.2
def Nx (ks : List KE) (seen : Array Nat) : Option KE → Prop
  | none => lft ks seen = []
  | some e => e ∈ lft ks seen
theorem lft_mem {ks : List KE} {seen : Array Nat} {e : KE} (h : e ∈ lft ks seen) : e ∈ ks ∧ seen.contains e.2.2 = false := by
  unfold lft at h
  rw [List.mem_filter] at h
  exact ⟨h.1, by simpa using h.2⟩
theorem left_ents (ks : List KE) (seen : Array Nat) : (leftOf (ents ks) seen).toList = (lft ks seen).map enE := by
  unfold leftOf lft ents
  rw [Array.toList_filter]
  induction ks with
  | nil => rfl
  | cons t r ih =>
    simp only [List.map_cons] at ih ⊢
    rw [List.filter_cons, List.filter_cons]
    show (if (!seen.contains t.2.2) = true then _ else _) = _
    split
    · rw [ih, List.map_cons]
    rw [ih]
def itO (m clk : Nat) (seen : Array Nat) : Obj := .mapIter (some m) clk seen clk
variable {r m clk : Nat} {ks : List KE} {seen : Array Nat}
theorem WO.rangeM (hx : ev E x = some (.map (some m))) (p : Pick (pt m (.map (ents ks) clk)) H H') (hN : Nat.blt d C.N = true)
    (h : ∀ r, WO C ops rest K ((d, .pointer (some ⟨r, 0, none⟩)) :: E) (pt r (itO m clk #[]) :: H)) : WO C ops (⟨some d, .range 78 x, ty, pos, af, none⟩ :: rest) K E H := by
  refine WO.step rfl rfl hN (XO.run (by simp) fun L a w hfr hi => ?_)
  have hl := (((hi.pickL p).perm List.perm_middle).look .head).1
  refine ⟨.pointer (some ⟨w.heap.size, 0, none⟩), w.alloc (itO m clk #[]), _, .inl ?_, h _, hi.alloc' _⟩
  have hr := run_range_map (P := Try.prog) w 78 3 71 m (ents ks) clk u78 hl
  simp only [execOp, hfr.eval hx]
  simp [hr, itO]
theorem reg_lt (hreg : Reg ks clk) : ∀ e ∈ (ents ks).toList, e.born < clk := fun e he => by
  have : e ∈ ks.map enE := he
  obtain ⟨t, ht, rfl⟩ := List.mem_map.1 this
  exact hreg.lt t ht
theorem WO.nextM (hx : ev E x = some (.pointer (some ⟨r, 0, none⟩))) (p : Pick (pt r (itO m clk seen)) H H') (q : Pick (pt m (.map (ents ks) clk)) H H2) (hreg : Reg ks clk) (hN : Nat.blt d C.N = true)
    (h : ∀ o, Nx ks seen o → WO C ops rest K ((d, nv o) :: E) (pt r (itO m clk (sn seen o)) :: H')) : WO C ops (⟨some d, .next x false, ty, pos, af, none⟩ :: rest) K E H := by
  refine WO.step rfl rfl hN (XO.run (by simp) fun L a w hfr hi => ?_)
  have hl := (((hi.pickL q).perm List.perm_middle).look .head).1
  have hi1 := (hi.pickL p).perm List.perm_middle
  have hr0 := (hi1.look .head).1
  have hr : w.heap[r]? = some (.mapIter (some m) clk seen clk) := hr0
  rcases run_next_at (P := Try.prog) w ty r m clk clk seen (ents ks) clk hr hl (reg_lt hreg) (Nat.le_refl _) with ⟨h0, he⟩ | ⟨e, hm, w1, hw, he⟩
  · refine ⟨nv none, w, _, .inl ?_, h none ?_, hi1.perm List.perm_middle.symm⟩
    · simp only [execOp, hfr.eval hx]
      simp [he, nv]
    have h1 : (leftOf (ents ks) seen).toList.length = 0 := h0
    rw [left_ents, List.length_map] at h1
    exact List.eq_nil_of_length_eq_zero h1
  rw [left_ents] at hm
  obtain ⟨t, ht, rfl⟩ := List.mem_map.1 hm
  refine ⟨nv (some t), ChangeMaps.setBlock w1 r (itO m clk (seen.push t.2.2)), _, .inl ?_, h (some t) ht, ?_⟩
  · simp only [execOp, hfr.eval hx]
    simp [he, nv, itO, enE]
  have hlt : r < w.heap.size := (Array.getElem?_eq_some_iff.1 hr).1
  have hi2 : TH.Inv C.w0 C.M (pt r (itO m clk seen) :: (L ++ H')) w1 := by
    rcases hw with rfl | rfl
    · exact hi1
    exact hi1.drawn
  have hlt1 : r < w1.heap.size := by rcases hw with rfl | rfl <;> exact hlt
  have hs := hi2.set (o' := itO m clk (seen.push t.2.2)) .head (w' := ChangeMaps.setBlock w1 r (itO m clk (seen.push t.2.2))) rfl rfl rfl (by simp [ChangeMaps.setBlock]) (by simp [ChangeMaps.setBlock, hlt1]) (fun k hk => by simp [ChangeMaps.setBlock, Array.getElem?_setIfInBounds_ne (Ne.symm hk)])
  exact hs.perm List.perm_middle.symm
theorem WO.extractN {o : Option KE} (hx : ev E x = some (nv o)) (hN : Nat.blt d C.N = true) (h : WO C ops rest K ((d, .bool (bl (o.isSome = true))) :: E) H) : WO C ops (⟨some d, .extract x 0, ty, pos, af, none⟩ :: rest) K E H := by
  cases o with
  | none => exact WO.extract (vs := [.bool false]) hx (by simp [bl_eq]) hN h
  | some e => exact WO.extract (vs := [.bool true, .int .i64 (e.1 : Int), madeV e.2.1]) hx (by simp [bl_eq]) hN h
theorem WO.entryM {e : KE} (hx : ev E x = some (.pointer (some ⟨r, 0, none⟩))) (p : Pick (pt r (itO m clk (seen.push e.2.2))) H H') (q : Pick (pt m (.map (ents ks) clk)) H H2) (hreg : Reg ks clk) (he : e ∈ ks) (hN : Nat.blt d C.N = true)
    (h : WO C ops rest K ((d, .tuple #[.int .i64 (e.1 : Int), madeV e.2.1]) :: E) H) : WO C ops (⟨some d, .entry x, ty, pos, af, none⟩ :: rest) K E H := by
  refine WO.pure _ (by simp) (fun L a w hfr hi => ?_) hN h
  have hl := (((hi.pickL q).perm List.perm_middle).look .head).1
  have hr0 := (((hi.pickL p).perm List.perm_middle).look .head).1
  have hr : w.heap[r]? = some (.mapIter (some m) clk (seen.push e.2.2) clk) := hr0
  have hb : ((ents ks).toList.map (·.born)).Nodup := by
    have : (ents ks).toList.map (·.born) = ks.map (·.2.2) := by
      show (ks.map enE).map (·.born) = _
      rw [List.map_map]; rfl
    rw [this]; exact hreg.bn
  have hrun := run_entry_at (P := Try.prog) w r m clk seen (ents ks) clk (enE e) hr hl (List.mem_map_of_mem (f := enE) he) hb
  simp only [execOp, hfr.eval hx]
  simp [hrun, enE]
end
end Go.Proofs.Ytelmclmklkiphaa
namespace Go.Proofs.Ytelmclmklkiphaa
open Go Go.TH
attribute [local irreducible] W WO pt
set_option maxRecDepth 10000
set_option maxHeartbeats 1000000
/-- X, with 0 at the place p where l is not 0 -/
def elimF (n : Nat) (l : Nat → Int) (p : Nat) (X : Nat → Int) : Nat → Int := if X p = 0 then X else primF (linX (l p) X (-(X p)) l) n
def stpF (n : Nat) (f : Nat → Option (Nat → Int)) (X : Nat → Int) (p : Nat) : Nat → Int := match f p with
  | some l => elimF n l p X
  | none => X
/-- the rows at the first places are taken away -/
def lessN (n : Nat) (f : Nat → Option (Nat → Int)) (X : Nat → Int) : Nat → Nat → Int
  | 0 => X
  | k + 1 => stpF n f (lessN n f X k) k
theorem stpF_some {n : Nat} {f : Nat → Option (Nat → Int)} {X l : Nat → Int} {p : Nat} (h : f p = some l) : stpF n f X p = elimF n l p X := by unfold stpF; rw [h]
theorem stpF_none {n : Nat} {f : Nat → Option (Nat → Int)} {X : Nat → Int} {p : Nat} (h : ¬ (f p).isSome = true) : stpF n f X p = X := by
  unfold stpF
  cases e : f p with
  | none => rfl
  | some l => rw [e] at h; exact absurd rfl h
theorem stpF_0 {n : Nat} {f : Nat → Option (Nat → Int)} {X : Nat → Int} {p : Nat} (h : X p = 0) : stpF n f X p = X := by
  unfold stpF elimF
  cases f p with
  | none => rfl
  | some l => exact if_pos h
theorem elimF_0 {n : Nat} {l X : Nat → Int} {p : Nat} (h : X p = 0) : elimF n l p X = X := if_pos h
theorem elimF_1 {n : Nat} {l X : Nat → Int} {p : Nat} (h : X p ≠ 0) : elimF n l p X = primF (linX (l p) X (-(X p)) l) n := if_neg h
def BdF (f : Nat → Option (Nat → Int)) : Prop := ∀ p l, f p = some l → BdV l
theorem lin_W {a b : Int} {X Y : Nat → Int} (ha : -268435456 ≤ a ∧ a ≤ 268435456) (hb : -268435456 ≤ b ∧ b ≤ 268435456) (hX : BdV X) (hY : BdV Y) : BdW (linX a X b Y) := fun k hk => by
  have h1 := mul_bd ha (hX k hk)
  have h2 := mul_bd hb (hY k hk)
  unfold linX
  omega
theorem neg_W {a : Int} (ha : -268435456 ≤ a ∧ a ≤ 268435456) : -268435456 ≤ -a ∧ -a ≤ 268435456 := by omega
def tblC (n m : Nat) : List Value := [.int .i64 (n : Int), .map (some m)]
theorem c_less (w : World) (p : Addr) (n m : Nat) (f : Nat → Option (Nat → Int)) (X : Nat → Int) (hT : RdC w.heap.size w p (tblC n m)) (hM : RdM w.heap.size w m f) (hn : n ≤ 5) (hF : BdF f) (hB : ∀ k, k ≤ n → BdV (lessN 15 f X k)) : Ret Try.prog 38 [.pointer (some p), madeV X].toArray w (madeV (lessN 15 f X n)) := by
  refine Ret.of mixed tyTab Try.func38 rfl rfl ?_
  replace hT : RdC (fnCx mixed tyTab Try.f38.ntmps w).B (fnCx mixed tyTab Try.f38.ntmps w).w0 p (tblC n m) := hT
  replace hM : RdM (fnCx mixed tyTab Try.f38.ntmps w).B (fnCx mixed tyTab Try.f38.ntmps w).w0 m f := hM
  refine W.sreg ?_
  refine WO.boxA rfl rfl (fun b1 hb1 => ?_)
  refine WO.alloc rfl rfl rfl (fun b2 hb2 => ?_)
  refine WO.nil ?_
  refine W.seq ?_
  refine W.sreg ?_
  refine WO.p rfl rfl (WO.p rfl rfl (WO.field0 rfl rfl rfl ?_))
  refine' WO.load (v := _) rfl rfl ?hc rfl ?_
  case hc => (first | (refine hT.cell0 ?_ <;> rfl) | (refine hT.cellAt ?_ <;> rfl))
  refine WO.p rfl rfl ?_
  refine WO.nil ?_
  refine W.block ?_
  refine W.loop (fun (k : Nat) => k ≤ n)
    (fun (k : Nat) => [(0, .pointer (some p)), (3, .pointer (some ⟨b1, 0, none⟩)), (4, .pointer (some ⟨b2, 0, none⟩)), (11, .int .i64 (n : Int)), (12, .int .i64 (k : Int))])
    (fun (k : Nat) => [pt b1 (.cells (m15 (lessN 15 f X k)).toArray 71 (0, 0)), pt b2 (.cells (m15 fun _ => 0).toArray 71 (0, 0))])
    (fun (k : Nat) => n - k) 0
    (by omega) ⟨rfl, rfl, rfl, rfl, rfl, trivial⟩ (by repeat (first | exact Sub.nil | refine Sub.cons (by repeat (first | exact Pick.head | apply Pick.tail)) ?_)) ?_
  rintro k hk
  refine W.sreg ?_
  refine WO.p rfl rfl ?_
  refine WO.nil ?_
  refine W.seq ?_
  refine W.cond_bl rfl (fun c1 => ?_) (fun c1 => ?_)
  · first
    | (exfalso; omega)
    | (refine W.skip ?_
       refine W.seq ?_
       refine W.block ?_
       refine W.sreg ?_
       refine WO.p rfl rfl (WO.p rfl rfl ?_)
       refine WO.nil ?_
       refine W.sreg ?_
       refine WO.p rfl rfl (WO.p rfl rfl (WO.field rfl rfl rfl ?_))
       refine' WO.load (v := _) rfl rfl ?hc rfl ?_
       case hc => (first | (refine hT.cell0 ?_ <;> rfl) | (refine hT.cellAt ?_ <;> rfl))
       refine WO.p rfl rfl ?_
       refine WO.mapGet2R (k := k) rfl rfl rfl hM rfl ?_
       refine WO.p rfl rfl (WO.p rfl rfl (WO.p rfl rfl ?_))
       refine WO.alloc rfl rfl rfl (fun b3 hb3 => ?_)
       refine WO.storeA rfl rfl rfl rfl Pick.head rfl rfl (WO.p rfl rfl ?_)
       refine WO.nil ?_
       have hBk := hB k (by omega)
       have hlk : ∀ l, f k = some l → BdV l := fun l h => hF k l h
       refine W.sreg ?_
       refine WO.p rfl rfl (WO.p rfl rfl ?_)
       refine WO.guard_bl rfl rfl (fun c2 => ?_) (fun c2 => ?_)
       · first
         | (exfalso; omega)
         | (refine WO.pg rfl rfl rfl (WO.go' rfl (WO.field0 rfl rfl rfl (WO.go' rfl (WO.field0 rfl rfl rfl (WO.go' rfl ?_)))))
            refine WO.indexArrE (i := k) (o' := k) rfl rfl rfl rfl (by omega) (by omega) rfl ?_
            refine WO.go' rfl ?_
            refine' WO.load (v := _) rfl rfl ?hc rfl ?_
            case hc => (first | (refine Cell.own (by repeat (first | exact Pick.head | apply Pick.tail)) ?_; exact m15_get (k := k) (by omega)))
            refine WO.pg rfl rfl rfl (WO.p rfl rfl ?_)
            refine WO.nil ?_
            refine W.cond_bl rfl (fun c3 => ?_) (fun c3 => ?_)
            · first
              | (exfalso; omega)
              | (obtain ⟨l, hl⟩ := Option.isSome_iff_exists.1 (show (f k).isSome = true by assumption)
                 have hBl := hlk l hl
                 rw [hl, Option.getD_some]
                 have hst : lessN 15 f X (k + 1) = primF (linX (l k) (lessN 15 f X k) (-(lessN 15 f X k k)) l) 15 := by show stpF 15 f (lessN 15 f X k) k = _; rw [stpF_some hl, elimF_1 (by assumption)]
                 refine W.drawD 13 [.b 0 [], .b 1 [], .r 2 [], .r 3 [], .r 4 [], .r 5 [], .b 6 [], .r 7 [], .r 8 [], .r 9 [], .r 10 [], .b 11 [], .r 12 []] [] (A0 := []) (Sub.refl _) (by kernel_rfl) ?_ ?_
                 · exact (ALok.b (ALok.b (ALok.r (ALok.r (ALok.r (ALok.r (ALok.b (ALok.r (ALok.r (ALok.r (ALok.r (ALok.b (ALok.r ALok.nil)))))))))))))
                 refine' DT.b rfl rfl rfl ?hq ?_
                 case hq =>
                   refine WO.loadA rfl rfl (Cells.own (Pick.tail (Pick.head))) rfl rfl ?_
                   exact WO.nil ⟨rfl, rfl⟩
                 refine' DT.b rfl rfl rfl ?hq ?_
                 case hq =>
                   refine WO.loadA rfl rfl (Cells.own Pick.head) rfl rfl ?_
                   exact WO.nil ⟨rfl, rfl⟩
                 refine' DT.r rfl rfl rfl ?hq ?_
                 case hq =>
                   refine WO.p rfl rfl ?_
                   exact WO.nil ⟨rfl, rfl⟩
                 refine' DT.r rfl rfl rfl ?hq ?_
                 case hq =>
                   refine WO.field0 rfl rfl rfl ?_
                   exact WO.nil ⟨rfl, rfl⟩
                 refine' DT.r rfl rfl rfl ?hq ?_
                 case hq =>
                   refine WO.field0 rfl rfl rfl ?_
                   exact WO.nil ⟨rfl, rfl⟩
                 refine' DT.r rfl rfl rfl ?hq ?_
                 case hq =>
                   refine WO.indexArrE (i := k) (o' := k) rfl rfl rfl rfl (by omega) (by omega) rfl ?_
                   exact WO.nil ⟨rfl, rfl⟩
                 refine' DT.b rfl rfl rfl ?hq ?_
                 case hq =>
                   refine' WO.load (v := _) rfl rfl ?hc rfl ?_
                   case hc => (first | (refine Cell.own (cs := m15 l) (by repeat (first | exact Pick.head | apply Pick.tail)) ?_; exact m15_get (k := k) (by omega)))
                   exact WO.nil ⟨rfl, rfl⟩
                 refine' DT.r rfl rfl rfl ?hq ?_
                 case hq =>
                   refine WO.p rfl rfl ?_
                   exact WO.nil ⟨rfl, rfl⟩
                 refine' DT.r rfl rfl rfl ?hq ?_
                 case hq =>
                   refine WO.field0 rfl rfl rfl ?_
                   exact WO.nil ⟨rfl, rfl⟩
                 refine' DT.r rfl rfl rfl ?hq ?_
                 case hq =>
                   refine WO.field0 rfl rfl rfl ?_
                   exact WO.nil ⟨rfl, rfl⟩
                 refine' DT.r rfl rfl rfl ?hq ?_
                 case hq =>
                   refine WO.indexArrE (i := k) (o' := k) rfl rfl rfl rfl (by omega) (by omega) rfl ?_
                   exact WO.nil ⟨rfl, rfl⟩
                 refine' DT.b rfl rfl rfl ?hq ?_
                 case hq =>
                   refine' WO.load (v := _) rfl rfl ?hc rfl ?_
                   case hc => (first | (refine Cell.own (b := b1) (by repeat (first | exact Pick.head | apply Pick.tail)) ?_; exact m15_get (k := k) (by omega)))
                   exact WO.nil ⟨rfl, rfl⟩
                 refine' DT.r rfl rfl rfl ?hq ?_
                 case hq =>
                   refine WO.neg rfl (by (first | (have := hBk k (by omega); unfold in64; omega))) rfl ?_
                   exact WO.nil ⟨rfl, rfl⟩
                 refine DT.nil [_, _, _] rfl ?_
                 refine WO.callR rfl Try.call40 (fun L w' hi => c_plus w' (lessN 15 f X k) l _ _ hBk hBl (hBl k (by omega)) (neg_W (hBk k (by omega)))) rfl ?_
                 refine WO.callR rfl Try.call51 (fun L w' hi => c_small w' _ (lin_W (hBl k (by omega)) (neg_W (hBk k (by omega))) hBk hBl)) rfl ?_
                 rw [← hst]
                 refine WO.storeA rfl rfl rfl rfl (Pick.tail (Pick.head)) rfl rfl ?_
                 refine WO.nil ?_
                 first | (refine W.chg (ptEq (b := b1) (by repeat (first | exact Pick.head | apply Pick.tail)) (congrArg m15 (Eq.symm (stpF_none (n := 15) (show ¬ (f k).isSome = true by assumption))))) ?_) | (refine W.chg (ptEq (b := b1) (by repeat (first | exact Pick.head | apply Pick.tail)) (congrArg m15 (Eq.symm (stpF_0 (n := 15) (f := f) (Decidable.not_not.1 (show ¬ (lessN 15 f X k k ≠ 0) by assumption)))))) ?_) | skip
                 refine W.region ?_
                 refine WO.ar rfl rfl rfl (by (first | (unfold in64; omega) | (unfold in64; omega))) rfl (WO.p rfl rfl ?_)
                 refine WO.nil ?_
                 refine' ⟨k + 1, ?hp, ?hmu, ⟨rfl, rfl, rfl, rfl, rfl, trivial⟩, ?hS⟩
                 case hS => repeat (first | exact Sub.nil | refine Sub.cons (by repeat (first | exact Pick.head | apply Pick.tail)) ?_)
                 case hp => omega
                 case hmu => omega)
            first
            | (exfalso; omega)
            | (refine W.skip ?_
               first | (refine W.chg (ptEq (b := b1) (by repeat (first | exact Pick.head | apply Pick.tail)) (congrArg m15 (Eq.symm (stpF_none (n := 15) (show ¬ (f k).isSome = true by assumption))))) ?_) | (refine W.chg (ptEq (b := b1) (by repeat (first | exact Pick.head | apply Pick.tail)) (congrArg m15 (Eq.symm (stpF_0 (n := 15) (f := f) (Decidable.not_not.1 (show ¬ (lessN 15 f X k k ≠ 0) by assumption)))))) ?_) | skip
               refine W.region ?_
               refine WO.ar rfl rfl rfl (by (first | (unfold in64; omega) | (unfold in64; omega))) rfl (WO.p rfl rfl ?_)
               refine WO.nil ?_
               refine' ⟨k + 1, ?hp, ?hmu, ⟨rfl, rfl, rfl, rfl, rfl, trivial⟩, ?hS⟩
               case hS => repeat (first | exact Sub.nil | refine Sub.cons (by repeat (first | exact Pick.head | apply Pick.tail)) ?_)
               case hp => omega
               case hmu => omega))
       first
       | (exfalso; omega)
       | (refine WO.no rfl rfl (WO.no rfl rfl (WO.no rfl rfl (WO.no rfl rfl (WO.no rfl rfl (WO.no rfl rfl (WO.p rfl rfl ?_))))))
          refine WO.nil ?_
          refine W.cond_f rfl ?_
          refine W.skip ?_
          first | (refine W.chg (ptEq (b := b1) (by repeat (first | exact Pick.head | apply Pick.tail)) (congrArg m15 (Eq.symm (stpF_none (n := 15) (show ¬ (f k).isSome = true by assumption))))) ?_) | (refine W.chg (ptEq (b := b1) (by repeat (first | exact Pick.head | apply Pick.tail)) (congrArg m15 (Eq.symm (stpF_0 (n := 15) (f := f) (Decidable.not_not.1 (show ¬ (lessN 15 f X k k ≠ 0) by assumption)))))) ?_) | skip
          refine W.region ?_
          refine WO.ar rfl rfl rfl (by (first | (unfold in64; omega) | (unfold in64; omega))) rfl (WO.p rfl rfl ?_)
          refine WO.nil ?_
          refine' ⟨k + 1, ?hp, ?hmu, ⟨rfl, rfl, rfl, rfl, rfl, trivial⟩, ?hS⟩
          case hS => repeat (first | exact Sub.nil | refine Sub.cons (by repeat (first | exact Pick.head | apply Pick.tail)) ?_)
          case hp => omega
          case hmu => omega))
  first
  | (exfalso; omega)
  | (refine W.exit (blk_same ?_)
     refine W.sreg ?_
     refine WO.loadA rfl rfl (Cells.own Pick.head) rfl rfl (WO.storeA rfl rfl rfl rfl (Pick.tail (Pick.head)) rfl rfl ?_)
     refine WO.nil ?_
     refine W.ret ?_
     obtain rfl : k = n := by omega
     exact fin.ret (Res.one rfl (RV.cell rfl rfl rfl (Cells.own (by repeat (first | exact Pick.head | apply Pick.tail))))) rfl)
end Go.Proofs.Ytelmclmklkiphaa
namespace Go.Proofs.Ytelmclmklkiphaa
open Go Go.TH
attribute [local irreducible] W WO pt
set_option maxRecDepth 10000
set_option maxHeartbeats 1000000
theorem WO.callCH {C : Cx Try.prog} {E : Env} {H : List HP} {ops : Array Oper} {K : KP} {rest : List Oper} {d : Nat} {ty : TypeId} {pos : String} {af : Array Edge} {x : Operand} {xs : List Operand} {ats : Array TypeId} {f : FuncId} {first captured vs : List Value} {Hp Hr : List HP} {Post : Value → List HP → Prop}
    (hx : ev E x = some (.func (.func f) first.toArray captured.toArray)) (hxs : evs E xs = some vs) (hcall : ∀ (args : Array Value) (w : World), (callFunc f args).run Try.prog w = .ok (.enter f args) w) (hH : Sub H (Hp ++ Hr))
    (hspec : ∀ (L : List HP) w, TH.Inv C.w0 C.M (L ++ H) w → C.B ≤ w.heap.size → CtH Try.prog f (first ++ vs ++ captured) w Hp C.B Post) (hN : Nat.blt d C.N = true)
    (h : ∀ v Hq, Post v Hq → WO C ops rest K ((d, v) :: E) (Hq ++ Hr)) : WO C ops (⟨some d, .call ⟨.value x, xs.toArray, ats⟩, ty, pos, af, none⟩ :: rest) K E H := by
  refine WO.step rfl rfl hN (XO.callF (Hp := Hp) (Hr := Hr) (Post := Post) (first := first.toArray) (captured := captured.toArray) hx hxs hcall hH (fun L w M' hi hM hp => ?_) h)
  have hc := hspec L w hi (Nat.le_trans C.hB hi.size) M' (fun b hb => by
    rcases hM b hb with h | h
    · exact Nat.le_trans C.hB h
    exact C.hM b h) hp
  have e : first.toArray ++ vs.toArray ++ captured.toArray = (first ++ vs ++ captured).toArray := by simp
  rw [e]; exact hc
/-- those that have been handed out are changed -/
def apS (ks : List KE) (seen : Array Nat) (G : (Nat → Int) → Nat → Int) : List KE := ks.map fun t => if seen.contains t.2.2 then (t.1, G t.2.1, t.2.2) else t
section
variable {ks : List KE} {seen : Array Nat} {G : (Nat → Int) → Nat → Int}
theorem apS_0 : apS ks #[] G = ks := by
  unfold apS
  conv => rhs; rw [← List.map_id ks]
  exact List.map_congr_left fun t _ => by simp
theorem apS_keys : (apS ks seen G).map (·.1) = ks.map (·.1) := by
  unfold apS
  rw [List.map_map]
  refine List.map_congr_left fun t _ => ?_
  show (if seen.contains t.2.2 then (t.1, G t.2.1, t.2.2) else t).1 = t.1
  split <;> rfl
theorem apS_born : (apS ks seen G).map (·.2.2) = ks.map (·.2.2) := by
  unfold apS
  rw [List.map_map]
  refine List.map_congr_left fun t _ => ?_
  show (if seen.contains t.2.2 then (t.1, G t.2.1, t.2.2) else t).2.2 = t.2.2
  split <;> rfl
theorem apS_reg {clk : Nat} (h : Reg ks clk) : Reg (apS ks seen G) clk := by
  refine ⟨by rw [apS_keys]; exact h.kn, by rw [apS_born]; exact h.bn, fun t ht => ?_⟩
  have : t.2.2 ∈ (apS ks seen G).map (·.2.2) := List.mem_map_of_mem ht
  rw [apS_born] at this
  obtain ⟨u, hu, e⟩ := List.mem_map.1 this
  rw [← e]; exact h.lt u hu
theorem apS_lft : lft (apS ks seen G) seen = lft ks seen := by
  unfold lft apS
  induction ks with
  | nil => rfl
  | cons t r ih =>
    rw [List.map_cons, List.filter_cons, List.filter_cons, ih]
    cases hc : seen.contains t.2.2 with
    | true => rw [if_pos rfl]; show (if (!seen.contains t.2.2) = true then _ else _) = _; rw [hc]; rfl
    | false => rw [if_neg Bool.false_ne_true, hc]
theorem has_push (s : Nat) (u : Nat) : (seen.push s).contains u = (seen.contains u || u == s) := contains_push seen s u
theorem same_born {clk : Nat} (h : Reg ks clk) {t e : KE} (ht : t ∈ ks) (he : e ∈ ks) (hs : t.2.2 = e.2.2) : t = e := by
  have hn := h.bn
  clear h
  induction ks with
  | nil => simp at ht
  | cons u r ih =>
    rw [List.map_cons, List.nodup_cons] at hn
    rcases List.mem_cons.1 ht with h1 | h1 <;> rcases List.mem_cons.1 he with h2 | h2
    · rw [h1, h2]
    · exact absurd (List.mem_map.2 ⟨e, h2, by rw [← hs, h1]⟩) hn.1
    · exact absurd (List.mem_map.2 ⟨t, h1, by rw [hs, h2]⟩) hn.1
    exact ih h1 h2 hn.2
theorem same_key {clk : Nat} (h : Reg ks clk) {t e : KE} (ht : t ∈ ks) (he : e ∈ ks) (hs : t.1 = e.1) : t = e := by
  have hn := h.kn
  clear h
  induction ks with
  | nil => simp at ht
  | cons u r ih =>
    rw [List.map_cons, List.nodup_cons] at hn
    rcases List.mem_cons.1 ht with h1 | h1 <;> rcases List.mem_cons.1 he with h2 | h2
    · rw [h1, h2]
    · exact absurd (List.mem_map.2 ⟨e, h2, by rw [← hs, h1]⟩) hn.1
    · exact absurd (List.mem_map.2 ⟨t, h1, by rw [hs, h2]⟩) hn.1
    exact ih h1 h2 hn.2
theorem apS_step {clk : Nat} (h : Reg ks clk) {e : KE} (he : e ∈ lft ks seen) : updK (apS ks seen G) e.1 (G e.2.1) = apS ks (seen.push e.2.2) G := by
  obtain ⟨h1, h2⟩ := lft_mem he
  unfold updK apS
  rw [List.map_map]
  refine List.map_congr_left fun t ht => ?_
  show (if (if seen.contains t.2.2 then (t.1, G t.2.1, t.2.2) else t).1 = e.1 then ((if seen.contains t.2.2 then (t.1, G t.2.1, t.2.2) else t).1, G e.2.1, (if seen.contains t.2.2 then (t.1, G t.2.1, t.2.2) else t).2.2) else (if seen.contains t.2.2 then (t.1, G t.2.1, t.2.2) else t)) = if (seen.push e.2.2).contains t.2.2 then (t.1, G t.2.1, t.2.2) else t
  rw [has_push]
  by_cases g : t.1 = e.1
  · obtain rfl := same_key h ht h1 g
    simp only [h2, Bool.false_eq_true, if_false, if_true, Bool.false_or, beq_self_eq_true]
  have : (t.2.2 == e.2.2) = false := by
    rw [beq_eq_false_iff_ne]
    exact fun q => g (by rw [same_born h ht h1 q])
  rw [this, Bool.or_false]
  cases hc : seen.contains t.2.2 with
  | true => simp only [if_true, if_neg g]
  | false => simp only [Bool.false_eq_true, if_false, if_neg g]
theorem apS_stay {clk : Nat} (h : Reg ks clk) {e : KE} (he : e ∈ lft ks seen) (hg : G e.2.1 = e.2.1) : apS ks seen G = apS ks (seen.push e.2.2) G := by
  obtain ⟨h1, h2⟩ := lft_mem he
  unfold apS
  refine List.map_congr_left fun t ht => ?_
  rw [has_push]
  by_cases g : t.2.2 = e.2.2
  · obtain rfl := same_born h ht h1 g
    simp only [h2, Bool.false_or, beq_self_eq_true, if_true, hg, Bool.false_eq_true, if_false]
  have : (t.2.2 == e.2.2) = false := by rw [beq_eq_false_iff_ne]; exact g
  rw [this, Bool.or_false]
theorem apS_at {clk : Nat} (h : Reg ks clk) {e : KE} (he : e ∈ lft ks seen) : e ∈ apS ks seen G := by
  obtain ⟨h1, h2⟩ := lft_mem he
  exact List.mem_map.2 ⟨e, h1, by simp only [h2, Bool.false_eq_true, if_false]⟩
theorem apS_has {clk : Nat} (h : Reg ks clk) {e : KE} (he : e ∈ lft ks seen) : lkE (apS ks seen G) e.1 ≠ none := by
  rw [lkE_of (X := e.2.1) (s := e.2.2) (apS_reg h).kn (apS_at h he)]
  exact fun q => by cases q
theorem lft_less {clk : Nat} (h : Reg ks clk) {e : KE} (he : e ∈ lft ks seen) : (lft ks (seen.push e.2.2)).length < (lft ks seen).length := by
  obtain ⟨h1, h2⟩ := lft_mem he
  have e1 : lft ks (seen.push e.2.2) = (lft ks seen).filter fun t => !(t.2.2 == e.2.2) := by
    unfold lft
    rw [List.filter_filter]
    refine List.filter_congr fun t _ => ?_
    rw [has_push]
    cases seen.contains t.2.2 <;> cases (t.2.2 == e.2.2) <;> rfl
  rw [e1]
  refine List.length_filter_lt_length_iff_exists.2 ⟨e, he, by simp⟩
theorem apS_end (h0 : lft ks seen = []) (k : Nat) : lkE (apS ks seen G) k = (lkE ks k).map G := by
  have hall : ∀ t ∈ ks, seen.contains t.2.2 = true := fun t ht => by
    cases hc : seen.contains t.2.2 with
    | true => rfl
    | false =>
      have : t ∈ lft ks seen := by unfold lft; rw [List.mem_filter]; exact ⟨ht, by rw [hc]; rfl⟩
      rw [h0] at this; simp at this
  clear h0
  induction ks with
  | nil => rfl
  | cons t r ih =>
    have e : apS (t :: r) seen G = (t.1, G t.2.1, t.2.2) :: apS r seen G := by
      unfold apS
      rw [List.map_cons, if_pos (hall t (by simp))]
    rw [e]
    show (if t.1 = k then some (G t.2.1) else lkE (apS r seen G) k) = (if t.1 = k then some t.2.1 else lkE r k).map G
    split
    · rfl
    exact ih fun u hu => hall u (by simp [hu])
end
theorem lft_none {ks : List KE} {seen : Array Nat} {o : Option KE} (h : Nx ks seen o) (h2 : ¬ o.isSome = true) : lft ks seen = [] := by
  cases o with
  | none => exact h
  | some e => exact absurd rfl h2
theorem lk_bd {ks : List KE} {clk : Nat} {f : Nat → Option (Nat → Int)} (hr : Reg ks clk) (hf : ∀ k, lkE ks k = f k) (hF : BdF f) {e : KE} (he : e ∈ ks) : BdV e.2.1 := by
  have := lkE_of (k := e.1) (X := e.2.1) (s := e.2.2) hr.kn he
  rw [hf] at this
  exact hF _ _ this
/-- the pieces of a table -/
abbrev TbP (bv bt n m : Nat) (f : Nat → Option (Nat → Int)) : List HP := [pt bv (.cells #[.pointer (some ⟨bt, 0, none⟩)] 64 (0, 0)), pt bt (.cells #[.int .i64 (n : Int), .map (some m)] 80 (0, 0)), MapP m f]
def withF (x : Nat → Int) (a : Nat) (f : Nat → Option (Nat → Int)) (p : Nat) : Option (Nat → Int) := (f p).map (elimF 15 x a)
theorem c_without (B : Nat) (w : World) (bv bt n m a : Nat) (x : Nat → Int) (f : Nat → Option (Nat → Int)) (hB : B ≤ w.heap.size) (ha : a < 5) (hx : BdV x) (hF : BdF f) :
    CtH Try.prog 50 [madeV x, .int .i64 (a : Int), .pointer (some ⟨bv, 0, none⟩)] w (TbP bv bt n m f) B (fun r Hq => r = .tuple #[] ∧ Hq = TbP bv bt n m (withF x a f)) := by
  refine CtH.mono (CtH.ofI (X := Unit) (p := fun _ r => r = .tuple #[]) (Hx := fun _ => TbP bv bt n m (withF x a f)) mixed tyTab hB Try.func50 rfl rfl (fun M hM => ?_)) (fun h hs => hs) (fun r Hq ⟨_, h1, h2⟩ => ⟨Hq, ⟨h1, h2⟩, fun h hs => hs⟩)
  refine W.sreg ?_
  refine WO.boxA rfl rfl (fun b1 hb1 => ?_)
  refine WO.nil ?_
  refine W.chgE (MapP.openE (by repeat (first | exact Pick.head | apply Pick.tail))) ?_
  rintro ⟨ks, clk⟩ ⟨hreg, hlk⟩
  dsimp only at hreg hlk ⊢
  rw [← apS_0 (ks := ks) (G := elimF 15 x a)]
  refine W.sreg ?_
  refine WO.load rfl rfl (Cell.own (Pick.tail (Pick.tail (Pick.head))) rfl) rfl (WO.p rfl rfl (WO.fieldL rfl rfl rfl (WO.load rfl rfl (Cell.own (Pick.tail (Pick.tail (Pick.tail (Pick.head)))) rfl) rfl ?_)))
  refine WO.rangeM (clk := clk) rfl (by repeat (first | exact Pick.head | apply Pick.tail)) rfl (fun r => ?_)
  refine WO.nil ?_
  refine W.block ?_
  refine W.loop (fun (seen : Array Nat) => True)
    (fun (seen : Array Nat) => [(1, .int .i64 (a : Int)), (2, .pointer (some ⟨bv, 0, none⟩)), (3, .pointer (some ⟨b1, 0, none⟩)), (11, .pointer (some ⟨r, 0, none⟩))])
    (fun (seen : Array Nat) => [pt bv (.cells #[.pointer (some ⟨bt, 0, none⟩)] 64 (0, 0)), pt bt (.cells #[.int .i64 (n : Int), .map (some m)] 80 (0, 0)), pt b1 (.cells (m15 x).toArray 71 (0, 0)), pt m (.map (ents (apS ks seen (elimF 15 x a))) clk), pt r (itO m clk seen)])
    (fun (seen : Array Nat) => (lft ks seen).length) #[]
    (by trivial) ⟨rfl, rfl, rfl, rfl, trivial⟩ (by repeat (first | exact Sub.nil | refine Sub.cons (by repeat (first | exact Pick.head | apply Pick.tail)) ?_)) ?_
  rintro seen _
  refine W.sreg ?_
  refine WO.nextM (ks := apS ks seen (elimF 15 x a)) rfl (by repeat (first | exact Pick.head | apply Pick.tail)) (by repeat (first | exact Pick.head | apply Pick.tail)) (apS_reg hreg) rfl (fun o hox => ?_)
  rw [show Nx (apS ks seen (elimF 15 x a)) seen o = Nx ks seen o by unfold Nx; rw [apS_lft]] at hox
  refine WO.extractN rfl rfl ?_
  refine WO.nil ?_
  refine W.seq ?_
  refine W.cond_bl rfl (fun c1 => ?_) (fun c1 => ?_)
  · first
    | (exfalso; omega)
    | (refine W.skip ?_
       refine W.block ?_
       obtain ⟨e, rfl⟩ := Option.isSome_iff_exists.1 (show o.isSome = true by assumption)
       have hbe := lk_bd hreg hlk hF (lft_mem hox).1
       have hh : lkE (apS ks seen (elimF 15 x a)) e.1 ≠ none := apS_has hreg hox
       refine W.sreg ?_
       refine WO.entryM (e := e) (ks := apS ks seen (elimF 15 x a)) rfl (by repeat (first | exact Pick.head | apply Pick.tail)) (by repeat (first | exact Pick.head | apply Pick.tail)) (apS_reg hreg) (apS_at hreg hox) rfl ?_
       refine WO.p rfl rfl (WO.p rfl rfl ?_)
       refine WO.alloc rfl rfl rfl (fun b2 hb2 => ?_)
       refine WO.p rfl rfl (WO.storeA rfl rfl rfl rfl Pick.head rfl rfl ?_)
       refine WO.nil ?_
       refine W.sreg ?_
       refine WO.p rfl rfl (WO.field0 rfl rfl rfl (WO.field0 rfl rfl rfl ?_))
       refine WO.indexArrE (i := a) (o' := a) rfl rfl rfl rfl (by omega) (by omega) rfl ?_
       refine' WO.load (v := _) rfl rfl ?hc rfl ?_
       case hc => (first | (refine Cell.own (cs := m15 e.2.1) (by repeat (first | exact Pick.head | apply Pick.tail)) ?_; exact m15_get (k := a) (by omega)))
       refine WO.p rfl rfl ?_
       refine WO.nil ?_
       refine W.cond_bl rfl (fun c2 => ?_) (fun c2 => ?_)
       · first
         | (exfalso; omega)
         | (refine W.drawD 20 [.b 0 [], .r 1 [], .r 2 [], .b 3 [], .r 4 [], .b 5 [], .b 6 [], .r 7 [], .r 8 [], .r 9 [], .r 10 [], .b 11 [], .r 12 [], .r 13 [], .r 14 [], .r 15 [], .b 16 [], .r 17 [], .b 18 [], .b 19 []] [] (A0 := []) (Sub.refl _) (by kernel_rfl) ?_ ?_
            · exact (ALok.b (ALok.r (ALok.r (ALok.b (ALok.r (ALok.b (ALok.b (ALok.r (ALok.r (ALok.r (ALok.r (ALok.b (ALok.r (ALok.r (ALok.r (ALok.r (ALok.b (ALok.r (ALok.b (ALok.b ALok.nil))))))))))))))))))))
            refine' DT.b rfl rfl rfl ?hq ?_
            case hq =>
              refine WO.load rfl rfl (Cell.own (Pick.tail (Pick.tail (Pick.head))) rfl) rfl ?_
              exact WO.nil ⟨rfl, rfl⟩
            refine' DT.r rfl rfl rfl ?hq ?_
            case hq =>
              refine WO.p rfl rfl ?_
              exact WO.nil ⟨rfl, rfl⟩
            refine' DT.r rfl rfl rfl ?hq ?_
            case hq =>
              refine WO.fieldL rfl rfl rfl ?_
              exact WO.nil ⟨rfl, rfl⟩
            refine' DT.b rfl rfl rfl ?hq ?_
            case hq =>
              refine WO.load rfl rfl (Cell.own (Pick.tail (Pick.tail (Pick.tail (Pick.head)))) rfl) rfl ?_
              exact WO.nil ⟨rfl, rfl⟩
            refine' DT.r rfl rfl rfl ?hq ?_
            case hq =>
              refine WO.p rfl rfl ?_
              exact WO.nil ⟨rfl, rfl⟩
            refine' DT.b rfl rfl rfl ?hq ?_
            case hq =>
              refine WO.loadA rfl rfl (Cells.own Pick.head) rfl rfl ?_
              exact WO.nil ⟨rfl, rfl⟩
            refine' DT.b rfl rfl rfl ?hq ?_
            case hq =>
              refine WO.loadA rfl rfl (Cells.own (Pick.tail (Pick.tail (Pick.tail (Pick.tail (Pick.head)))))) rfl rfl ?_
              exact WO.nil ⟨rfl, rfl⟩
            refine' DT.r rfl rfl rfl ?hq ?_
            case hq =>
              refine WO.p rfl rfl ?_
              exact WO.nil ⟨rfl, rfl⟩
            refine' DT.r rfl rfl rfl ?hq ?_
            case hq =>
              refine WO.field0 rfl rfl rfl ?_
              exact WO.nil ⟨rfl, rfl⟩
            refine' DT.r rfl rfl rfl ?hq ?_
            case hq =>
              refine WO.field0 rfl rfl rfl ?_
              exact WO.nil ⟨rfl, rfl⟩
            refine' DT.r rfl rfl rfl ?hq ?_
            case hq =>
              refine WO.indexArrE (i := a) (o' := a) rfl rfl rfl rfl (by omega) (by omega) rfl ?_
              exact WO.nil ⟨rfl, rfl⟩
            refine' DT.b rfl rfl rfl ?hq ?_
            case hq =>
              refine' WO.load (v := _) rfl rfl ?hc rfl ?_
              case hc => (first | (refine Cell.own (b := b1) (by repeat (first | exact Pick.head | apply Pick.tail)) ?_; exact m15_get (k := a) (by omega)))
              exact WO.nil ⟨rfl, rfl⟩
            refine' DT.r rfl rfl rfl ?hq ?_
            case hq =>
              refine WO.p rfl rfl ?_
              exact WO.nil ⟨rfl, rfl⟩
            refine' DT.r rfl rfl rfl ?hq ?_
            case hq =>
              refine WO.field0 rfl rfl rfl ?_
              exact WO.nil ⟨rfl, rfl⟩
            refine' DT.r rfl rfl rfl ?hq ?_
            case hq =>
              refine WO.field0 rfl rfl rfl ?_
              exact WO.nil ⟨rfl, rfl⟩
            refine' DT.r rfl rfl rfl ?hq ?_
            case hq =>
              refine WO.indexArrE (i := a) (o' := a) rfl rfl rfl rfl (by omega) (by omega) rfl ?_
              exact WO.nil ⟨rfl, rfl⟩
            refine' DT.b rfl rfl rfl ?hq ?_
            case hq =>
              refine' WO.load (v := _) rfl rfl ?hc rfl ?_
              case hc => (first | (refine Cell.own (cs := m15 e.2.1) (by repeat (first | exact Pick.head | apply Pick.tail)) ?_; exact m15_get (k := a) (by omega)))
              exact WO.nil ⟨rfl, rfl⟩
            refine' DT.r rfl rfl rfl ?hq ?_
            case hq =>
              refine WO.neg rfl (by (first | (have := hbe a (by omega); unfold in64; omega))) rfl ?_
              exact WO.nil ⟨rfl, rfl⟩
            refine' DT.b rfl rfl rfl ?hq ?_
            case hq =>
              refine WO.callR rfl Try.call40 (fun L w' hi => c_plus w' e.2.1 x _ _ hbe hx (hx a (by omega)) (neg_W (hbe a (by omega)))) rfl ?_
              exact WO.nil ⟨rfl, rfl⟩
            refine' DT.b rfl rfl rfl ?hq ?_
            case hq =>
              refine WO.callR rfl Try.call51 (fun L w' hi => c_small w' _ (lin_W (hx a (by omega)) (neg_W (hbe a (by omega))) hbe hx)) rfl ?_
              rw [← elimF_1 (n := 15) (l := x) (p := a) (X := e.2.1) (by assumption)]
              exact WO.nil ⟨rfl, rfl⟩
            refine DT.nil [_, _, _, _, _, _] rfl ?_
            refine WO.mapUpdE (k := e.1) (ks := apS ks seen (elimF 15 x a)) (Y := elimF 15 x a e.2.1) (apS_reg hreg) hh rfl rfl rfl rfl (by repeat (first | exact Pick.head | apply Pick.tail)) ?_
            rw [apS_step hreg hox]
            refine WO.nil ?_
            first | (rw [apS_stay (G := elimF 15 x a) hreg hox (elimF_0 (Decidable.not_not.1 (show ¬ (e.2.1 a ≠ 0) by assumption)))]) | skip
            refine' ⟨seen.push e.2.2, trivial, lft_less hreg hox, ⟨rfl, rfl, rfl, rfl, trivial⟩, ?_⟩
            exact (by repeat (first | exact Sub.nil | refine Sub.cons (by repeat (first | exact Pick.head | apply Pick.tail)) ?_)))
       first
       | (exfalso; omega)
       | (refine W.skip ?_
          first | (rw [apS_stay (G := elimF 15 x a) hreg hox (elimF_0 (Decidable.not_not.1 (show ¬ (e.2.1 a ≠ 0) by assumption)))]) | skip
          refine' ⟨seen.push e.2.2, trivial, lft_less hreg hox, ⟨rfl, rfl, rfl, rfl, trivial⟩, ?_⟩
          exact (by repeat (first | exact Sub.nil | refine Sub.cons (by repeat (first | exact Pick.head | apply Pick.tail)) ?_))))
  first
  | (exfalso; omega)
  | (refine W.exit (blk_same ?_)
     have hsh : ∀ k, lkE (apS ks seen (elimF 15 x a)) k = withF x a f k := fun k => by rw [apS_end (lft_none hox (by assumption)), hlk]; rfl
     refine fin.normal (Res.none rfl) ⟨(), rfl, fun h hs => ?_⟩
     have q := MapP.shutE (apS_reg (seen := seen) (G := elimF 15 x a) hreg) hsh (by repeat (first | exact Pick.head | apply Pick.tail)) h hs
     exact Sub.sat (by repeat (first | exact Sub.nil | refine Sub.cons (by repeat (first | exact Pick.head | apply Pick.tail)) ?_)) q)
end Go.Proofs.Ytelmclmklkiphaa
namespace Go.Proofs.Ytelmclmklkiphaa
open Go Go.TH
attribute [local irreducible] W WO pt
set_option maxRecDepth 10000
set_option maxHeartbeats 1000000
/-- a row with its value, before and after its own place is marked -/
def rowB (r : List Int) (v : Int) (k : Nat) : Int := if k < 5 then fnL r k else if k = 5 then v else 0
def rowX (r : List Int) (v : Int) (i k : Nat) : Int := if k < 5 then fnL r k else if k = 5 then v else if k = 6 + i then 1 else 0
theorem rowX_of {r : List Int} {v : Int} {i : Nat} : m15 (updV (rowB r v) (6 + i) 1) = m15 (rowX r v i) := by
  refine m15_cg fun k hk => ?_
  unfold updV rowB rowX
  by_cases h : k = 6 + i
  · rw [if_pos h, if_neg (by omega), if_neg (by omega), if_pos h]
  rw [if_neg h]
  by_cases h5 : k < 5
  · rw [if_pos h5, if_pos h5]
  rw [if_neg h5, if_neg h5]
  by_cases h6 : k = 5
  · rw [if_pos h6, if_pos h6]
  rw [if_neg h6, if_neg h6, if_neg h]
def tabS (f : Nat → Option (Nat → Int)) (y : Nat → Int) : Nat → Option (Nat → Int) := if fst y 5 = 5 then f else updM (withF y (fst y 5) f) (fst y 5) y
/-- the table behind the first rows -/
def tabF (n : Nat) (rows : List (List Int)) (vals : List Int) : Nat → Nat → Option (Nat → Int)
  | 0 => fun _ => none
  | i + 1 => tabS (tabF n rows vals i) (lessN 15 (tabF n rows vals i) (rowX (rows.getD i []) (fnL vals i) i) n)
/-- what is left of row i -/
def redX (n : Nat) (rows : List (List Int)) (vals : List Int) (i k : Nat) : Nat → Int := lessN 15 (tabF n rows vals i) (rowX (rows.getD i []) (fnL vals i) i) k
theorem tabF_succ (n : Nat) (rows : List (List Int)) (vals : List Int) (i : Nat) : tabF n rows vals (i + 1) = tabS (tabF n rows vals i) (redX n rows vals i n) := rfl
def goodF (n : Nat) (rows : List (List Int)) (vals : List Int) : Nat → Bool
  | 0 => true
  | i + 1 => goodF n rows vals i && (if fst (redX n rows vals i n) 5 = 5 then bl (zr5 (redX n rows vals i n) ∧ redX n rows vals i n 5 = 0) else true)
theorem placeV_neg {X : Nat → Int} (h : placeV X < 0) : fst X 5 = 5 := Decidable.byContradiction fun g => by
  unfold placeV at h
  rw [if_neg g] at h; omega
theorem placeV_nn {X : Nat → Int} (h : ¬ placeV X < 0) : placeV X = (fst X 5 : Int) ∧ fst X 5 < 5 := by
  unfold placeV at *
  by_cases g : fst X 5 = 5
  · rw [if_pos g] at h; omega
  rw [if_neg g]; have := fst_le X 5; exact ⟨rfl, by omega⟩
theorem eq68 (X : Nat → Int) : EqT Try.prog .eql 68 (.agg #[.int .i64 (X 0), .int .i64 (X 1), .int .i64 (X 2), .int .i64 (X 3), .int .i64 (X 4), .int .i64 (X 5)]) (.agg #[.int .i64 0, .int .i64 0, .int .i64 0, .int .i64 0, .int .i64 0, .int .i64 0]) (.bool (bl (zr5 X ∧ X 5 = 0))) := by
  intro x y w
  have h57 := run57 9997 w X
  unfold rowV r5 at h57
  have h1 : ∀ a : Array Value, a.size = 6 → True := fun _ _ => trivial
  have hp : ∀ (vs : List Value), (part 57 vs.toArray 0).run Try.prog w = .ok (.agg (vs.take 5).toArray) w := fun vs => run_partN (n := 5) (AT.of (t := tyTab) (T := 57) rfl) (by simp)
  have e1 := hp [.int .i64 (X 0), .int .i64 (X 1), .int .i64 (X 2), .int .i64 (X 3), .int .i64 (X 4), .int .i64 (X 5)]
  have e2 := hp [.int .i64 0, .int .i64 0, .int .i64 0, .int .i64 0, .int .i64 0, .int .i64 0]
  simp only [List.take] at e1 e2
  by_cases g : zr5 X
  · rw [bl_t.2 g] at h57
    by_cases g5 : X 5 = 0
    · simp [go_sem, Try.eqGuardType68, Try.underlying68, Op.equal, Op.maxDepth, e1, e2, h57, Try.underlying2, bl_eq, g, g5]
    simp [go_sem, Try.eqGuardType68, Try.underlying68, Op.equal, Op.maxDepth, e1, e2, h57, Try.underlying2, bl_eq, g, g5]
  rw [bl_f.2 g] at h57
  simp [go_sem, Try.eqGuardType68, Try.underlying68, Op.equal, Op.maxDepth, e1, e2, h57, bl_eq, g]
section
variable {n : Nat} {rows : List (List Int)} {vals : List Int} {i : Nat}
theorem tabF_dep (h : placeV (redX n rows vals i n) < 0) : tabF n rows vals (i + 1) = tabF n rows vals i := by
  rw [tabF_succ]; unfold tabS; rw [if_pos (placeV_neg h)]
theorem tabF_new (h : ¬ placeV (redX n rows vals i n) < 0) : tabF n rows vals (i + 1) = updM (withF (redX n rows vals i n) (fst (redX n rows vals i n) 5) (tabF n rows vals i)) (fst (redX n rows vals i n) 5) (redX n rows vals i n) := by
  rw [tabF_succ]; unfold tabS; rw [if_neg (by have := (placeV_nn h).2; omega)]
theorem goodF_dep (h : placeV (redX n rows vals i n) < 0) : goodF n rows vals (i + 1) = (goodF n rows vals i && bl (zr5 (redX n rows vals i n) ∧ redX n rows vals i n 5 = 0)) := by
  show (_ && _) = _; rw [if_pos (placeV_neg h)]
theorem goodF_new (h : ¬ placeV (redX n rows vals i n) < 0) : goodF n rows vals (i + 1) = goodF n rows vals i := by
  show (_ && _) = _; rw [if_neg (by have := (placeV_nn h).2; omega), Bool.and_true]
end
/-- what keeps all numbers small -/
def BdT (n : Nat) (rows : List (List Int)) (vals : List Int) : Prop := ∀ i, i < rows.length → BdF (tabF n rows vals i) ∧ ∀ k, k ≤ n → BdV (redX n rows vals i k)
theorem c_newTable (w : World) (n : Nat) (v u : Value) (rv : List Value) (rows : List (List Int)) (vals : List Int) (hB : RdR encI 1 w.heap.size w v rv rows) (hV : RdF encI 1 w.heap.size w u vals) (hl : vals.length = rows.length) (hok : OkB n rows) (hbd : BdT n rows vals) :
    Ct Try.prog 37 [bookV n v, u].toArray w fun r w' => ∃ Hq, (∃ x : Nat × Nat, r = .tuple #[.pointer (some ⟨x.1, 0, none⟩), .bool (goodF n rows vals rows.length)] ∧ Hq = [pt x.1 (.cells #[.int .i64 (n : Int), .map (some x.2)] 80 (0, 0)), MapP x.2 (tabF n rows vals rows.length)]) ∧ TH.Inv w [] Hq w' := by
  refine Ct.ofI (X := Nat × Nat) (p := fun x r => r = .tuple #[.pointer (some ⟨x.1, 0, none⟩), .bool (goodF n rows vals rows.length)]) (Hx := fun x => [pt x.1 (.cells #[.int .i64 (n : Int), .map (some x.2)] 80 (0, 0)), MapP x.2 (tabF n rows vals rows.length)]) mixed tyTab Try.func37 rfl rfl ?_
  replace hB : RdR encI 1 (fnCx mixed tyTab Try.f37.ntmps w).B (fnCx mixed tyTab Try.f37.ntmps w).w0 v rv rows := hB
  replace hV : RdF encI 1 (fnCx mixed tyTab Try.f37.ntmps w).B (fnCx mixed tyTab Try.f37.ntmps w).w0 u vals := hV
  have hoc := hB.sl.oc
  have h8 := hok.1
  have hn5 := hok.2.1
  refine W.sreg ?_
  refine WO.boxA rfl rfl (fun b1 hb1 => ?_)
  refine WO.p rfl rfl (WO.p rfl rfl ?_)
  refine WO.nil ?_
  refine W.sreg ?_
  refine WO.field0 rfl rfl rfl (WO.load rfl rfl (Cell.own Pick.head rfl) rfl ?_)
  refine WO.makeMap rfl (fun m => ?_)
  refine WO.chg (MapP.start .head) ?_
  refine' WO.build (cs := _) rfl rfl rfl ?hf rfl ?_
  case hf => (conv => lhs; simp [-List.getD_eq_getElem?_getD, fillL, vcl, wrl, TTab.pl?.lget']) <;> rfl
  refine WO.boxA rfl rfl (fun b2 hb2 => ?_)
  refine WO.alloc rfl rfl rfl (fun b3 hb3 => ?_)
  refine WO.store1 rfl rfl rfl (by first | rfl | assumption) Pick.head rfl ?_
  refine WO.nil ?_
  refine W.sreg ?_
  refine WO.p rfl rfl ?_
  refine WO.nil ?_
  refine W.sreg ?_
  refine WO.p rfl rfl (WO.p rfl rfl ?_)
  refine WO.nil ?_
  refine W.seq ?_
  refine W.sreg ?_
  refine WO.fieldL rfl rfl rfl (WO.load rfl rfl (Cell.own (Pick.tail (Pick.tail (Pick.tail (Pick.head)))) rfl) rfl ?_)
  refine' WO.len (n := _) rfl rfl ?hs rfl ?_
  case hs => (first | exact hB.sl)
  refine WO.p rfl rfl ?_
  refine WO.nil ?_
  refine W.block ?_
  refine W.loop (fun (i : Nat) => i ≤ rows.length)
    (fun (i : Nat) => [(1, u), (2, .pointer (some ⟨b1, 0, none⟩)), (6, .pointer (some ⟨b3, 0, none⟩)), (7, .bool (goodF n rows vals i)), (8, .func (.func 50) #[] #[.pointer (some ⟨b3, 0, none⟩)]), (20, v), (21, .int .i64 (rows.length : Int)), (22, .int .i64 (i : Int))])
    (fun (i : Nat) => [pt b1 (.cells #[.int .i64 (n : Int), v] 24 (0, 0)), pt b2 (.cells #[.int .i64 (n : Int), .map (some m)] 80 (0, 0)), pt b3 (.cells #[.pointer (some ⟨b2, 0, none⟩)] 64 (0, 0)), MapP m (tabF n rows vals i)])
    (fun (i : Nat) => rows.length - i) 0
    (by omega) ⟨rfl, rfl, rfl, rfl, rfl, rfl, rfl, rfl, trivial⟩ (by repeat (first | exact Sub.nil | refine Sub.cons (by repeat (first | exact Pick.head | apply Pick.tail)) ?_)) ?_
  rintro i hi
  refine W.sreg ?_
  refine WO.p rfl rfl ?_
  refine WO.nil ?_
  refine W.seq ?_
  refine W.cond_bl rfl (fun c1 => ?_) (fun c1 => ?_)
  · first
    | (exfalso; omega)
    | (refine W.skip ?_
       refine W.seq ?_
       refine W.block ?_
       refine W.sreg ?_
       refine WO.p rfl rfl ?_
       refine' WO.indexAddr (n := _) (i := _) rfl rfl rfl ?hs ?h1 rfl ?_
       case hs => (first | exact hB.sl)
       case h1 => (first | omega | (simp; omega))
       refine' WO.load (v := _) rfl rfl ?hc rfl ?_
       case hc => (first | (refine hB.cellV (i := i) ?_; omega))
       refine WO.p rfl rfl (WO.p rfl rfl ?_)
       refine WO.nil ?_
       refine W.seq ?_
       have hil := hok.len (i := i) (by omega)
       have hbi := hbd i (by omega)
       refine W.drawD 9 [.r 0 [], .b 1 [], .r 2 [], .r 3 [], .r 4 [], .b 5 [], .r 6 [], .r 7 [], .a 8 11 (.cells #[.int .i64 0, .int .i64 0, .int .i64 0, .int .i64 0, .int .i64 0, .int .i64 0, .int .i64 0, .int .i64 0, .int .i64 0, .int .i64 0, .int .i64 0, .int .i64 0, .int .i64 0, .int .i64 0, .int .i64 0] 71 (0, 0))] [] (A0 := []) (Sub.refl _) (by kernel_rfl) ?_ ?_
       · exact (ALok.r (ALok.b (ALok.r (ALok.r (ALok.r (ALok.b (ALok.r (ALok.r (ALok.cons rfl rfl rfl rfl rfl ALok.nil)))))))))
       refine' DT.r rfl rfl rfl ?hq ?_
       case hq =>
         refine WO.p rfl rfl ?_
         exact WO.nil ⟨rfl, rfl⟩
       refine' DT.b rfl rfl rfl ?hq ?_
       case hq =>
         refine WO.callR rfl Try.call32 (fun L w' hi' => c_newRow w' _ (rows.getD i []) ((hB.row i (by omega)).later hi') (by omega) (by omega)) rfl ?_
         exact WO.nil ⟨rfl, rfl⟩
       refine' DT.r rfl rfl rfl ?hq ?_
       case hq =>
         refine WO.p rfl rfl ?_
         exact WO.nil ⟨rfl, rfl⟩
       refine' DT.r rfl rfl rfl ?hq ?_
       case hq =>
         refine WO.p rfl rfl ?_
         exact WO.nil ⟨rfl, rfl⟩
       refine' DT.r rfl rfl rfl ?hq ?_
       case hq =>
         refine' WO.indexAddr (n := _) (i := _) rfl rfl rfl ?hs ?h1 rfl ?_
         case hs => (first | exact hV.sl)
         case h1 => (first | omega | (simp; omega))
         exact WO.nil ⟨rfl, rfl⟩
       refine' DT.b rfl rfl rfl ?hq ?_
       case hq =>
         refine' WO.load (v := _) rfl rfl ?hc rfl ?_
         case hc => (first | (refine hV.cell0 (i := i) (by omega) 0 ?_; rfl))
         exact WO.nil ⟨rfl, rfl⟩
       refine' DT.r rfl rfl rfl ?hq ?_
       case hq =>
         refine' WO.build (cs := _) rfl rfl rfl ?hf rfl ?_
         case hf => (conv => lhs; simp [-List.getD_eq_getElem?_getD, fillL, vcl, wrl, TTab.pl?.lget']) <;> rfl
         exact WO.nil ⟨rfl, rfl⟩
       refine' DT.r rfl rfl rfl ?hq ?_
       case hq =>
         refine' WO.build (cs := _) rfl rfl rfl ?hf rfl ?_
         case hf => (conv => lhs; simp [-List.getD_eq_getElem?_getD, fillL, vcl, wrl, TTab.pl?.lget']) <;> rfl
         exact WO.nil ⟨rfl, rfl⟩
       refine DT.a (fun b4 => ?_)
       refine DT.nil [_, _, _, _, _] rfl ?_
       refine WO.storeA rfl rfl rfl rfl Pick.head rfl rfl ?_
       refine WO.nil ?_
       refine W.sreg ?_
       refine WO.p rfl rfl (WO.fieldL rfl rfl rfl ?_)
       refine WO.indexArrE (i := i) (o' := 6 + i) rfl rfl rfl rfl (by omega) (by omega) rfl ?_
       refine WO.storeK (b := b4) (cs := m15 (rowB (rows.getD i []) (fnL vals i))) (cs' := m15 (rowX (rows.getD i []) (fnL vals i) i)) rfl rfl rfl rfl (by show 6 + i < 15; omega) (by rw [m15_set (by omega), rowX_of]) (by repeat (first | exact Pick.head | apply Pick.tail)) ?_
       refine WO.nil ?_
       refine W.sreg ?_
       refine WO.load rfl rfl (Cell.own (Pick.tail (Pick.tail (Pick.tail (Pick.head)))) rfl) rfl (WO.loadA rfl rfl (Cells.own Pick.head) rfl rfl ?_)
       refine WO.callR (r := madeV (redX n rows vals i n)) rfl Try.call38 (fun L w' hi' => c_less w' ⟨b2, 0, none⟩ n m (tabF n rows vals i) (rowX (rows.getD i []) (fnL vals i) i) (RdC.own (by repeat (first | exact Pick.head | apply Pick.tail)) hi') (RdM.own (by repeat (first | exact Pick.head | apply Pick.tail)) hi') (by omega) hbi.1 hbi.2) rfl ?_
       refine WO.storeA rfl rfl rfl rfl Pick.head rfl rfl ?_
       refine WO.nil ?_
       refine W.sreg ?_
       refine WO.loadA rfl rfl (Cells.own Pick.head) rfl rfl ?_
       refine WO.callR rfl Try.call52 (fun L w' hi' => c_place w' (redX n rows vals i n)) rfl ?_
       refine WO.p rfl rfl ?_
       refine WO.nil ?_
       refine W.seq ?_
       refine W.sreg ?_
       refine WO.p rfl rfl (WO.p rfl rfl ?_)
       refine WO.nil ?_
       refine W.cond_bl rfl (fun c2 => ?_) (fun c2 => ?_)
       · first
         | (exfalso; omega)
         | (have hT := tabF_dep (n := n) (rows := rows) (vals := vals) (i := i) (by assumption)
            have hG := goodF_dep (n := n) (rows := rows) (vals := vals) (i := i) (by assumption)
            refine W.sreg ?_
            refine WO.p rfl rfl (WO.p rfl rfl ?_)
            refine WO.guard_b rfl rfl (fun c3 => ?_) (fun c3 => ?_)
            · first
              | (exfalso; omega)
              | (refine WO.go' rfl (WO.field0 rfl rfl rfl (WO.go' rfl (WO.loadA rfl rfl (Cells.ownAt (n := 6) Pick.head rfl) rfl rfl (WO.go' rfl ?_))))
                 refine' WO.build (cs := _) rfl rfl rfl ?hf rfl ?_
                 case hf => (conv => lhs; simp [-List.getD_eq_getElem?_getD, fillL, vcl, wrl, TTab.pl?.lget']) <;> rfl
                 refine WO.go' rfl ?_
                 refine WO.eqT rfl rfl (eq68 (redX n rows vals i n)) rfl ?_
                 refine WO.p rfl rfl (WO.p rfl rfl ?_)
                 refine WO.nil ?_
                 refine W.exit (blk_same ?_)
                 first | (rw [← hT, ← hG]) | (have hg1 : goodF n rows vals i = true := (by assumption); rw [hg1, Bool.true_and] at hG; rw [← hT, ← hG]) | (have hg1 : goodF n rows vals i = false := (by assumption); rw [hg1, Bool.false_and] at hG; rw [← hT, show Value.bool false = Value.bool (goodF n rows vals (i + 1)) by rw [hG]])
                 refine W.region ?_
                 refine WO.ar rfl rfl rfl (by (first | (unfold in64; omega) | (unfold in64; omega))) rfl (WO.p rfl rfl ?_)
                 refine WO.nil ?_
                 refine' ⟨i + 1, ?hp, ?hmu, ⟨rfl, rfl, rfl, rfl, rfl, rfl, rfl, rfl, trivial⟩, ?hS⟩
                 case hS => repeat (first | exact Sub.nil | refine Sub.cons (by repeat (first | exact Pick.head | apply Pick.tail)) ?_)
                 case hp => omega
                 case hmu => omega)
            first
            | (exfalso; omega)
            | (refine WO.no rfl rfl (WO.no rfl rfl (WO.no rfl rfl (WO.no rfl rfl (WO.p rfl rfl (WO.p rfl rfl ?_)))))
               refine WO.nil ?_
               refine W.exit (blk_same ?_)
               first | (rw [← hT, ← hG]) | (have hg1 : goodF n rows vals i = true := (by assumption); rw [hg1, Bool.true_and] at hG; rw [← hT, ← hG]) | (have hg1 : goodF n rows vals i = false := (by assumption); rw [hg1, Bool.false_and] at hG; rw [← hT, show Value.bool false = Value.bool (goodF n rows vals (i + 1)) by rw [hG]])
               refine W.region ?_
               refine WO.ar rfl rfl rfl (by (first | (unfold in64; omega) | (unfold in64; omega))) rfl (WO.p rfl rfl ?_)
               refine WO.nil ?_
               refine' ⟨i + 1, ?hp, ?hmu, ⟨rfl, rfl, rfl, rfl, rfl, rfl, rfl, rfl, trivial⟩, ?hS⟩
               case hS => repeat (first | exact Sub.nil | refine Sub.cons (by repeat (first | exact Pick.head | apply Pick.tail)) ?_)
               case hp => omega
               case hmu => omega))
       first
       | (exfalso; omega)
       | (refine W.skip ?_
          have hpl := placeV_nn (X := redX n rows vals i n) (by assumption)
          rw [hpl.1]
          have hT := tabF_new (n := n) (rows := rows) (vals := vals) (i := i) (by assumption)
          have hG := goodF_new (n := n) (rows := rows) (vals := vals) (i := i) (by assumption)
          refine W.sreg ?_
          refine WO.p rfl rfl (WO.loadA rfl rfl (Cells.own Pick.head) rfl rfl (WO.p rfl rfl ?_))
          refine WO.callCH (Hp := TbP b3 b2 n m (tabF n rows vals i)) (first := []) (captured := [.pointer (some ⟨b3, 0, none⟩)]) rfl rfl Try.call50 (.cons (by repeat (first | exact Pick.head | apply Pick.tail)) (.cons (by repeat (first | exact Pick.head | apply Pick.tail)) (.cons (by repeat (first | exact Pick.head | apply Pick.tail)) (Sub.refl _)))) (fun L w' hi' hB2 => c_without _ w' b3 b2 n m (fst (redX n rows vals i n) 5) (redX n rows vals i n) (tabF n rows vals i) hB2 hpl.2 (hbi.2 n (by omega)) hbi.1) rfl ?_
          rintro _ _ ⟨rfl, rfl⟩
          refine WO.nil ?_
          refine W.drawD 6 [.b 0 [], .r 1 [], .r 2 [], .b 3 [], .r 4 [], .b 5 []] [] (A0 := []) (Sub.refl _) (by kernel_rfl) ?_ ?_
          · exact (ALok.b (ALok.r (ALok.r (ALok.b (ALok.r (ALok.b ALok.nil))))))
          refine' DT.b rfl rfl rfl ?hq ?_
          case hq =>
            refine WO.load rfl rfl (Cell.own Pick.head rfl) rfl ?_
            exact WO.nil ⟨rfl, rfl⟩
          refine' DT.r rfl rfl rfl ?hq ?_
          case hq =>
            refine WO.p rfl rfl ?_
            exact WO.nil ⟨rfl, rfl⟩
          refine' DT.r rfl rfl rfl ?hq ?_
          case hq =>
            refine WO.fieldL rfl rfl rfl ?_
            exact WO.nil ⟨rfl, rfl⟩
          refine' DT.b rfl rfl rfl ?hq ?_
          case hq =>
            refine WO.load rfl rfl (Cell.own (Pick.tail (Pick.head)) rfl) rfl ?_
            exact WO.nil ⟨rfl, rfl⟩
          refine' DT.r rfl rfl rfl ?hq ?_
          case hq =>
            refine WO.p rfl rfl ?_
            exact WO.nil ⟨rfl, rfl⟩
          refine' DT.b rfl rfl rfl ?hq ?_
          case hq =>
            refine WO.loadA rfl rfl (Cells.own (Pick.tail (Pick.tail (Pick.tail (Pick.head))))) rfl rfl ?_
            exact WO.nil ⟨rfl, rfl⟩
          refine DT.nil [_, _, _, _, _] rfl ?_
          refine WO.mapUpd (k := fst (redX n rows vals i n) 5) (Y := redX n rows vals i n) rfl rfl rfl rfl (by repeat (first | exact Pick.head | apply Pick.tail)) ?_
          refine WO.nil ?_
          first | (rw [← hT, ← hG]) | (have hg1 : goodF n rows vals i = true := (by assumption); rw [hg1, Bool.true_and] at hG; rw [← hT, ← hG]) | (have hg1 : goodF n rows vals i = false := (by assumption); rw [hg1, Bool.false_and] at hG; rw [← hT, show Value.bool false = Value.bool (goodF n rows vals (i + 1)) by rw [hG]])
          refine W.region ?_
          refine WO.ar rfl rfl rfl (by (first | (unfold in64; omega) | (unfold in64; omega))) rfl (WO.p rfl rfl ?_)
          refine WO.nil ?_
          refine' ⟨i + 1, ?hp, ?hmu, ⟨rfl, rfl, rfl, rfl, rfl, rfl, rfl, rfl, trivial⟩, ?hS⟩
          case hS => repeat (first | exact Sub.nil | refine Sub.cons (by repeat (first | exact Pick.head | apply Pick.tail)) ?_)
          case hp => omega
          case hmu => omega))
  first
  | (exfalso; omega)
  | (refine W.exit (blk_same ?_)
     refine W.sreg ?_
     refine WO.load rfl rfl (Cell.own (Pick.tail (Pick.tail (Pick.head))) rfl) rfl (WO.p rfl rfl (WO.p rfl rfl (WO.p rfl rfl ?_)))
     refine WO.nil ?_
     refine W.ret ?_
     obtain rfl : i = rows.length := by omega
     exact fin.ret (Res.two rfl (RV.tmp rfl) (RV.tmp rfl)) ⟨(b2, m), rfl, fun h hs => Sub.sat (by repeat (first | exact Sub.nil | refine Sub.cons (by repeat (first | exact Pick.head | apply Pick.tail)) ?_)) hs⟩)
end Go.Proofs.Ytelmclmklkiphaa
