/-
  What is proved here: contracts of small functions (weights, bounds, comparisons). Conditions: none; each contract states its own.
-/
import Derived.Test.YtgihklgpehfbpaaB1
namespace Go.Proofs.Ytgihklgpehfbpaa
open Go Go.TH
attribute [local irreducible] W WO pt
set_option maxRecDepth 10000
theorem eq29 (a b c d : Int) : EqT Try.prog .eql 29 (.agg #[.int .i64 a, .int .i64 b]) (.agg #[.int .i64 c, .int .i64 d]) (.bool (bl ((a, b) = (c, d)))) := by
  intro x y w
  simp [go_sem, Try.eqGuardType29, Try.underlying29]
  by_cases h1 : a = c <;> by_cases h2 : b = d <;> simp [h1, h2, bl_eq]
theorem ne29 (a b c d : Int) : EqT Try.prog .neq 29 (.agg #[.int .i64 a, .int .i64 b]) (.agg #[.int .i64 c, .int .i64 d]) (.bool (bl ((a, b) ≠ (c, d)))) := by
  intro x y w
  simp [go_sem, Try.eqGuardType29, Try.underlying29]
  by_cases h1 : a = c <;> by_cases h2 : b = d <;> simp [h1, h2, bl_eq]
/-- a weight -/
def wgt (i n : Nat) : Int := if i = 0 ∨ i + 1 = n then 1 else 2
theorem ref_weight (w : World) (i n : Nat) (hi : i < n) (hn : n ≤ 1000) : Ret Try.prog 57 [.int .i64 (i : Int), .int .i64 (n : Int)].toArray w (.int .i64 (wgt i n)) := by
  refine Ret.of mixed tyTab Try.func57 rfl rfl ?_
  refine W.sreg ?_
  refine WO.p rfl rfl ?_
  refine WO.nil ?_
  refine W.seq ?_
  refine W.sreg ?_
  refine WO.p rfl rfl (WO.p rfl rfl (WO.p rfl rfl ?_))
  refine WO.guard_bl rfl rfl (fun c1 => ?_) (fun c1 => ?_)
  · first
    | (exfalso; omega)
    | (refine WO.no rfl rfl (WO.no rfl rfl (WO.no rfl rfl (WO.no rfl rfl (WO.p rfl rfl ?_))))
       refine WO.nil ?_
       refine W.cond_t rfl ?_
       refine W.sreg ?_
       refine WO.p rfl rfl ?_
       refine WO.nil ?_
       refine W.ret ?_
       refine fin.ret (Res.one rfl (RV.tmp rfl)) ?_
       refine congrArg (Value.int .i64) ?_
       unfold wgt; first | rw [if_pos (by omega)] | rw [if_neg (by omega)])
  · first
    | (exfalso; omega)
    | (refine WO.pg rfl rfl rfl (WO.pg rfl rfl rfl (WO.go' rfl (WO.ar rfl rfl rfl (by (first | (unfold in64; omega))) rfl (WO.pg rfl rfl rfl (WO.p rfl rfl ?_)))))
       refine WO.nil ?_
       refine W.cond_bl rfl (fun c2 => ?_) (fun c2 => ?_)
       · first
         | (exfalso; omega)
         | (refine W.sreg ?_
            refine WO.p rfl rfl ?_
            refine WO.nil ?_
            refine W.ret ?_
            refine fin.ret (Res.one rfl (RV.tmp rfl)) ?_
            refine congrArg (Value.int .i64) ?_
            unfold wgt; first | rw [if_pos (by omega)] | rw [if_neg (by omega)])
       · first
         | (exfalso; omega)
         | (refine W.skip ?_
            refine W.sreg ?_
            refine WO.p rfl rfl ?_
            refine WO.nil ?_
            refine W.ret ?_
            refine fin.ret (Res.one rfl (RV.tmp rfl)) ?_
            refine congrArg (Value.int .i64) ?_
            unfold wgt; first | rw [if_pos (by omega)] | rw [if_neg (by omega)]))
/-- is it a fraction that can be a bound? -/
def isB (r : Int × Int) : Bool := decide (0 ≤ r.1 ∧ r.1 ≤ 100000000000 ∧ 1 ≤ r.2 ∧ r.2 ≤ 100000000 ∧ red r.1 r.2 = r)
theorem isB_f {n d : Int} (h : ¬ (0 ≤ n ∧ n ≤ 100000000000 ∧ 1 ≤ d ∧ d ≤ 100000000)) : false = isB (n, d) := by
  unfold isB
  symm
  simp only [decide_eq_false_iff_not]
  intro hh
  exact h ⟨hh.1, hh.2.1, hh.2.2.1, hh.2.2.2.1⟩
theorem isB_r {n d : Int} (h : 0 ≤ n ∧ n ≤ 100000000000 ∧ 1 ≤ d ∧ d ≤ 100000000) : bl (((red n d).1, (red n d).2) = (n, d)) = isB (n, d) := by
  unfold isB
  rw [bl_eq]
  obtain ⟨h1, h2, h3, h4⟩ := h
  simp only [h1, h2, h3, h4, true_and]
theorem ref_IsBound (w : World) (n d : Int) : Ret Try.prog 26 [.agg #[.int .i64 n, .int .i64 d]].toArray w (.bool (isB (n, d))) := by
  refine Ret.of mixed tyTab Try.func26 rfl rfl ?_
  refine W.sreg ?_
  refine WO.boxA rfl rfl (fun b1 hb1 => ?_)
  refine WO.p rfl rfl ?_
  refine WO.nil ?_
  refine W.seq ?_
  refine W.drawD 25 [.r 0 [], .b 1 [], .r 2 [], .r 3 [], .r 4 [], .b 5 [], .r 6 [], .r 7 [], .r 8 [], .r 9 [], .b 10 [], .r 11 [], .r 12 [], .r 13 [], .r 14 [], .b 15 [], .r 16 [], .r 17 [], .r 18 [], .r 19 [], .b 20 [], .r 21 [], .b 22 [], .b 23 [], .b 24 []] [] (A0 := []) (Sub.refl _) (by kernel_rfl) ?_ ?_
  · exact (ALok.r (ALok.b (ALok.r (ALok.r (ALok.r (ALok.b (ALok.r (ALok.r (ALok.r (ALok.r (ALok.b (ALok.r (ALok.r (ALok.r (ALok.r (ALok.b (ALok.r (ALok.r (ALok.r (ALok.r (ALok.b (ALok.r (ALok.b (ALok.b (ALok.b ALok.nil)))))))))))))))))))))))))
  refine' DT.r rfl rfl rfl ?hq ?_
  case hq =>
    refine WO.field0 rfl rfl rfl ?_
    exact WO.nil ⟨rfl, rfl⟩
  refine' DT.b rfl rfl rfl ?hq ?_
  case hq =>
    refine WO.load rfl rfl (Cell.own Pick.head rfl) rfl ?_
    exact WO.nil ⟨rfl, rfl⟩
  refine' DT.r rfl rfl rfl ?hq ?_
  case hq =>
    refine WO.p rfl rfl ?_
    exact WO.nil ⟨rfl, rfl⟩
  refine' DT.rB rfl rfl rfl ?hq (fun c1 => ?_) (fun c1 => ?_)
  case hq =>
    refine WO.p rfl rfl ?_
    exact WO.nil ⟨rfl, rfl⟩
  · first
    | (exfalso; omega)
    | (refine' DT.r rfl rfl rfl ?hq ?_
       case hq =>
         refine WO.go' rfl (WO.field0 rfl rfl rfl ?_)
         exact WO.nil ⟨rfl, rfl⟩
       refine' DT.b rfl rfl rfl ?hq ?_
       case hq =>
         refine WO.go' rfl (WO.load rfl rfl (Cell.own Pick.head rfl) rfl ?_)
         exact WO.nil ⟨rfl, rfl⟩
       refine' DT.r rfl rfl rfl ?hq ?_
       case hq =>
         refine WO.pg rfl rfl rfl ?_
         exact WO.nil ⟨rfl, rfl⟩
       refine' DT.r rfl rfl rfl ?hq ?_
       case hq =>
         refine WO.p rfl rfl ?_
         exact WO.nil ⟨rfl, rfl⟩
       refine' DT.rB rfl rfl rfl ?hq (fun c2 => ?_) (fun c2 => ?_)
       case hq =>
         refine WO.p rfl rfl ?_
         exact WO.nil ⟨rfl, rfl⟩
       · first
         | (exfalso; omega)
         | (refine' DT.r rfl rfl rfl ?hq ?_
            case hq =>
              refine WO.go' rfl (WO.fieldL rfl rfl rfl ?_)
              exact WO.nil ⟨rfl, rfl⟩
            refine' DT.b rfl rfl rfl ?hq ?_
            case hq =>
              refine WO.go' rfl (WO.load rfl rfl (Cell.own Pick.head rfl) rfl ?_)
              exact WO.nil ⟨rfl, rfl⟩
            refine' DT.r rfl rfl rfl ?hq ?_
            case hq =>
              refine WO.pg rfl rfl rfl ?_
              exact WO.nil ⟨rfl, rfl⟩
            refine' DT.r rfl rfl rfl ?hq ?_
            case hq =>
              refine WO.p rfl rfl ?_
              exact WO.nil ⟨rfl, rfl⟩
            refine' DT.rB rfl rfl rfl ?hq (fun c3 => ?_) (fun c3 => ?_)
            case hq =>
              refine WO.p rfl rfl ?_
              exact WO.nil ⟨rfl, rfl⟩
            · first
              | (exfalso; omega)
              | (refine' DT.r rfl rfl rfl ?hq ?_
                 case hq =>
                   refine WO.go' rfl (WO.fieldL rfl rfl rfl ?_)
                   exact WO.nil ⟨rfl, rfl⟩
                 refine' DT.b rfl rfl rfl ?hq ?_
                 case hq =>
                   refine WO.go' rfl (WO.load rfl rfl (Cell.own Pick.head rfl) rfl ?_)
                   exact WO.nil ⟨rfl, rfl⟩
                 refine' DT.r rfl rfl rfl ?hq ?_
                 case hq =>
                   refine WO.pg rfl rfl rfl ?_
                   exact WO.nil ⟨rfl, rfl⟩
                 refine' DT.r rfl rfl rfl ?hq ?_
                 case hq =>
                   refine WO.p rfl rfl ?_
                   exact WO.nil ⟨rfl, rfl⟩
                 refine' DT.rB rfl rfl rfl ?hq (fun c4 => ?_) (fun c4 => ?_)
                 case hq =>
                   refine WO.p rfl rfl ?_
                   exact WO.nil ⟨rfl, rfl⟩
                 · first
                   | (exfalso; omega)
                   | (refine' DT.r rfl rfl rfl ?hq ?_
                      case hq =>
                        refine WO.go' rfl (WO.field0 rfl rfl rfl ?_)
                        exact WO.nil ⟨rfl, rfl⟩
                      refine' DT.b rfl rfl rfl ?hq ?_
                      case hq =>
                        refine WO.go' rfl (WO.load rfl rfl (Cell.own Pick.head rfl) rfl ?_)
                        exact WO.nil ⟨rfl, rfl⟩
                      refine' DT.r rfl rfl rfl ?hq ?_
                      case hq =>
                        refine WO.go' rfl (WO.fieldL rfl rfl rfl ?_)
                        exact WO.nil ⟨rfl, rfl⟩
                      refine' DT.b rfl rfl rfl ?hq ?_
                      case hq =>
                        refine WO.go' rfl (WO.load rfl rfl (Cell.own Pick.head rfl) rfl ?_)
                        exact WO.nil ⟨rfl, rfl⟩
                      refine' DT.b rfl rfl rfl ?hq ?_
                      case hq =>
                        refine WO.go' rfl ?_
                        refine WO.callR rfl Try.call31 (fun L w hi => ref_Fraction w n d (by omega) (by omega) (by unfold in64; omega) (by unfold in64; omega)) rfl ?_
                        exact WO.nil ⟨rfl, rfl⟩
                      refine' DT.b rfl rfl rfl ?hq ?_
                      case hq =>
                        refine WO.go' rfl (WO.loadA rfl rfl (Cells.own Pick.head) rfl rfl ?_)
                        exact WO.nil ⟨rfl, rfl⟩
                      refine DT.nil [_] rfl ?_
                      refine WO.go' rfl ?_
                      refine WO.eqT rfl rfl (eq29 _ _ _ _) rfl ?_
                      refine WO.p rfl rfl (WO.p rfl rfl ?_)
                      refine WO.nil ?_
                      refine W.ret ?_
                      refine fin.ret (Res.one rfl (RV.tmp rfl)) ?_
                      refine congrArg Value.bool ?_
                      first | exact isB_f (by omega) | exact isB_r (by omega))
                 · first
                   | (exfalso; omega)
                   | (refine' DT.r rfl rfl rfl ?hq ?_
                      case hq =>
                        refine WO.no rfl rfl ?_
                        exact WO.nil ⟨rfl, rfl⟩
                      refine' DT.b rfl rfl rfl ?hq ?_
                      case hq =>
                        refine WO.no rfl rfl ?_
                        exact WO.nil ⟨rfl, rfl⟩
                      refine' DT.r rfl rfl rfl ?hq ?_
                      case hq =>
                        refine WO.no rfl rfl ?_
                        exact WO.nil ⟨rfl, rfl⟩
                      refine' DT.b rfl rfl rfl ?hq ?_
                      case hq =>
                        refine WO.no rfl rfl ?_
                        exact WO.nil ⟨rfl, rfl⟩
                      refine' DT.b rfl rfl rfl ?hq ?_
                      case hq =>
                        refine WO.no rfl rfl ?_
                        exact WO.nil ⟨rfl, rfl⟩
                      refine' DT.b rfl rfl rfl ?hq ?_
                      case hq =>
                        refine WO.no rfl rfl ?_
                        exact WO.nil ⟨rfl, rfl⟩
                      refine DT.nil [_] rfl ?_
                      refine WO.no rfl rfl (WO.p rfl rfl (WO.p rfl rfl ?_))
                      refine WO.nil ?_
                      refine W.ret ?_
                      refine fin.ret (Res.one rfl (RV.tmp rfl)) ?_
                      refine congrArg Value.bool ?_
                      first | exact isB_f (by omega) | exact isB_r (by omega)))
            · first
              | (exfalso; omega)
              | (refine' DT.r rfl rfl rfl ?hq ?_
                 case hq =>
                   refine WO.no rfl rfl ?_
                   exact WO.nil ⟨rfl, rfl⟩
                 refine' DT.b rfl rfl rfl ?hq ?_
                 case hq =>
                   refine WO.no rfl rfl ?_
                   exact WO.nil ⟨rfl, rfl⟩
                 refine' DT.r rfl rfl rfl ?hq ?_
                 case hq =>
                   refine WO.no rfl rfl ?_
                   exact WO.nil ⟨rfl, rfl⟩
                 refine' DT.r rfl rfl rfl ?hq ?_
                 case hq =>
                   refine WO.p rfl rfl ?_
                   exact WO.nil ⟨rfl, rfl⟩
                 refine' DT.r rfl rfl rfl ?hq ?_
                 case hq =>
                   refine WO.p rfl rfl ?_
                   exact WO.nil ⟨rfl, rfl⟩
                 refine' DT.r rfl rfl rfl ?hq ?_
                 case hq =>
                   refine WO.no rfl rfl ?_
                   exact WO.nil ⟨rfl, rfl⟩
                 refine' DT.b rfl rfl rfl ?hq ?_
                 case hq =>
                   refine WO.no rfl rfl ?_
                   exact WO.nil ⟨rfl, rfl⟩
                 refine' DT.r rfl rfl rfl ?hq ?_
                 case hq =>
                   refine WO.no rfl rfl ?_
                   exact WO.nil ⟨rfl, rfl⟩
                 refine' DT.b rfl rfl rfl ?hq ?_
                 case hq =>
                   refine WO.no rfl rfl ?_
                   exact WO.nil ⟨rfl, rfl⟩
                 refine' DT.b rfl rfl rfl ?hq ?_
                 case hq =>
                   refine WO.no rfl rfl ?_
                   exact WO.nil ⟨rfl, rfl⟩
                 refine' DT.b rfl rfl rfl ?hq ?_
                 case hq =>
                   refine WO.no rfl rfl ?_
                   exact WO.nil ⟨rfl, rfl⟩
                 refine DT.nil [_] rfl ?_
                 refine WO.no rfl rfl (WO.p rfl rfl (WO.p rfl rfl ?_))
                 refine WO.nil ?_
                 refine W.ret ?_
                 refine fin.ret (Res.one rfl (RV.tmp rfl)) ?_
                 refine congrArg Value.bool ?_
                 first | exact isB_f (by omega) | exact isB_r (by omega)))
       · first
         | (exfalso; omega)
         | (refine' DT.r rfl rfl rfl ?hq ?_
            case hq =>
              refine WO.no rfl rfl ?_
              exact WO.nil ⟨rfl, rfl⟩
            refine' DT.b rfl rfl rfl ?hq ?_
            case hq =>
              refine WO.no rfl rfl ?_
              exact WO.nil ⟨rfl, rfl⟩
            refine' DT.r rfl rfl rfl ?hq ?_
            case hq =>
              refine WO.no rfl rfl ?_
              exact WO.nil ⟨rfl, rfl⟩
            refine' DT.r rfl rfl rfl ?hq ?_
            case hq =>
              refine WO.p rfl rfl ?_
              exact WO.nil ⟨rfl, rfl⟩
            refine' DT.r rfl rfl rfl ?hq ?_
            case hq =>
              refine WO.p rfl rfl ?_
              exact WO.nil ⟨rfl, rfl⟩
            refine' DT.r rfl rfl rfl ?hq ?_
            case hq =>
              refine WO.no rfl rfl ?_
              exact WO.nil ⟨rfl, rfl⟩
            refine' DT.b rfl rfl rfl ?hq ?_
            case hq =>
              refine WO.no rfl rfl ?_
              exact WO.nil ⟨rfl, rfl⟩
            refine' DT.r rfl rfl rfl ?hq ?_
            case hq =>
              refine WO.no rfl rfl ?_
              exact WO.nil ⟨rfl, rfl⟩
            refine' DT.r rfl rfl rfl ?hq ?_
            case hq =>
              refine WO.p rfl rfl ?_
              exact WO.nil ⟨rfl, rfl⟩
            refine' DT.r rfl rfl rfl ?hq ?_
            case hq =>
              refine WO.p rfl rfl ?_
              exact WO.nil ⟨rfl, rfl⟩
            refine' DT.r rfl rfl rfl ?hq ?_
            case hq =>
              refine WO.no rfl rfl ?_
              exact WO.nil ⟨rfl, rfl⟩
            refine' DT.b rfl rfl rfl ?hq ?_
            case hq =>
              refine WO.no rfl rfl ?_
              exact WO.nil ⟨rfl, rfl⟩
            refine' DT.r rfl rfl rfl ?hq ?_
            case hq =>
              refine WO.no rfl rfl ?_
              exact WO.nil ⟨rfl, rfl⟩
            refine' DT.b rfl rfl rfl ?hq ?_
            case hq =>
              refine WO.no rfl rfl ?_
              exact WO.nil ⟨rfl, rfl⟩
            refine' DT.b rfl rfl rfl ?hq ?_
            case hq =>
              refine WO.no rfl rfl ?_
              exact WO.nil ⟨rfl, rfl⟩
            refine' DT.b rfl rfl rfl ?hq ?_
            case hq =>
              refine WO.no rfl rfl ?_
              exact WO.nil ⟨rfl, rfl⟩
            refine DT.nil [_] rfl ?_
            refine WO.no rfl rfl (WO.p rfl rfl (WO.p rfl rfl ?_))
            refine WO.nil ?_
            refine W.ret ?_
            refine fin.ret (Res.one rfl (RV.tmp rfl)) ?_
            refine congrArg Value.bool ?_
            first | exact isB_f (by omega) | exact isB_r (by omega)))
  · first
    | (exfalso; omega)
    | (refine' DT.r rfl rfl rfl ?hq ?_
       case hq =>
         refine WO.no rfl rfl ?_
         exact WO.nil ⟨rfl, rfl⟩
       refine' DT.b rfl rfl rfl ?hq ?_
       case hq =>
         refine WO.no rfl rfl ?_
         exact WO.nil ⟨rfl, rfl⟩
       refine' DT.r rfl rfl rfl ?hq ?_
       case hq =>
         refine WO.no rfl rfl ?_
         exact WO.nil ⟨rfl, rfl⟩
       refine' DT.r rfl rfl rfl ?hq ?_
       case hq =>
         refine WO.p rfl rfl ?_
         exact WO.nil ⟨rfl, rfl⟩
       refine' DT.r rfl rfl rfl ?hq ?_
       case hq =>
         refine WO.p rfl rfl ?_
         exact WO.nil ⟨rfl, rfl⟩
       refine' DT.r rfl rfl rfl ?hq ?_
       case hq =>
         refine WO.no rfl rfl ?_
         exact WO.nil ⟨rfl, rfl⟩
       refine' DT.b rfl rfl rfl ?hq ?_
       case hq =>
         refine WO.no rfl rfl ?_
         exact WO.nil ⟨rfl, rfl⟩
       refine' DT.r rfl rfl rfl ?hq ?_
       case hq =>
         refine WO.no rfl rfl ?_
         exact WO.nil ⟨rfl, rfl⟩
       refine' DT.r rfl rfl rfl ?hq ?_
       case hq =>
         refine WO.p rfl rfl ?_
         exact WO.nil ⟨rfl, rfl⟩
       refine' DT.r rfl rfl rfl ?hq ?_
       case hq =>
         refine WO.p rfl rfl ?_
         exact WO.nil ⟨rfl, rfl⟩
       refine' DT.r rfl rfl rfl ?hq ?_
       case hq =>
         refine WO.no rfl rfl ?_
         exact WO.nil ⟨rfl, rfl⟩
       refine' DT.b rfl rfl rfl ?hq ?_
       case hq =>
         refine WO.no rfl rfl ?_
         exact WO.nil ⟨rfl, rfl⟩
       refine' DT.r rfl rfl rfl ?hq ?_
       case hq =>
         refine WO.no rfl rfl ?_
         exact WO.nil ⟨rfl, rfl⟩
       refine' DT.r rfl rfl rfl ?hq ?_
       case hq =>
         refine WO.p rfl rfl ?_
         exact WO.nil ⟨rfl, rfl⟩
       refine' DT.r rfl rfl rfl ?hq ?_
       case hq =>
         refine WO.p rfl rfl ?_
         exact WO.nil ⟨rfl, rfl⟩
       refine' DT.r rfl rfl rfl ?hq ?_
       case hq =>
         refine WO.no rfl rfl ?_
         exact WO.nil ⟨rfl, rfl⟩
       refine' DT.b rfl rfl rfl ?hq ?_
       case hq =>
         refine WO.no rfl rfl ?_
         exact WO.nil ⟨rfl, rfl⟩
       refine' DT.r rfl rfl rfl ?hq ?_
       case hq =>
         refine WO.no rfl rfl ?_
         exact WO.nil ⟨rfl, rfl⟩
       refine' DT.b rfl rfl rfl ?hq ?_
       case hq =>
         refine WO.no rfl rfl ?_
         exact WO.nil ⟨rfl, rfl⟩
       refine' DT.b rfl rfl rfl ?hq ?_
       case hq =>
         refine WO.no rfl rfl ?_
         exact WO.nil ⟨rfl, rfl⟩
       refine' DT.b rfl rfl rfl ?hq ?_
       case hq =>
         refine WO.no rfl rfl ?_
         exact WO.nil ⟨rfl, rfl⟩
       refine DT.nil [_] rfl ?_
       refine WO.no rfl rfl (WO.p rfl rfl (WO.p rfl rfl ?_))
       refine WO.nil ?_
       refine W.ret ?_
       refine fin.ret (Res.one rfl (RV.tmp rfl)) ?_
       refine congrArg Value.bool ?_
       first | exact isB_f (by omega) | exact isB_r (by omega))
/-- is a fraction less than another one? -/
def lessQ (a b : Int × Int) : Bool :=
  if a.1.tdiv a.2 ≠ b.1.tdiv b.2 then decide (a.1.tdiv a.2 < b.1.tdiv b.2) else decide (a.1.tmod a.2 * b.2 < b.1.tmod b.2 * a.2)
theorem lessQ_1 {a b c d : Int} (h : a.tdiv b ≠ c.tdiv d) : bl (a.tdiv b < c.tdiv d) = lessQ (a, b) (c, d) := by
  unfold lessQ
  rw [if_pos (by simpa using h), bl_eq]
theorem lessQ_2 {a b c d : Int} (h : ¬ a.tdiv b ≠ c.tdiv d) : bl (a.tmod b * d < c.tmod d * b) = lessQ (a, b) (c, d) := by
  unfold lessQ
  rw [if_neg (by simpa using h), bl_eq]
theorem mulmod_in {a b d : Int} (ha : 0 ≤ a) (hb : 0 < b) (hb' : b ≤ 100000000) (hd : 0 < d) (hd' : d ≤ 100000000) : in64 (a.tmod b * d) := by
  have h1 := tmod_lt ha hb
  unfold in64
  have h2 : a.tmod b * d ≤ 100000000 * 100000000 := Int.mul_le_mul (by omega) hd' (by omega) (by omega)
  have h3 : 0 ≤ a.tmod b * d := Int.mul_nonneg h1.1 (by omega)
  omega
theorem ref_Less (w : World) (a b c d : Int) (ha : 0 ≤ a) (hb : 0 < b) (hc : 0 ≤ c) (hd : 0 < d) (ha' : in64 a) (hc' : in64 c) (hb' : b ≤ 100000000) (hd' : d ≤ 100000000) :
    Ret Try.prog 27 [.agg #[.int .i64 a, .int .i64 b], .agg #[.int .i64 c, .int .i64 d]].toArray w (.bool (lessQ (a, b) (c, d))) := by
  refine Ret.of mixed tyTab Try.func27 rfl rfl ?_
  refine W.sreg ?_
  refine WO.boxA rfl rfl (fun b1 hb1 => ?_)
  refine WO.boxA rfl rfl (fun b2 hb2 => ?_)
  refine WO.p rfl rfl ?_
  refine WO.nil ?_
  refine W.seq ?_
  refine W.seq ?_
  refine W.drawD 10 [.r 0 [], .b 1 [], .r 2 [], .b 3 [], .r 4 [], .r 5 [], .b 6 [], .r 7 [], .b 8 [], .r 9 []] [] (A0 := []) (Sub.refl _) (by kernel_rfl) ?_ ?_
  · exact (ALok.r (ALok.b (ALok.r (ALok.b (ALok.r (ALok.r (ALok.b (ALok.r (ALok.b (ALok.r ALok.nil))))))))))
  refine' DT.r rfl rfl rfl ?hq ?_
  case hq =>
    refine WO.field0 rfl rfl rfl ?_
    exact WO.nil ⟨rfl, rfl⟩
  refine' DT.b rfl rfl rfl ?hq ?_
  case hq =>
    refine WO.load rfl rfl (Cell.own (Pick.tail (Pick.head)) rfl) rfl ?_
    exact WO.nil ⟨rfl, rfl⟩
  refine' DT.r rfl rfl rfl ?hq ?_
  case hq =>
    refine WO.fieldL rfl rfl rfl ?_
    exact WO.nil ⟨rfl, rfl⟩
  refine' DT.b rfl rfl rfl ?hq ?_
  case hq =>
    refine WO.load rfl rfl (Cell.own (Pick.tail (Pick.head)) rfl) rfl ?_
    exact WO.nil ⟨rfl, rfl⟩
  refine' DT.r rfl rfl rfl ?hq ?_
  case hq =>
    refine WO.quo rfl rfl (by first | omega | assumption) (by (first | (unfold in64; omega) | (exact tdiv_in ha hb ha') | (exact tdiv_in hc hd hc') | (exact mulmod_in ha hb hb' hd hd') | (exact mulmod_in hc hd hd' hb hb'))) rfl ?_
    exact WO.nil ⟨rfl, rfl⟩
  refine' DT.r rfl rfl rfl ?hq ?_
  case hq =>
    refine WO.field0 rfl rfl rfl ?_
    exact WO.nil ⟨rfl, rfl⟩
  refine' DT.b rfl rfl rfl ?hq ?_
  case hq =>
    refine WO.load rfl rfl (Cell.own Pick.head rfl) rfl ?_
    exact WO.nil ⟨rfl, rfl⟩
  refine' DT.r rfl rfl rfl ?hq ?_
  case hq =>
    refine WO.fieldL rfl rfl rfl ?_
    exact WO.nil ⟨rfl, rfl⟩
  refine' DT.b rfl rfl rfl ?hq ?_
  case hq =>
    refine WO.load rfl rfl (Cell.own Pick.head rfl) rfl ?_
    exact WO.nil ⟨rfl, rfl⟩
  refine' DT.r rfl rfl rfl ?hq ?_
  case hq =>
    refine WO.quo rfl rfl (by first | omega | assumption) (by (first | (unfold in64; omega) | (exact tdiv_in ha hb ha') | (exact tdiv_in hc hd hc') | (exact mulmod_in ha hb hb' hd hd') | (exact mulmod_in hc hd hd' hb hb'))) rfl ?_
    exact WO.nil ⟨rfl, rfl⟩
  refine DT.nil [_, _] rfl ?_
  refine WO.p rfl rfl ?_
  refine WO.nil ?_
  refine W.cond_bl rfl (fun c1 => ?_) (fun c1 => ?_)
  · first
    | (exfalso; omega)
    | (refine W.seq ?_
       refine W.drawD 10 [.r 0 [], .b 1 [], .r 2 [], .b 3 [], .r 4 [], .r 5 [], .b 6 [], .r 7 [], .b 8 [], .r 9 []] [] (A0 := []) (Sub.refl _) (by kernel_rfl) ?_ ?_
       · exact (ALok.r (ALok.b (ALok.r (ALok.b (ALok.r (ALok.r (ALok.b (ALok.r (ALok.b (ALok.r ALok.nil))))))))))
       refine' DT.r rfl rfl rfl ?hq ?_
       case hq =>
         refine WO.field0 rfl rfl rfl ?_
         exact WO.nil ⟨rfl, rfl⟩
       refine' DT.b rfl rfl rfl ?hq ?_
       case hq =>
         refine WO.load rfl rfl (Cell.own (Pick.tail (Pick.head)) rfl) rfl ?_
         exact WO.nil ⟨rfl, rfl⟩
       refine' DT.r rfl rfl rfl ?hq ?_
       case hq =>
         refine WO.fieldL rfl rfl rfl ?_
         exact WO.nil ⟨rfl, rfl⟩
       refine' DT.b rfl rfl rfl ?hq ?_
       case hq =>
         refine WO.load rfl rfl (Cell.own (Pick.tail (Pick.head)) rfl) rfl ?_
         exact WO.nil ⟨rfl, rfl⟩
       refine' DT.r rfl rfl rfl ?hq ?_
       case hq =>
         refine WO.quo rfl rfl (by first | omega | assumption) (by (first | (unfold in64; omega) | (exact tdiv_in ha hb ha') | (exact tdiv_in hc hd hc') | (exact mulmod_in ha hb hb' hd hd') | (exact mulmod_in hc hd hd' hb hb'))) rfl ?_
         exact WO.nil ⟨rfl, rfl⟩
       refine' DT.r rfl rfl rfl ?hq ?_
       case hq =>
         refine WO.field0 rfl rfl rfl ?_
         exact WO.nil ⟨rfl, rfl⟩
       refine' DT.b rfl rfl rfl ?hq ?_
       case hq =>
         refine WO.load rfl rfl (Cell.own Pick.head rfl) rfl ?_
         exact WO.nil ⟨rfl, rfl⟩
       refine' DT.r rfl rfl rfl ?hq ?_
       case hq =>
         refine WO.fieldL rfl rfl rfl ?_
         exact WO.nil ⟨rfl, rfl⟩
       refine' DT.b rfl rfl rfl ?hq ?_
       case hq =>
         refine WO.load rfl rfl (Cell.own Pick.head rfl) rfl ?_
         exact WO.nil ⟨rfl, rfl⟩
       refine' DT.r rfl rfl rfl ?hq ?_
       case hq =>
         refine WO.quo rfl rfl (by first | omega | assumption) (by (first | (unfold in64; omega) | (exact tdiv_in ha hb ha') | (exact tdiv_in hc hd hc') | (exact mulmod_in ha hb hb' hd hd') | (exact mulmod_in hc hd hd' hb hb'))) rfl ?_
         exact WO.nil ⟨rfl, rfl⟩
       refine DT.nil [_, _] rfl ?_
       refine WO.p rfl rfl (WO.p rfl rfl ?_)
       refine WO.nil ?_
       refine W.ret ?_
       refine fin.ret (Res.one rfl (RV.tmp rfl)) ?_
       refine congrArg Value.bool ?_
       first | exact lessQ_1 (by assumption) | exact lessQ_2 (by assumption))
  · first
    | (exfalso; omega)
    | (refine W.skip ?_
       refine W.seq ?_
       refine W.drawD 16 [.r 0 [], .b 1 [], .r 2 [], .b 3 [], .r 4 [], .r 5 [], .b 6 [], .r 7 [], .r 8 [], .b 9 [], .r 10 [], .b 11 [], .r 12 [], .r 13 [], .b 14 [], .r 15 []] [] (A0 := []) (Sub.refl _) (by kernel_rfl) ?_ ?_
       · exact (ALok.r (ALok.b (ALok.r (ALok.b (ALok.r (ALok.r (ALok.b (ALok.r (ALok.r (ALok.b (ALok.r (ALok.b (ALok.r (ALok.r (ALok.b (ALok.r ALok.nil))))))))))))))))
       refine' DT.r rfl rfl rfl ?hq ?_
       case hq =>
         refine WO.field0 rfl rfl rfl ?_
         exact WO.nil ⟨rfl, rfl⟩
       refine' DT.b rfl rfl rfl ?hq ?_
       case hq =>
         refine WO.load rfl rfl (Cell.own (Pick.tail (Pick.head)) rfl) rfl ?_
         exact WO.nil ⟨rfl, rfl⟩
       refine' DT.r rfl rfl rfl ?hq ?_
       case hq =>
         refine WO.fieldL rfl rfl rfl ?_
         exact WO.nil ⟨rfl, rfl⟩
       refine' DT.b rfl rfl rfl ?hq ?_
       case hq =>
         refine WO.load rfl rfl (Cell.own (Pick.tail (Pick.head)) rfl) rfl ?_
         exact WO.nil ⟨rfl, rfl⟩
       refine' DT.r rfl rfl rfl ?hq ?_
       case hq =>
         refine WO.rem rfl rfl (by first | omega | assumption) rfl ?_
         exact WO.nil ⟨rfl, rfl⟩
       refine' DT.r rfl rfl rfl ?hq ?_
       case hq =>
         refine WO.fieldL rfl rfl rfl ?_
         exact WO.nil ⟨rfl, rfl⟩
       refine' DT.b rfl rfl rfl ?hq ?_
       case hq =>
         refine WO.load rfl rfl (Cell.own Pick.head rfl) rfl ?_
         exact WO.nil ⟨rfl, rfl⟩
       refine' DT.r rfl rfl rfl ?hq ?_
       case hq =>
         refine WO.ar rfl rfl rfl (by (first | (unfold in64; omega) | (exact tdiv_in ha hb ha') | (exact tdiv_in hc hd hc') | (exact mulmod_in ha hb hb' hd hd') | (exact mulmod_in hc hd hd' hb hb'))) rfl ?_
         exact WO.nil ⟨rfl, rfl⟩
       refine' DT.r rfl rfl rfl ?hq ?_
       case hq =>
         refine WO.field0 rfl rfl rfl ?_
         exact WO.nil ⟨rfl, rfl⟩
       refine' DT.b rfl rfl rfl ?hq ?_
       case hq =>
         refine WO.load rfl rfl (Cell.own Pick.head rfl) rfl ?_
         exact WO.nil ⟨rfl, rfl⟩
       refine' DT.r rfl rfl rfl ?hq ?_
       case hq =>
         refine WO.fieldL rfl rfl rfl ?_
         exact WO.nil ⟨rfl, rfl⟩
       refine' DT.b rfl rfl rfl ?hq ?_
       case hq =>
         refine WO.load rfl rfl (Cell.own Pick.head rfl) rfl ?_
         exact WO.nil ⟨rfl, rfl⟩
       refine' DT.r rfl rfl rfl ?hq ?_
       case hq =>
         refine WO.rem rfl rfl (by first | omega | assumption) rfl ?_
         exact WO.nil ⟨rfl, rfl⟩
       refine' DT.r rfl rfl rfl ?hq ?_
       case hq =>
         refine WO.fieldL rfl rfl rfl ?_
         exact WO.nil ⟨rfl, rfl⟩
       refine' DT.b rfl rfl rfl ?hq ?_
       case hq =>
         refine WO.load rfl rfl (Cell.own (Pick.tail (Pick.head)) rfl) rfl ?_
         exact WO.nil ⟨rfl, rfl⟩
       refine' DT.r rfl rfl rfl ?hq ?_
       case hq =>
         refine WO.ar rfl rfl rfl (by (first | (unfold in64; omega) | (exact tdiv_in ha hb ha') | (exact tdiv_in hc hd hc') | (exact mulmod_in ha hb hb' hd hd') | (exact mulmod_in hc hd hd' hb hb'))) rfl ?_
         exact WO.nil ⟨rfl, rfl⟩
       refine DT.nil [_, _] rfl ?_
       refine WO.p rfl rfl (WO.p rfl rfl ?_)
       refine WO.nil ?_
       refine W.ret ?_
       refine fin.ret (Res.one rfl (RV.tmp rfl)) ?_
       refine congrArg Value.bool ?_
       first | exact lessQ_1 (by assumption) | exact lessQ_2 (by assumption))
end Go.Proofs.Ytgihklgpehfbpaa

