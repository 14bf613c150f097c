/-
  What is proved here: the smallest circle of three points (no program in sight). Conditions: none; each theorem states its own.
  What is proved here: the law TurnThree. Conditions: none; each contract states its own.
-/
import Derived.Test.YtkhplcncfogolaaM10
namespace Go.Proofs.Ytkhplcncfogolaa
open Go Go.TH Go.TH.Dsc
theorem mid_rot {D : Dsc} {a b c : Rat × Rat} {u v w : Rat} (h : Mid D a b c u v w) : Mid D b c a v w u :=
  ⟨by have := h.one; grind, by have := h.x; grind, by have := h.y; grind, fun p hp => h.on p (by simp at hp ⊢; rcases hp with rfl | rfl | rfl <;> simp)⟩
/-- the weight of a point whose angle is not above a right one -/
theorem mid_acute {D : Dsc} {a b c : Rat × Rat} {u v w : Rat} (h : Mid D a b c u v w) (hx : (b.1 - a.1) * (c.2 - a.2) - (b.2 - a.2) * (c.1 - a.1) ≠ 0) (hb : 0 ≤ (a.1 - b.1) * (c.1 - b.1) + (a.2 - b.2) * (c.2 - b.2)) : 0 ≤ v := by
  have k1 := h.one; have k2 := h.x; have k3 := h.y
  have f1 := h.on a (by simp); have f2 := h.on b (by simp); have f3 := h.on c (by simp)
  unfold f at f1 f2 f3
  have o1 : D.x = a.1 + v * (b.1 - a.1) + w * (c.1 - a.1) := by grind
  have o2 : D.y = a.2 + v * (b.2 - a.2) + w * (c.2 - a.2) := by grind
  have e1 : (b.1 - a.1) * (b.1 - a.1) + (b.2 - a.2) * (b.2 - a.2) = 2 * ((b.1 - a.1) * (D.x - a.1) + (b.2 - a.2) * (D.y - a.2)) := by grind
  have e2 : (c.1 - a.1) * (c.1 - a.1) + (c.2 - a.2) * (c.2 - a.2) = 2 * ((c.1 - a.1) * (D.x - a.1) + (c.2 - a.2) * (D.y - a.2)) := by grind
  have hb' : (a.1 - b.1) * (c.1 - b.1) + (a.2 - b.2) * (c.2 - b.2) = ((b.1 - a.1) * (b.1 - a.1) + (b.2 - a.2) * (b.2 - a.2)) - ((b.1 - a.1) * (c.1 - a.1) + (b.2 - a.2) * (c.2 - a.2)) := by grind
  rw [hb'] at hb
  have d1 : D.x - a.1 = v * (b.1 - a.1) + w * (c.1 - a.1) := by grind
  have d2 : D.y - a.2 = v * (b.2 - a.2) + w * (c.2 - a.2) := by grind
  rw [d1, d2] at e1 e2
  clear k1 k2 k3 f1 f2 f3 o1 o2 d1 d2 hb'
  generalize b.1 - a.1 = B1 at *
  generalize b.2 - a.2 = B2 at *
  generalize c.1 - a.1 = C1 at *
  generalize c.2 - a.2 = C2 at *
  have key : v * (2 * ((B1 * C2 - B2 * C1) * (B1 * C2 - B2 * C1))) = (C1 * C1 + C2 * C2) * ((B1 * B1 + B2 * B2) - (B1 * C1 + B2 * C2)) := by grind
  have hpos : 0 < (B1 * C2 - B2 * C1) * (B1 * C2 - B2 * C1) := by
    rcases Rat.le_iff_lt_or_eq.1 (sq_nn (B1 * C2 - B2 * C1)) with g | g
    · exact g
    · exact absurd (sq_0 (by rw [← g]; exact Rat.le_refl)) hx
  have hn := Rat.mul_nonneg (two_nn C1 C2) hb
  exact nn_of (b := 2 * ((B1 * C2 - B2 * C1) * (B1 * C2 - B2 * C1))) (by grind) (by rw [key]; exact hn)
theorem acute_best {a b c : Rat × Rat} (hx : (b.1 - a.1) * (c.2 - a.2) - (b.2 - a.2) * (c.1 - a.1) ≠ 0) (ha : 0 ≤ (b.1 - a.1) * (c.1 - a.1) + (b.2 - a.2) * (c.2 - a.2)) (hb : 0 ≤ (c.1 - b.1) * (a.1 - b.1) + (c.2 - b.2) * (a.2 - b.2)) (hc : 0 ≤ (a.1 - c.1) * (b.1 - c.1) + (a.2 - c.2) * (b.2 - c.2)) : Best [a, b, c] [] (thr a b c) := by
  obtain ⟨u, v, w, k1, k2, k3⟩ := bary hx (thr a b c).x (thr a b c).y
  have h : Mid (thr a b c) a b c u v w := ⟨k1, k2, k3, thr_on hx⟩
  have hx2 : (c.1 - b.1) * (a.2 - b.2) - (c.2 - b.2) * (a.1 - b.1) ≠ 0 := by grind
  have hx3 : (a.1 - c.1) * (b.2 - c.2) - (a.2 - c.2) * (b.1 - c.1) ≠ 0 := by grind
  exact h.best (mid_acute (mid_rot (mid_rot h)) hx3 (by grind)) (mid_acute h hx (by grind)) (mid_acute (mid_rot h) hx2 (by grind))
theorem betw_f (p q r : Rat × Rat) : f (betw p q) r = (p.1 - r.1) * (q.1 - r.1) + (p.2 - r.2) * (q.2 - r.2) := by unfold f betw; dsimp only; grind
def ang (p q r : Int × Int) : Int := (q.1 - p.1) * (r.1 - p.1) + (q.2 - p.2) * (r.2 - p.2)
theorem ang_q (p q r : Int × Int) : ((ang p q r : Int) : Rat) = ((toQ q).1 - (toQ p).1) * ((toQ r).1 - (toQ p).1) + ((toQ q).2 - (toQ p).2) * ((toQ r).2 - (toQ p).2) := by
  unfold ang toQ; simp only [Rat.intCast_sub, Rat.intCast_mul, Rat.intCast_add]
theorem ang_nn {p q r : Int × Int} (h : 0 ≤ ang p q r) : 0 ≤ ((toQ q).1 - (toQ p).1) * ((toQ r).1 - (toQ p).1) + ((toQ q).2 - (toQ p).2) * ((toQ r).2 - (toQ p).2) := by
  rw [← ang_q]; exact_mod_cast h
theorem ang_neg {p q r : Int × Int} (h : ang p q r < 0) : ((toQ q).1 - (toQ p).1) * ((toQ r).1 - (toQ p).1) + ((toQ q).2 - (toQ p).2) * ((toQ r).2 - (toQ p).2) < 0 := by
  rw [← ang_q]; exact_mod_cast h
theorem okL_three {a b c : Int × Int} (ha : OkP a) (hb : OkP b) (hc : OkP c) : OkL [a, b, c] := fun q hq => by
  simp at hq; rcases hq with rfl | rfl | rfl <;> assumption
theorem thr_whr {a b c : Int × Int} (hx : cross a b c ≠ 0) {q : Int × Int} (hq : q ∈ [a, b, c]) : whr (thrC a b c) q = 0 := by
  have hc := mkR_can (x := nx a b c) (y := ny a b c) (den := 2 * cross a b c) a (by omega)
  refine (whr_zero hc.den hc.d q).2 ?_
  show f (toD (thrC a b c)) (toQ q) = 0
  rw [thrC_toD hx]
  exact thr_on (cross_ne.1 hx) _ (by simp at hq ⊢; rcases hq with rfl | rfl | rfl <;> simp)
theorem acute_law {a b c : Int × Int} (ha : OkP a) (hb : OkP b) (hc : OkP c) (hx : cross a b c ≠ 0) (h1 : 0 ≤ ang a b c) (h2 : 0 ≤ ang b c a) (h3 : 0 ≤ ang c a b) : lst [a, b, c] = thrC a b c := by
  refine (lst_eqD (okL_three ha hb hc) (by simp) (mkR_can a (by omega)) ?_).symm
  show Best _ [] (toD (thrC a b c))
  rw [thrC_toD hx]
  exact acute_best (cross_ne.1 hx) (ang_nn h1) (ang_nn h2) (ang_nn h3)
theorem wide_law {a b c : Int × Int} (ha : OkP a) (hb : OkP b) (hc : OkP c) (hx : cross a b c ≠ 0) (h1 : ang a b c < 0) : lst [a, b, c] = betwC b c ∧ lessC (betwC b c) (thrC a b c) := by
  have hn := ang_neg h1
  have hf : f (betw (toQ b) (toQ c)) (toQ a) < 0 := by rw [betw_f]; exact hn
  have hh : Hold (betw (toQ b) (toQ c)) [toQ a, toQ b, toQ c] := fun q hq => by
    simp at hq
    rcases hq with rfl | rfl | rfl
    · grind
    · rw [betw_on (toQ b) (toQ c) (toQ b) (by simp)]; exact Rat.le_refl
    · rw [betw_on (toQ b) (toQ c) (toQ c) (by simp)]; exact Rat.le_refl
  have hb0 := (Mid.betw (toQ b) (toQ c)).best (by grind) (by grind) (by grind)
  have hbest : Best [toQ a, toQ b, toQ c] [] (betw (toQ b) (toQ c)) := hb0.sub (fun p hp => by simp at hp ⊢; rcases hp with rfl | rfl | rfl <;> simp) hh
  have cb := mkR_can (x := b.1 + c.1) (y := b.2 + c.2) (den := 2) b (by omega)
  have ct := mkR_can (x := nx a b c) (y := ny a b c) (den := 2 * cross a b c) a (by omega)
  refine ⟨(lst_eqD (c := betwC b c) (okL_three ha hb hc) (by simp) cb (by rw [betwC_toD]; exact hbest)).symm, ?_⟩
  refine (less_lst (a := betwC b c) (b := thrC a b c) cb ct).2 ?_
  rw [betwC_toD, thrC_toD hx]
  have ho := thr_on (cross_ne.1 hx)
  refine Rat.not_le.1 fun hle => ?_
  have e := hbest.uniq (fun q hq => by rw [ho q hq]; exact Rat.le_refl) (fun q hq => by simp at hq) hle
  have := ho (toQ a) (by simp)
  rw [e] at this
  grind
theorem cross_rot (a b c : Int × Int) : cross b c a = cross a b c := by unfold cross; grind
theorem thrC_rot {a b c : Int × Int} (hx : cross a b c ≠ 0) : thrC b c a = thrC a b c := thrC_perm (by rw [cross_rot]; exact hx) hx (fun p hp => by simp at hp ⊢; rcases hp with rfl | rfl | rfl <;> simp)
theorem lst_rot {a b c : Int × Int} (ha : OkP a) (hb : OkP b) (hc : OkP c) : lst [b, c, a] = lst [a, b, c] := lst_set (okL_three hb hc ha) (by simp) (fun p => by simp; constructor <;> (rintro (h | h | h) <;> simp [h]))
/-- whichever angle is above a right one -/
theorem wide_at {t : Pts} {a b c : Int × Int} (ht : t = [a, b, c]) (ha : OkP a) (hb : OkP b) (hc : OkP c) (hx : cross a b c ≠ 0) {j : Nat} (hj : j < 3) (h1 : ang (t.at j) (t.at ((j + 1) % 3)) (t.at ((j + 2) % 3)) < 0) : lst t = betwC (t.at ((j + 1) % 3)) (t.at ((j + 2) % 3)) ∧ lessC (betwC (t.at ((j + 1) % 3)) (t.at ((j + 2) % 3))) (thrC a b c) := by
  subst ht
  have hx2 : cross b c a ≠ 0 := by rw [cross_rot]; exact hx
  match j, hj with
  | 0, _ => exact wide_law ha hb hc hx h1
  | 1, _ =>
    have := wide_law hb hc ha hx2 h1
    rw [lst_rot ha hb hc, thrC_rot hx] at this
    exact this
  | 2, _ =>
    have := wide_law hc ha hb (by rw [cross_rot]; exact hx2) h1
    rw [lst_rot hb hc ha, lst_rot ha hb hc, thrC_rot hx2, thrC_rot hx] at this
    exact this
theorem acute_at {t : Pts} {a b c : Int × Int} (ht : t = [a, b, c]) (ha : OkP a) (hb : OkP b) (hc : OkP c) (hx : cross a b c ≠ 0) (h : ∀ j, j < 3 → 0 ≤ ang (t.at j) (t.at ((j + 1) % 3)) (t.at ((j + 2) % 3))) : lst t = thrC a b c := by
  subst ht
  exact acute_law ha hb hc hx (h 0 (by omega)) (h 1 (by omega)) (h 2 (by omega))
end Go.Proofs.Ytkhplcncfogolaa
namespace Go.Proofs.Ytkhplcncfogolaa
open Go Go.TH Go.TH.Dsc
attribute [local irreducible] W WO pt
set_option maxRecDepth 10000
set_option maxHeartbeats 1000000
theorem OwE.cellsPf {C : Cx Try.prog} {H : List HP} {e : Nat} {v : Value} {l : Pts} {i : Nat} {a b : Int} (s : Sub H [OwE encP e 2 v l]) (hi : i < l.length) (h : l.at i = (a, b)) : Cells C H (elt v i 2) [.int .i64 a, .int .i64 b] := by
  have := OwE.cellsP (C := C) s hi
  rw [h] at this; exact this
def trC (a b c : Int × Int) : Cir := if cross a b c = 0 then ⟨0, 0, 0, 0, 0⟩ else thrC a b c
def trE (a b c : Int × Int) : Int := if cross a b c = 0 then 5 else 0
theorem thrV_tr {a b c : Int × Int} (h : OkP a ∧ OkP b ∧ OkP c) : thrV a b c = .tuple #[cirV (trC a b c), .int .i64 (trE a b c)] := by
  unfold trC trE
  split
  · rename_i h0; rw [thrV_5 h h0]
  · rename_i h0; rw [thrV_0 h h0]
theorem m200 {x y : Int} (hx : -200 ≤ x ∧ x ≤ 200) (hy : -200 ≤ y ∧ y ≤ 200) : -40000 ≤ x * y ∧ x * y ≤ 40000 := by
  have h1 : (x * y).natAbs ≤ 200 * 200 := by rw [Int.natAbs_mul]; exact Nat.mul_le_mul (by omega) (by omega)
  omega
/-- the angle at a point -/
def angI (t : Pts) (j : Nat) : Int := ang (t.at j) (t.at ((j + 1) % 3)) (t.at ((j + 2) % 3))
def Wd (t : Pts) (i : Nat) (g : Int) : Prop := (g = -1 ∧ ∀ j, j < i → 0 ≤ angI t j) ∨ ∃ j : Nat, j < 3 ∧ g = (j : Int) ∧ angI t j < 0
theorem Wd.next {t : Pts} {i : Nat} {g : Int} (h : Wd t i g) (h0 : ¬ angI t i < 0) : Wd t (i + 1) g := by
  rcases h with ⟨h1, h2⟩ | h
  · refine .inl ⟨h1, fun j hj => ?_⟩
    rcases Nat.lt_or_ge j i with k | k
    · exact h2 j k
    · obtain rfl : i = j := by omega
      omega
  · exact .inr h
theorem i3 {i k : Nat} (_h : i < 3) : ((i : Int) + (k : Int)).tmod 3 = (((i + k) % 3 : Nat) : Int) := by
  rw [Int.tmod_eq_emod_of_nonneg (by omega)]; omega
theorem law_TurnThree (w : World) (a b c : Int × Int) : Ret Try.prog 8 [ptV a, ptV b, ptV c].toArray w (.bool true) := by
  refine Ret.of mixed tyTab Try.func8 rfl rfl ?_
  refine W.sreg ?_
  refine WO.boxA rfl rfl (fun b1 hb1 => ?_)
  refine WO.boxA rfl rfl (fun b2 hb2 => ?_)
  refine WO.boxA rfl rfl (fun b3 hb3 => ?_)
  refine WO.p rfl rfl ?_
  refine WO.nil ?_
  refine W.sreg ?_
  refine WO.loadA rfl rfl (Cells.own (Pick.tail (Pick.tail (Pick.head)))) rfl rfl (WO.loadA rfl rfl (Cells.own (Pick.tail (Pick.head))) rfl rfl (WO.loadA rfl rfl (Cells.own Pick.head) rfl rfl ?_))
  refine' WO.buildSl (cs := _) rfl rfl rfl rfl ?hf rfl rfl ?hl rfl (fun v4 => ?_)
  case hf => (conv => lhs; simp [-List.getD_eq_getElem?_getD, fillL, vcl, wrl, TTab.pl?.lget']) <;> rfl
  case hl => rfl
  refine WO.p rfl rfl ?_
  refine WO.nil ?_
  refine W.seq ?_
  refine W.fact (OwE.sl (enc := encP) (e := 39) (sz := 2) (v := .slice (some ⟨v4, 0, none⟩) 3 3) (xs := [a, b, c]) (by repeat (first | exact Pick.head | apply Pick.tail))) (fun hls => ?_)
  generalize (Value.slice (some ⟨v4, 0, none⟩) 3 3) = lv at hls ⊢
  refine W.sreg ?_
  refine WO.p rfl rfl ?_
  refine WO.callR rfl Try.call21 (fun L w hi => law_fine w lv [a, b, c] (RdF.of_ow (e := 39) encP_ok (by repeat (first | exact Pick.head | apply Pick.tail)) hi)) rfl ?_
  refine WO.p rfl rfl ?_
  refine WO.nil ?_
  refine W.cond_nbl rfl (fun c1 => ?_) (fun c1 => ?_)
  · first
    | (exfalso; omega)
    | (refine W.sreg ?_
       refine WO.callR rfl Try.call14 (fun L w hi => law_Works w) rfl ?_
       refine WO.p rfl rfl ?_
       refine WO.nil ?_
       refine W.ret ?_
       exact fin.ret (Res.one rfl (RV.tmp rfl)) rfl)
  · first
    | (exfalso; omega)
    | (refine W.skip ?_
       have h00 : chkL [a, b, c] = 0 := by assumption
       have hok := chkL0.1 h00
       have ha : OkP a := hok.2 a (by simp)
       have hb : OkP b := hok.2 b (by simp)
       have hc : OkP c := hok.2 c (by simp)
       have hsm := lst_sm hok.2 (by simp)
       refine W.sreg ?_
       refine WO.loadA rfl rfl (Cells.own (Pick.tail (Pick.tail (Pick.tail (Pick.head))))) rfl rfl (WO.loadA rfl rfl (Cells.own (Pick.tail (Pick.tail (Pick.head)))) rfl rfl (WO.loadA rfl rfl (Cells.own (Pick.tail (Pick.head))) rfl rfl ?_))
       refine WO.callR (r := .tuple #[cirV (trC a b c), .int .i64 (trE a b c)]) rfl Try.call28 (fun L w hi => by rw [← thrV_tr ⟨ha, hb, hc⟩]; exact c_Through w a b c) rfl ?_
       refine WO.p rfl rfl (WO.p rfl rfl (WO.p rfl rfl ?_))
       refine WO.alloc rfl rfl rfl (fun b5 hb5 => ?_)
       refine WO.storeA rfl rfl rfl rfl Pick.head rfl rfl (WO.p rfl rfl ?_)
       refine WO.nil ?_
       refine W.sreg ?_
       refine WO.p rfl rfl ?_
       refine WO.callR (r := .tuple #[cirV (lst [a, b, c]), .int .i64 0]) rfl Try.call15 (fun L w hi => by have h := c_Smallest w lv [a, b, c] (RdF.of_ow (e := 39) encP_ok (by repeat (first | exact Pick.head | apply Pick.tail)) hi); rw [h00, if_pos rfl] at h; exact h) rfl ?_
       refine WO.p rfl rfl (WO.p rfl rfl (WO.p rfl rfl ?_))
       refine WO.alloc rfl rfl rfl (fun b6 hb6 => ?_)
       refine WO.storeA rfl rfl rfl rfl Pick.head rfl rfl (WO.p rfl rfl ?_)
       refine WO.nil ?_
       refine W.seq ?_
       refine W.sreg ?_
       refine WO.p rfl rfl (WO.p rfl rfl (WO.p rfl rfl ?_))
       refine WO.guard_bl rfl rfl (fun c2 => ?_) (fun c2 => ?_)
       · first
         | (exfalso; omega)
         | (refine WO.no rfl rfl (WO.no rfl rfl (WO.no rfl rfl (WO.p rfl rfl ?_)))
            refine WO.nil ?_
            refine W.cond_t rfl ?_
            refine W.sreg ?_
            refine WO.p rfl rfl ?_
            refine WO.nil ?_
            refine W.ret ?_
            exact fin.ret (Res.one rfl (RV.tmp rfl)) rfl)
       · first
         | (exfalso; omega)
         | (refine WO.go' rfl (WO.loadA rfl rfl (Cells.own Pick.head) rfl rfl (WO.go' rfl ?_))
            refine WO.callR (r := .int .i64 0) rfl Try.call22 (fun L w hi => by have h := ref_CheckCircle w (lst [a, b, c]); rw [chkR0.2 hsm.ok] at h; exact h) rfl ?_
            refine WO.pg rfl rfl rfl (WO.p rfl rfl ?_)
            refine WO.nil ?_
            refine W.cond_bl rfl (fun c3 => ?_) (fun c3 => ?_)
            · first
              | (exfalso; omega)
              | (refine W.sreg ?_
                 refine WO.p rfl rfl ?_
                 refine WO.nil ?_
                 refine W.ret ?_
                 exact fin.ret (Res.one rfl (RV.tmp rfl)) rfl)
            · first
              | (exfalso; omega)
              | (refine W.skip ?_
                 have oa := ha
                 have ob := hb
                 have oc := hc
                 unfold OkP at oa ob oc
                 have m1 := m200 (x := b.1 - a.1) (y := c.2 - a.2) (by omega) (by omega)
                 have m2 := m200 (x := b.2 - a.2) (y := c.1 - a.1) (by omega) (by omega)
                 refine W.sreg ?_
                 refine WO.field0 rfl rfl rfl (WO.load rfl rfl (Cell.own (Pick.tail (Pick.tail (Pick.tail (Pick.tail (Pick.head))))) rfl) rfl (WO.field0 rfl rfl rfl (WO.load rfl rfl (Cell.own (Pick.tail (Pick.tail (Pick.tail (Pick.tail (Pick.tail (Pick.head)))))) rfl) rfl (WO.ar rfl rfl rfl (by (first | (unfold in64; omega) | (unfold in64; omega))) rfl (WO.fieldL rfl rfl rfl (WO.load rfl rfl (Cell.own (Pick.tail (Pick.tail (Pick.tail (Pick.head)))) rfl) rfl (WO.fieldL rfl rfl rfl (WO.load rfl rfl (Cell.own (Pick.tail (Pick.tail (Pick.tail (Pick.tail (Pick.tail (Pick.head)))))) rfl) rfl (WO.ar rfl rfl rfl (by (first | (unfold in64; omega) | (unfold in64; omega))) rfl (WO.ar rfl rfl rfl (by (first | (unfold in64; omega) | (unfold in64; omega))) rfl (WO.fieldL rfl rfl rfl ?_)))))))))))
                 refine WO.load rfl rfl (Cell.own (Pick.tail (Pick.tail (Pick.tail (Pick.tail (Pick.head))))) rfl) rfl (WO.fieldL rfl rfl rfl (WO.load rfl rfl (Cell.own (Pick.tail (Pick.tail (Pick.tail (Pick.tail (Pick.tail (Pick.head)))))) rfl) rfl (WO.ar rfl rfl rfl (by (first | (unfold in64; omega) | (unfold in64; omega))) rfl (WO.field0 rfl rfl rfl (WO.load rfl rfl (Cell.own (Pick.tail (Pick.tail (Pick.tail (Pick.head)))) rfl) rfl (WO.field0 rfl rfl rfl (WO.load rfl rfl (Cell.own (Pick.tail (Pick.tail (Pick.tail (Pick.tail (Pick.tail (Pick.head)))))) rfl) rfl (WO.ar rfl rfl rfl (by (first | (unfold in64; omega) | (unfold in64; omega))) rfl (WO.ar rfl rfl rfl (by (first | (unfold in64; omega) | (unfold in64; omega))) rfl (WO.ar rfl rfl rfl (by (first | (unfold in64; omega) | (unfold in64; omega))) rfl (WO.p rfl rfl ?_)))))))))))
                 refine WO.nil ?_
                 refine W.seq ?_
                 refine W.sreg ?_
                 refine WO.p rfl rfl (WO.p rfl rfl ?_)
                 refine WO.nil ?_
                 refine W.cond_bl rfl (fun c4 => ?_) (fun c4 => ?_)
                 · first
                   | (exfalso; omega)
                   | (have hx : cross a b c = 0 := by assumption
                      have hte : trE a b c = 5 := if_pos hx
                      refine W.sreg ?_
                      refine WO.p rfl rfl (WO.p rfl rfl (WO.p rfl rfl ?_))
                      refine WO.guard_bl rfl rfl (fun c5 => ?_) (fun c5 => ?_)
                      · first
                        | (exfalso; omega)
                        | (refine WO.go' rfl ?_
                           refine WO.callR rfl Try.call14 (fun L w hi => law_Works w) rfl ?_
                           refine WO.p rfl rfl (WO.p rfl rfl ?_)
                           refine WO.nil ?_
                           refine W.ret ?_
                           exact fin.ret (Res.one rfl (RV.tmp rfl)) rfl)
                      · first
                        | (exfalso; omega)
                        | (refine WO.no rfl rfl (WO.p rfl rfl (WO.p rfl rfl ?_))
                           refine WO.nil ?_
                           refine W.ret ?_
                           exact fin.ret (Res.one rfl (RV.tmp rfl)) rfl))
                 · first
                   | (exfalso; omega)
                   | (refine W.skip ?_
                      refine W.seq ?_
                      have hx : cross a b c ≠ 0 := by assumption
                      have hte : trE a b c = 0 := if_neg hx
                      rw [show trC a b c = thrC a b c from if_neg hx]
                      have hto := thrC_ok ha hb hc hx
                      refine W.sreg ?_
                      refine WO.p rfl rfl (WO.p rfl rfl (WO.p rfl rfl ?_))
                      refine WO.guard_bl rfl rfl (fun c6 => ?_) (fun c6 => ?_)
                      · first
                        | (exfalso; omega)
                        | (refine WO.no rfl rfl (WO.no rfl rfl (WO.no rfl rfl (WO.p rfl rfl ?_)))
                           refine WO.nil ?_
                           refine W.cond_t rfl ?_
                           refine W.sreg ?_
                           refine WO.p rfl rfl ?_
                           refine WO.nil ?_
                           refine W.ret ?_
                           exact fin.ret (Res.one rfl (RV.tmp rfl)) rfl)
                      · first
                        | (exfalso; omega)
                        | (refine WO.go' rfl (WO.loadA rfl rfl (Cells.own (Pick.tail (Pick.head))) rfl rfl (WO.go' rfl ?_))
                           refine WO.callR (r := .int .i64 0) rfl Try.call22 (fun L w hi => by have h := ref_CheckCircle w (thrC a b c); rw [chkR0.2 hto] at h; exact h) rfl ?_
                           refine WO.pg rfl rfl rfl (WO.p rfl rfl ?_)
                           refine WO.nil ?_
                           refine W.cond_bl rfl (fun c7 => ?_) (fun c7 => ?_)
                           · first
                             | (exfalso; omega)
                             | (refine W.sreg ?_
                                refine WO.p rfl rfl ?_
                                refine WO.nil ?_
                                refine W.ret ?_
                                exact fin.ret (Res.one rfl (RV.tmp rfl)) rfl)
                           · first
                             | (exfalso; omega)
                             | (refine W.skip ?_
                                refine W.sreg ?_
                                refine WO.p rfl rfl ?_
                                refine WO.nil ?_
                                refine W.seq ?_
                                refine W.sreg ?_
                                refine WO.p rfl rfl ?_
                                refine WO.nil ?_
                                refine W.block ?_
                                refine W.loop2 (fun (i : Nat) (g : Int) => i ≤ 3 ∧ Wd [a, b, c] i g)
                                  (fun (i : Nat) (g : Int) => [(14, .int .i64 (i : Int)), (13, .int .i64 g), (10, .pointer (some ⟨b6, 0, none⟩)), (8, .pointer (some ⟨b5, 0, none⟩)), (7, lv)])
                                  (fun (i : Nat) (g : Int) => [pt b6 (.cells #[.int .i64 (lst [a, b, c]).x, .int .i64 (lst [a, b, c]).y, .int .i64 (lst [a, b, c]).den, .int .i64 (lst [a, b, c]).n, .int .i64 (lst [a, b, c]).d] 27 (0, 0)), pt b5 (.cells #[.int .i64 (thrC a b c).x, .int .i64 (thrC a b c).y, .int .i64 (thrC a b c).den, .int .i64 (thrC a b c).n, .int .i64 (thrC a b c).d] 27 (0, 0)), OwE encP 39 2 lv [a, b, c]])
                                  (fun (i : Nat) (g : Int) => 3 - i) 0 (-1)
                                  (by exact ⟨by omega, .inl ⟨rfl, fun j hj => by omega⟩⟩) ⟨rfl, rfl, rfl, rfl, rfl, trivial⟩ (by repeat (first | exact Sub.nil | refine Sub.cons (by repeat (first | exact Pick.head | apply Pick.tail)) ?_)) ?_
                                rintro i g ⟨hi0, hwd⟩
                                refine W.seq ?_
                                refine W.sreg ?_
                                refine WO.p rfl rfl (WO.p rfl rfl ?_)
                                refine WO.nil ?_
                                refine W.cond_bl rfl (fun c8 => ?_) (fun c8 => ?_)
                                · first
                                  | (exfalso; omega)
                                  | (refine W.skip ?_
                                     refine W.seq ?_
                                     refine W.block ?_
                                     refine W.seq ?_
                                     obtain ⟨⟨x1, y1⟩, e1⟩ : ∃ q, Pts.at [a, b, c] i = q := ⟨_, rfl⟩
                                     have q1 : (x1, y1) ∈ [a, b, c] := by rw [← e1]; exact getD_mem (show i < [a, b, c].length by simp; omega) _
                                     have w1 := thr_whr hx q1
                                     have p1 : OkP (x1, y1) := hok.2 _ q1
                                     refine W.drawD 12 [.b 0 [], .r 1 [], .r 2 [], .r 3 [], .b 4 [], .b 5 [], .r 6 [], .r 7 [], .r 8 [], .r 9 [], .r 10 [], .r 11 []] [] (A0 := []) (Sub.refl _) (by kernel_rfl) ?_ ?_
                                     · exact (ALok.b (ALok.r (ALok.r (ALok.r (ALok.b (ALok.b (ALok.r (ALok.r (ALok.r (ALok.r (ALok.r (ALok.r ALok.nil))))))))))))
                                     refine' DT.b rfl rfl rfl ?hq ?_
                                     case hq =>
                                       refine WO.loadA rfl rfl (Cells.own (Pick.tail (Pick.head))) rfl rfl ?_
                                       exact WO.nil ⟨rfl, rfl⟩
                                     refine' DT.r rfl rfl rfl ?hq ?_
                                     case hq =>
                                       refine WO.p rfl rfl ?_
                                       exact WO.nil ⟨rfl, rfl⟩
                                     refine' DT.r rfl rfl rfl ?hq ?_
                                     case hq =>
                                       refine WO.p rfl rfl ?_
                                       exact WO.nil ⟨rfl, rfl⟩
                                     refine' DT.r rfl rfl rfl ?hq ?_
                                     case hq =>
                                       refine' WO.indexAddr (n := _) (i := _) rfl rfl rfl ?hs ?h1 rfl ?_
                                       case hs => (first | exact hls)
                                       case h1 => (first | omega | (simp; omega))
                                       exact WO.nil ⟨rfl, rfl⟩
                                     refine' DT.b rfl rfl rfl ?hq ?_
                                     case hq =>
                                       refine' WO.loadA (vs := _) rfl rfl ?hc ?hl rfl ?_
                                       case hc => (first | (refine OwE.cellsPf (e := 39) (l := [a, b, c]) (i := i) ?_ (by simp; omega) e1; repeat (first | exact Sub.nil | refine Sub.cons (by repeat (first | exact Pick.head | apply Pick.tail)) ?_)))
                                       case hl => rfl
                                       exact WO.nil ⟨rfl, rfl⟩
                                     refine' DT.b rfl rfl rfl ?hq ?_
                                     case hq =>
                                       refine WO.callR (r := .tuple #[.bool true, .bool true, .int .i64 0]) rfl Try.call24 (fun L w hi => by rw [← holds_on hto p1 w1]; exact c_Holds w (thrC a b c) (x1, y1)) rfl ?_
                                       exact WO.nil ⟨rfl, rfl⟩
                                     refine' DT.r rfl rfl rfl ?hq ?_
                                     case hq =>
                                       refine WO.p rfl rfl ?_
                                       exact WO.nil ⟨rfl, rfl⟩
                                     refine' DT.r rfl rfl rfl ?hq ?_
                                     case hq =>
                                       refine WO.p rfl rfl ?_
                                       exact WO.nil ⟨rfl, rfl⟩
                                     refine' DT.r rfl rfl rfl ?hq ?_
                                     case hq =>
                                       refine WO.p rfl rfl ?_
                                       exact WO.nil ⟨rfl, rfl⟩
                                     refine' DT.r rfl rfl rfl ?hq ?_
                                     case hq =>
                                       refine WO.p rfl rfl ?_
                                       exact WO.nil ⟨rfl, rfl⟩
                                     refine' DT.r rfl rfl rfl ?hq ?_
                                     case hq =>
                                       refine WO.p rfl rfl ?_
                                       exact WO.nil ⟨rfl, rfl⟩
                                     refine' DT.r rfl rfl rfl ?hq ?_
                                     case hq =>
                                       refine WO.p rfl rfl ?_
                                       exact WO.nil ⟨rfl, rfl⟩
                                     refine DT.nil [_, _, _] rfl ?_
                                     refine WO.p rfl rfl ?_
                                     refine WO.nil ?_
                                     refine W.seq ?_
                                     refine W.seq ?_
                                     refine W.drawD 12 [.r 0 [], .r 1 [], .r 2 [], .r 3 [], .r 4 [], .r 5 [], .r 6 [], .b 7 [], .r 8 [], .r 9 [], .r 10 [], .b 11 []] [] (A0 := []) (Sub.refl _) (by kernel_rfl) ?_ ?_
                                     · exact (ALok.r (ALok.r (ALok.r (ALok.r (ALok.r (ALok.r (ALok.r (ALok.b (ALok.r (ALok.r (ALok.r (ALok.b ALok.nil))))))))))))
                                     refine' DT.r rfl rfl rfl ?hq ?_
                                     case hq =>
                                       refine WO.p rfl rfl ?_
                                       exact WO.nil ⟨rfl, rfl⟩
                                     refine' DT.r rfl rfl rfl ?hq ?_
                                     case hq =>
                                       refine WO.p rfl rfl ?_
                                       exact WO.nil ⟨rfl, rfl⟩
                                     refine' DT.rB rfl rfl rfl ?hq (fun c9 => ?_) (fun c9 => ?_)
                                     case hq =>
                                       refine WO.p rfl rfl ?_
                                       exact WO.nil ⟨rfl, rfl⟩
                                     · first
                                       | (exfalso; omega)
                                       | (refine' DT.r rfl rfl rfl ?hq ?_
                                          case hq =>
                                            refine WO.no rfl rfl ?_
                                            exact WO.nil ⟨rfl, rfl⟩
                                          refine' DT.r rfl rfl rfl ?hq ?_
                                          case hq =>
                                            refine WO.no rfl rfl ?_
                                            exact WO.nil ⟨rfl, rfl⟩
                                          refine' DT.r rfl rfl rfl ?hq ?_
                                          case hq =>
                                            refine WO.p rfl rfl ?_
                                            exact WO.nil ⟨rfl, rfl⟩
                                          refine' DT.r rfl rfl rfl ?hq ?_
                                          case hq =>
                                            refine WO.p rfl rfl ?_
                                            exact WO.nil ⟨rfl, rfl⟩
                                          refine' DT.b rfl rfl rfl ?hq ?_
                                          case hq =>
                                            refine WO.no rfl rfl ?_
                                            exact WO.nil ⟨rfl, rfl⟩
                                          refine' DT.r rfl rfl rfl ?hq ?_
                                          case hq =>
                                            refine WO.no rfl rfl ?_
                                            exact WO.nil ⟨rfl, rfl⟩
                                          refine' DT.r rfl rfl rfl ?hq ?_
                                          case hq =>
                                            refine WO.no rfl rfl ?_
                                            exact WO.nil ⟨rfl, rfl⟩
                                          refine' DT.r rfl rfl rfl ?hq ?_
                                          case hq =>
                                            refine WO.no rfl rfl ?_
                                            exact WO.nil ⟨rfl, rfl⟩
                                          refine' DT.b rfl rfl rfl ?hq ?_
                                          case hq =>
                                            refine WO.no rfl rfl ?_
                                            exact WO.nil ⟨rfl, rfl⟩
                                          refine DT.nil [_, _, _] rfl ?_
                                          refine WO.no rfl rfl (WO.no rfl rfl (WO.p rfl rfl ?_))
                                          refine WO.nil ?_
                                          refine W.cond_t rfl ?_
                                          refine W.sreg ?_
                                          refine WO.p rfl rfl ?_
                                          refine WO.nil ?_
                                          refine W.ret ?_
                                          exact fin.ret (Res.one rfl (RV.tmp rfl)) rfl)
                                     · first
                                       | (exfalso; omega)
                                       | (refine' DT.r rfl rfl rfl ?hq ?_
                                          case hq =>
                                            refine WO.pg rfl rfl rfl ?_
                                            exact WO.nil ⟨rfl, rfl⟩
                                          refine' DT.r rfl rfl rfl ?hq ?_
                                          case hq =>
                                            refine WO.pg rfl rfl rfl ?_
                                            exact WO.nil ⟨rfl, rfl⟩
                                          refine' DT.r rfl rfl rfl ?hq ?_
                                          case hq =>
                                            refine WO.p rfl rfl ?_
                                            exact WO.nil ⟨rfl, rfl⟩
                                          refine' DT.r rfl rfl rfl ?hq ?_
                                          case hq =>
                                            refine WO.p rfl rfl ?_
                                            exact WO.nil ⟨rfl, rfl⟩
                                          refine' DT.b rfl rfl rfl ?hq ?_
                                          case hq =>
                                            refine WO.go' rfl (WO.loadA rfl rfl (Cells.own (Pick.tail (Pick.head))) rfl rfl ?_)
                                            exact WO.nil ⟨rfl, rfl⟩
                                          refine' DT.r rfl rfl rfl ?hq ?_
                                          case hq =>
                                            refine WO.pg rfl rfl rfl ?_
                                            exact WO.nil ⟨rfl, rfl⟩
                                          refine' DT.r rfl rfl rfl ?hq ?_
                                          case hq =>
                                            refine WO.pg rfl rfl rfl ?_
                                            exact WO.nil ⟨rfl, rfl⟩
                                          refine' DT.r rfl rfl rfl ?hq ?_
                                          case hq =>
                                            refine WO.go' rfl ?_
                                            refine' WO.indexAddr (n := _) (i := _) rfl rfl rfl ?hs ?h1 rfl ?_
                                            case hs => (first | exact hls)
                                            case h1 => (first | omega | (simp; omega))
                                            exact WO.nil ⟨rfl, rfl⟩
                                          refine' DT.b rfl rfl rfl ?hq ?_
                                          case hq =>
                                            refine WO.go' rfl ?_
                                            refine' WO.loadA (vs := _) rfl rfl ?hc ?hl rfl ?_
                                            case hc => (first | (refine OwE.cellsPf (e := 39) (l := [a, b, c]) (i := i) ?_ (by simp; omega) e1; repeat (first | exact Sub.nil | refine Sub.cons (by repeat (first | exact Pick.head | apply Pick.tail)) ?_)))
                                            case hl => rfl
                                            exact WO.nil ⟨rfl, rfl⟩
                                          refine DT.nil [_, _, _] rfl ?_
                                          refine WO.go' rfl ?_
                                          refine WO.callR (r := .int .i64 0) rfl Try.call29 (fun L w hi => by have h := ref_Where w (thrC a b c) (x1, y1) hto p1; rw [w1] at h; exact h) rfl ?_
                                          refine WO.pg rfl rfl rfl (WO.p rfl rfl ?_)
                                          refine WO.nil ?_
                                          refine W.cond_bl rfl (fun c10 => ?_) (fun c10 => ?_)
                                          · first
                                            | (exfalso; omega)
                                            | (refine W.sreg ?_
                                               refine WO.p rfl rfl ?_
                                               refine WO.nil ?_
                                               refine W.ret ?_
                                               exact fin.ret (Res.one rfl (RV.tmp rfl)) rfl)
                                          · first
                                            | (exfalso; omega)
                                            | (refine W.skip ?_
                                               refine W.seq ?_
                                               have j1 := i3 (i := i) (k := 1) (by omega)
                                               have j2 := i3 (i := i) (k := 2) (by omega)
                                               simp only [Int.natCast_one, show ((2 : Nat) : Int) = 2 from rfl] at j1 j2
                                               obtain ⟨⟨x2, y2⟩, e2⟩ : ∃ q, Pts.at [a, b, c] ((i + 1) % 3) = q := ⟨_, rfl⟩
                                               obtain ⟨⟨x3, y3⟩, e3⟩ : ∃ q, Pts.at [a, b, c] ((i + 2) % 3) = q := ⟨_, rfl⟩
                                               have p2 : OkP (x2, y2) := hok.2 _ (by rw [← e2]; exact getD_mem (show (i + 1) % 3 < [a, b, c].length by simp; omega) _)
                                               have p3 : OkP (x3, y3) := hok.2 _ (by rw [← e3]; exact getD_mem (show (i + 2) % 3 < [a, b, c].length by simp; omega) _)
                                               have hai : angI [a, b, c] i = (x2 - x1) * (x3 - x1) + (y2 - y1) * (y3 - y1) := by unfold angI; rw [e1, e2, e3]; rfl
                                               unfold OkP at p1 p2 p3
                                               have m3 := m200 (x := x2 - x1) (y := x3 - x1) (by omega) (by omega)
                                               have m4 := m200 (x := y2 - y1) (y := y3 - y1) (by omega) (by omega)
                                               refine W.drawD 21 [.r 0 [], .r 1 [], .r 2 [], .b 3 [], .r 4 [], .r 5 [], .r 6 [], .r 7 [], .r 8 [], .b 9 [], .r 10 [], .r 11 [], .r 12 [], .r 13 [], .r 14 [], .b 15 [], .a 16 18 (.cells #[.int .i64 0, .int .i64 0] 39 (0, 0)), .a 17 19 (.cells #[.int .i64 0, .int .i64 0] 39 (0, 0)), .a 18 20 (.cells #[.int .i64 0, .int .i64 0] 39 (0, 0)), .s 19 [], .s 20 []] [] (A0 := []) (Sub.refl _) (by kernel_rfl) ?_ ?_
                                               · exact (ALok.r (ALok.r (ALok.r (ALok.b (ALok.r (ALok.r (ALok.r (ALok.r (ALok.r (ALok.b (ALok.r (ALok.r (ALok.r (ALok.r (ALok.r (ALok.b (ALok.cons rfl rfl rfl rfl rfl (ALok.cons rfl rfl rfl rfl rfl (ALok.cons rfl rfl rfl rfl rfl (ALok.s (ALok.s ALok.nil)))))))))))))))))))))
                                               refine' DT.r rfl rfl rfl ?hq ?_
                                               case hq =>
                                                 refine WO.p rfl rfl ?_
                                                 exact WO.nil ⟨rfl, rfl⟩
                                               refine' DT.r rfl rfl rfl ?hq ?_
                                               case hq =>
                                                 refine WO.p rfl rfl ?_
                                                 exact WO.nil ⟨rfl, rfl⟩
                                               refine' DT.r rfl rfl rfl ?hq ?_
                                               case hq =>
                                                 refine' WO.indexAddr (n := _) (i := _) rfl rfl rfl ?hs ?h1 rfl ?_
                                                 case hs => (first | exact hls)
                                                 case h1 => (first | omega | (simp; omega))
                                                 exact WO.nil ⟨rfl, rfl⟩
                                               refine' DT.b rfl rfl rfl ?hq ?_
                                               case hq =>
                                                 refine' WO.loadA (vs := _) rfl rfl ?hc ?hl rfl ?_
                                                 case hc => (first | (refine OwE.cellsPf (e := 39) (l := [a, b, c]) (i := i) ?_ (by simp; omega) e1; repeat (first | exact Sub.nil | refine Sub.cons (by repeat (first | exact Pick.head | apply Pick.tail)) ?_)))
                                                 case hl => rfl
                                                 exact WO.nil ⟨rfl, rfl⟩
                                               refine' DT.r rfl rfl rfl ?hq ?_
                                               case hq =>
                                                 refine WO.p rfl rfl ?_
                                                 exact WO.nil ⟨rfl, rfl⟩
                                               refine' DT.r rfl rfl rfl ?hq ?_
                                               case hq =>
                                                 refine WO.p rfl rfl ?_
                                                 exact WO.nil ⟨rfl, rfl⟩
                                               refine' DT.r rfl rfl rfl ?hq ?_
                                               case hq =>
                                                 refine WO.ar rfl rfl rfl (by (first | (unfold in64; omega) | (unfold in64; omega))) rfl ?_
                                                 exact WO.nil ⟨rfl, rfl⟩
                                               refine' DT.r rfl rfl rfl ?hq ?_
                                               case hq =>
                                                 refine WO.rem rfl rfl (by first | omega | assumption) rfl ?_
                                                 exact WO.nil ⟨rfl, rfl⟩
                                               refine' DT.r rfl rfl rfl ?hq ?_
                                               case hq =>
                                                 refine' WO.indexAddrZ (n := _) rfl rfl rfl ?hs ?h00 ?h1 rfl ?_
                                                 case hs => (first | exact hls)
                                                 case h00 => omega
                                                 case h1 => (first | omega | (simp; omega))
                                                 exact WO.nil ⟨rfl, rfl⟩
                                               refine' DT.b rfl rfl rfl ?hq ?_
                                               case hq =>
                                                 refine' WO.loadA (vs := _) rfl rfl ?hc ?hl rfl ?_
                                                 case hc => (first | (refine OwE.cellsPf (e := 39) (l := [a, b, c]) (i := (((i : Int) + 1).tmod 3).toNat) (a := x2) (b := y2) ?_ (by rw [j1]; simp; omega) (by rw [j1, Int.toNat_natCast]; exact e2); repeat (first | exact Sub.nil | refine Sub.cons (by repeat (first | exact Pick.head | apply Pick.tail)) ?_)))
                                                 case hl => rfl
                                                 exact WO.nil ⟨rfl, rfl⟩
                                               refine' DT.r rfl rfl rfl ?hq ?_
                                               case hq =>
                                                 refine WO.p rfl rfl ?_
                                                 exact WO.nil ⟨rfl, rfl⟩
                                               refine' DT.r rfl rfl rfl ?hq ?_
                                               case hq =>
                                                 refine WO.p rfl rfl ?_
                                                 exact WO.nil ⟨rfl, rfl⟩
                                               refine' DT.r rfl rfl rfl ?hq ?_
                                               case hq =>
                                                 refine WO.ar rfl rfl rfl (by (first | (unfold in64; omega) | (unfold in64; omega))) rfl ?_
                                                 exact WO.nil ⟨rfl, rfl⟩
                                               refine' DT.r rfl rfl rfl ?hq ?_
                                               case hq =>
                                                 refine WO.rem rfl rfl (by first | omega | assumption) rfl ?_
                                                 exact WO.nil ⟨rfl, rfl⟩
                                               refine' DT.r rfl rfl rfl ?hq ?_
                                               case hq =>
                                                 refine' WO.indexAddrZ (n := _) rfl rfl rfl ?hs ?h00 ?h1 rfl ?_
                                                 case hs => (first | exact hls)
                                                 case h00 => omega
                                                 case h1 => (first | omega | (simp; omega))
                                                 exact WO.nil ⟨rfl, rfl⟩
                                               refine' DT.b rfl rfl rfl ?hq ?_
                                               case hq =>
                                                 refine' WO.loadA (vs := _) rfl rfl ?hc ?hl rfl ?_
                                                 case hc => (first | (refine OwE.cellsPf (e := 39) (l := [a, b, c]) (i := (((i : Int) + 2).tmod 3).toNat) (a := x3) (b := y3) ?_ (by rw [j2]; simp; omega) (by rw [j2, Int.toNat_natCast]; exact e3); repeat (first | exact Sub.nil | refine Sub.cons (by repeat (first | exact Pick.head | apply Pick.tail)) ?_)))
                                                 case hl => rfl
                                                 exact WO.nil ⟨rfl, rfl⟩
                                               refine DT.a (fun b7 => ?_)
                                               refine DT.a (fun b8 => ?_)
                                               refine DT.a (fun b9 => ?_)
                                               refine DT.s [_, _, _, _, _, _] rfl rfl rfl ?_
                                               refine WO.storeA rfl rfl rfl rfl (Pick.tail (Pick.tail (Pick.head))) rfl rfl ?_
                                               refine WO.nil ⟨[_, _, _], rfl, rfl, (Keep.a (Keep.a (Keep.a (Keep.b (Keep.r (Keep.r (Keep.r (Keep.r (Keep.r (Keep.b (Keep.r (Keep.r (Keep.r (Keep.r (Keep.r (Keep.b (Keep.r (Keep.r (Keep.r Keep.nil))))))))))))))))))), ?_⟩
                                               refine DT.s [_, _, _, _, _, _] rfl rfl rfl ?_
                                               refine WO.storeA rfl rfl rfl rfl (Pick.tail (Pick.tail (Pick.head))) rfl rfl ?_
                                               refine WO.nil ⟨[_, _, _], rfl, rfl, (Keep.s (Keep.a (Keep.a (Keep.a (Keep.b (Keep.r (Keep.r (Keep.r (Keep.r (Keep.r (Keep.b (Keep.r (Keep.r (Keep.r (Keep.r (Keep.r (Keep.b (Keep.r (Keep.r (Keep.r Keep.nil)))))))))))))))))))), ?_⟩
                                               refine DT.nil [_, _, _, _, _, _] rfl ?_
                                               refine WO.storeA rfl rfl rfl rfl (Pick.tail (Pick.tail (Pick.head))) rfl rfl ?_
                                               refine WO.nil ?_
                                               refine W.sreg ?_
                                               refine WO.field0 rfl rfl rfl (WO.load rfl rfl (Cell.own (Pick.tail (Pick.head)) rfl) rfl (WO.field0 rfl rfl rfl (WO.load rfl rfl (Cell.own (Pick.tail (Pick.tail (Pick.head))) rfl) rfl (WO.ar rfl rfl rfl (by (first | (unfold in64; omega) | (unfold in64; omega))) rfl (WO.field0 rfl rfl rfl (WO.load rfl rfl (Cell.own Pick.head rfl) rfl (WO.field0 rfl rfl rfl (WO.load rfl rfl (Cell.own (Pick.tail (Pick.tail (Pick.head))) rfl) rfl (WO.ar rfl rfl rfl (by (first | (unfold in64; omega) | (unfold in64; omega))) rfl (WO.ar rfl rfl rfl (by (first | (unfold in64; omega) | (unfold in64; omega))) rfl (WO.fieldL rfl rfl rfl ?_)))))))))))
                                               refine WO.load rfl rfl (Cell.own (Pick.tail (Pick.head)) rfl) rfl (WO.fieldL rfl rfl rfl (WO.load rfl rfl (Cell.own (Pick.tail (Pick.tail (Pick.head))) rfl) rfl (WO.ar rfl rfl rfl (by (first | (unfold in64; omega) | (unfold in64; omega))) rfl (WO.fieldL rfl rfl rfl (WO.load rfl rfl (Cell.own Pick.head rfl) rfl (WO.fieldL rfl rfl rfl (WO.load rfl rfl (Cell.own (Pick.tail (Pick.tail (Pick.head))) rfl) rfl (WO.ar rfl rfl rfl (by (first | (unfold in64; omega) | (unfold in64; omega))) rfl (WO.ar rfl rfl rfl (by (first | (unfold in64; omega) | (unfold in64; omega))) rfl (WO.ar rfl rfl rfl (by (first | (unfold in64; omega) | (unfold in64; omega))) rfl (WO.p rfl rfl ?_)))))))))))
                                               refine WO.nil ?_
                                               refine W.cond_bl rfl (fun c11 => ?_) (fun c11 => ?_)
                                               · first
                                                 | (exfalso; omega)
                                                 | (refine W.region ?_
                                                    refine WO.p rfl rfl (WO.p rfl rfl ?_)
                                                    refine WO.nil ?_
                                                    refine W.region ?_
                                                    refine WO.p rfl rfl (WO.ar rfl rfl rfl (by (first | (unfold in64; omega) | (unfold in64; omega))) rfl (WO.p rfl rfl ?_))
                                                    refine WO.nil ?_
                                                    refine' ⟨i + 1, _, ?hp, ?hmu, ⟨rfl, rfl, rfl, rfl, rfl, trivial⟩, ?hS⟩
                                                    case hS => repeat (first | exact Sub.nil | refine Sub.cons (by repeat (first | exact Pick.head | apply Pick.tail)) ?_)
                                                    case hp => first | exact ⟨by omega, .inr ⟨i, by omega, rfl, by rw [hai]; assumption⟩⟩ | exact ⟨by omega, hwd.next (by rw [hai]; assumption)⟩
                                                    case hmu => omega)
                                               · first
                                                 | (exfalso; omega)
                                                 | (refine W.skip ?_
                                                    refine W.region ?_
                                                    refine WO.p rfl rfl (WO.ar rfl rfl rfl (by (first | (unfold in64; omega) | (unfold in64; omega))) rfl (WO.p rfl rfl ?_))
                                                    refine WO.nil ?_
                                                    refine' ⟨i + 1, _, ?hp, ?hmu, ⟨rfl, rfl, rfl, rfl, rfl, trivial⟩, ?hS⟩
                                                    case hS => repeat (first | exact Sub.nil | refine Sub.cons (by repeat (first | exact Pick.head | apply Pick.tail)) ?_)
                                                    case hp => first | exact ⟨by omega, .inr ⟨i, by omega, rfl, by rw [hai]; assumption⟩⟩ | exact ⟨by omega, hwd.next (by rw [hai]; assumption)⟩
                                                    case hmu => omega))))
                                · first
                                  | (exfalso; omega)
                                  | (refine W.exit (blk_same ?_)
                                     refine W.seq ?_
                                     obtain rfl : 3 = i := by omega
                                     refine W.sreg ?_
                                     refine WO.p rfl rfl (WO.p rfl rfl ?_)
                                     refine WO.nil ?_
                                     refine W.cond_bl rfl (fun c12 => ?_) (fun c12 => ?_)
                                     · first
                                       | (exfalso; omega)
                                       | (have hacute : lst [a, b, c] = thrC a b c := hwd.elim (fun h => acute_at rfl ha hb hc hx h.2) (fun ⟨j, _, h, _⟩ => absurd h (by omega))
                                          refine W.sreg ?_
                                          refine WO.loadA rfl rfl (Cells.own Pick.head) rfl rfl (WO.loadA rfl rfl (Cells.own (Pick.tail (Pick.head))) rfl rfl ?_)
                                          refine WO.eqT rfl rfl (show EqT Try.prog .eql 27 (cirV (lst [a, b, c])) (cirV (thrC a b c)) (.bool true) by rw [hacute]; exact eq27t _) rfl ?_
                                          refine WO.p rfl rfl (WO.go' rfl ?_)
                                          refine WO.callR rfl Try.call14 (fun L w hi => law_Works w) rfl ?_
                                          refine WO.p rfl rfl (WO.p rfl rfl ?_)
                                          refine WO.nil ?_
                                          refine W.ret ?_
                                          exact fin.ret (Res.one rfl (RV.tmp rfl)) rfl)
                                     · first
                                       | (exfalso; omega)
                                       | (refine W.skip ?_
                                          refine W.seq ?_
                                          have hwide : ∃ j : Nat, j < 3 ∧ g = (j : Int) ∧ angI [a, b, c] j < 0 := hwd.elim (fun h => absurd h.1 (by omega)) id
                                          obtain ⟨j, hj, rfl, hang⟩ := hwide
                                          have j1 := i3 (i := j) (k := 1) hj
                                          have j2 := i3 (i := j) (k := 2) hj
                                          simp only [Int.natCast_one, show ((2 : Nat) : Int) = 2 from rfl] at j1 j2
                                          have hwl := wide_at rfl ha hb hc hx hj hang
                                          obtain ⟨⟨x2, y2⟩, e2⟩ : ∃ q, Pts.at [a, b, c] ((j + 1) % 3) = q := ⟨_, rfl⟩
                                          obtain ⟨⟨x3, y3⟩, e3⟩ : ∃ q, Pts.at [a, b, c] ((j + 2) % 3) = q := ⟨_, rfl⟩
                                          rw [e2, e3] at hwl
                                          obtain ⟨hl1, hl2⟩ := hwl
                                          have p2 : OkP (x2, y2) := hok.2 _ (by rw [← e2]; exact getD_mem (show (j + 1) % 3 < [a, b, c].length by simp; omega) _)
                                          have p3 : OkP (x3, y3) := hok.2 _ (by rw [← e3]; exact getD_mem (show (j + 2) % 3 < [a, b, c].length by simp; omega) _)
                                          refine W.drawD 15 [.r 0 [], .r 1 [], .r 2 [], .r 3 [], .r 4 [], .b 5 [], .r 6 [], .r 7 [], .r 8 [], .r 9 [], .r 10 [], .b 11 [], .a 12 21 (.cells #[.int .i64 0, .int .i64 0] 39 (0, 0)), .a 13 22 (.cells #[.int .i64 0, .int .i64 0] 39 (0, 0)), .s 14 []] [] (A0 := []) (Sub.refl _) (by kernel_rfl) ?_ ?_
                                          · exact (ALok.r (ALok.r (ALok.r (ALok.r (ALok.r (ALok.b (ALok.r (ALok.r (ALok.r (ALok.r (ALok.r (ALok.b (ALok.cons rfl rfl rfl rfl rfl (ALok.cons rfl rfl rfl rfl rfl (ALok.s ALok.nil)))))))))))))))
                                          refine' DT.r rfl rfl rfl ?hq ?_
                                          case hq =>
                                            refine WO.p rfl rfl ?_
                                            exact WO.nil ⟨rfl, rfl⟩
                                          refine' DT.r rfl rfl rfl ?hq ?_
                                          case hq =>
                                            refine WO.p rfl rfl ?_
                                            exact WO.nil ⟨rfl, rfl⟩
                                          refine' DT.r rfl rfl rfl ?hq ?_
                                          case hq =>
                                            refine WO.ar rfl rfl rfl (by (first | (unfold in64; omega) | (unfold in64; omega))) rfl ?_
                                            exact WO.nil ⟨rfl, rfl⟩
                                          refine' DT.r rfl rfl rfl ?hq ?_
                                          case hq =>
                                            refine WO.rem rfl rfl (by first | omega | assumption) rfl ?_
                                            exact WO.nil ⟨rfl, rfl⟩
                                          refine' DT.r rfl rfl rfl ?hq ?_
                                          case hq =>
                                            refine' WO.indexAddrZ (n := _) rfl rfl rfl ?hs ?h00 ?h1 rfl ?_
                                            case hs => (first | exact hls)
                                            case h00 => omega
                                            case h1 => (first | omega | (simp; omega))
                                            exact WO.nil ⟨rfl, rfl⟩
                                          refine' DT.b rfl rfl rfl ?hq ?_
                                          case hq =>
                                            refine' WO.loadA (vs := _) rfl rfl ?hc ?hl rfl ?_
                                            case hc => (first | (refine OwE.cellsPf (e := 39) (l := [a, b, c]) (i := (((j : Int) + 1).tmod 3).toNat) (a := x2) (b := y2) ?_ (by rw [j1]; simp; omega) (by rw [j1, Int.toNat_natCast]; exact e2); repeat (first | exact Sub.nil | refine Sub.cons (by repeat (first | exact Pick.head | apply Pick.tail)) ?_)))
                                            case hl => rfl
                                            exact WO.nil ⟨rfl, rfl⟩
                                          refine' DT.r rfl rfl rfl ?hq ?_
                                          case hq =>
                                            refine WO.p rfl rfl ?_
                                            exact WO.nil ⟨rfl, rfl⟩
                                          refine' DT.r rfl rfl rfl ?hq ?_
                                          case hq =>
                                            refine WO.p rfl rfl ?_
                                            exact WO.nil ⟨rfl, rfl⟩
                                          refine' DT.r rfl rfl rfl ?hq ?_
                                          case hq =>
                                            refine WO.ar rfl rfl rfl (by (first | (unfold in64; omega) | (unfold in64; omega))) rfl ?_
                                            exact WO.nil ⟨rfl, rfl⟩
                                          refine' DT.r rfl rfl rfl ?hq ?_
                                          case hq =>
                                            refine WO.rem rfl rfl (by first | omega | assumption) rfl ?_
                                            exact WO.nil ⟨rfl, rfl⟩
                                          refine' DT.r rfl rfl rfl ?hq ?_
                                          case hq =>
                                            refine' WO.indexAddrZ (n := _) rfl rfl rfl ?hs ?h00 ?h1 rfl ?_
                                            case hs => (first | exact hls)
                                            case h00 => omega
                                            case h1 => (first | omega | (simp; omega))
                                            exact WO.nil ⟨rfl, rfl⟩
                                          refine' DT.b rfl rfl rfl ?hq ?_
                                          case hq =>
                                            refine' WO.loadA (vs := _) rfl rfl ?hc ?hl rfl ?_
                                            case hc => (first | (refine OwE.cellsPf (e := 39) (l := [a, b, c]) (i := (((j : Int) + 2).tmod 3).toNat) (a := x3) (b := y3) ?_ (by rw [j2]; simp; omega) (by rw [j2, Int.toNat_natCast]; exact e3); repeat (first | exact Sub.nil | refine Sub.cons (by repeat (first | exact Pick.head | apply Pick.tail)) ?_)))
                                            case hl => rfl
                                            exact WO.nil ⟨rfl, rfl⟩
                                          refine DT.a (fun b10 => ?_)
                                          refine DT.a (fun b11 => ?_)
                                          refine DT.s [_, _, _, _, _] rfl rfl rfl ?_
                                          refine WO.storeA rfl rfl rfl rfl (Pick.tail (Pick.head)) rfl rfl ?_
                                          refine WO.nil ⟨[_, _], rfl, rfl, (Keep.a (Keep.a (Keep.b (Keep.r (Keep.r (Keep.r (Keep.r (Keep.r (Keep.b (Keep.r (Keep.r (Keep.r (Keep.r (Keep.r Keep.nil)))))))))))))), ?_⟩
                                          refine DT.nil [_, _, _, _, _] rfl ?_
                                          refine WO.storeA rfl rfl rfl rfl (Pick.tail (Pick.head)) rfl rfl ?_
                                          refine WO.nil ?_
                                          refine W.seq ?_
                                          refine W.drawD 10 [.b 0 [], .b 1 [], .b 2 [], .b 3 [], .r 4 [], .r 5 [], .r 6 [], .b 7 [], .r 8 [], .b 9 []] [] (A0 := []) (Sub.refl _) (by kernel_rfl) ?_ ?_
                                          · exact (ALok.b (ALok.b (ALok.b (ALok.b (ALok.r (ALok.r (ALok.r (ALok.b (ALok.r (ALok.b ALok.nil))))))))))
                                          refine' DT.b rfl rfl rfl ?hq ?_
                                          case hq =>
                                            refine WO.loadA rfl rfl (Cells.own (Pick.tail (Pick.tail (Pick.head)))) rfl rfl ?_
                                            exact WO.nil ⟨rfl, rfl⟩
                                          refine' DT.b rfl rfl rfl ?hq ?_
                                          case hq =>
                                            refine WO.loadA rfl rfl (Cells.own (Pick.tail (Pick.head))) rfl rfl ?_
                                            exact WO.nil ⟨rfl, rfl⟩
                                          refine' DT.b rfl rfl rfl ?hq ?_
                                          case hq =>
                                            refine WO.loadA rfl rfl (Cells.own Pick.head) rfl rfl ?_
                                            exact WO.nil ⟨rfl, rfl⟩
                                          refine' DT.b rfl rfl rfl ?hq ?_
                                          case hq =>
                                            refine WO.callR rfl Try.call30 (fun L w hi => ref_Between w (x2, y2) (x3, y3) p2 p3) rfl ?_
                                            exact WO.nil ⟨rfl, rfl⟩
                                          refine' DT.r rfl rfl rfl ?hq ?_
                                          case hq =>
                                            refine WO.eqT rfl rfl (show EqT Try.prog .eql 27 (cirV (lst [a, b, c])) (cirV (betwC (x2, y2) (x3, y3))) (.bool true) by rw [hl1]; exact eq27t _) rfl ?_
                                            exact WO.nil ⟨rfl, rfl⟩
                                          refine' DT.r rfl rfl rfl ?hq ?_
                                          case hq =>
                                            refine WO.p rfl rfl ?_
                                            exact WO.nil ⟨rfl, rfl⟩
                                          refine' DT.r rfl rfl rfl ?hq ?_
                                          case hq =>
                                            refine WO.go' rfl (WO.fieldL rfl rfl rfl ?_)
                                            exact WO.nil ⟨rfl, rfl⟩
                                          refine' DT.b rfl rfl rfl ?hq ?_
                                          case hq =>
                                            refine WO.go' rfl (WO.loadA rfl rfl (Cells.ownAt (n := 2) (Pick.tail (Pick.tail (Pick.head))) rfl) rfl rfl ?_)
                                            exact WO.nil ⟨rfl, rfl⟩
                                          refine' DT.r rfl rfl rfl ?hq ?_
                                          case hq =>
                                            refine WO.go' rfl (WO.fieldL rfl rfl rfl ?_)
                                            exact WO.nil ⟨rfl, rfl⟩
                                          refine' DT.b rfl rfl rfl ?hq ?_
                                          case hq =>
                                            refine WO.go' rfl (WO.loadA rfl rfl (Cells.ownAt (n := 2) (Pick.tail (Pick.tail (Pick.tail (Pick.head)))) rfl) rfl rfl ?_)
                                            exact WO.nil ⟨rfl, rfl⟩
                                          refine DT.nil [_, _, _, _, _] rfl ?_
                                          refine WO.go' rfl ?_
                                          refine WO.callR (r := .bool true) rfl Try.call25 (fun L w hi => by rw [← bl_t.2 (show lessC (lst [a, b, c]) (thrC a b c) by rw [hl1]; exact hl2)]; exact ref_LessC w (lst [a, b, c]) (thrC a b c) hsm.ok hto) rfl ?_
                                          refine WO.p rfl rfl (WO.p rfl rfl (WO.go' rfl ?_))
                                          refine WO.callR rfl Try.call14 (fun L w hi => law_Works w) rfl ?_
                                          refine WO.p rfl rfl (WO.p rfl rfl ?_)
                                          refine WO.nil ?_
                                          refine W.ret ?_
                                          exact fin.ret (Res.one rfl (RV.tmp rfl)) rfl))))))))
end Go.Proofs.Ytkhplcncfogolaa
