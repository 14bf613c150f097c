/-
  What is proved here: the law TurnFar. Conditions: none; each contract states its own.
-/
import Derived.Test.YtkhplcncfogolaaM10
namespace Go.Proofs.Ytkhplcncfogolaa
open Go Go.TH Go.TH.Dsc
attribute [local irreducible] W WO pt
set_option maxRecDepth 10000
set_option maxHeartbeats 1000000
def dist2 (p q : Int × Int) : Int := (p.1 - q.1) * (p.1 - q.1) + (p.2 - q.2) * (p.2 - q.2)
def dist2Q (p q : Rat × Rat) : Rat := (p.1 - q.1) * (p.1 - q.1) + (p.2 - q.2) * (p.2 - q.2)
theorem dist2_q (p q : Int × Int) : ((dist2 p q : Int) : Rat) = dist2Q (toQ p) (toQ q) := by
  unfold dist2 dist2Q toQ; simp only [Rat.intCast_sub, Rat.intCast_mul, Rat.intCast_add]
theorem far_lo {D : Dsc} {p q : Rat × Rat} (hp : f D p ≤ 0) (hq : f D q ≤ 0) : dist2Q p q ≤ 4 * D.s := by
  unfold f at hp hq; unfold dist2Q
  have := two_nn (p.1 + q.1 - 2 * D.x) (p.2 + q.2 - 2 * D.y)
  grind
theorem far_mid {D : Dsc} {r s t : Rat × Rat} {u v w d : Rat} (h : Mid D r s t u v w) (hv : 0 ≤ v) (hw : 0 ≤ w) (hu : 1 ≤ 3 * u) (hd : 0 ≤ d) (h1 : dist2Q s r ≤ d) (h2 : dist2Q t r ≤ d) : 3 * D.s ≤ d := by
  have k := h.sum ⟨r.1, r.2, 0⟩
  have hr := h.on r (by simp)
  have e1 : f ⟨r.1, r.2, 0⟩ r = 0 := by unfold f; dsimp only; grind
  have e2 : f ⟨r.1, r.2, 0⟩ s = dist2Q s r := by unfold f dist2Q; dsimp only; grind
  have e3 : f ⟨r.1, r.2, 0⟩ t = dist2Q t r := by unfold f dist2Q; dsimp only; grind
  rw [e1, e2, e3] at k
  dsimp only at k
  have hr2 : (D.x - r.1) * (D.x - r.1) + (D.y - r.2) * (D.y - r.2) = D.s := by unfold f at hr; grind
  have a := Rat.mul_nonneg hv (show 0 ≤ d - dist2Q s r by grind)
  have b := Rat.mul_nonneg hw (show 0 ≤ d - dist2Q t r by grind)
  have c := Rat.mul_nonneg (show 0 ≤ 3 * u - 1 by grind) hd
  have h1' := h.one
  have e : v * d + w * d = d - u * d := by grind
  grind
theorem mid_rot {D : Dsc} {r s t : Rat × Rat} {u v w : Rat} (h : Mid D r s t u v w) : Mid D s t r v w u := ⟨by have := h.one; grind, by have := h.x; grind, by have := h.y; grind, fun p hp => h.on p (by simp at hp ⊢; rcases hp with rfl | rfl | rfl <;> simp)⟩
theorem far_hi {D : Dsc} {r s t : Rat × Rat} {u v w d : Rat} (h : Mid D r s t u v w) (hu : 0 ≤ u) (hv : 0 ≤ v) (hw : 0 ≤ w) (hd : 0 ≤ d) (hall : ∀ p ∈ [r, s, t], ∀ q ∈ [r, s, t], dist2Q p q ≤ d) : 3 * D.s ≤ d := by
  have h1 := h.one
  rcases (Rat.le_total : 1 ≤ 3 * u ∨ 3 * u ≤ 1) with g | g
  · exact far_mid h hv hw g hd (hall s (by simp) r (by simp)) (hall t (by simp) r (by simp))
  · rcases (Rat.le_total : 1 ≤ 3 * v ∨ 3 * v ≤ 1) with k | k
    · exact far_mid (mid_rot h) hw hu k hd (hall t (by simp) s (by simp)) (hall r (by simp) s (by simp))
    · exact far_mid (mid_rot (mid_rot h)) hu hv (by grind) hd (hall r (by simp) t (by simp)) (hall s (by simp) t (by simp))
/-- the square of the greatest distance -/
structure Far (l : Pts) (d : Int) : Prop where
  nn : 0 ≤ d ∧ d ≤ 80000
  all : ∀ p ∈ l, ∀ q ∈ l, dist2 p q ≤ d
  one : d = 0 ∨ ∃ p ∈ l, ∃ q ∈ l, dist2 p q = d
theorem far_law {l : Pts} {d : Int} (hl : OkL l) (h0 : l ≠ []) (h : Far l d) : 0 ≤ cmp (lst l).n (lst l).d d 4 ∧ cmp (lst l).n (lst l).d d 3 ≤ 0 := by
  have hs := lst_sm hl h0
  have hn := hs.can.n
  have hd := hs.can.d
  obtain ⟨D, r, s, t, u, v, w, hb, hp⟩ := prove_ex h0
  have hD : toD (lst l) = D := (hb.uniq hs.best.hold hs.best.on (hs.best.min _ hb.hold hb.on))
  have hi := inv_of hd
  have hpd := pos_of hd
  have hsd : (toD (lst l)).s * ((lst l).d : Rat) = ((lst l).n : Rat) := by
    show ((lst l).n : Rat) * ((lst l).d : Rat)⁻¹ * ((lst l).d : Rat) = _
    grind
  constructor
  · have key : d * (lst l).d ≤ (lst l).n * 4 := by
      rcases h.one with rfl | ⟨p, hp, q, hq, e⟩
      · omega
      · have h1 := far_lo (hs.best.hold (toQ p) (List.mem_map_of_mem hp)) (hs.best.hold (toQ q) (List.mem_map_of_mem hq))
        rw [← dist2_q, e] at h1
        have h2 := Rat.mul_nonneg (show 0 ≤ 4 * (toD (lst l)).s - (d : Rat) by grind) (Rat.le_of_lt hpd)
        have h3 : (d : Rat) * ((lst l).d : Rat) ≤ ((lst l).n : Rat) * 4 := by grind
        exact_mod_cast h3
    have := cmp_neg (a := (lst l).n) (b := (lst l).d) (c := d) (d := 4)
    omega
  · have h1 : 3 * (toD (lst l)).s ≤ (d : Rat) := by
      rw [hD]
      refine far_hi hp.mid hp.hu hp.hv hp.hw (by exact_mod_cast h.nn.1) (fun p hp' q hq' => ?_)
      have mem : ∀ x ∈ [toQ r, toQ s, toQ t], ∃ y ∈ l, toQ y = x := fun x hx => by
        have : x = toQ r ∨ x = toQ s ∨ x = toQ t := by simpa using hx
        rcases this with rfl | rfl | rfl
        · exact ⟨r, hp.hr, rfl⟩
        · exact ⟨s, hp.hs, rfl⟩
        · exact ⟨t, hp.ht, rfl⟩
      obtain ⟨y, hy, rfl⟩ := mem p hp'
      obtain ⟨z, hz, rfl⟩ := mem q hq'
      rw [← dist2_q]
      exact_mod_cast h.all y hy z hz
    have h2 := Rat.mul_nonneg (show 0 ≤ (d : Rat) - 3 * (toD (lst l)).s by grind) (Rat.le_of_lt hpd)
    have h3 : ((lst l).n : Rat) * 3 ≤ (d : Rat) * ((lst l).d : Rat) := by grind
    have h4 : (lst l).n * 3 ≤ d * (lst l).d := by exact_mod_cast h3
    have : ¬ 0 < cmp (lst l).n (lst l).d d 3 := by
      unfold cmp; rw [sgn_pos]; omega
    omega
/-- what has been looked at -/
structure FarTo (l : Pts) (i k : Nat) (d : Int) : Prop where
  nn : 0 ≤ d ∧ d ≤ 80000
  all : ∀ a b, b < a → (a < i ∨ (a = i ∧ b < k)) → dist2 (l.at a) (l.at b) ≤ d
  one : d = 0 ∨ ∃ p ∈ l, ∃ q ∈ l, dist2 p q = d
theorem dist2_sym (p q : Int × Int) : dist2 p q = dist2 q p := by unfold dist2; grind
theorem dist2_self (p : Int × Int) : dist2 p p = 0 := by unfold dist2; grind
theorem FarTo.all' {l : Pts} {d : Int} (h : FarTo l l.length 0 d) : Far l d := ⟨h.nn, fun p hp q hq => by
  obtain ⟨a, ha, rfl⟩ := mem_at hp
  obtain ⟨b, hb, rfl⟩ := mem_at hq
  rcases Nat.lt_trichotomy a b with g | rfl | g
  · rw [dist2_sym]; exact h.all b a g (.inl hb)
  · rw [dist2_self]; exact h.nn.1
  · exact h.all a b g (.inl ha), h.one⟩
theorem FarTo.next {l : Pts} {i : Nat} {d : Int} (h : FarTo l i i d) : FarTo l (i + 1) 0 d := ⟨h.nn, fun a b hb hab => h.all a b hb (by omega), h.one⟩
theorem FarTo.more {l : Pts} {i k : Nat} {d : Int} (hl : OkL l) (hi : i < l.length) (hk : k < i) (h : FarTo l i k d) : FarTo l i (k + 1) (max d (dist2 (l.at i) (l.at k))) := by
  have hd := dist_bd (at_ok hl hi) (at_ok hl (show k < l.length by omega))
  have hd2 : 0 ≤ dist2 (l.at i) (l.at k) ∧ dist2 (l.at i) (l.at k) ≤ 80000 := hd
  have hn := h.nn
  refine ⟨by omega, fun a b hb hab => ?_, ?_⟩
  · rcases Decidable.em (a = i ∧ b = k) with ⟨rfl, rfl⟩ | hne
    · omega
    · have := h.all a b hb (by omega)
      omega
  · rcases Int.le_total d (dist2 (l.at i) (l.at k)) with g | g
    · rw [Int.max_eq_right g]
      exact .inr ⟨_, getD_mem hi _, _, getD_mem (show k < l.length by omega) _, rfl⟩
    · rw [Int.max_eq_left g]; exact h.one
theorem law_TurnFar (w : World) (v : Value) (l : Pts) (hR : RdF encP 2 w.heap.size w v l) : Ret Try.prog 7 [v].toArray w (.bool true) := by
  refine Ret.of mixed tyTab Try.func7 rfl rfl ?_
  replace hR : RdF encP 2 (fnCx mixed tyTab Try.f7.ntmps w).B (fnCx mixed tyTab Try.f7.ntmps w).w0 v l := hR
  have hle := hR.sl.le
  refine W.sreg ?_
  refine WO.p rfl rfl ?_
  refine WO.nil ?_
  refine W.seq ?_
  refine W.sreg ?_
  refine WO.p rfl rfl ?_
  refine WO.callR rfl Try.call21 (fun L w hi => law_fine w v l (hR.later hi)) rfl ?_
  refine WO.p rfl rfl ?_
  refine WO.nil ?_
  refine W.cond_nbl rfl (fun c1 => ?_) (fun c1 => ?_)
  · first
    | (exfalso; omega)
    | (refine W.sreg ?_
       refine WO.callR rfl Try.call14 (fun L w hi => law_Works w) rfl ?_
       refine WO.p rfl rfl ?_
       refine WO.nil ?_
       refine W.ret ?_
       exact fin.ret (Res.one rfl (RV.tmp rfl)) rfl)
  · first
    | (exfalso; omega)
    | (refine W.skip ?_
       have h00 : chkL l = 0 := by assumption
       have hok := chkL0.1 h00
       have hne : l ≠ [] := List.length_pos_iff.1 (by omega)
       have hsm := lst_sm hok.2 hne
       refine W.sreg ?_
       refine WO.p rfl rfl ?_
       refine WO.callR (r := .tuple #[cirV (lst l), .int .i64 0]) rfl Try.call15 (fun L w hi => by have h := c_Smallest w v l (hR.later hi); rw [h00, if_pos rfl] at h; exact h) rfl ?_
       refine WO.p rfl rfl (WO.p rfl rfl (WO.p rfl rfl ?_))
       refine WO.alloc rfl rfl rfl (fun b1 hb1 => ?_)
       refine WO.storeA rfl rfl rfl rfl Pick.head rfl rfl (WO.p rfl rfl ?_)
       refine WO.nil ?_
       refine W.seq ?_
       refine W.sreg ?_
       refine WO.p rfl rfl (WO.p rfl rfl (WO.p rfl rfl ?_))
       refine WO.guard_bl rfl rfl (fun c2 => ?_) (fun c2 => ?_)
       · first
         | (exfalso; omega)
         | (refine WO.no rfl rfl (WO.no rfl rfl (WO.no rfl rfl (WO.p rfl rfl ?_)))
            refine WO.nil ?_
            refine W.cond_t rfl ?_
            refine W.sreg ?_
            refine WO.p rfl rfl ?_
            refine WO.nil ?_
            refine W.ret ?_
            exact fin.ret (Res.one rfl (RV.tmp rfl)) rfl)
       · first
         | (exfalso; omega)
         | (refine WO.go' rfl (WO.loadA rfl rfl (Cells.own Pick.head) rfl rfl (WO.go' rfl ?_))
            refine WO.callR (r := .int .i64 0) rfl Try.call22 (fun L w hi => by have h := ref_CheckCircle w (lst l); rw [chkR0.2 hsm.ok] at h; exact h) rfl ?_
            refine WO.pg rfl rfl rfl (WO.p rfl rfl ?_)
            refine WO.nil ?_
            refine W.cond_bl rfl (fun c3 => ?_) (fun c3 => ?_)
            · first
              | (exfalso; omega)
              | (refine W.sreg ?_
                 refine WO.p rfl rfl ?_
                 refine WO.nil ?_
                 refine W.ret ?_
                 exact fin.ret (Res.one rfl (RV.tmp rfl)) rfl)
            · first
              | (exfalso; omega)
              | (refine W.skip ?_
                 refine W.sreg ?_
                 refine WO.p rfl rfl ?_
                 refine WO.nil ?_
                 refine W.seq ?_
                 refine W.sreg ?_
                 refine WO.p rfl rfl ?_
                 refine WO.nil ?_
                 refine W.block ?_
                 refine W.loop2 (fun (i : Nat) (d : Int) => i ≤ l.length ∧ FarTo l i 0 d)
                   (fun (i : Nat) (d : Int) => [(6, .int .i64 (i : Int)), (5, .int .i64 d), (3, .pointer (some ⟨b1, 0, none⟩)), (0, v)])
                   (fun (i : Nat) (d : Int) => [pt b1 (.cells #[.int .i64 (lst l).x, .int .i64 (lst l).y, .int .i64 (lst l).den, .int .i64 (lst l).n, .int .i64 (lst l).d] 27 (0, 0))])
                   (fun (i : Nat) (d : Int) => l.length - i) 0 0
                   (by exact ⟨by omega, by omega, fun a b hb hab => by omega, .inl rfl⟩) ⟨rfl, rfl, rfl, rfl, trivial⟩ (by repeat (first | exact Sub.nil | refine Sub.cons (by repeat (first | exact Pick.head | apply Pick.tail)) ?_)) ?_
                 rintro i d ⟨hi0, hF0⟩
                 refine W.seq ?_
                 refine W.sreg ?_
                 refine WO.p rfl rfl (WO.p rfl rfl ?_)
                 refine' WO.len (n := _) rfl rfl ?hs rfl ?_
                 case hs => (first | exact hR.sl)
                 refine WO.p rfl rfl ?_
                 refine WO.nil ?_
                 refine W.cond_bl rfl (fun c4 => ?_) (fun c4 => ?_)
                 · first
                   | (exfalso; omega)
                   | (refine W.skip ?_
                      refine W.seq ?_
                      refine W.block ?_
                      refine W.sreg ?_
                      refine WO.p rfl rfl ?_
                      refine WO.nil ?_
                      refine W.block ?_
                      refine W.loop2 (fun (k : Nat) (d : Int) => k ≤ i ∧ FarTo l i k d)
                        (fun (k : Nat) (d : Int) => [(7, .int .i64 (k : Int)), (6, .int .i64 (i : Int)), (5, .int .i64 d), (3, .pointer (some ⟨b1, 0, none⟩)), (0, v)])
                        (fun (k : Nat) (d : Int) => [pt b1 (.cells #[.int .i64 (lst l).x, .int .i64 (lst l).y, .int .i64 (lst l).den, .int .i64 (lst l).n, .int .i64 (lst l).d] 27 (0, 0))])
                        (fun (k : Nat) (d : Int) => i - k) 0 d
                        (by exact ⟨by omega, hF0⟩) ⟨rfl, rfl, rfl, rfl, rfl, trivial⟩ (by repeat (first | exact Sub.nil | refine Sub.cons (by repeat (first | exact Pick.head | apply Pick.tail)) ?_)) ?_
                      rintro k d ⟨hk0, hF⟩
                      refine W.seq ?_
                      refine W.sreg ?_
                      refine WO.p rfl rfl (WO.p rfl rfl (WO.p rfl rfl ?_))
                      refine WO.nil ?_
                      refine W.cond_bl rfl (fun c5 => ?_) (fun c5 => ?_)
                      · first
                        | (exfalso; omega)
                        | (refine W.skip ?_
                           refine W.seq ?_
                           refine W.block ?_
                           refine W.seq ?_
                           have hpi := at_ok hok.2 (show i < l.length by omega)
                           have hpk := at_ok hok.2 (show k < l.length by omega)
                           have hmore := hF.more hok.2 (by omega) (by omega)
                           have hdb := dist_bd hpi hpk
                           have s1 := sq_bd (a := (l.at i).1 - (l.at k).1) (A := 200) (by obtain ⟨h1, h2⟩ := hpi; obtain ⟨h3, h4⟩ := hpk; omega)
                           have s2 := sq_bd (a := (l.at i).2 - (l.at k).2) (A := 200) (by obtain ⟨h1, h2⟩ := hpi; obtain ⟨h3, h4⟩ := hpk; omega)
                           have pi := hpi.1
                           have pi2 := hpi.2
                           have pk := hpk.1
                           have pk2 := hpk.2
                           simp only [Pts.at] at pi pi2 pk pk2 hdb s1 s2
                           refine W.drawD 23 [.r 0 [], .r 1 [], .r 2 [], .r 3 [], .b 4 [], .r 5 [], .r 6 [], .r 7 [], .r 8 [], .b 9 [], .r 10 [], .r 11 [], .r 12 [], .r 13 [], .r 14 [], .b 15 [], .r 16 [], .r 17 [], .r 18 [], .r 19 [], .b 20 [], .r 21 [], .r 22 []] [] (A0 := []) (Sub.refl _) (by kernel_rfl) ?_ ?_
                           · exact (ALok.r (ALok.r (ALok.r (ALok.r (ALok.b (ALok.r (ALok.r (ALok.r (ALok.r (ALok.b (ALok.r (ALok.r (ALok.r (ALok.r (ALok.r (ALok.b (ALok.r (ALok.r (ALok.r (ALok.r (ALok.b (ALok.r (ALok.r ALok.nil)))))))))))))))))))))))
                           refine' DT.r rfl rfl rfl ?hq ?_
                           case hq =>
                             refine WO.p rfl rfl ?_
                             exact WO.nil ⟨rfl, rfl⟩
                           refine' DT.r rfl rfl rfl ?hq ?_
                           case hq =>
                             refine WO.p rfl rfl ?_
                             exact WO.nil ⟨rfl, rfl⟩
                           refine' DT.r rfl rfl rfl ?hq ?_
                           case hq =>
                             refine' WO.indexAddr (n := _) (i := _) rfl rfl rfl ?hs ?h1 rfl ?_
                             case hs => (first | exact hR.sl)
                             case h1 => (first | omega | (simp; omega))
                             exact WO.nil ⟨rfl, rfl⟩
                           refine' DT.r rfl rfl rfl ?hq ?_
                           case hq =>
                             refine WO.field0 rfl rfl rfl ?_
                             exact WO.nil ⟨rfl, rfl⟩
                           refine' DT.b rfl rfl rfl ?hq ?_
                           case hq =>
                             refine' WO.load (v := _) rfl rfl ?hc rfl ?_
                             case hc => (first | (refine hR.cell0 (i := i) ?_ (0, 0) ?_ <;> first | rfl | omega))
                             exact WO.nil ⟨rfl, rfl⟩
                           refine' DT.r rfl rfl rfl ?hq ?_
                           case hq =>
                             refine WO.p rfl rfl ?_
                             exact WO.nil ⟨rfl, rfl⟩
                           refine' DT.r rfl rfl rfl ?hq ?_
                           case hq =>
                             refine WO.p rfl rfl ?_
                             exact WO.nil ⟨rfl, rfl⟩
                           refine' DT.r rfl rfl rfl ?hq ?_
                           case hq =>
                             refine' WO.indexAddr (n := _) (i := _) rfl rfl rfl ?hs ?h1 rfl ?_
                             case hs => (first | exact hR.sl)
                             case h1 => (first | omega | (simp; omega))
                             exact WO.nil ⟨rfl, rfl⟩
                           refine' DT.r rfl rfl rfl ?hq ?_
                           case hq =>
                             refine WO.field0 rfl rfl rfl ?_
                             exact WO.nil ⟨rfl, rfl⟩
                           refine' DT.b rfl rfl rfl ?hq ?_
                           case hq =>
                             refine' WO.load (v := _) rfl rfl ?hc rfl ?_
                             case hc => (first | (refine hR.cell0 (i := k) ?_ (0, 0) ?_ <;> first | rfl | omega))
                             exact WO.nil ⟨rfl, rfl⟩
                           refine' DT.r rfl rfl rfl ?hq ?_
                           case hq =>
                             refine WO.ar rfl rfl rfl (by (first | (unfold in64; omega) | (unfold in64; omega))) rfl ?_
                             exact WO.nil ⟨rfl, rfl⟩
                           refine' DT.r rfl rfl rfl ?hq ?_
                           case hq =>
                             refine WO.p rfl rfl ?_
                             exact WO.nil ⟨rfl, rfl⟩
                           refine' DT.r rfl rfl rfl ?hq ?_
                           case hq =>
                             refine WO.p rfl rfl ?_
                             exact WO.nil ⟨rfl, rfl⟩
                           refine' DT.r rfl rfl rfl ?hq ?_
                           case hq =>
                             refine' WO.indexAddr (n := _) (i := _) rfl rfl rfl ?hs ?h1 rfl ?_
                             case hs => (first | exact hR.sl)
                             case h1 => (first | omega | (simp; omega))
                             exact WO.nil ⟨rfl, rfl⟩
                           refine' DT.r rfl rfl rfl ?hq ?_
                           case hq =>
                             refine WO.field rfl rfl rfl ?_
                             exact WO.nil ⟨rfl, rfl⟩
                           refine' DT.b rfl rfl rfl ?hq ?_
                           case hq =>
                             refine' WO.load (v := _) rfl rfl ?hc rfl ?_
                             case hc => (first | (refine hR.cellAt (i := i) ?_ (0, 0) ?_ <;> first | rfl | omega))
                             exact WO.nil ⟨rfl, rfl⟩
                           refine' DT.r rfl rfl rfl ?hq ?_
                           case hq =>
                             refine WO.p rfl rfl ?_
                             exact WO.nil ⟨rfl, rfl⟩
                           refine' DT.r rfl rfl rfl ?hq ?_
                           case hq =>
                             refine WO.p rfl rfl ?_
                             exact WO.nil ⟨rfl, rfl⟩
                           refine' DT.r rfl rfl rfl ?hq ?_
                           case hq =>
                             refine' WO.indexAddr (n := _) (i := _) rfl rfl rfl ?hs ?h1 rfl ?_
                             case hs => (first | exact hR.sl)
                             case h1 => (first | omega | (simp; omega))
                             exact WO.nil ⟨rfl, rfl⟩
                           refine' DT.r rfl rfl rfl ?hq ?_
                           case hq =>
                             refine WO.field rfl rfl rfl ?_
                             exact WO.nil ⟨rfl, rfl⟩
                           refine' DT.b rfl rfl rfl ?hq ?_
                           case hq =>
                             refine' WO.load (v := _) rfl rfl ?hc rfl ?_
                             case hc => (first | (refine hR.cellAt (i := k) ?_ (0, 0) ?_ <;> first | rfl | omega))
                             exact WO.nil ⟨rfl, rfl⟩
                           refine' DT.r rfl rfl rfl ?hq ?_
                           case hq =>
                             refine WO.ar rfl rfl rfl (by (first | (unfold in64; omega) | (unfold in64; omega))) rfl ?_
                             exact WO.nil ⟨rfl, rfl⟩
                           refine' DT.r rfl rfl rfl ?hq ?_
                           case hq =>
                             refine WO.p rfl rfl ?_
                             exact WO.nil ⟨rfl, rfl⟩
                           refine DT.nil [_] rfl ?_
                           refine WO.p rfl rfl ?_
                           refine WO.nil ?_
                           refine W.region ?_
                           refine WO.p rfl rfl (WO.p rfl rfl (WO.p rfl rfl (WO.ar rfl rfl rfl (by (first | (unfold in64; omega) | (unfold in64; omega))) rfl (WO.p rfl rfl (WO.p rfl rfl (WO.ar rfl rfl rfl (by (first | (unfold in64; omega) | (unfold in64; omega))) rfl (WO.ar rfl rfl rfl (by (first | (unfold in64; omega) | (unfold in64; omega))) rfl ?_)))))))
                           refine WO.max2 rfl rfl rfl ?_
                           refine WO.p rfl rfl ?_
                           refine WO.nil ?_
                           refine W.region ?_
                           refine WO.p rfl rfl (WO.ar rfl rfl rfl (by (first | (unfold in64; omega) | (unfold in64; omega))) rfl (WO.p rfl rfl ?_))
                           refine WO.nil ?_
                           refine' ⟨k + 1, _, ?hp, ?hmu, ⟨rfl, rfl, rfl, rfl, rfl, trivial⟩, ?hS⟩
                           case hS => repeat (first | exact Sub.nil | refine Sub.cons (by repeat (first | exact Pick.head | apply Pick.tail)) ?_)
                           case hp => exact ⟨by omega, hmore⟩
                           case hmu => omega)
                      · first
                        | (exfalso; omega)
                        | (refine W.exit (blk_same ?_)
                           refine W.region ?_
                           refine WO.p rfl rfl (WO.ar rfl rfl rfl (by (first | (unfold in64; omega) | (unfold in64; omega))) rfl (WO.p rfl rfl ?_))
                           refine WO.nil ?_
                           refine' ⟨i + 1, _, ?hp, ?hmu, ⟨rfl, rfl, rfl, rfl, trivial⟩, ?hS⟩
                           case hS => repeat (first | exact Sub.nil | refine Sub.cons (by repeat (first | exact Pick.head | apply Pick.tail)) ?_)
                           case hp => exact ⟨by omega, (show FarTo l i i d from (by obtain rfl : k = i := (by omega); exact hF)).next⟩
                           case hmu => omega))
                 · first
                   | (exfalso; omega)
                   | (refine W.exit (blk_same ?_)
                      obtain rfl : l.length = i := by omega
                      have hlaw := far_law hok.2 hne hF0.all'
                      have hnn := hF0.nn
                      have hcn := hsm.ok.n
                      have hcd := hsm.ok.d
                      refine W.sreg ?_
                      refine WO.fieldL rfl rfl rfl (WO.loadA rfl rfl (Cells.ownAt (n := 2) Pick.head rfl) rfl rfl ?_)
                      refine WO.alloc rfl rfl rfl (fun b2 hb2 => ?_)
                      refine WO.storeA rfl rfl rfl rfl Pick.head rfl rfl ?_
                      refine WO.nil ?_
                      refine W.sreg ?_
                      refine WO.field0 rfl rfl rfl (WO.load rfl rfl (Cell.own Pick.head rfl) rfl (WO.fieldL rfl rfl rfl (WO.load rfl rfl (Cell.own Pick.head rfl) rfl (WO.p rfl rfl ?_))))
                      refine WO.callR rfl Try.call27 (fun L w hi => ref_Compare w (lst l).n (lst l).d d 4 (by omega) (by omega) (by omega) (by omega) (by unfold in64; omega) (by unfold in64; omega) (by unfold in64; omega) (by unfold in64; omega)) rfl ?_
                      refine WO.p rfl rfl (WO.p rfl rfl ?_)
                      refine WO.guard_bl rfl rfl (fun c6 => ?_) (fun c6 => ?_)
                      · first
                        | (exfalso; omega)
                        | (refine WO.go' rfl (WO.field0 rfl rfl rfl (WO.go' rfl (WO.load rfl rfl (Cell.own Pick.head rfl) rfl (WO.go' rfl (WO.fieldL rfl rfl rfl (WO.go' rfl (WO.load rfl rfl (Cell.own Pick.head rfl) rfl (WO.pg rfl rfl rfl (WO.go' rfl ?_)))))))))
                           refine WO.callR rfl Try.call27 (fun L w hi => ref_Compare w (lst l).n (lst l).d d 3 (by omega) (by omega) (by omega) (by omega) (by unfold in64; omega) (by unfold in64; omega) (by unfold in64; omega) (by unfold in64; omega)) rfl ?_
                           refine WO.pg rfl rfl rfl (WO.p rfl rfl (WO.p rfl rfl ?_))
                           refine WO.guard_bl rfl rfl (fun c7 => ?_) (fun c7 => ?_)
                           · first
                             | (exfalso; omega)
                             | (refine WO.go' rfl ?_
                                refine WO.callR rfl Try.call14 (fun L w hi => law_Works w) rfl ?_
                                refine WO.p rfl rfl (WO.p rfl rfl ?_)
                                refine WO.nil ?_
                                refine W.ret ?_
                                exact fin.ret (Res.one rfl (RV.tmp rfl)) rfl)
                           · first
                             | (exfalso; omega)
                             | (refine WO.no rfl rfl (WO.p rfl rfl (WO.p rfl rfl ?_))
                                refine WO.nil ?_
                                refine W.ret ?_
                                exact fin.ret (Res.one rfl (RV.tmp rfl)) rfl))
                      · first
                        | (exfalso; omega)
                        | (refine WO.no rfl rfl (WO.no rfl rfl (WO.no rfl rfl (WO.no rfl rfl (WO.no rfl rfl (WO.no rfl rfl (WO.no rfl rfl (WO.p rfl rfl (WO.p rfl rfl (WO.no rfl rfl (WO.p rfl rfl (WO.p rfl rfl ?_)))))))))))
                           refine WO.nil ?_
                           refine W.ret ?_
                           exact fin.ret (Res.one rfl (RV.tmp rfl)) rfl)))))
end Go.Proofs.Ytkhplcncfogolaa
