/-
  What is proved here: what a point of a track adds to its smallest circle (no program in sight). Conditions: none; each theorem states its own.
  What is proved here: the law TurnMore. Conditions: none; each contract states its own.
-/
import Derived.Test.YtkhplcncfogolaaM10
import Derived.Test.YtkhplcncfogolaaM14
namespace Go.Proofs.Ytkhplcncfogolaa
open Go Go.TH Go.TH.Dsc
/-- the track without one point -/
def rest (l : Pts) (k : Nat) : Pts := l.take k ++ l.drop (k + 1)
theorem rest_len {l : Pts} {k : Nat} (h : k < l.length) : (rest l k).length = l.length - 1 := by
  unfold rest; rw [List.length_append, List.length_take, List.length_drop]; omega
theorem rest_split {l : Pts} {k : Nat} (h : k < l.length) : l = l.take k ++ l.at k :: l.drop (k + 1) := by
  have e : l.at k = l[k] := by simp [Pts.at, h]
  rw [e, ← List.drop_eq_getElem_cons h, List.take_append_drop]
theorem rest_mem {l : Pts} {k : Nat} (h : k < l.length) (q : Int × Int) : q ∈ l ↔ q ∈ rest l k ∨ q = l.at k := by
  unfold rest
  have e : (q ∈ l) = (q ∈ l.take k ++ l.at k :: l.drop (k + 1)) := congrArg (q ∈ ·) (rest_split h)
  rw [e]
  simp only [List.mem_append, List.mem_cons]
  constructor
  · rintro (h | h | h)
    · exact .inl (.inl h)
    · exact .inr h
    · exact .inl (.inr h)
  · rintro ((h | h) | h)
    · exact .inl h
    · exact .inr (.inr h)
    · exact .inr (.inl h)
theorem rest_at {l : Pts} {k j : Nat} (hj : j < l.length) (h : j ≠ k) : l.at j ∈ rest l k := by
  have e : l.at j = l[j] := by simp [Pts.at, hj]
  rw [e]
  unfold rest
  rcases Nat.lt_or_ge j k with g | g
  · exact List.mem_append.2 (.inl (List.mem_take_iff_getElem.2 ⟨j, by omega, rfl⟩))
  · exact List.mem_append.2 (.inr (List.mem_drop_iff_getElem.2 ⟨j - (k + 1), by omega, by congr 1; omega⟩))
theorem rest_chk {l : Pts} {k : Nat} (hok : (1 ≤ l.length ∧ l.length ≤ 24) ∧ OkL l) (h2 : 2 ≤ l.length) (h : k < l.length) : chkL (rest l k) = 0 :=
  chkL0.2 ⟨by rw [rest_len h]; omega, fun q hq => hok.2 q ((rest_mem h q).2 (.inl hq))⟩
/-- a track between two others with the same smallest circle -/
theorem lst_mid {A B C : Pts} (hC : OkL C) (hA : A ≠ []) (h1 : ∀ q ∈ A, q ∈ B) (h2 : ∀ q ∈ B, q ∈ C) (e : lst A = lst C) : lst B = lst C := by
  have hB : B ≠ [] := fun e => by
    subst e
    obtain ⟨a, ha⟩ := List.exists_mem_of_ne_nil A hA
    have := h1 a ha
    simp at this
  have hC0 : C ≠ [] := fun e => by
    subst e
    obtain ⟨a, ha⟩ := List.exists_mem_of_ne_nil B hB
    have := h2 a ha
    simp at this
  have hs := lst_sm (fun q hq => hC q (h2 q (h1 q hq))) hA
  have hc := lst_sm hC hC0
  rw [e] at hs
  exact ((hs.more h1 (fun p hp => hc.hold p (h2 p hp))).lst (fun q hq => hC q (h2 q hq)) hB).symm
theorem rest_same {l : Pts} {k : Nat} (hl : OkL l) (h0 : l ≠ []) (h : k < l.length) (hk : (k : Int) ∉ rimOf l) : lst (rest l k) = lst l := by
  obtain ⟨hm, hh⟩ := rimOf_mem hl h0
  have hr := allRims_rm hm
  refine lst_mid (A := ofL l (rimOf l)) hl (List.length_pos_iff.1 (by rw [ofL_len]; exact hr.len.1)) (fun q hq => ?_) (fun q hq => (rest_mem h q).2 (.inl hq)) (hit_t.1 hh)
  obtain ⟨y, hy, rfl⟩ := List.mem_map.1 hq
  have hx := hr.rng y hy
  exact rest_at (by omega) (fun e => hk (by rw [show (k : Int) = y by omega]; exact hy))
/-- if the circle becomes another one, it becomes smaller, and does not hold the point -/
theorem rest_less {l : Pts} {k : Nat} (hl : OkL l) (h2 : 2 ≤ l.length) (h : k < l.length) (hn : lst (rest l k) ≠ lst l) : 0 < whr (lst (rest l k)) (l.at k) ∧ lessC (lst (rest l k)) (lst l) := by
  have h0 : rest l k ≠ [] := List.length_pos_iff.1 (by rw [rest_len h]; omega)
  have hw : 0 < whr (lst (rest l k)) (l.at k) := by
    rcases Int.lt_or_le 0 (whr (lst (rest l k)) (l.at k)) with g | g
    · exact g
    · exact absurd (more_in hl h0 (rest_mem h) g).symm hn
  exact ⟨hw, (more_out hl h0 (rest_mem h) hw).2⟩
theorem mem_take1 {r : List Int} {i : Nat} {k : Int} (h : i < r.length) : k ∈ r.take (i + 1) ↔ k ∈ r.take i ∨ r.getD i 0 = k := by
  rw [List.take_succ_eq_append_getElem h, List.mem_append, List.mem_singleton]
  have e : r.getD i 0 = r[i] := by simp [h]
  rw [e]
  exact or_congr_right eq_comm
end Go.Proofs.Ytkhplcncfogolaa
namespace Go.Proofs.Ytkhplcncfogolaa
open Go Go.TH Go.TH.Dsc
attribute [local irreducible] W WO pt
set_option maxRecDepth 10000
set_option maxHeartbeats 1000000
theorem rest_eq (l : Pts) (k : Nat) : ([] ++ (l.drop 0).take (k - 0)) ++ (l.drop (k + 1)).take (l.length - (k + 1)) = rest l k := by
  have e : (l.drop (k + 1)).take (l.length - (k + 1)) = l.drop (k + 1) := List.take_of_length_le (by rw [List.length_drop]; omega)
  rw [e, List.nil_append, List.drop_zero, Nat.sub_zero]; rfl
theorem law_TurnMore (w : World) (v : Value) (l : Pts) (f : Nat) (hR : RdF encP 2 w.heap.size w v l) (hv : HasCap v l.length) (hf : f ≤ 255) : Ret Try.prog 9 [v, .int .u8 (f : Int)].toArray w (.bool true) := by
  refine Ret.of mixed tyTab Try.func9 rfl rfl ?_
  obtain ⟨va, vc, rfl, hcap⟩ := hv
  replace hR : RdF encP 2 (fnCx mixed tyTab Try.f9.ntmps w).B (fnCx mixed tyTab Try.f9.ntmps w).w0 (.slice va l.length vc) l := hR
  have hle := hR.sl.le
  refine W.sreg ?_
  refine WO.p rfl rfl ?_
  refine WO.nil ?_
  refine W.seq ?_
  refine W.sreg ?_
  refine WO.p rfl rfl ?_
  refine WO.callR rfl Try.call21 (fun L w hi => law_fine w _ l (hR.later hi)) rfl ?_
  refine WO.p rfl rfl (WO.p rfl rfl ?_)
  refine WO.guard_nbl rfl rfl (fun c1 => ?_) (fun c1 => ?_)
  · first
    | (exfalso; omega)
    | (refine WO.no rfl rfl (WO.no rfl rfl (WO.no rfl rfl (WO.p rfl rfl ?_)))
       refine WO.nil ?_
       refine W.cond_t rfl ?_
       refine W.sreg ?_
       refine WO.callR rfl Try.call14 (fun L w hi => law_Works w) rfl ?_
       refine WO.p rfl rfl ?_
       refine WO.nil ?_
       refine W.ret ?_
       exact fin.ret (Res.one rfl (RV.tmp rfl)) rfl)
  · first
    | (exfalso; omega)
    | (refine WO.pg rfl rfl rfl (WO.go' rfl ?_)
       refine' WO.len (n := _) rfl rfl ?hs rfl ?_
       case hs => (first | exact hR.sl)
       refine WO.pg rfl rfl rfl (WO.p rfl rfl ?_)
       refine WO.nil ?_
       refine W.cond_bl rfl (fun c2 => ?_) (fun c2 => ?_)
       · first
         | (exfalso; omega)
         | (refine W.sreg ?_
            refine WO.callR rfl Try.call14 (fun L w hi => law_Works w) rfl ?_
            refine WO.p rfl rfl ?_
            refine WO.nil ?_
            refine W.ret ?_
            exact fin.ret (Res.one rfl (RV.tmp rfl)) rfl)
       · first
         | (exfalso; omega)
         | (refine W.skip ?_
            have h00 : chkL l = 0 := by assumption
            have hok := chkL0.1 h00
            have hne : l ≠ [] := List.length_pos_iff.1 (by omega)
            have hsm := lst_sm hok.2 hne
            have hrm := allRims_rm (rimOf_mem hok.2 hne).1
            have hrl := hrm.len
            refine W.sreg ?_
            refine WO.p rfl rfl ?_
            refine WO.callR (r := .tuple #[cirV (lst l), .int .i64 0]) rfl Try.call15 (fun L w hi => by have h := c_Smallest w _ l (hR.later hi); rw [h00, if_pos rfl] at h; exact h) rfl ?_
            refine WO.p rfl rfl (WO.p rfl rfl (WO.p rfl rfl ?_))
            refine WO.alloc rfl rfl rfl (fun b1 hb1 => ?_)
            refine WO.storeA rfl rfl rfl rfl Pick.head rfl rfl (WO.p rfl rfl ?_)
            refine WO.nil ?_
            refine W.sreg ?_
            refine WO.p rfl rfl ?_
            refine WO.call (Post := fun r Hq => ∃ y : Value, r = .tuple #[y, .int .i64 0] ∧ Hq = [OwE encI 3 1 y (rimOf l)]) rfl Try.call26 (fun L w hi => by have h := c_Rim w _ l (hR.later hi); rw [h00, rimV_0 h00] at h; exact h) rfl ?_
            rintro _ _ ⟨rv, rfl, rfl⟩
            refine WO.fact (OwE.sl (enc := encI) (e := 3) (sz := 1) (v := rv) (xs := rimOf l) (by repeat (first | exact Pick.head | apply Pick.tail))) (fun hrs => ?_)
            refine WO.p rfl rfl (WO.p rfl rfl (WO.p rfl rfl (WO.p rfl rfl (WO.p rfl rfl ?_))))
            refine WO.nil ?_
            refine W.sreg ?_
            refine WO.p rfl rfl (WO.conv64 rfl rfl rfl (by (first | (unfold in64; omega) | (unfold in64; omega))) rfl (WO.p rfl rfl ?_))
            refine' WO.len (n := _) rfl rfl ?hs rfl ?_
            case hs => (first | exact hR.sl)
            refine WO.rem rfl rfl (by first | omega | assumption) rfl (WO.p rfl rfl ?_)
            refine WO.nil ?_
            refine W.seq ?_
            obtain ⟨k, htm, hk⟩ := tm_ex (n := l.length) (f := f) (by omega)
            rw [htm]
            have hrc := rest_chk hok (by omega) hk
            have hrok := chkL0.1 hrc
            have hrne : rest l k ≠ [] := List.length_pos_iff.1 (by omega)
            have hrsm := lst_sm hrok.2 hrne
            have hrlen := rest_len hk
            have hnl : ¬ lessC (lst l) (lst (rest l k)) := sub_s hok.2 (fun q hq => (rest_mem hk q).2 (.inl hq)) hrne
            refine W.drawD 9 [.r 1 [], .r 2 [], .r 3 [], .r 5 [], .r 6 [], .r 7 [], .r 8 [], .c 0 [], .c 4 []] [] (A0 := []) (Sub.refl _) (by kernel_rfl) ?_ ?_
            · exact (ALok.r (ALok.r (ALok.r (ALok.r (ALok.r (ALok.r (ALok.r (ALok.c (ALok.c ALok.nil)))))))))
            refine' DT.r rfl rfl rfl ?hq ?_
            case hq =>
              refine WO.p rfl rfl ?_
              exact WO.nil ⟨rfl, rfl⟩
            refine' DT.r rfl rfl rfl ?hq ?_
            case hq =>
              refine WO.p rfl rfl ?_
              exact WO.nil ⟨rfl, rfl⟩
            refine' DT.r rfl rfl rfl ?hq ?_
            case hq =>
              refine WO.slSl (lo := 0) (hi := k) (mx := vc) rfl rfl bnd.no (bnd.at rfl) bnd.no (by simp) (by omega) (by omega) (by omega) rfl ?_
              exact WO.nil ⟨rfl, rfl⟩
            refine' DT.r rfl rfl rfl ?hq ?_
            case hq =>
              refine WO.p rfl rfl ?_
              exact WO.nil ⟨rfl, rfl⟩
            refine' DT.r rfl rfl rfl ?hq ?_
            case hq =>
              refine WO.p rfl rfl ?_
              exact WO.nil ⟨rfl, rfl⟩
            refine' DT.r rfl rfl rfl ?hq ?_
            case hq =>
              refine WO.ar rfl rfl rfl (by (first | (unfold in64; omega) | (unfold in64; omega))) rfl ?_
              exact WO.nil ⟨rfl, rfl⟩
            refine' DT.r rfl rfl rfl ?hq ?_
            case hq =>
              refine WO.slSl (lo := k + 1) (hi := l.length) (mx := vc) rfl rfl (bnd.atZ rfl (by omega)) bnd.no bnd.no (by simp) (by omega) (by omega) (by omega) rfl ?_
              exact WO.nil ⟨rfl, rfl⟩
            refine DT.c [_, _] rfl rfl rfl rfl ?_
            refine WO.buildSl0 rfl rfl (fun b0 => ?_)
            refine WO.nil ⟨_, [_], rfl, rfl, (Keep.r (Keep.r (Keep.r (Keep.r (Keep.r (Keep.r (Keep.r Keep.nil))))))), ?_⟩
            refine DT.c [_, _, _] rfl rfl rfl rfl ?_
            refine WO.appendEZ (enc := encP) (m := ((l.drop 0).take (k - 0)).length) (xs := []) (ys := (l.drop 0).take (k - 0)) encP_ok rfl rfl rfl rfl rfl (by repeat (first | exact Pick.head | apply Pick.tail)) ((hR.sub (lo := 0) (hi := k) (mx := vc) (by omega) (by omega) (by omega)).sl) rfl ((hR.sub (lo := 0) (hi := k) (mx := vc) (by omega) (by omega) (by omega)).flat encP_ok) (by simp only [List.length_nil, List.length_take, List.length_drop]; omega) (by simp only [List.length_nil, List.length_take, List.length_drop]; omega) rfl (fun v1 => ?_)
            refine WO.nil ⟨_, [_], rfl, rfl, (Keep.c (Keep.r (Keep.r (Keep.r (Keep.r (Keep.r (Keep.r (Keep.r Keep.nil)))))))), ?_⟩
            refine DT.nil [_, _, _] rfl ?_
            refine WO.appendEZ (enc := encP) (m := ((l.drop (k + 1)).take (l.length - (k + 1))).length) (xs := [] ++ (l.drop 0).take (k - 0)) (ys := (l.drop (k + 1)).take (l.length - (k + 1))) encP_ok rfl rfl rfl rfl rfl (by repeat (first | exact Pick.head | apply Pick.tail)) ((hR.sub (lo := k + 1) (hi := l.length) (mx := vc) (by omega) (by omega) (by omega)).sl) rfl ((hR.sub (lo := k + 1) (hi := l.length) (mx := vc) (by omega) (by omega) (by omega)).flat encP_ok) (by simp only [List.nil_append, List.length_take, List.length_drop]; omega) (by simp only [List.nil_append, List.length_take, List.length_drop]; omega) rfl (fun xv => ?_)
            rw [rest_eq]
            refine WO.p rfl rfl ?_
            refine WO.nil ?_
            refine W.sreg ?_
            refine WO.p rfl rfl ?_
            refine WO.callR (r := .tuple #[cirV (lst (rest l k)), .int .i64 0]) rfl Try.call15 (fun L w hi => by have h := c_Smallest w xv (rest l k) (RdF.of_ow (e := 39) encP_ok (by repeat (first | exact Pick.head | apply Pick.tail)) hi); rw [hrc, if_pos rfl] at h; exact h) rfl ?_
            refine WO.p rfl rfl (WO.p rfl rfl (WO.p rfl rfl ?_))
            refine WO.alloc rfl rfl rfl (fun b2 hb2 => ?_)
            refine WO.storeA rfl rfl rfl rfl Pick.head rfl rfl (WO.p rfl rfl ?_)
            refine WO.nil ?_
            refine W.seq ?_
            refine W.sreg ?_
            refine WO.p rfl rfl (WO.p rfl rfl (WO.p rfl rfl ?_))
            refine WO.guard_bl rfl rfl (fun c3 => ?_) (fun c3 => ?_)
            · first
              | (exfalso; omega)
              | (refine WO.no rfl rfl (WO.no rfl rfl (WO.p rfl rfl (WO.p rfl rfl (WO.no rfl rfl (WO.no rfl rfl (WO.p rfl rfl (WO.p rfl rfl (WO.no rfl rfl (WO.no rfl rfl (WO.no rfl rfl (WO.p rfl rfl ?_)))))))))))
                 refine WO.p rfl rfl (WO.no rfl rfl (WO.no rfl rfl (WO.no rfl rfl (WO.p rfl rfl (WO.p rfl rfl (WO.no rfl rfl (WO.no rfl rfl (WO.no rfl rfl (WO.p rfl rfl (WO.p rfl rfl (WO.no rfl rfl ?_)))))))))))
                 refine WO.no rfl rfl (WO.no rfl rfl (WO.p rfl rfl (WO.p rfl rfl (WO.no rfl rfl (WO.no rfl rfl (WO.no rfl rfl (WO.no rfl rfl (WO.no rfl rfl (WO.p rfl rfl ?_)))))))))
                 refine WO.nil ?_
                 refine W.cond_t rfl ?_
                 refine W.sreg ?_
                 refine WO.p rfl rfl ?_
                 refine WO.nil ?_
                 refine W.ret ?_
                 exact fin.ret (Res.one rfl (RV.tmp rfl)) rfl)
            · first
              | (exfalso; omega)
              | (refine WO.pg rfl rfl rfl (WO.pg rfl rfl rfl (WO.p rfl rfl (WO.p rfl rfl ?_)))
                 refine WO.guard_bl rfl rfl (fun c4 => ?_) (fun c4 => ?_)
                 · first
                   | (exfalso; omega)
                   | (refine WO.no rfl rfl (WO.no rfl rfl (WO.p rfl rfl (WO.p rfl rfl (WO.no rfl rfl (WO.no rfl rfl (WO.no rfl rfl (WO.p rfl rfl (WO.p rfl rfl (WO.no rfl rfl (WO.no rfl rfl (WO.no rfl rfl ?_)))))))))))
                      refine WO.p rfl rfl (WO.p rfl rfl (WO.no rfl rfl (WO.no rfl rfl (WO.no rfl rfl (WO.p rfl rfl (WO.p rfl rfl (WO.no rfl rfl (WO.no rfl rfl (WO.no rfl rfl (WO.p rfl rfl (WO.p rfl rfl ?_)))))))))))
                      refine WO.no rfl rfl (WO.no rfl rfl (WO.no rfl rfl (WO.no rfl rfl (WO.no rfl rfl (WO.p rfl rfl ?_)))))
                      refine WO.nil ?_
                      refine W.cond_t rfl ?_
                      refine W.sreg ?_
                      refine WO.p rfl rfl ?_
                      refine WO.nil ?_
                      refine W.ret ?_
                      exact fin.ret (Res.one rfl (RV.tmp rfl)) rfl)
                 · first
                   | (exfalso; omega)
                   | (refine WO.pg rfl rfl rfl (WO.pg rfl rfl rfl (WO.p rfl rfl (WO.p rfl rfl ?_)))
                      refine WO.guard_bl rfl rfl (fun c5 => ?_) (fun c5 => ?_)
                      · first
                        | (exfalso; omega)
                        | (refine WO.no rfl rfl (WO.no rfl rfl (WO.no rfl rfl (WO.p rfl rfl (WO.p rfl rfl (WO.no rfl rfl (WO.no rfl rfl (WO.no rfl rfl (WO.p rfl rfl (WO.p rfl rfl (WO.no rfl rfl (WO.no rfl rfl ?_)))))))))))
                           refine WO.no rfl rfl (WO.p rfl rfl (WO.p rfl rfl (WO.no rfl rfl (WO.no rfl rfl (WO.no rfl rfl (WO.p rfl rfl (WO.p rfl rfl (WO.no rfl rfl (WO.no rfl rfl (WO.no rfl rfl (WO.no rfl rfl ?_)))))))))))
                           refine WO.no rfl rfl (WO.p rfl rfl ?_)
                           refine WO.nil ?_
                           refine W.cond_t rfl ?_
                           refine W.sreg ?_
                           refine WO.p rfl rfl ?_
                           refine WO.nil ?_
                           refine W.ret ?_
                           exact fin.ret (Res.one rfl (RV.tmp rfl)) rfl)
                      · first
                        | (exfalso; omega)
                        | (refine WO.pg rfl rfl rfl (WO.go' rfl ?_)
                           refine' WO.len (n := _) rfl rfl ?hs rfl ?_
                           case hs => (first | exact hrs)
                           refine WO.pg rfl rfl rfl (WO.p rfl rfl (WO.p rfl rfl ?_))
                           refine WO.guard_bl rfl rfl (fun c6 => ?_) (fun c6 => ?_)
                           · first
                             | (exfalso; omega)
                             | (refine WO.no rfl rfl (WO.no rfl rfl (WO.no rfl rfl (WO.p rfl rfl (WO.p rfl rfl (WO.no rfl rfl (WO.no rfl rfl (WO.no rfl rfl (WO.p rfl rfl (WO.p rfl rfl (WO.no rfl rfl (WO.no rfl rfl ?_)))))))))))
                                refine WO.no rfl rfl (WO.p rfl rfl (WO.p rfl rfl (WO.no rfl rfl (WO.no rfl rfl (WO.no rfl rfl (WO.no rfl rfl (WO.no rfl rfl (WO.p rfl rfl ?_))))))))
                                refine WO.nil ?_
                                refine W.cond_t rfl ?_
                                refine W.sreg ?_
                                refine WO.p rfl rfl ?_
                                refine WO.nil ?_
                                refine W.ret ?_
                                exact fin.ret (Res.one rfl (RV.tmp rfl)) rfl)
                           · first
                             | (exfalso; omega)
                             | (refine WO.pg rfl rfl rfl (WO.go' rfl ?_)
                                refine' WO.len (n := _) rfl rfl ?hs rfl ?_
                                case hs => (first | exact hrs)
                                refine WO.pg rfl rfl rfl (WO.p rfl rfl (WO.p rfl rfl ?_))
                                refine WO.guard_bl rfl rfl (fun c7 => ?_) (fun c7 => ?_)
                                · first
                                  | (exfalso; omega)
                                  | (refine WO.no rfl rfl (WO.no rfl rfl (WO.no rfl rfl (WO.p rfl rfl (WO.p rfl rfl (WO.no rfl rfl (WO.no rfl rfl (WO.no rfl rfl (WO.p rfl rfl (WO.p rfl rfl (WO.no rfl rfl (WO.no rfl rfl ?_)))))))))))
                                     refine WO.no rfl rfl (WO.no rfl rfl (WO.no rfl rfl (WO.p rfl rfl ?_)))
                                     refine WO.nil ?_
                                     refine W.cond_t rfl ?_
                                     refine W.sreg ?_
                                     refine WO.p rfl rfl ?_
                                     refine WO.nil ?_
                                     refine W.ret ?_
                                     exact fin.ret (Res.one rfl (RV.tmp rfl)) rfl)
                                · first
                                  | (exfalso; omega)
                                  | (refine WO.go' rfl (WO.loadA rfl rfl (Cells.own (Pick.tail (Pick.tail (Pick.tail (Pick.head))))) rfl rfl (WO.go' rfl ?_))
                                     refine WO.callR (r := .int .i64 0) rfl Try.call22 (fun L w hi => by have h := ref_CheckCircle w (lst l); rw [chkR0.2 hsm.ok] at h; exact h) rfl ?_
                                     refine WO.pg rfl rfl rfl (WO.p rfl rfl (WO.p rfl rfl ?_))
                                     refine WO.guard_bl rfl rfl (fun c8 => ?_) (fun c8 => ?_)
                                     · first
                                       | (exfalso; omega)
                                       | (refine WO.no rfl rfl (WO.no rfl rfl (WO.no rfl rfl (WO.p rfl rfl (WO.p rfl rfl (WO.no rfl rfl (WO.no rfl rfl (WO.no rfl rfl (WO.no rfl rfl (WO.no rfl rfl (WO.p rfl rfl ?_))))))))))
                                          refine WO.nil ?_
                                          refine W.cond_t rfl ?_
                                          refine W.sreg ?_
                                          refine WO.p rfl rfl ?_
                                          refine WO.nil ?_
                                          refine W.ret ?_
                                          exact fin.ret (Res.one rfl (RV.tmp rfl)) rfl)
                                     · first
                                       | (exfalso; omega)
                                       | (refine WO.go' rfl (WO.loadA rfl rfl (Cells.own Pick.head) rfl rfl (WO.go' rfl ?_))
                                          refine WO.callR (r := .int .i64 0) rfl Try.call22 (fun L w hi => by have h := ref_CheckCircle w (lst (rest l k)); rw [chkR0.2 hrsm.ok] at h; exact h) rfl ?_
                                          refine WO.pg rfl rfl rfl (WO.p rfl rfl (WO.p rfl rfl ?_))
                                          refine WO.guard_bl rfl rfl (fun c9 => ?_) (fun c9 => ?_)
                                          · first
                                            | (exfalso; omega)
                                            | (refine WO.no rfl rfl (WO.no rfl rfl (WO.no rfl rfl (WO.no rfl rfl (WO.no rfl rfl (WO.p rfl rfl ?_)))))
                                               refine WO.nil ?_
                                               refine W.cond_t rfl ?_
                                               refine W.sreg ?_
                                               refine WO.p rfl rfl ?_
                                               refine WO.nil ?_
                                               refine W.ret ?_
                                               exact fin.ret (Res.one rfl (RV.tmp rfl)) rfl)
                                          · first
                                            | (exfalso; omega)
                                            | (refine WO.go' rfl (WO.fieldL rfl rfl rfl (WO.go' rfl (WO.loadA rfl rfl (Cells.ownAt (n := 2) (Pick.tail (Pick.tail (Pick.tail (Pick.head)))) rfl) rfl rfl (WO.go' rfl (WO.fieldL rfl rfl rfl (WO.go' rfl (WO.loadA rfl rfl (Cells.ownAt (n := 2) Pick.head rfl) rfl rfl (WO.go' rfl ?_))))))))
                                               refine WO.callR (r := .bool false) rfl Try.call25 (fun L w hi => by rw [← bl_f.2 hnl]; exact ref_LessC w (lst l) (lst (rest l k)) hsm.ok hrsm.ok) rfl ?_
                                               refine WO.p rfl rfl ?_
                                               refine WO.nil ?_
                                               refine W.cond_f rfl ?_
                                               refine W.skip ?_
                                               refine W.sreg ?_
                                               refine WO.p rfl rfl ?_
                                               refine WO.nil ?_
                                               refine W.seq ?_
                                               refine W.sreg ?_
                                               refine WO.p rfl rfl ?_
                                               refine WO.nil ?_
                                               refine W.block ?_
                                               refine W.loop2 (fun (i : Nat) (b : Bool) => i ≤ (rimOf l).length ∧ (b = true ↔ (k : Int) ∈ (rimOf l).take i))
                                                 (fun (i : Nat) (b : Bool) => [(14, .int .i64 (i : Int)), (13, .bool b), (11, .pointer (some ⟨b2, 0, none⟩)), (10, xv), (9, .int .i64 (k : Int)), (7, rv), (5, .pointer (some ⟨b1, 0, none⟩)), (0, .slice va l.length vc)])
                                                 (fun (i : Nat) (b : Bool) => [pt b2 (.cells #[.int .i64 (lst (rest l k)).x, .int .i64 (lst (rest l k)).y, .int .i64 (lst (rest l k)).den, .int .i64 (lst (rest l k)).n, .int .i64 (lst (rest l k)).d] 27 (0, 0)), pt b1 (.cells #[.int .i64 (lst l).x, .int .i64 (lst l).y, .int .i64 (lst l).den, .int .i64 (lst l).n, .int .i64 (lst l).d] 27 (0, 0)), OwE encP 39 2 xv (rest l k), OwE encI 3 1 rv (rimOf l)])
                                                 (fun (i : Nat) (b : Bool) => (rimOf l).length - i) 0 false
                                                 (by exact ⟨by omega, by simp⟩) ⟨rfl, rfl, rfl, rfl, rfl, rfl, rfl, rfl, trivial⟩ (by repeat (first | exact Sub.nil | refine Sub.cons (by repeat (first | exact Pick.head | apply Pick.tail)) ?_)) ?_
                                               rintro i b ⟨hi0, hin⟩
                                               refine W.seq ?_
                                               refine W.sreg ?_
                                               refine WO.p rfl rfl (WO.p rfl rfl ?_)
                                               refine' WO.len (n := _) rfl rfl ?hs rfl ?_
                                               case hs => (first | exact hrs)
                                               refine WO.p rfl rfl ?_
                                               refine WO.nil ?_
                                               refine W.cond_bl rfl (fun c10 => ?_) (fun c10 => ?_)
                                               · first
                                                 | (exfalso; omega)
                                                 | (refine W.skip ?_
                                                    refine W.seq ?_
                                                    refine W.block ?_
                                                    refine W.region ?_
                                                    refine WO.p rfl rfl (WO.p rfl rfl ?_)
                                                    refine WO.guard_b rfl rfl (fun c11 => ?_) (fun c11 => ?_)
                                                    · first
                                                      | (exfalso; omega)
                                                      | (refine WO.no rfl rfl (WO.no rfl rfl (WO.no rfl rfl (WO.no rfl rfl (WO.no rfl rfl (WO.no rfl rfl (WO.p rfl rfl (WO.p rfl rfl ?_)))))))
                                                         refine WO.nil ?_
                                                         refine W.region ?_
                                                         refine WO.p rfl rfl (WO.ar rfl rfl rfl (by (first | (unfold in64; omega) | (unfold in64; omega))) rfl (WO.p rfl rfl ?_))
                                                         refine WO.nil ?_
                                                         refine' ⟨i + 1, _, ?hp, ?hmu, ⟨rfl, rfl, rfl, rfl, rfl, rfl, rfl, rfl, trivial⟩, ?hS⟩
                                                         case hS => repeat (first | exact Sub.nil | refine Sub.cons (by repeat (first | exact Pick.head | apply Pick.tail)) ?_)
                                                         case hp => exact ⟨by omega, by rw [mem_take1 (by omega)]; simp_all [bl_eq]⟩
                                                         case hmu => omega)
                                                    · first
                                                      | (exfalso; omega)
                                                      | (refine WO.pg rfl rfl rfl (WO.pg rfl rfl rfl (WO.go' rfl ?_))
                                                         refine' WO.indexAddr (n := _) (i := _) rfl rfl rfl ?hs ?h1 rfl ?_
                                                         case hs => (first | exact hrs)
                                                         case h1 => (first | omega | (simp; omega))
                                                         refine WO.go' rfl ?_
                                                         refine' WO.load (v := _) rfl rfl ?hc rfl ?_
                                                         case hc => (first | (refine OwE.cellI (e := 3) (l := rimOf l) (i := i) ?_ (by omega); repeat (first | exact Sub.nil | refine Sub.cons (by repeat (first | exact Pick.head | apply Pick.tail)) ?_)))
                                                         refine WO.pg rfl rfl rfl (WO.pg rfl rfl rfl (WO.p rfl rfl (WO.p rfl rfl ?_)))
                                                         refine WO.nil ?_
                                                         refine W.region ?_
                                                         refine WO.p rfl rfl (WO.ar rfl rfl rfl (by (first | (unfold in64; omega) | (unfold in64; omega))) rfl (WO.p rfl rfl ?_))
                                                         refine WO.nil ?_
                                                         refine' ⟨i + 1, _, ?hp, ?hmu, ⟨rfl, rfl, rfl, rfl, rfl, rfl, rfl, rfl, trivial⟩, ?hS⟩
                                                         case hS => repeat (first | exact Sub.nil | refine Sub.cons (by repeat (first | exact Pick.head | apply Pick.tail)) ?_)
                                                         case hp => exact ⟨by omega, by rw [mem_take1 (by omega)]; simp_all [bl_eq]⟩
                                                         case hmu => omega))
                                               · first
                                                 | (exfalso; omega)
                                                 | (refine W.exit (blk_same ?_)
                                                    refine W.seq ?_
                                                    obtain rfl : (rimOf l).length = i := by omega
                                                    rw [List.take_length] at hin
                                                    refine W.sreg ?_
                                                    refine WO.p rfl rfl (WO.p rfl rfl ?_)
                                                    refine WO.nil ?_
                                                    refine W.cond rfl (fun c12 => ?_) (fun c12 => ?_)
                                                    · first
                                                      | (exfalso; omega)
                                                      | (have hsame := rest_same hok.2 hne hk (fun h => by simp_all)
                                                         refine W.sreg ?_
                                                         refine WO.loadA rfl rfl (Cells.own Pick.head) rfl rfl (WO.loadA rfl rfl (Cells.own (Pick.tail (Pick.head))) rfl rfl ?_)
                                                         refine WO.eqT rfl rfl (show EqT Try.prog .eql 27 (cirV (lst (rest l k))) (cirV (lst l)) (.bool true) by rw [hsame]; exact eq27t _) rfl ?_
                                                         refine WO.p rfl rfl (WO.go' rfl ?_)
                                                         refine WO.callR rfl Try.call14 (fun L w hi => law_Works w) rfl ?_
                                                         refine WO.p rfl rfl (WO.p rfl rfl ?_)
                                                         refine WO.nil ?_
                                                         refine W.ret ?_
                                                         exact fin.ret (Res.one rfl (RV.tmp rfl)) rfl)
                                                    · first
                                                      | (exfalso; omega)
                                                      | (refine W.skip ?_
                                                         refine W.sreg ?_
                                                         refine WO.p rfl rfl ?_
                                                         refine WO.call (Post := fun r Hq => ∃ y : Value, r = .tuple #[y, .int .i64 0] ∧ Hq = [OwE encI 3 1 y (rimOf (rest l k))]) rfl Try.call26 (fun L w hi => by have h := c_Rim w xv (rest l k) (RdF.of_ow (e := 39) encP_ok (by repeat (first | exact Pick.head | apply Pick.tail)) hi); rw [hrc, rimV_0 hrc] at h; exact h) rfl ?_
                                                         rintro _ _ ⟨rw', rfl, rfl⟩
                                                         refine WO.p rfl rfl (WO.p rfl rfl (WO.p rfl rfl (WO.p rfl rfl (WO.p rfl rfl ?_))))
                                                         refine WO.nil ?_
                                                         refine W.seq ?_
                                                         refine W.sreg ?_
                                                         refine WO.loadA rfl rfl (Cells.own (Pick.tail (Pick.head))) rfl rfl (WO.loadA rfl rfl (Cells.own (Pick.tail (Pick.tail (Pick.head)))) rfl rfl ?_)
                                                         refine WO.eqT rfl rfl (eq27 (lst (rest l k)) (lst l)) rfl ?_
                                                         refine WO.nil ?_
                                                         refine W.cond_bl rfl (fun c13 => ?_) (fun c13 => ?_)
                                                         · first
                                                           | (exfalso; omega)
                                                           | (refine W.sreg ?_
                                                              refine WO.p rfl rfl (WO.p rfl rfl ?_)
                                                              refine WO.callR (r := .tuple #[cirV (lst (rest l k)), .int .i64 0]) rfl Try.call31 (fun L w hi => by rw [← crV_rim hrc]; exact ref_CheckRim w xv rw' (rest l k) (rimOf (rest l k)) (RdF.of_ow (e := 39) encP_ok (by repeat (first | exact Pick.head | apply Pick.tail)) hi) (RdF.of_ow (e := 3) encI_ok (by repeat (first | exact Pick.head | apply Pick.tail)) hi)) rfl ?_
                                                              refine WO.p rfl rfl (WO.p rfl rfl (WO.p rfl rfl ?_))
                                                              refine WO.alloc rfl rfl rfl (fun b3 hb3 => ?_)
                                                              refine WO.storeA rfl rfl rfl rfl Pick.head rfl rfl (WO.p rfl rfl ?_)
                                                              refine WO.nil ?_
                                                              have hsame : lst (rest l k) = lst l := by assumption
                                                              refine W.sreg ?_
                                                              refine WO.p rfl rfl (WO.p rfl rfl (WO.p rfl rfl ?_))
                                                              refine WO.guard_bl rfl rfl (fun c14 => ?_) (fun c14 => ?_)
                                                              · first
                                                                | (exfalso; omega)
                                                                | (refine WO.pg rfl rfl rfl (WO.pg rfl rfl rfl (WO.p rfl rfl (WO.p rfl rfl ?_)))
                                                                   refine WO.guard_bl rfl rfl (fun c15 => ?_) (fun c15 => ?_)
                                                                   · first
                                                                     | (exfalso; omega)
                                                                     | (refine WO.go' rfl (WO.loadA rfl rfl (Cells.own Pick.head) rfl rfl (WO.go' rfl (WO.loadA rfl rfl (Cells.own (Pick.tail (Pick.tail (Pick.tail (Pick.head))))) rfl rfl (WO.go' rfl ?_))))
                                                                        refine WO.eqT rfl rfl (show EqT Try.prog .eql 27 (cirV (lst (rest l k))) (cirV (lst l)) (.bool true) by rw [hsame]; exact eq27t _) rfl ?_
                                                                        refine WO.p rfl rfl (WO.p rfl rfl (WO.go' rfl ?_))
                                                                        refine WO.callR rfl Try.call14 (fun L w hi => law_Works w) rfl ?_
                                                                        refine WO.p rfl rfl (WO.p rfl rfl ?_)
                                                                        refine WO.nil ?_
                                                                        refine W.ret ?_
                                                                        exact fin.ret (Res.one rfl (RV.tmp rfl)) rfl)
                                                                   · first
                                                                     | (exfalso; omega)
                                                                     | (refine WO.no rfl rfl (WO.no rfl rfl (WO.no rfl rfl (WO.p rfl rfl (WO.p rfl rfl (WO.no rfl rfl (WO.p rfl rfl (WO.p rfl rfl ?_)))))))
                                                                        refine WO.nil ?_
                                                                        refine W.ret ?_
                                                                        exact fin.ret (Res.one rfl (RV.tmp rfl)) rfl))
                                                              · first
                                                                | (exfalso; omega)
                                                                | (refine WO.no rfl rfl (WO.no rfl rfl (WO.p rfl rfl (WO.p rfl rfl (WO.no rfl rfl (WO.no rfl rfl (WO.no rfl rfl (WO.p rfl rfl (WO.p rfl rfl (WO.no rfl rfl (WO.p rfl rfl (WO.p rfl rfl ?_)))))))))))
                                                                   refine WO.nil ?_
                                                                   refine W.ret ?_
                                                                   exact fin.ret (Res.one rfl (RV.tmp rfl)) rfl))
                                                         · first
                                                           | (exfalso; omega)
                                                           | (refine W.skip ?_
                                                              refine W.seq ?_
                                                              have hls := rest_less hok.2 (by omega) hk (by assumption)
                                                              obtain ⟨hw0, hls⟩ := hls
                                                              have hpk := at_ok hok.2 hk
                                                              refine W.drawD 11 [.r 0 [], .b 1 [], .r 2 [], .b 3 [], .b 4 [], .r 5 [], .b 6 [], .r 7 [], .r 8 [], .r 9 [], .b 10 []] [] (A0 := []) (Sub.refl _) (by kernel_rfl) ?_ ?_
                                                              · exact (ALok.r (ALok.b (ALok.r (ALok.b (ALok.b (ALok.r (ALok.b (ALok.r (ALok.r (ALok.r (ALok.b ALok.nil)))))))))))
                                                              refine' DT.r rfl rfl rfl ?hq ?_
                                                              case hq =>
                                                                refine WO.fieldL rfl rfl rfl ?_
                                                                exact WO.nil ⟨rfl, rfl⟩
                                                              refine' DT.b rfl rfl rfl ?hq ?_
                                                              case hq =>
                                                                refine WO.loadA rfl rfl (Cells.ownAt (n := 2) (Pick.tail (Pick.head)) rfl) rfl rfl ?_
                                                                exact WO.nil ⟨rfl, rfl⟩
                                                              refine' DT.r rfl rfl rfl ?hq ?_
                                                              case hq =>
                                                                refine WO.fieldL rfl rfl rfl ?_
                                                                exact WO.nil ⟨rfl, rfl⟩
                                                              refine' DT.b rfl rfl rfl ?hq ?_
                                                              case hq =>
                                                                refine WO.loadA rfl rfl (Cells.ownAt (n := 2) (Pick.tail (Pick.tail (Pick.head))) rfl) rfl rfl ?_
                                                                exact WO.nil ⟨rfl, rfl⟩
                                                              refine' DT.b rfl rfl rfl ?hq ?_
                                                              case hq =>
                                                                refine WO.callR (r := .bool true) rfl Try.call25 (fun L w hi => by rw [← bl_t.2 hls]; exact ref_LessC w (lst (rest l k)) (lst l) hrsm.ok hsm.ok) rfl ?_
                                                                exact WO.nil ⟨rfl, rfl⟩
                                                              refine' DT.r rfl rfl rfl ?hq ?_
                                                              case hq =>
                                                                refine WO.p rfl rfl ?_
                                                                exact WO.nil ⟨rfl, rfl⟩
                                                              refine' DT.b rfl rfl rfl ?hq ?_
                                                              case hq =>
                                                                refine WO.go' rfl (WO.loadA rfl rfl (Cells.own (Pick.tail (Pick.head))) rfl rfl ?_)
                                                                exact WO.nil ⟨rfl, rfl⟩
                                                              refine' DT.r rfl rfl rfl ?hq ?_
                                                              case hq =>
                                                                refine WO.pg rfl rfl rfl ?_
                                                                exact WO.nil ⟨rfl, rfl⟩
                                                              refine' DT.r rfl rfl rfl ?hq ?_
                                                              case hq =>
                                                                refine WO.pg rfl rfl rfl ?_
                                                                exact WO.nil ⟨rfl, rfl⟩
                                                              refine' DT.r rfl rfl rfl ?hq ?_
                                                              case hq =>
                                                                refine WO.go' rfl ?_
                                                                refine' WO.indexAddr (n := _) (i := _) rfl rfl rfl ?hs ?h1 rfl ?_
                                                                case hs => (first | exact hR.sl)
                                                                case h1 => (first | omega | (simp; omega))
                                                                exact WO.nil ⟨rfl, rfl⟩
                                                              refine' DT.b rfl rfl rfl ?hq ?_
                                                              case hq =>
                                                                refine WO.go' rfl ?_
                                                                refine' WO.loadA (vs := _) rfl rfl ?hc ?hl rfl ?_
                                                                case hc => (first | exact RdF.cells2 hR (i := k) (by omega))
                                                                case hl => rfl
                                                                exact WO.nil ⟨rfl, rfl⟩
                                                              refine DT.nil [_, _, _, _, _] rfl ?_
                                                              refine WO.go' rfl ?_
                                                              refine WO.callR (r := .int .i64 (whr (lst (rest l k)) (l.at k))) rfl Try.call29 (fun L w hi => ref_Where w (lst (rest l k)) (l.at k) hrsm.ok hpk) rfl ?_
                                                              refine WO.pg rfl rfl rfl (WO.p rfl rfl (WO.p rfl rfl ?_))
                                                              refine WO.guard_bl rfl rfl (fun c16 => ?_) (fun c16 => ?_)
                                                              · first
                                                                | (exfalso; omega)
                                                                | (refine WO.go' rfl ?_
                                                                   refine WO.callR rfl Try.call14 (fun L w hi => law_Works w) rfl ?_
                                                                   refine WO.p rfl rfl (WO.p rfl rfl ?_)
                                                                   refine WO.nil ?_
                                                                   refine W.ret ?_
                                                                   exact fin.ret (Res.one rfl (RV.tmp rfl)) rfl)
                                                              · first
                                                                | (exfalso; omega)
                                                                | (refine WO.no rfl rfl (WO.p rfl rfl (WO.p rfl rfl ?_))
                                                                   refine WO.nil ?_
                                                                   refine W.ret ?_
                                                                   exact fin.ret (Res.one rfl (RV.tmp rfl)) rfl)))))))))))))
end Go.Proofs.Ytkhplcncfogolaa
