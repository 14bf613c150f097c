/-
  What is proved here: the best order is found. Conditions: none; each contract states its own.
  What is proved here: the reference: all orders, the best one. Conditions: none; each contract states its own.
  What is proved here: maps from states to numbers. Conditions: none; each rule states its own.
  What is proved here: when sets of runs are over. Conditions: none; each contract states its own.
  What is proved here: when sets of runs are over at the earliest. Conditions: none; each contract states its own.
-/
import Derived.Test.YtkonhpcldomidaaM5
import Derived.Test.YtkonhpcldomidaaM3
import Derived.WideKeyRuns
set_option linter.unusedVariables false
set_option linter.unusedSimpArgs false
namespace Go.Proofs.Ytkonhpcldomidaa
open Go Go.TH
attribute [local irreducible] W WO pt
set_option maxRecDepth 10000
set_option maxHeartbeats 1000000
theorem OwE.formCap {α : Type} {P : Program} {C : Cx P} {H H' : List HP} {enc : α → List Value} {e sz : Nat} {v : Value} {xs : List α} (p : Pick (OwE enc e sz v xs) H H') : ∀ (L : List HP) w, Inv C.w0 C.M (L ++ H) w → ∃ a c, v = .slice a xs.length c ∧ xs.length ≤ c ∧ (a = none → xs.length = 0) ∧ IsSl v xs.length := fun L w hi => by
  have hs := OwE.sl p L w hi
  obtain ⟨_, hcase⟩ := OwC.open (hi.pickL p)
  rcases hcase with ⟨h1, h2, _⟩ | ⟨g, cap, cur, rfl, q1, _⟩
  · exact ⟨none, 0, by rw [h1, h2], by omega, fun _ => h2, hs⟩
  exact ⟨_, _, rfl, q1, fun h => (by cases h), hs⟩
theorem upd_z {b : Int} {l : List Rn} : ∀ (xs : List (List Int)) (s : List Int × Int), (s.1.length = 0 → s.2 = 0) → ((xs.foldl (upd b l) s).1.length = 0 → (xs.foldl (upd b l) s).2 = 0)
  | [], s, h => h
  | x :: xs, s, h => by
    refine upd_z xs (upd b l s x) ?_
    unfold upd
    split
    · intro h0
      obtain rfl : x = [] := List.eq_nil_of_length_eq_zero h0
      rfl
    exact h
theorem clipV_eq (a : Option Addr) (n : Nat) : clipV a n = .slice a n n := by
  unfold clipV
  have e : ofs a (0 * 1) = a := by
    unfold ofs
    cases a with
    | none => rfl
    | some x => simp [addr_add_zero]
  rw [e]; simp
theorem ow_base {C : Cx Try.prog} {H : List HP} {e n c : Nat} {a : Addr} {xs : List Int} (s : Sub H [OwE encI e 1 (.slice (some a) n c) xs]) : Cells C H a (xs.flatMap encI) := by
  cases s with
  | cons p _ => exact OwC.cells (v := .slice (some a) n c) p
def TryC (a b : Int) (v : Value) (l : List Rn) (f : Nat) : Prop := ∀ (o best : List Int) (ov : Int) (s q : Nat) (u bv : Value) (w : World) (B : Nat), B ≤ w.heap.size → VO b l o → l.length ≤ o.length + f → (best.length = 0 → ov = 0) → RdF encR 6 B w v l →
  CtH Try.prog 46 [.pointer (some ⟨s, 0, none⟩), u, .int .i64 (ovF b l o)] w [pt s (.cells #[.pointer (some ⟨q, 0, none⟩), bv, .int .i64 (ov)] 83 (0, 0)), OwE encI 3 1 bv best, pt q (.cells (plC a b v (gW b l)).toArray 75 (0, 0)), OwE encI 3 1 u o] B (fun r Hq => ∃ x : Value, r = .tuple #[] ∧ Hq = [pt s (.cells #[.pointer (some ⟨q, 0, none⟩), x, .int .i64 (((ords b l f o).foldl (upd b l) (best, ov)).2)] 83 (0, 0)), OwE encI 3 1 x ((ords b l f o).foldl (upd b l) (best, ov)).1, pt q (.cells (plC a b v (gW b l)).toArray 75 (0, 0)), OwE encI 3 1 u o])
theorem c_try {a b : Int} {v : Value} {l : List Rn} (hd : OkD a b l) (h8 : l.length ≤ 8) : ∀ f, TryC a b v l f := by
  intro f
  induction f using Nat.strongRecOn with
  | _ f ih =>
  intro o best ov s q u bv w B hB hvo hf hz hR
  refine CtH.ofI (X := Value) (p := fun _ r => r = .tuple #[]) (Hx := fun x => [pt s (.cells #[.pointer (some ⟨q, 0, none⟩), x, .int .i64 (((ords b l f o).foldl (upd b l) (best, ov)).2)] 83 (0, 0)), OwE encI 3 1 x ((ords b l f o).foldl (upd b l) (best, ov)).1, pt q (.cells (plC a b v (gW b l)).toArray 75 (0, 0)), OwE encI 3 1 u o]) mixed tyTab hB Try.func46 rfl rfl (fun M hM => ?_)
  have hR' : RdF encR 6 (itCx mixed tyTab Try.f46.ntmps w M B hB hM).B (itCx mixed tyTab Try.f46.ntmps w M B hB hM).w0 v l := hR
  have hst := stF_in hd hvo
  have hov := ovF_bd hd hvo
  have hol := hvo.len
  refine W.fact (OwE.formCap (enc := encI) (e := 3) (sz := 1) (v := u) (xs := o) (.tail (.tail (.tail .head)))) (fun hu => ?_)
  obtain ⟨ua, uc, rfl, huc, hu0, hus⟩ := hu
  refine W.fact (OwE.sl (enc := encI) (e := 3) (sz := 1) (v := bv) (xs := best) (.tail .head)) (fun hbs => ?_)
  have h6 : o.length = 0 → (stK b l o o.length).1 = -1 := fun h => by rw [h]; rfl
  have h7 : 0 < o.length → (stK b l o o.length).1 = o.getD (o.length - 1) 0 := fun h => by
    obtain ⟨m, hm⟩ : ∃ m, o.length = m + 1 := ⟨o.length - 1, by omega⟩
    rw [hm]; rfl
  have h0v : o.length = 0 → ovF b l o = 0 := fun h => by unfold ovF; rw [h]; rfl
  have hz2 : ∀ {k bs2 ov2}, (bs2, ov2) = (ordT b l f o k).foldl (upd b l) (best, ov) → (bs2.length = 0 → ov2 = 0) := fun {k bs2 ov2} h => by
    have := upd_z (b := b) (l := l) (ordT b l f o k) (best, ov) hz
    rw [← h] at this; exact this
  refine W.seq ?_
  refine W.sreg ?_
  refine WO.p rfl rfl ?_
  refine' WO.len (n := _) rfl rfl ?hs rfl ?_
  case hs => (first | exact hus)
  refine WO.p rfl rfl (WO.p rfl rfl (WO.fieldL rfl rfl rfl (WO.load rfl rfl (Cell.own Pick.head rfl) rfl ?_)))
  refine' WO.len (n := _) rfl rfl ?hs rfl ?_
  case hs => (first | exact hbs)
  refine WO.p rfl rfl (WO.p rfl rfl ?_)
  refine WO.guard_bl rfl rfl (fun c1 => ?_) (fun c1 => ?_)
  · first
    | (exfalso; omega)
    | (refine WO.no rfl rfl (WO.no rfl rfl (WO.no rfl rfl (WO.no rfl rfl (WO.no rfl rfl (WO.no rfl rfl (WO.no rfl rfl (WO.no rfl rfl (WO.no rfl rfl (WO.no rfl rfl (WO.no rfl rfl (WO.no rfl rfl ?_)))))))))))
       refine WO.no rfl rfl (WO.no rfl rfl (WO.no rfl rfl (WO.no rfl rfl (WO.p rfl rfl ?_))))
       refine WO.nil ?_
       refine W.cond_t rfl ?_
       refine W.sreg ?_
       refine WO.p rfl rfl (WO.p rfl rfl ?_)
       refine' WO.len (n := _) rfl rfl ?hs rfl ?_
       case hs => (first | exact hus)
       refine WO.makeEN (z := (0 : Int)) encI_ok rfl rfl rfl rfl rfl (by omega) (by omega) rfl (fun lb => ?_)
       refine WO.p rfl rfl (WO.fieldL rfl rfl rfl (WO.store1 rfl rfl rfl (by first | rfl | assumption) (Pick.tail (Pick.head)) rfl ?_))
       refine WO.nil ?_
       refine W.sreg ?_
       refine WO.p rfl rfl (WO.p rfl rfl (WO.fieldL rfl rfl rfl (WO.load rfl rfl (Cell.own Pick.head rfl) rfl (WO.p rfl rfl ?_))))
       refine WO.copyEN (m := o.length) (xs := List.replicate o.length (0 : Int)) (ys := o) encI_ok rfl rfl rfl (by repeat (first | exact Pick.head | apply Pick.tail)) hus (by simp) (by simp; omega) (by simp) (OwC.cells (by repeat (first | exact Pick.head | apply Pick.tail))) rfl ?_
       refine WO.nil ?_
       refine W.region ?_
       refine WO.p rfl rfl (WO.p rfl rfl (WO.p rfl rfl (WO.fieldL rfl rfl rfl (WO.store1 rfl rfl rfl (by first | rfl | assumption) (Pick.tail (Pick.head)) rfl ?_))))
       refine WO.nil ?_
       refine W.sreg ?_
       refine WO.p rfl rfl ?_
       refine WO.nil ?_
       refine W.seq ?_
       refine W.sreg ?_
       refine WO.p rfl rfl ?_
       refine' WO.len (n := _) rfl rfl ?hs rfl ?_
       case hs => (first | exact hus)
       refine WO.p rfl rfl ?_
       refine WO.nil ?_
       refine W.cond_bl rfl (fun c2 => ?_) (fun c2 => ?_)
       · first
         | (exfalso; omega)
         | (refine W.region ?_
            refine WO.p rfl rfl (WO.p rfl rfl ?_)
            refine' WO.len (n := _) rfl rfl ?hs rfl ?_
            case hs => (first | exact hus)
            refine WO.ar rfl rfl rfl (by (first | (unfold in64; omega) | (unfold in64; omega))) rfl ?_
            refine' WO.indexAddrZ (n := _) rfl rfl rfl ?hs ?h00 ?h1 rfl ?_
            case hs => (first | exact hus)
            case h00 => omega
            case h1 => (first | omega | (simp; omega))
            refine' WO.load (v := _) rfl rfl ?hc rfl ?_
            case hc => (first | (refine owE_cellS (e := 3) (xs := o) (x := (stK b l o o.length).1) (i := o.length - 1) (j := ((o.length : Int) - 1).toNat) ?_ (by omega) (h7 (by omega)) (by omega); exact (by repeat (first | exact Sub.nil | refine Sub.cons (by repeat (first | exact Pick.head | apply Pick.tail)) ?_))))
            refine WO.p rfl rfl ?_
            refine WO.nil ?_
            refine W.chgE (X := Value × List Int × Int) (p := fun x => (x.2.1, x.2.2) = upd b l (best, ov) o) (H' := fun x => [pt s (.cells #[.pointer (some ⟨q, 0, none⟩), x.1, .int .i64 (x.2.2)] 83 (0, 0)), OwE encI 3 1 x.1 x.2.1, pt q (.cells (plC a b v (gW b l)).toArray 75 (0, 0)), OwE encI 3 1 (.slice ua o.length uc) o]) (fun h hs => ?_) ?_
            · first | exact ⟨(.slice (some ⟨lb, 0, none⟩) o.length o.length, o, ovF b l o), (upd_yes (by simp only; omega)).symm, Sub.sat (by repeat (first | exact Sub.nil | refine Sub.cons (by repeat (first | exact Pick.head | apply Pick.tail)) ?_)) hs⟩ | exact ⟨(bv, best, ov), (upd_no (by simp only; omega)).symm, Sub.sat (by repeat (first | exact Sub.nil | refine Sub.cons (by repeat (first | exact Pick.head | apply Pick.tail)) ?_)) hs⟩
            rintro ⟨bv1, bs1, ov1⟩ hup
            simp only at hup ⊢
            first | rw [← h6 (by omega)] | skip
            refine W.sreg ?_
            refine WO.p rfl rfl (WO.p rfl rfl (WO.field0 rfl rfl rfl (WO.load rfl rfl (Cell.own Pick.head rfl) rfl (WO.p rfl rfl (WO.field0 rfl rfl rfl (WO.fieldL rfl rfl rfl (WO.load rfl rfl (Cell.own (Pick.tail (Pick.tail (Pick.head))) rfl) rfl ?_)))))))
            refine' WO.len (n := _) rfl rfl ?hs rfl ?_
            case hs => (first | exact hR'.sl)
            refine WO.p rfl rfl ?_
            refine WO.nil ?_
            refine W.block ?_
            refine W.loop4 (fun (k : Nat) (bv2 : Value) (bs2 : List Int) (ov2 : Int) => k ≤ l.length ∧ (bs2, ov2) = (ordT b l f o k).foldl (upd b l) (best, ov))
              (fun (k : Nat) (bv2 : Value) (bs2 : List Int) (ov2 : Int) => [(0, .pointer (some ⟨s, 0, none⟩)), (1, .slice ua o.length uc), (2, .int .i64 (ovF b l o)), (6, .int .i64 (stK b l o o.length).1), (69, v), (70, .int .i64 (l.length : Int)), (71, .int .i64 (k : Int))])
              (fun (k : Nat) (bv2 : Value) (bs2 : List Int) (ov2 : Int) => [pt s (.cells #[.pointer (some ⟨q, 0, none⟩), bv2, .int .i64 ov2] 83 (0, 0)), OwE encI 3 1 bv2 bs2, pt q (.cells (plC a b v (gW b l)).toArray 75 (0, 0)), OwE encI 3 1 (.slice ua o.length uc) o])
              (fun (k : Nat) (bv2 : Value) (bs2 : List Int) (ov2 : Int) => l.length - k) 0 bv1 bs1 ov1
              (by exact ⟨by omega, by rw [ordT_0]; exact hup⟩) ⟨rfl, rfl, rfl, rfl, rfl, rfl, rfl, trivial⟩ (by repeat (first | exact Sub.nil | refine Sub.cons (by repeat (first | exact Pick.head | apply Pick.tail)) ?_)) ?_
            rintro k bv2 bs2 ov2 ⟨hk, hst2⟩
            refine W.sreg ?_
            refine WO.p rfl rfl ?_
            refine WO.nil ?_
            refine W.seq ?_
            refine W.cond_bl rfl (fun c3 => ?_) (fun c3 => ?_)
            · first
              | (exfalso; omega)
              | (refine W.skip ?_
                 refine W.seq ?_
                 refine W.block ?_
                 have hkl : k < l.length := by omega
                 have hrk := hd.at_ hkl
                 unfold OkR at hrk
                 refine W.sreg ?_
                 refine WO.p rfl rfl ?_
                 refine' WO.indexAddr (n := _) (i := _) rfl rfl rfl ?hs ?h1 rfl ?_
                 case hs => (first | exact hR'.sl)
                 case h1 => (first | omega | (simp; omega))
                 refine' WO.loadA (vs := _) rfl rfl ?hc ?hl rfl ?_
                 case hc => (first | exact RdF.cellsR hR' (i := k) hkl)
                 case hl => rfl
                 refine WO.alloc rfl rfl rfl (fun b1 hb1 => ?_)
                 refine WO.p rfl rfl (WO.storeA rfl rfl rfl rfl Pick.head rfl rfl ?_)
                 refine WO.nil ?_
                 refine W.seq ?_
                 refine W.sreg ?_
                 refine WO.p rfl rfl (WO.p rfl rfl ?_)
                 refine WO.callR rfl Try.call62 (fun L w hi => c_Contains w _ o _ (RdF.of_ow (e := 3) encI_ok (by repeat (first | exact Pick.head | apply Pick.tail)) hi)) rfl ?_
                 refine WO.nil ?_
                 refine W.cond_bl rfl (fun c4 => ?_) (fun c4 => ?_)
                 · first
                   | (exfalso; omega)
                   | (refine W.exit (blk_same ?_)
                      refine W.region ?_
                      refine WO.ar rfl rfl rfl (by (first | (unfold in64; omega) | (unfold in64; omega))) rfl (WO.p rfl rfl ?_)
                      refine WO.nil ?_
                      refine' ⟨k + 1, _, _, _, ?hp, ?hmu, ⟨rfl, rfl, rfl, rfl, rfl, rfl, rfl, trivial⟩, ?hS⟩
                      case hS => repeat (first | exact Sub.nil | refine Sub.cons (by repeat (first | exact Pick.head | apply Pick.tail)) ?_)
                      case hp => exact ⟨by omega, by first | (rw [ordT_yes he, List.foldl_append, ← hst2]; done) | (rw [ordT_no (fun h => h.1 (by assumption))]; exact hst2) | (rw [ordT_no (fun h => absurd h.2 (by assumption))]; exact hst2)⟩
                      case hmu => omega)
                 first
                 | (exfalso; omega)
                 | (refine W.skip ?_
                    refine W.sreg ?_
                    refine WO.p rfl rfl (WO.p rfl rfl (WO.field0 rfl rfl rfl (WO.load rfl rfl (Cell.own (Pick.tail (Pick.head)) rfl) rfl (WO.p rfl rfl (WO.p rfl rfl (WO.p rfl rfl ?_))))))
                    refine WO.callR (r := bgV b l (stK b l o o.length).1 (ovF b l o) k) rfl Try.call38 (fun L w hi => c_begin w ⟨q, 0, none⟩ a b v l _ _ k (PlR.own (by repeat (first | exact Pick.head | apply Pick.tail)) hR' hi) hd h8 hst (by omega) hkl) rfl ?_
                    refine WO.p rfl rfl (WO.p rfl rfl (WO.p rfl rfl (WO.p rfl rfl (WO.p rfl rfl ?_))))
                    refine WO.nil ?_
                    refine W.sreg ?_
                    refine WO.p rfl rfl (WO.p rfl rfl ?_)
                    refine WO.nil ?_
                    refine W.cond_bl rfl (fun c5 => ?_) (fun c5 => ?_)
                    · first
                      | (exfalso; omega)
                      | (have he : extP b l o k := ⟨by assumption, by assumption⟩
                         have hbe : bgE b l (stK b l o o.length).1 (ovF b l o) k = 0 := he.2
                         have hun := bgE_un hbe
                         have hfr := bgA_fr b l (stK b l o o.length).1 (ovF b l o) k
                         have hbn : bgN b l (stK b l o o.length).1 (ovF b l o) k = bgA b l (stK b l o o.length).1 (ovF b l o) k := if_pos hbe
                         have hsn := ovF_snoc (b := b) (l := l) o k
                         have hrm := ext_room hvo hkl he
                         refine W.drawD 10 [.r 0 [], .r 1 [], .b 2 [], .r 3 [], .r 6 [], .r 7 [], .b 8 [], .r 9 [], .c 4 [], .c 5 []] [] (A0 := []) (Sub.refl _) (by kernel_rfl) ?_ ?_
                         · exact (ALok.r (ALok.r (ALok.b (ALok.r (ALok.r (ALok.r (ALok.b (ALok.r (ALok.c (ALok.c ALok.nil))))))))))
                         refine' DT.r rfl rfl rfl ?hq ?_
                         case hq =>
                           refine WO.p rfl rfl ?_
                           exact WO.nil ⟨rfl, rfl⟩
                         refine' DT.r rfl rfl rfl ?hq ?_
                         case hq =>
                           refine WO.p rfl rfl ?_
                           exact WO.nil ⟨rfl, rfl⟩
                         refine' DT.b rfl rfl rfl ?hq ?_
                         case hq =>
                           refine WO.callR (r := .slice ua o.length o.length) rfl Try.call63 (fun L w hi => by rw [← clipV_eq]; exact c_Clip w ua o.length uc huc (by omega) (fun h => by obtain ⟨_, a1, c1, e1, h1⟩ := hus; have e2 : a1 = ua := (by injection e1 with e2; exact e2.symm); rw [← e2]; exact h1 h)) rfl ?_
                           exact WO.nil ⟨rfl, rfl⟩
                         refine' DT.r rfl rfl rfl ?hq ?_
                         case hq =>
                           refine WO.p rfl rfl ?_
                           exact WO.nil ⟨rfl, rfl⟩
                         refine' DT.r rfl rfl rfl ?hq ?_
                         case hq =>
                           refine WO.p rfl rfl ?_
                           exact WO.nil ⟨rfl, rfl⟩
                         refine' DT.r rfl rfl rfl ?hq ?_
                         case hq =>
                           refine WO.field0 rfl rfl rfl ?_
                           exact WO.nil ⟨rfl, rfl⟩
                         refine' DT.b rfl rfl rfl ?hq ?_
                         case hq =>
                           refine WO.load rfl rfl (Cell.own Pick.head rfl) rfl ?_
                           exact WO.nil ⟨rfl, rfl⟩
                         refine' DT.r rfl rfl rfl ?hq ?_
                         case hq =>
                           refine WO.add rfl rfl (by unfold in64; omega) rfl ?_
                           rw [hbn, ← hsn]
                           exact WO.nil ⟨rfl, rfl⟩
                         refine DT.c [_, _, _, _, _] rfl rfl rfl rfl ?_
                         refine' WO.buildSl (cs := _) rfl rfl rfl rfl ?hf rfl rfl ?hl rfl (fun v2 => ?_)
                         case hf => (conv => lhs; simp [-List.getD_eq_getElem?_getD, fillL, vcl, wrl, TTab.pl?.lget']) <;> rfl
                         case hl => rfl
                         refine WO.nil ⟨_, [_], rfl, rfl, (Keep.r (Keep.b (Keep.r (Keep.r (Keep.r (Keep.b (Keep.r (Keep.r Keep.nil)))))))), ?_⟩
                         refine DT.c [_, _, _, _, _, _] rfl rfl rfl rfl ?_
                         refine' WO.appendClip (enc := encI) (n := o.length) (m := 1) (xs := o) (ys := [(k : Int)]) encI_ok rfl rfl rfl rfl rfl hu0 rfl (fun a1 e1 => by subst e1; refine ow_base (e := 3) (n := o.length) (c := uc) ?_; exact (by repeat (first | exact Sub.nil | refine Sub.cons (by repeat (first | exact Pick.head | apply Pick.tail)) ?_))) (isSl_lit (by omega) (fun _ => ⟨_, _, rfl⟩)) (by omega) (OwC.cells .head) rfl (by omega) (by omega) rfl (fun v1 => ?_)
                         refine WO.nil ⟨_, [_, _], rfl, rfl, (Keep.c (Keep.r (Keep.b (Keep.r (Keep.r (Keep.r (Keep.b (Keep.r (Keep.r Keep.nil))))))))), ?_⟩
                         refine DT.nil [_, _, _, _, _, _, _] rfl ?_
                         refine WO.callH (Hp := [pt s (.cells #[.pointer (some ⟨q, 0, none⟩), bv2, .int .i64 (ov2)] 83 (0, 0)), OwE encI 3 1 bv2 bs2, pt q (.cells (plC a b v (gW b l)).toArray 75 (0, 0)), OwE encI 3 1 v1 (o ++ [(k : Int)])]) rfl Try.call46 (.cons (by repeat (first | exact Pick.head | apply Pick.tail)) (.cons (by repeat (first | exact Pick.head | apply Pick.tail)) (.cons (by repeat (first | exact Pick.head | apply Pick.tail)) (.cons (by repeat (first | exact Pick.head | apply Pick.tail)) (Sub.refl _))))) (fun L w' hi hB2 => ih (f - 1) (by omega) (o ++ [(k : Int)]) bs2 ov2 s q _ bv2 w' _ hB2 (hvo.snoc hkl he) (by rw [List.length_append, List.length_singleton]; omega) (hz2 hst2) (hR'.agree hi.keepB)) rfl ?_
                         rintro _ _ ⟨bv3, rfl, rfl⟩
                         refine WO.nil ?_
                         refine W.region ?_
                         refine WO.ar rfl rfl rfl (by (first | (unfold in64; omega) | (unfold in64; omega))) rfl (WO.p rfl rfl ?_)
                         refine WO.nil ?_
                         refine' ⟨k + 1, _, _, _, ?hp, ?hmu, ⟨rfl, rfl, rfl, rfl, rfl, rfl, rfl, trivial⟩, ?hS⟩
                         case hS => repeat (first | exact Sub.nil | refine Sub.cons (by repeat (first | exact Pick.head | apply Pick.tail)) ?_)
                         case hp => exact ⟨by omega, by first | (rw [ordT_yes he, List.foldl_append, ← hst2]; done) | (rw [ordT_no (fun h => h.1 (by assumption))]; exact hst2) | (rw [ordT_no (fun h => absurd h.2 (by assumption))]; exact hst2)⟩
                         case hmu => omega)
                    first
                    | (exfalso; omega)
                    | (refine W.skip ?_
                       refine W.region ?_
                       refine WO.ar rfl rfl rfl (by (first | (unfold in64; omega) | (unfold in64; omega))) rfl (WO.p rfl rfl ?_)
                       refine WO.nil ?_
                       refine' ⟨k + 1, _, _, _, ?hp, ?hmu, ⟨rfl, rfl, rfl, rfl, rfl, rfl, rfl, trivial⟩, ?hS⟩
                       case hS => repeat (first | exact Sub.nil | refine Sub.cons (by repeat (first | exact Pick.head | apply Pick.tail)) ?_)
                       case hp => exact ⟨by omega, by first | (rw [ordT_yes he, List.foldl_append, ← hst2]; done) | (rw [ordT_no (fun h => h.1 (by assumption))]; exact hst2) | (rw [ordT_no (fun h => absurd h.2 (by assumption))]; exact hst2)⟩
                       case hmu => omega)))
            first
            | (exfalso; omega)
            | (refine W.exit (blk_same ?_)
               refine fin.normal (Res.none rfl) ⟨bv2, rfl, fun h hs => ?_⟩
               rw [ords_eq hvo hf, show l.length = k by omega, ← hst2]
               exact Sub.sat (by repeat (first | exact Sub.nil | refine Sub.cons (by repeat (first | exact Pick.head | apply Pick.tail)) ?_)) hs))
       first
       | (exfalso; omega)
       | (refine W.skip ?_
          refine W.chgE (X := Value × List Int × Int) (p := fun x => (x.2.1, x.2.2) = upd b l (best, ov) o) (H' := fun x => [pt s (.cells #[.pointer (some ⟨q, 0, none⟩), x.1, .int .i64 (x.2.2)] 83 (0, 0)), OwE encI 3 1 x.1 x.2.1, pt q (.cells (plC a b v (gW b l)).toArray 75 (0, 0)), OwE encI 3 1 (.slice ua o.length uc) o]) (fun h hs => ?_) ?_
          · first | exact ⟨(.slice (some ⟨lb, 0, none⟩) o.length o.length, o, ovF b l o), (upd_yes (by simp only; omega)).symm, Sub.sat (by repeat (first | exact Sub.nil | refine Sub.cons (by repeat (first | exact Pick.head | apply Pick.tail)) ?_)) hs⟩ | exact ⟨(bv, best, ov), (upd_no (by simp only; omega)).symm, Sub.sat (by repeat (first | exact Sub.nil | refine Sub.cons (by repeat (first | exact Pick.head | apply Pick.tail)) ?_)) hs⟩
          rintro ⟨bv1, bs1, ov1⟩ hup
          simp only at hup ⊢
          first | rw [← h6 (by omega)] | skip
          refine W.sreg ?_
          refine WO.p rfl rfl (WO.p rfl rfl (WO.field0 rfl rfl rfl (WO.load rfl rfl (Cell.own Pick.head rfl) rfl (WO.p rfl rfl (WO.field0 rfl rfl rfl (WO.fieldL rfl rfl rfl (WO.load rfl rfl (Cell.own (Pick.tail (Pick.tail (Pick.head))) rfl) rfl ?_)))))))
          refine' WO.len (n := _) rfl rfl ?hs rfl ?_
          case hs => (first | exact hR'.sl)
          refine WO.p rfl rfl ?_
          refine WO.nil ?_
          refine W.block ?_
          refine W.loop4 (fun (k : Nat) (bv2 : Value) (bs2 : List Int) (ov2 : Int) => k ≤ l.length ∧ (bs2, ov2) = (ordT b l f o k).foldl (upd b l) (best, ov))
            (fun (k : Nat) (bv2 : Value) (bs2 : List Int) (ov2 : Int) => [(0, .pointer (some ⟨s, 0, none⟩)), (1, .slice ua o.length uc), (2, .int .i64 (ovF b l o)), (6, .int .i64 (stK b l o o.length).1), (69, v), (70, .int .i64 (l.length : Int)), (71, .int .i64 (k : Int))])
            (fun (k : Nat) (bv2 : Value) (bs2 : List Int) (ov2 : Int) => [pt s (.cells #[.pointer (some ⟨q, 0, none⟩), bv2, .int .i64 ov2] 83 (0, 0)), OwE encI 3 1 bv2 bs2, pt q (.cells (plC a b v (gW b l)).toArray 75 (0, 0)), OwE encI 3 1 (.slice ua o.length uc) o])
            (fun (k : Nat) (bv2 : Value) (bs2 : List Int) (ov2 : Int) => l.length - k) 0 bv1 bs1 ov1
            (by exact ⟨by omega, by rw [ordT_0]; exact hup⟩) ⟨rfl, rfl, rfl, rfl, rfl, rfl, rfl, trivial⟩ (by repeat (first | exact Sub.nil | refine Sub.cons (by repeat (first | exact Pick.head | apply Pick.tail)) ?_)) ?_
          rintro k bv2 bs2 ov2 ⟨hk, hst2⟩
          refine W.sreg ?_
          refine WO.p rfl rfl ?_
          refine WO.nil ?_
          refine W.seq ?_
          refine W.cond_bl rfl (fun c3 => ?_) (fun c3 => ?_)
          · first
            | (exfalso; omega)
            | (refine W.skip ?_
               refine W.seq ?_
               refine W.block ?_
               have hkl : k < l.length := by omega
               have hrk := hd.at_ hkl
               unfold OkR at hrk
               refine W.sreg ?_
               refine WO.p rfl rfl ?_
               refine' WO.indexAddr (n := _) (i := _) rfl rfl rfl ?hs ?h1 rfl ?_
               case hs => (first | exact hR'.sl)
               case h1 => (first | omega | (simp; omega))
               refine' WO.loadA (vs := _) rfl rfl ?hc ?hl rfl ?_
               case hc => (first | exact RdF.cellsR hR' (i := k) hkl)
               case hl => rfl
               refine WO.alloc rfl rfl rfl (fun b1 hb1 => ?_)
               refine WO.p rfl rfl (WO.storeA rfl rfl rfl rfl Pick.head rfl rfl ?_)
               refine WO.nil ?_
               refine W.seq ?_
               refine W.sreg ?_
               refine WO.p rfl rfl (WO.p rfl rfl ?_)
               refine WO.callR rfl Try.call62 (fun L w hi => c_Contains w _ o _ (RdF.of_ow (e := 3) encI_ok (by repeat (first | exact Pick.head | apply Pick.tail)) hi)) rfl ?_
               refine WO.nil ?_
               refine W.cond_bl rfl (fun c4 => ?_) (fun c4 => ?_)
               · first
                 | (exfalso; omega)
                 | (refine W.exit (blk_same ?_)
                    refine W.region ?_
                    refine WO.ar rfl rfl rfl (by (first | (unfold in64; omega) | (unfold in64; omega))) rfl (WO.p rfl rfl ?_)
                    refine WO.nil ?_
                    refine' ⟨k + 1, _, _, _, ?hp, ?hmu, ⟨rfl, rfl, rfl, rfl, rfl, rfl, rfl, trivial⟩, ?hS⟩
                    case hS => repeat (first | exact Sub.nil | refine Sub.cons (by repeat (first | exact Pick.head | apply Pick.tail)) ?_)
                    case hp => exact ⟨by omega, by first | (rw [ordT_yes he, List.foldl_append, ← hst2]; done) | (rw [ordT_no (fun h => h.1 (by assumption))]; exact hst2) | (rw [ordT_no (fun h => absurd h.2 (by assumption))]; exact hst2)⟩
                    case hmu => omega)
               first
               | (exfalso; omega)
               | (refine W.skip ?_
                  refine W.sreg ?_
                  refine WO.p rfl rfl (WO.p rfl rfl (WO.field0 rfl rfl rfl (WO.load rfl rfl (Cell.own (Pick.tail (Pick.head)) rfl) rfl (WO.p rfl rfl (WO.p rfl rfl (WO.p rfl rfl ?_))))))
                  refine WO.callR (r := bgV b l (stK b l o o.length).1 (ovF b l o) k) rfl Try.call38 (fun L w hi => c_begin w ⟨q, 0, none⟩ a b v l _ _ k (PlR.own (by repeat (first | exact Pick.head | apply Pick.tail)) hR' hi) hd h8 hst (by omega) hkl) rfl ?_
                  refine WO.p rfl rfl (WO.p rfl rfl (WO.p rfl rfl (WO.p rfl rfl (WO.p rfl rfl ?_))))
                  refine WO.nil ?_
                  refine W.sreg ?_
                  refine WO.p rfl rfl (WO.p rfl rfl ?_)
                  refine WO.nil ?_
                  refine W.cond_bl rfl (fun c5 => ?_) (fun c5 => ?_)
                  · first
                    | (exfalso; omega)
                    | (have he : extP b l o k := ⟨by assumption, by assumption⟩
                       have hbe : bgE b l (stK b l o o.length).1 (ovF b l o) k = 0 := he.2
                       have hun := bgE_un hbe
                       have hfr := bgA_fr b l (stK b l o o.length).1 (ovF b l o) k
                       have hbn : bgN b l (stK b l o o.length).1 (ovF b l o) k = bgA b l (stK b l o o.length).1 (ovF b l o) k := if_pos hbe
                       have hsn := ovF_snoc (b := b) (l := l) o k
                       have hrm := ext_room hvo hkl he
                       refine W.drawD 10 [.r 0 [], .r 1 [], .b 2 [], .r 3 [], .r 6 [], .r 7 [], .b 8 [], .r 9 [], .c 4 [], .c 5 []] [] (A0 := []) (Sub.refl _) (by kernel_rfl) ?_ ?_
                       · exact (ALok.r (ALok.r (ALok.b (ALok.r (ALok.r (ALok.r (ALok.b (ALok.r (ALok.c (ALok.c ALok.nil))))))))))
                       refine' DT.r rfl rfl rfl ?hq ?_
                       case hq =>
                         refine WO.p rfl rfl ?_
                         exact WO.nil ⟨rfl, rfl⟩
                       refine' DT.r rfl rfl rfl ?hq ?_
                       case hq =>
                         refine WO.p rfl rfl ?_
                         exact WO.nil ⟨rfl, rfl⟩
                       refine' DT.b rfl rfl rfl ?hq ?_
                       case hq =>
                         refine WO.callR (r := .slice ua o.length o.length) rfl Try.call63 (fun L w hi => by rw [← clipV_eq]; exact c_Clip w ua o.length uc huc (by omega) (fun h => by obtain ⟨_, a1, c1, e1, h1⟩ := hus; have e2 : a1 = ua := (by injection e1 with e2; exact e2.symm); rw [← e2]; exact h1 h)) rfl ?_
                         exact WO.nil ⟨rfl, rfl⟩
                       refine' DT.r rfl rfl rfl ?hq ?_
                       case hq =>
                         refine WO.p rfl rfl ?_
                         exact WO.nil ⟨rfl, rfl⟩
                       refine' DT.r rfl rfl rfl ?hq ?_
                       case hq =>
                         refine WO.p rfl rfl ?_
                         exact WO.nil ⟨rfl, rfl⟩
                       refine' DT.r rfl rfl rfl ?hq ?_
                       case hq =>
                         refine WO.field0 rfl rfl rfl ?_
                         exact WO.nil ⟨rfl, rfl⟩
                       refine' DT.b rfl rfl rfl ?hq ?_
                       case hq =>
                         refine WO.load rfl rfl (Cell.own Pick.head rfl) rfl ?_
                         exact WO.nil ⟨rfl, rfl⟩
                       refine' DT.r rfl rfl rfl ?hq ?_
                       case hq =>
                         refine WO.add rfl rfl (by unfold in64; omega) rfl ?_
                         rw [hbn, ← hsn]
                         exact WO.nil ⟨rfl, rfl⟩
                       refine DT.c [_, _, _, _, _] rfl rfl rfl rfl ?_
                       refine' WO.buildSl (cs := _) rfl rfl rfl rfl ?hf rfl rfl ?hl rfl (fun v2 => ?_)
                       case hf => (conv => lhs; simp [-List.getD_eq_getElem?_getD, fillL, vcl, wrl, TTab.pl?.lget']) <;> rfl
                       case hl => rfl
                       refine WO.nil ⟨_, [_], rfl, rfl, (Keep.r (Keep.b (Keep.r (Keep.r (Keep.r (Keep.b (Keep.r (Keep.r Keep.nil)))))))), ?_⟩
                       refine DT.c [_, _, _, _, _, _] rfl rfl rfl rfl ?_
                       refine' WO.appendClip (enc := encI) (n := o.length) (m := 1) (xs := o) (ys := [(k : Int)]) encI_ok rfl rfl rfl rfl rfl hu0 rfl (fun a1 e1 => by subst e1; refine ow_base (e := 3) (n := o.length) (c := uc) ?_; exact (by repeat (first | exact Sub.nil | refine Sub.cons (by repeat (first | exact Pick.head | apply Pick.tail)) ?_))) (isSl_lit (by omega) (fun _ => ⟨_, _, rfl⟩)) (by omega) (OwC.cells .head) rfl (by omega) (by omega) rfl (fun v1 => ?_)
                       refine WO.nil ⟨_, [_, _], rfl, rfl, (Keep.c (Keep.r (Keep.b (Keep.r (Keep.r (Keep.r (Keep.b (Keep.r (Keep.r Keep.nil))))))))), ?_⟩
                       refine DT.nil [_, _, _, _, _, _, _] rfl ?_
                       refine WO.callH (Hp := [pt s (.cells #[.pointer (some ⟨q, 0, none⟩), bv2, .int .i64 (ov2)] 83 (0, 0)), OwE encI 3 1 bv2 bs2, pt q (.cells (plC a b v (gW b l)).toArray 75 (0, 0)), OwE encI 3 1 v1 (o ++ [(k : Int)])]) rfl Try.call46 (.cons (by repeat (first | exact Pick.head | apply Pick.tail)) (.cons (by repeat (first | exact Pick.head | apply Pick.tail)) (.cons (by repeat (first | exact Pick.head | apply Pick.tail)) (.cons (by repeat (first | exact Pick.head | apply Pick.tail)) (Sub.refl _))))) (fun L w' hi hB2 => ih (f - 1) (by omega) (o ++ [(k : Int)]) bs2 ov2 s q _ bv2 w' _ hB2 (hvo.snoc hkl he) (by rw [List.length_append, List.length_singleton]; omega) (hz2 hst2) (hR'.agree hi.keepB)) rfl ?_
                       rintro _ _ ⟨bv3, rfl, rfl⟩
                       refine WO.nil ?_
                       refine W.region ?_
                       refine WO.ar rfl rfl rfl (by (first | (unfold in64; omega) | (unfold in64; omega))) rfl (WO.p rfl rfl ?_)
                       refine WO.nil ?_
                       refine' ⟨k + 1, _, _, _, ?hp, ?hmu, ⟨rfl, rfl, rfl, rfl, rfl, rfl, rfl, trivial⟩, ?hS⟩
                       case hS => repeat (first | exact Sub.nil | refine Sub.cons (by repeat (first | exact Pick.head | apply Pick.tail)) ?_)
                       case hp => exact ⟨by omega, by first | (rw [ordT_yes he, List.foldl_append, ← hst2]; done) | (rw [ordT_no (fun h => h.1 (by assumption))]; exact hst2) | (rw [ordT_no (fun h => absurd h.2 (by assumption))]; exact hst2)⟩
                       case hmu => omega)
                  first
                  | (exfalso; omega)
                  | (refine W.skip ?_
                     refine W.region ?_
                     refine WO.ar rfl rfl rfl (by (first | (unfold in64; omega) | (unfold in64; omega))) rfl (WO.p rfl rfl ?_)
                     refine WO.nil ?_
                     refine' ⟨k + 1, _, _, _, ?hp, ?hmu, ⟨rfl, rfl, rfl, rfl, rfl, rfl, rfl, trivial⟩, ?hS⟩
                     case hS => repeat (first | exact Sub.nil | refine Sub.cons (by repeat (first | exact Pick.head | apply Pick.tail)) ?_)
                     case hp => exact ⟨by omega, by first | (rw [ordT_yes he, List.foldl_append, ← hst2]; done) | (rw [ordT_no (fun h => h.1 (by assumption))]; exact hst2) | (rw [ordT_no (fun h => absurd h.2 (by assumption))]; exact hst2)⟩
                     case hmu => omega)))
          first
          | (exfalso; omega)
          | (refine W.exit (blk_same ?_)
             refine fin.normal (Res.none rfl) ⟨bv2, rfl, fun h hs => ?_⟩
             rw [ords_eq hvo hf, show l.length = k by omega, ← hst2]
             exact Sub.sat (by repeat (first | exact Sub.nil | refine Sub.cons (by repeat (first | exact Pick.head | apply Pick.tail)) ?_)) hs)))
  first
  | (exfalso; omega)
  | (refine WO.pg rfl rfl rfl (WO.go' rfl ?_)
     refine' WO.len (n := _) rfl rfl ?hs rfl ?_
     case hs => (first | exact hus)
     refine WO.pg rfl rfl rfl (WO.pg rfl rfl rfl (WO.go' rfl (WO.fieldL rfl rfl rfl (WO.go' rfl (WO.load rfl rfl (Cell.own Pick.head rfl) rfl (WO.go' rfl ?_))))))
     refine' WO.len (n := _) rfl rfl ?hs rfl ?_
     case hs => (first | exact hbs)
     refine WO.pg rfl rfl rfl (WO.pg rfl rfl rfl ?_)
     refine WO.guard_bl rfl rfl (fun c2 => ?_) (fun c2 => ?_)
     · first
       | (exfalso; omega)
       | (refine WO.pg rfl rfl rfl (WO.pg rfl rfl rfl (WO.pg rfl rfl rfl (WO.go' rfl (WO.fieldL rfl rfl rfl (WO.go' rfl (WO.load rfl rfl (Cell.own Pick.head rfl) rfl (WO.pg rfl rfl rfl (WO.pg rfl rfl rfl (WO.p rfl rfl ?_)))))))))
          refine WO.nil ?_
          refine W.cond_bl rfl (fun c3 => ?_) (fun c3 => ?_)
          · first
            | (exfalso; omega)
            | (refine W.sreg ?_
               refine WO.p rfl rfl (WO.p rfl rfl ?_)
               refine' WO.len (n := _) rfl rfl ?hs rfl ?_
               case hs => (first | exact hus)
               refine WO.makeEN (z := (0 : Int)) encI_ok rfl rfl rfl rfl rfl (by omega) (by omega) rfl (fun lb => ?_)
               refine WO.p rfl rfl (WO.fieldL rfl rfl rfl (WO.store1 rfl rfl rfl (by first | rfl | assumption) (Pick.tail (Pick.head)) rfl ?_))
               refine WO.nil ?_
               refine W.sreg ?_
               refine WO.p rfl rfl (WO.p rfl rfl (WO.fieldL rfl rfl rfl (WO.load rfl rfl (Cell.own Pick.head rfl) rfl (WO.p rfl rfl ?_))))
               refine WO.copyEN (m := o.length) (xs := List.replicate o.length (0 : Int)) (ys := o) encI_ok rfl rfl rfl (by repeat (first | exact Pick.head | apply Pick.tail)) hus (by simp) (by simp; omega) (by simp) (OwC.cells (by repeat (first | exact Pick.head | apply Pick.tail))) rfl ?_
               refine WO.nil ?_
               refine W.region ?_
               refine WO.p rfl rfl (WO.p rfl rfl (WO.p rfl rfl (WO.fieldL rfl rfl rfl (WO.store1 rfl rfl rfl (by first | rfl | assumption) (Pick.tail (Pick.head)) rfl ?_))))
               refine WO.nil ?_
               refine W.sreg ?_
               refine WO.p rfl rfl ?_
               refine WO.nil ?_
               refine W.seq ?_
               refine W.sreg ?_
               refine WO.p rfl rfl ?_
               refine' WO.len (n := _) rfl rfl ?hs rfl ?_
               case hs => (first | exact hus)
               refine WO.p rfl rfl ?_
               refine WO.nil ?_
               refine W.cond_bl rfl (fun c4 => ?_) (fun c4 => ?_)
               · first
                 | (exfalso; omega)
                 | (refine W.region ?_
                    refine WO.p rfl rfl (WO.p rfl rfl ?_)
                    refine' WO.len (n := _) rfl rfl ?hs rfl ?_
                    case hs => (first | exact hus)
                    refine WO.ar rfl rfl rfl (by (first | (unfold in64; omega) | (unfold in64; omega))) rfl ?_
                    refine' WO.indexAddrZ (n := _) rfl rfl rfl ?hs ?h00 ?h1 rfl ?_
                    case hs => (first | exact hus)
                    case h00 => omega
                    case h1 => (first | omega | (simp; omega))
                    refine' WO.load (v := _) rfl rfl ?hc rfl ?_
                    case hc => (first | (refine owE_cellS (e := 3) (xs := o) (x := (stK b l o o.length).1) (i := o.length - 1) (j := ((o.length : Int) - 1).toNat) ?_ (by omega) (h7 (by omega)) (by omega); exact (by repeat (first | exact Sub.nil | refine Sub.cons (by repeat (first | exact Pick.head | apply Pick.tail)) ?_))))
                    refine WO.p rfl rfl ?_
                    refine WO.nil ?_
                    refine W.chgE (X := Value × List Int × Int) (p := fun x => (x.2.1, x.2.2) = upd b l (best, ov) o) (H' := fun x => [pt s (.cells #[.pointer (some ⟨q, 0, none⟩), x.1, .int .i64 (x.2.2)] 83 (0, 0)), OwE encI 3 1 x.1 x.2.1, pt q (.cells (plC a b v (gW b l)).toArray 75 (0, 0)), OwE encI 3 1 (.slice ua o.length uc) o]) (fun h hs => ?_) ?_
                    · first | exact ⟨(.slice (some ⟨lb, 0, none⟩) o.length o.length, o, ovF b l o), (upd_yes (by simp only; omega)).symm, Sub.sat (by repeat (first | exact Sub.nil | refine Sub.cons (by repeat (first | exact Pick.head | apply Pick.tail)) ?_)) hs⟩ | exact ⟨(bv, best, ov), (upd_no (by simp only; omega)).symm, Sub.sat (by repeat (first | exact Sub.nil | refine Sub.cons (by repeat (first | exact Pick.head | apply Pick.tail)) ?_)) hs⟩
                    rintro ⟨bv1, bs1, ov1⟩ hup
                    simp only at hup ⊢
                    first | rw [← h6 (by omega)] | skip
                    refine W.sreg ?_
                    refine WO.p rfl rfl (WO.p rfl rfl (WO.field0 rfl rfl rfl (WO.load rfl rfl (Cell.own Pick.head rfl) rfl (WO.p rfl rfl (WO.field0 rfl rfl rfl (WO.fieldL rfl rfl rfl (WO.load rfl rfl (Cell.own (Pick.tail (Pick.tail (Pick.head))) rfl) rfl ?_)))))))
                    refine' WO.len (n := _) rfl rfl ?hs rfl ?_
                    case hs => (first | exact hR'.sl)
                    refine WO.p rfl rfl ?_
                    refine WO.nil ?_
                    refine W.block ?_
                    refine W.loop4 (fun (k : Nat) (bv2 : Value) (bs2 : List Int) (ov2 : Int) => k ≤ l.length ∧ (bs2, ov2) = (ordT b l f o k).foldl (upd b l) (best, ov))
                      (fun (k : Nat) (bv2 : Value) (bs2 : List Int) (ov2 : Int) => [(0, .pointer (some ⟨s, 0, none⟩)), (1, .slice ua o.length uc), (2, .int .i64 (ovF b l o)), (6, .int .i64 (stK b l o o.length).1), (69, v), (70, .int .i64 (l.length : Int)), (71, .int .i64 (k : Int))])
                      (fun (k : Nat) (bv2 : Value) (bs2 : List Int) (ov2 : Int) => [pt s (.cells #[.pointer (some ⟨q, 0, none⟩), bv2, .int .i64 ov2] 83 (0, 0)), OwE encI 3 1 bv2 bs2, pt q (.cells (plC a b v (gW b l)).toArray 75 (0, 0)), OwE encI 3 1 (.slice ua o.length uc) o])
                      (fun (k : Nat) (bv2 : Value) (bs2 : List Int) (ov2 : Int) => l.length - k) 0 bv1 bs1 ov1
                      (by exact ⟨by omega, by rw [ordT_0]; exact hup⟩) ⟨rfl, rfl, rfl, rfl, rfl, rfl, rfl, trivial⟩ (by repeat (first | exact Sub.nil | refine Sub.cons (by repeat (first | exact Pick.head | apply Pick.tail)) ?_)) ?_
                    rintro k bv2 bs2 ov2 ⟨hk, hst2⟩
                    refine W.sreg ?_
                    refine WO.p rfl rfl ?_
                    refine WO.nil ?_
                    refine W.seq ?_
                    refine W.cond_bl rfl (fun c5 => ?_) (fun c5 => ?_)
                    · first
                      | (exfalso; omega)
                      | (refine W.skip ?_
                         refine W.seq ?_
                         refine W.block ?_
                         have hkl : k < l.length := by omega
                         have hrk := hd.at_ hkl
                         unfold OkR at hrk
                         refine W.sreg ?_
                         refine WO.p rfl rfl ?_
                         refine' WO.indexAddr (n := _) (i := _) rfl rfl rfl ?hs ?h1 rfl ?_
                         case hs => (first | exact hR'.sl)
                         case h1 => (first | omega | (simp; omega))
                         refine' WO.loadA (vs := _) rfl rfl ?hc ?hl rfl ?_
                         case hc => (first | exact RdF.cellsR hR' (i := k) hkl)
                         case hl => rfl
                         refine WO.alloc rfl rfl rfl (fun b1 hb1 => ?_)
                         refine WO.p rfl rfl (WO.storeA rfl rfl rfl rfl Pick.head rfl rfl ?_)
                         refine WO.nil ?_
                         refine W.seq ?_
                         refine W.sreg ?_
                         refine WO.p rfl rfl (WO.p rfl rfl ?_)
                         refine WO.callR rfl Try.call62 (fun L w hi => c_Contains w _ o _ (RdF.of_ow (e := 3) encI_ok (by repeat (first | exact Pick.head | apply Pick.tail)) hi)) rfl ?_
                         refine WO.nil ?_
                         refine W.cond_bl rfl (fun c6 => ?_) (fun c6 => ?_)
                         · first
                           | (exfalso; omega)
                           | (refine W.exit (blk_same ?_)
                              refine W.region ?_
                              refine WO.ar rfl rfl rfl (by (first | (unfold in64; omega) | (unfold in64; omega))) rfl (WO.p rfl rfl ?_)
                              refine WO.nil ?_
                              refine' ⟨k + 1, _, _, _, ?hp, ?hmu, ⟨rfl, rfl, rfl, rfl, rfl, rfl, rfl, trivial⟩, ?hS⟩
                              case hS => repeat (first | exact Sub.nil | refine Sub.cons (by repeat (first | exact Pick.head | apply Pick.tail)) ?_)
                              case hp => exact ⟨by omega, by first | (rw [ordT_yes he, List.foldl_append, ← hst2]; done) | (rw [ordT_no (fun h => h.1 (by assumption))]; exact hst2) | (rw [ordT_no (fun h => absurd h.2 (by assumption))]; exact hst2)⟩
                              case hmu => omega)
                         first
                         | (exfalso; omega)
                         | (refine W.skip ?_
                            refine W.sreg ?_
                            refine WO.p rfl rfl (WO.p rfl rfl (WO.field0 rfl rfl rfl (WO.load rfl rfl (Cell.own (Pick.tail (Pick.head)) rfl) rfl (WO.p rfl rfl (WO.p rfl rfl (WO.p rfl rfl ?_))))))
                            refine WO.callR (r := bgV b l (stK b l o o.length).1 (ovF b l o) k) rfl Try.call38 (fun L w hi => c_begin w ⟨q, 0, none⟩ a b v l _ _ k (PlR.own (by repeat (first | exact Pick.head | apply Pick.tail)) hR' hi) hd h8 hst (by omega) hkl) rfl ?_
                            refine WO.p rfl rfl (WO.p rfl rfl (WO.p rfl rfl (WO.p rfl rfl (WO.p rfl rfl ?_))))
                            refine WO.nil ?_
                            refine W.sreg ?_
                            refine WO.p rfl rfl (WO.p rfl rfl ?_)
                            refine WO.nil ?_
                            refine W.cond_bl rfl (fun c7 => ?_) (fun c7 => ?_)
                            · first
                              | (exfalso; omega)
                              | (have he : extP b l o k := ⟨by assumption, by assumption⟩
                                 have hbe : bgE b l (stK b l o o.length).1 (ovF b l o) k = 0 := he.2
                                 have hun := bgE_un hbe
                                 have hfr := bgA_fr b l (stK b l o o.length).1 (ovF b l o) k
                                 have hbn : bgN b l (stK b l o o.length).1 (ovF b l o) k = bgA b l (stK b l o o.length).1 (ovF b l o) k := if_pos hbe
                                 have hsn := ovF_snoc (b := b) (l := l) o k
                                 have hrm := ext_room hvo hkl he
                                 refine W.drawD 10 [.r 0 [], .r 1 [], .b 2 [], .r 3 [], .r 6 [], .r 7 [], .b 8 [], .r 9 [], .c 4 [], .c 5 []] [] (A0 := []) (Sub.refl _) (by kernel_rfl) ?_ ?_
                                 · exact (ALok.r (ALok.r (ALok.b (ALok.r (ALok.r (ALok.r (ALok.b (ALok.r (ALok.c (ALok.c ALok.nil))))))))))
                                 refine' DT.r rfl rfl rfl ?hq ?_
                                 case hq =>
                                   refine WO.p rfl rfl ?_
                                   exact WO.nil ⟨rfl, rfl⟩
                                 refine' DT.r rfl rfl rfl ?hq ?_
                                 case hq =>
                                   refine WO.p rfl rfl ?_
                                   exact WO.nil ⟨rfl, rfl⟩
                                 refine' DT.b rfl rfl rfl ?hq ?_
                                 case hq =>
                                   refine WO.callR (r := .slice ua o.length o.length) rfl Try.call63 (fun L w hi => by rw [← clipV_eq]; exact c_Clip w ua o.length uc huc (by omega) (fun h => by obtain ⟨_, a1, c1, e1, h1⟩ := hus; have e2 : a1 = ua := (by injection e1 with e2; exact e2.symm); rw [← e2]; exact h1 h)) rfl ?_
                                   exact WO.nil ⟨rfl, rfl⟩
                                 refine' DT.r rfl rfl rfl ?hq ?_
                                 case hq =>
                                   refine WO.p rfl rfl ?_
                                   exact WO.nil ⟨rfl, rfl⟩
                                 refine' DT.r rfl rfl rfl ?hq ?_
                                 case hq =>
                                   refine WO.p rfl rfl ?_
                                   exact WO.nil ⟨rfl, rfl⟩
                                 refine' DT.r rfl rfl rfl ?hq ?_
                                 case hq =>
                                   refine WO.field0 rfl rfl rfl ?_
                                   exact WO.nil ⟨rfl, rfl⟩
                                 refine' DT.b rfl rfl rfl ?hq ?_
                                 case hq =>
                                   refine WO.load rfl rfl (Cell.own Pick.head rfl) rfl ?_
                                   exact WO.nil ⟨rfl, rfl⟩
                                 refine' DT.r rfl rfl rfl ?hq ?_
                                 case hq =>
                                   refine WO.add rfl rfl (by unfold in64; omega) rfl ?_
                                   rw [hbn, ← hsn]
                                   exact WO.nil ⟨rfl, rfl⟩
                                 refine DT.c [_, _, _, _, _] rfl rfl rfl rfl ?_
                                 refine' WO.buildSl (cs := _) rfl rfl rfl rfl ?hf rfl rfl ?hl rfl (fun v2 => ?_)
                                 case hf => (conv => lhs; simp [-List.getD_eq_getElem?_getD, fillL, vcl, wrl, TTab.pl?.lget']) <;> rfl
                                 case hl => rfl
                                 refine WO.nil ⟨_, [_], rfl, rfl, (Keep.r (Keep.b (Keep.r (Keep.r (Keep.r (Keep.b (Keep.r (Keep.r Keep.nil)))))))), ?_⟩
                                 refine DT.c [_, _, _, _, _, _] rfl rfl rfl rfl ?_
                                 refine' WO.appendClip (enc := encI) (n := o.length) (m := 1) (xs := o) (ys := [(k : Int)]) encI_ok rfl rfl rfl rfl rfl hu0 rfl (fun a1 e1 => by subst e1; refine ow_base (e := 3) (n := o.length) (c := uc) ?_; exact (by repeat (first | exact Sub.nil | refine Sub.cons (by repeat (first | exact Pick.head | apply Pick.tail)) ?_))) (isSl_lit (by omega) (fun _ => ⟨_, _, rfl⟩)) (by omega) (OwC.cells .head) rfl (by omega) (by omega) rfl (fun v1 => ?_)
                                 refine WO.nil ⟨_, [_, _], rfl, rfl, (Keep.c (Keep.r (Keep.b (Keep.r (Keep.r (Keep.r (Keep.b (Keep.r (Keep.r Keep.nil))))))))), ?_⟩
                                 refine DT.nil [_, _, _, _, _, _, _] rfl ?_
                                 refine WO.callH (Hp := [pt s (.cells #[.pointer (some ⟨q, 0, none⟩), bv2, .int .i64 (ov2)] 83 (0, 0)), OwE encI 3 1 bv2 bs2, pt q (.cells (plC a b v (gW b l)).toArray 75 (0, 0)), OwE encI 3 1 v1 (o ++ [(k : Int)])]) rfl Try.call46 (.cons (by repeat (first | exact Pick.head | apply Pick.tail)) (.cons (by repeat (first | exact Pick.head | apply Pick.tail)) (.cons (by repeat (first | exact Pick.head | apply Pick.tail)) (.cons (by repeat (first | exact Pick.head | apply Pick.tail)) (Sub.refl _))))) (fun L w' hi hB2 => ih (f - 1) (by omega) (o ++ [(k : Int)]) bs2 ov2 s q _ bv2 w' _ hB2 (hvo.snoc hkl he) (by rw [List.length_append, List.length_singleton]; omega) (hz2 hst2) (hR'.agree hi.keepB)) rfl ?_
                                 rintro _ _ ⟨bv3, rfl, rfl⟩
                                 refine WO.nil ?_
                                 refine W.region ?_
                                 refine WO.ar rfl rfl rfl (by (first | (unfold in64; omega) | (unfold in64; omega))) rfl (WO.p rfl rfl ?_)
                                 refine WO.nil ?_
                                 refine' ⟨k + 1, _, _, _, ?hp, ?hmu, ⟨rfl, rfl, rfl, rfl, rfl, rfl, rfl, trivial⟩, ?hS⟩
                                 case hS => repeat (first | exact Sub.nil | refine Sub.cons (by repeat (first | exact Pick.head | apply Pick.tail)) ?_)
                                 case hp => exact ⟨by omega, by first | (rw [ordT_yes he, List.foldl_append, ← hst2]; done) | (rw [ordT_no (fun h => h.1 (by assumption))]; exact hst2) | (rw [ordT_no (fun h => absurd h.2 (by assumption))]; exact hst2)⟩
                                 case hmu => omega)
                            first
                            | (exfalso; omega)
                            | (refine W.skip ?_
                               refine W.region ?_
                               refine WO.ar rfl rfl rfl (by (first | (unfold in64; omega) | (unfold in64; omega))) rfl (WO.p rfl rfl ?_)
                               refine WO.nil ?_
                               refine' ⟨k + 1, _, _, _, ?hp, ?hmu, ⟨rfl, rfl, rfl, rfl, rfl, rfl, rfl, trivial⟩, ?hS⟩
                               case hS => repeat (first | exact Sub.nil | refine Sub.cons (by repeat (first | exact Pick.head | apply Pick.tail)) ?_)
                               case hp => exact ⟨by omega, by first | (rw [ordT_yes he, List.foldl_append, ← hst2]; done) | (rw [ordT_no (fun h => h.1 (by assumption))]; exact hst2) | (rw [ordT_no (fun h => absurd h.2 (by assumption))]; exact hst2)⟩
                               case hmu => omega)))
                    first
                    | (exfalso; omega)
                    | (refine W.exit (blk_same ?_)
                       refine fin.normal (Res.none rfl) ⟨bv2, rfl, fun h hs => ?_⟩
                       rw [ords_eq hvo hf, show l.length = k by omega, ← hst2]
                       exact Sub.sat (by repeat (first | exact Sub.nil | refine Sub.cons (by repeat (first | exact Pick.head | apply Pick.tail)) ?_)) hs))
               first
               | (exfalso; omega)
               | (refine W.skip ?_
                  refine W.chgE (X := Value × List Int × Int) (p := fun x => (x.2.1, x.2.2) = upd b l (best, ov) o) (H' := fun x => [pt s (.cells #[.pointer (some ⟨q, 0, none⟩), x.1, .int .i64 (x.2.2)] 83 (0, 0)), OwE encI 3 1 x.1 x.2.1, pt q (.cells (plC a b v (gW b l)).toArray 75 (0, 0)), OwE encI 3 1 (.slice ua o.length uc) o]) (fun h hs => ?_) ?_
                  · first | exact ⟨(.slice (some ⟨lb, 0, none⟩) o.length o.length, o, ovF b l o), (upd_yes (by simp only; omega)).symm, Sub.sat (by repeat (first | exact Sub.nil | refine Sub.cons (by repeat (first | exact Pick.head | apply Pick.tail)) ?_)) hs⟩ | exact ⟨(bv, best, ov), (upd_no (by simp only; omega)).symm, Sub.sat (by repeat (first | exact Sub.nil | refine Sub.cons (by repeat (first | exact Pick.head | apply Pick.tail)) ?_)) hs⟩
                  rintro ⟨bv1, bs1, ov1⟩ hup
                  simp only at hup ⊢
                  first | rw [← h6 (by omega)] | skip
                  refine W.sreg ?_
                  refine WO.p rfl rfl (WO.p rfl rfl (WO.field0 rfl rfl rfl (WO.load rfl rfl (Cell.own Pick.head rfl) rfl (WO.p rfl rfl (WO.field0 rfl rfl rfl (WO.fieldL rfl rfl rfl (WO.load rfl rfl (Cell.own (Pick.tail (Pick.tail (Pick.head))) rfl) rfl ?_)))))))
                  refine' WO.len (n := _) rfl rfl ?hs rfl ?_
                  case hs => (first | exact hR'.sl)
                  refine WO.p rfl rfl ?_
                  refine WO.nil ?_
                  refine W.block ?_
                  refine W.loop4 (fun (k : Nat) (bv2 : Value) (bs2 : List Int) (ov2 : Int) => k ≤ l.length ∧ (bs2, ov2) = (ordT b l f o k).foldl (upd b l) (best, ov))
                    (fun (k : Nat) (bv2 : Value) (bs2 : List Int) (ov2 : Int) => [(0, .pointer (some ⟨s, 0, none⟩)), (1, .slice ua o.length uc), (2, .int .i64 (ovF b l o)), (6, .int .i64 (stK b l o o.length).1), (69, v), (70, .int .i64 (l.length : Int)), (71, .int .i64 (k : Int))])
                    (fun (k : Nat) (bv2 : Value) (bs2 : List Int) (ov2 : Int) => [pt s (.cells #[.pointer (some ⟨q, 0, none⟩), bv2, .int .i64 ov2] 83 (0, 0)), OwE encI 3 1 bv2 bs2, pt q (.cells (plC a b v (gW b l)).toArray 75 (0, 0)), OwE encI 3 1 (.slice ua o.length uc) o])
                    (fun (k : Nat) (bv2 : Value) (bs2 : List Int) (ov2 : Int) => l.length - k) 0 bv1 bs1 ov1
                    (by exact ⟨by omega, by rw [ordT_0]; exact hup⟩) ⟨rfl, rfl, rfl, rfl, rfl, rfl, rfl, trivial⟩ (by repeat (first | exact Sub.nil | refine Sub.cons (by repeat (first | exact Pick.head | apply Pick.tail)) ?_)) ?_
                  rintro k bv2 bs2 ov2 ⟨hk, hst2⟩
                  refine W.sreg ?_
                  refine WO.p rfl rfl ?_
                  refine WO.nil ?_
                  refine W.seq ?_
                  refine W.cond_bl rfl (fun c5 => ?_) (fun c5 => ?_)
                  · first
                    | (exfalso; omega)
                    | (refine W.skip ?_
                       refine W.seq ?_
                       refine W.block ?_
                       have hkl : k < l.length := by omega
                       have hrk := hd.at_ hkl
                       unfold OkR at hrk
                       refine W.sreg ?_
                       refine WO.p rfl rfl ?_
                       refine' WO.indexAddr (n := _) (i := _) rfl rfl rfl ?hs ?h1 rfl ?_
                       case hs => (first | exact hR'.sl)
                       case h1 => (first | omega | (simp; omega))
                       refine' WO.loadA (vs := _) rfl rfl ?hc ?hl rfl ?_
                       case hc => (first | exact RdF.cellsR hR' (i := k) hkl)
                       case hl => rfl
                       refine WO.alloc rfl rfl rfl (fun b1 hb1 => ?_)
                       refine WO.p rfl rfl (WO.storeA rfl rfl rfl rfl Pick.head rfl rfl ?_)
                       refine WO.nil ?_
                       refine W.seq ?_
                       refine W.sreg ?_
                       refine WO.p rfl rfl (WO.p rfl rfl ?_)
                       refine WO.callR rfl Try.call62 (fun L w hi => c_Contains w _ o _ (RdF.of_ow (e := 3) encI_ok (by repeat (first | exact Pick.head | apply Pick.tail)) hi)) rfl ?_
                       refine WO.nil ?_
                       refine W.cond_bl rfl (fun c6 => ?_) (fun c6 => ?_)
                       · first
                         | (exfalso; omega)
                         | (refine W.exit (blk_same ?_)
                            refine W.region ?_
                            refine WO.ar rfl rfl rfl (by (first | (unfold in64; omega) | (unfold in64; omega))) rfl (WO.p rfl rfl ?_)
                            refine WO.nil ?_
                            refine' ⟨k + 1, _, _, _, ?hp, ?hmu, ⟨rfl, rfl, rfl, rfl, rfl, rfl, rfl, trivial⟩, ?hS⟩
                            case hS => repeat (first | exact Sub.nil | refine Sub.cons (by repeat (first | exact Pick.head | apply Pick.tail)) ?_)
                            case hp => exact ⟨by omega, by first | (rw [ordT_yes he, List.foldl_append, ← hst2]; done) | (rw [ordT_no (fun h => h.1 (by assumption))]; exact hst2) | (rw [ordT_no (fun h => absurd h.2 (by assumption))]; exact hst2)⟩
                            case hmu => omega)
                       first
                       | (exfalso; omega)
                       | (refine W.skip ?_
                          refine W.sreg ?_
                          refine WO.p rfl rfl (WO.p rfl rfl (WO.field0 rfl rfl rfl (WO.load rfl rfl (Cell.own (Pick.tail (Pick.head)) rfl) rfl (WO.p rfl rfl (WO.p rfl rfl (WO.p rfl rfl ?_))))))
                          refine WO.callR (r := bgV b l (stK b l o o.length).1 (ovF b l o) k) rfl Try.call38 (fun L w hi => c_begin w ⟨q, 0, none⟩ a b v l _ _ k (PlR.own (by repeat (first | exact Pick.head | apply Pick.tail)) hR' hi) hd h8 hst (by omega) hkl) rfl ?_
                          refine WO.p rfl rfl (WO.p rfl rfl (WO.p rfl rfl (WO.p rfl rfl (WO.p rfl rfl ?_))))
                          refine WO.nil ?_
                          refine W.sreg ?_
                          refine WO.p rfl rfl (WO.p rfl rfl ?_)
                          refine WO.nil ?_
                          refine W.cond_bl rfl (fun c7 => ?_) (fun c7 => ?_)
                          · first
                            | (exfalso; omega)
                            | (have he : extP b l o k := ⟨by assumption, by assumption⟩
                               have hbe : bgE b l (stK b l o o.length).1 (ovF b l o) k = 0 := he.2
                               have hun := bgE_un hbe
                               have hfr := bgA_fr b l (stK b l o o.length).1 (ovF b l o) k
                               have hbn : bgN b l (stK b l o o.length).1 (ovF b l o) k = bgA b l (stK b l o o.length).1 (ovF b l o) k := if_pos hbe
                               have hsn := ovF_snoc (b := b) (l := l) o k
                               have hrm := ext_room hvo hkl he
                               refine W.drawD 10 [.r 0 [], .r 1 [], .b 2 [], .r 3 [], .r 6 [], .r 7 [], .b 8 [], .r 9 [], .c 4 [], .c 5 []] [] (A0 := []) (Sub.refl _) (by kernel_rfl) ?_ ?_
                               · exact (ALok.r (ALok.r (ALok.b (ALok.r (ALok.r (ALok.r (ALok.b (ALok.r (ALok.c (ALok.c ALok.nil))))))))))
                               refine' DT.r rfl rfl rfl ?hq ?_
                               case hq =>
                                 refine WO.p rfl rfl ?_
                                 exact WO.nil ⟨rfl, rfl⟩
                               refine' DT.r rfl rfl rfl ?hq ?_
                               case hq =>
                                 refine WO.p rfl rfl ?_
                                 exact WO.nil ⟨rfl, rfl⟩
                               refine' DT.b rfl rfl rfl ?hq ?_
                               case hq =>
                                 refine WO.callR (r := .slice ua o.length o.length) rfl Try.call63 (fun L w hi => by rw [← clipV_eq]; exact c_Clip w ua o.length uc huc (by omega) (fun h => by obtain ⟨_, a1, c1, e1, h1⟩ := hus; have e2 : a1 = ua := (by injection e1 with e2; exact e2.symm); rw [← e2]; exact h1 h)) rfl ?_
                                 exact WO.nil ⟨rfl, rfl⟩
                               refine' DT.r rfl rfl rfl ?hq ?_
                               case hq =>
                                 refine WO.p rfl rfl ?_
                                 exact WO.nil ⟨rfl, rfl⟩
                               refine' DT.r rfl rfl rfl ?hq ?_
                               case hq =>
                                 refine WO.p rfl rfl ?_
                                 exact WO.nil ⟨rfl, rfl⟩
                               refine' DT.r rfl rfl rfl ?hq ?_
                               case hq =>
                                 refine WO.field0 rfl rfl rfl ?_
                                 exact WO.nil ⟨rfl, rfl⟩
                               refine' DT.b rfl rfl rfl ?hq ?_
                               case hq =>
                                 refine WO.load rfl rfl (Cell.own Pick.head rfl) rfl ?_
                                 exact WO.nil ⟨rfl, rfl⟩
                               refine' DT.r rfl rfl rfl ?hq ?_
                               case hq =>
                                 refine WO.add rfl rfl (by unfold in64; omega) rfl ?_
                                 rw [hbn, ← hsn]
                                 exact WO.nil ⟨rfl, rfl⟩
                               refine DT.c [_, _, _, _, _] rfl rfl rfl rfl ?_
                               refine' WO.buildSl (cs := _) rfl rfl rfl rfl ?hf rfl rfl ?hl rfl (fun v2 => ?_)
                               case hf => (conv => lhs; simp [-List.getD_eq_getElem?_getD, fillL, vcl, wrl, TTab.pl?.lget']) <;> rfl
                               case hl => rfl
                               refine WO.nil ⟨_, [_], rfl, rfl, (Keep.r (Keep.b (Keep.r (Keep.r (Keep.r (Keep.b (Keep.r (Keep.r Keep.nil)))))))), ?_⟩
                               refine DT.c [_, _, _, _, _, _] rfl rfl rfl rfl ?_
                               refine' WO.appendClip (enc := encI) (n := o.length) (m := 1) (xs := o) (ys := [(k : Int)]) encI_ok rfl rfl rfl rfl rfl hu0 rfl (fun a1 e1 => by subst e1; refine ow_base (e := 3) (n := o.length) (c := uc) ?_; exact (by repeat (first | exact Sub.nil | refine Sub.cons (by repeat (first | exact Pick.head | apply Pick.tail)) ?_))) (isSl_lit (by omega) (fun _ => ⟨_, _, rfl⟩)) (by omega) (OwC.cells .head) rfl (by omega) (by omega) rfl (fun v1 => ?_)
                               refine WO.nil ⟨_, [_, _], rfl, rfl, (Keep.c (Keep.r (Keep.b (Keep.r (Keep.r (Keep.r (Keep.b (Keep.r (Keep.r Keep.nil))))))))), ?_⟩
                               refine DT.nil [_, _, _, _, _, _, _] rfl ?_
                               refine WO.callH (Hp := [pt s (.cells #[.pointer (some ⟨q, 0, none⟩), bv2, .int .i64 (ov2)] 83 (0, 0)), OwE encI 3 1 bv2 bs2, pt q (.cells (plC a b v (gW b l)).toArray 75 (0, 0)), OwE encI 3 1 v1 (o ++ [(k : Int)])]) rfl Try.call46 (.cons (by repeat (first | exact Pick.head | apply Pick.tail)) (.cons (by repeat (first | exact Pick.head | apply Pick.tail)) (.cons (by repeat (first | exact Pick.head | apply Pick.tail)) (.cons (by repeat (first | exact Pick.head | apply Pick.tail)) (Sub.refl _))))) (fun L w' hi hB2 => ih (f - 1) (by omega) (o ++ [(k : Int)]) bs2 ov2 s q _ bv2 w' _ hB2 (hvo.snoc hkl he) (by rw [List.length_append, List.length_singleton]; omega) (hz2 hst2) (hR'.agree hi.keepB)) rfl ?_
                               rintro _ _ ⟨bv3, rfl, rfl⟩
                               refine WO.nil ?_
                               refine W.region ?_
                               refine WO.ar rfl rfl rfl (by (first | (unfold in64; omega) | (unfold in64; omega))) rfl (WO.p rfl rfl ?_)
                               refine WO.nil ?_
                               refine' ⟨k + 1, _, _, _, ?hp, ?hmu, ⟨rfl, rfl, rfl, rfl, rfl, rfl, rfl, trivial⟩, ?hS⟩
                               case hS => repeat (first | exact Sub.nil | refine Sub.cons (by repeat (first | exact Pick.head | apply Pick.tail)) ?_)
                               case hp => exact ⟨by omega, by first | (rw [ordT_yes he, List.foldl_append, ← hst2]; done) | (rw [ordT_no (fun h => h.1 (by assumption))]; exact hst2) | (rw [ordT_no (fun h => absurd h.2 (by assumption))]; exact hst2)⟩
                               case hmu => omega)
                          first
                          | (exfalso; omega)
                          | (refine W.skip ?_
                             refine W.region ?_
                             refine WO.ar rfl rfl rfl (by (first | (unfold in64; omega) | (unfold in64; omega))) rfl (WO.p rfl rfl ?_)
                             refine WO.nil ?_
                             refine' ⟨k + 1, _, _, _, ?hp, ?hmu, ⟨rfl, rfl, rfl, rfl, rfl, rfl, rfl, trivial⟩, ?hS⟩
                             case hS => repeat (first | exact Sub.nil | refine Sub.cons (by repeat (first | exact Pick.head | apply Pick.tail)) ?_)
                             case hp => exact ⟨by omega, by first | (rw [ordT_yes he, List.foldl_append, ← hst2]; done) | (rw [ordT_no (fun h => h.1 (by assumption))]; exact hst2) | (rw [ordT_no (fun h => absurd h.2 (by assumption))]; exact hst2)⟩
                             case hmu => omega)))
                  first
                  | (exfalso; omega)
                  | (refine W.exit (blk_same ?_)
                     refine fin.normal (Res.none rfl) ⟨bv2, rfl, fun h hs => ?_⟩
                     rw [ords_eq hvo hf, show l.length = k by omega, ← hst2]
                     exact Sub.sat (by repeat (first | exact Sub.nil | refine Sub.cons (by repeat (first | exact Pick.head | apply Pick.tail)) ?_)) hs)))
          first
          | (exfalso; omega)
          | (refine W.skip ?_
             refine W.sreg ?_
             refine WO.p rfl rfl ?_
             refine WO.nil ?_
             refine W.seq ?_
             refine W.sreg ?_
             refine WO.p rfl rfl ?_
             refine' WO.len (n := _) rfl rfl ?hs rfl ?_
             case hs => (first | exact hus)
             refine WO.p rfl rfl ?_
             refine WO.nil ?_
             refine W.cond_bl rfl (fun c4 => ?_) (fun c4 => ?_)
             · first
               | (exfalso; omega)
               | (refine W.region ?_
                  refine WO.p rfl rfl (WO.p rfl rfl ?_)
                  refine' WO.len (n := _) rfl rfl ?hs rfl ?_
                  case hs => (first | exact hus)
                  refine WO.ar rfl rfl rfl (by (first | (unfold in64; omega) | (unfold in64; omega))) rfl ?_
                  refine' WO.indexAddrZ (n := _) rfl rfl rfl ?hs ?h00 ?h1 rfl ?_
                  case hs => (first | exact hus)
                  case h00 => omega
                  case h1 => (first | omega | (simp; omega))
                  refine' WO.load (v := _) rfl rfl ?hc rfl ?_
                  case hc => (first | (refine owE_cellS (e := 3) (xs := o) (x := (stK b l o o.length).1) (i := o.length - 1) (j := ((o.length : Int) - 1).toNat) ?_ (by omega) (h7 (by omega)) (by omega); exact (by repeat (first | exact Sub.nil | refine Sub.cons (by repeat (first | exact Pick.head | apply Pick.tail)) ?_))))
                  refine WO.p rfl rfl ?_
                  refine WO.nil ?_
                  refine W.chgE (X := Value × List Int × Int) (p := fun x => (x.2.1, x.2.2) = upd b l (best, ov) o) (H' := fun x => [pt s (.cells #[.pointer (some ⟨q, 0, none⟩), x.1, .int .i64 (x.2.2)] 83 (0, 0)), OwE encI 3 1 x.1 x.2.1, pt q (.cells (plC a b v (gW b l)).toArray 75 (0, 0)), OwE encI 3 1 (.slice ua o.length uc) o]) (fun h hs => ?_) ?_
                  · first | exact ⟨(.slice (some ⟨lb, 0, none⟩) o.length o.length, o, ovF b l o), (upd_yes (by simp only; omega)).symm, Sub.sat (by repeat (first | exact Sub.nil | refine Sub.cons (by repeat (first | exact Pick.head | apply Pick.tail)) ?_)) hs⟩ | exact ⟨(bv, best, ov), (upd_no (by simp only; omega)).symm, Sub.sat (by repeat (first | exact Sub.nil | refine Sub.cons (by repeat (first | exact Pick.head | apply Pick.tail)) ?_)) hs⟩
                  rintro ⟨bv1, bs1, ov1⟩ hup
                  simp only at hup ⊢
                  first | rw [← h6 (by omega)] | skip
                  refine W.sreg ?_
                  refine WO.p rfl rfl (WO.p rfl rfl (WO.field0 rfl rfl rfl (WO.load rfl rfl (Cell.own Pick.head rfl) rfl (WO.p rfl rfl (WO.field0 rfl rfl rfl (WO.fieldL rfl rfl rfl (WO.load rfl rfl (Cell.own (Pick.tail (Pick.tail (Pick.head))) rfl) rfl ?_)))))))
                  refine' WO.len (n := _) rfl rfl ?hs rfl ?_
                  case hs => (first | exact hR'.sl)
                  refine WO.p rfl rfl ?_
                  refine WO.nil ?_
                  refine W.block ?_
                  refine W.loop4 (fun (k : Nat) (bv2 : Value) (bs2 : List Int) (ov2 : Int) => k ≤ l.length ∧ (bs2, ov2) = (ordT b l f o k).foldl (upd b l) (best, ov))
                    (fun (k : Nat) (bv2 : Value) (bs2 : List Int) (ov2 : Int) => [(0, .pointer (some ⟨s, 0, none⟩)), (1, .slice ua o.length uc), (2, .int .i64 (ovF b l o)), (6, .int .i64 (stK b l o o.length).1), (69, v), (70, .int .i64 (l.length : Int)), (71, .int .i64 (k : Int))])
                    (fun (k : Nat) (bv2 : Value) (bs2 : List Int) (ov2 : Int) => [pt s (.cells #[.pointer (some ⟨q, 0, none⟩), bv2, .int .i64 ov2] 83 (0, 0)), OwE encI 3 1 bv2 bs2, pt q (.cells (plC a b v (gW b l)).toArray 75 (0, 0)), OwE encI 3 1 (.slice ua o.length uc) o])
                    (fun (k : Nat) (bv2 : Value) (bs2 : List Int) (ov2 : Int) => l.length - k) 0 bv1 bs1 ov1
                    (by exact ⟨by omega, by rw [ordT_0]; exact hup⟩) ⟨rfl, rfl, rfl, rfl, rfl, rfl, rfl, trivial⟩ (by repeat (first | exact Sub.nil | refine Sub.cons (by repeat (first | exact Pick.head | apply Pick.tail)) ?_)) ?_
                  rintro k bv2 bs2 ov2 ⟨hk, hst2⟩
                  refine W.sreg ?_
                  refine WO.p rfl rfl ?_
                  refine WO.nil ?_
                  refine W.seq ?_
                  refine W.cond_bl rfl (fun c5 => ?_) (fun c5 => ?_)
                  · first
                    | (exfalso; omega)
                    | (refine W.skip ?_
                       refine W.seq ?_
                       refine W.block ?_
                       have hkl : k < l.length := by omega
                       have hrk := hd.at_ hkl
                       unfold OkR at hrk
                       refine W.sreg ?_
                       refine WO.p rfl rfl ?_
                       refine' WO.indexAddr (n := _) (i := _) rfl rfl rfl ?hs ?h1 rfl ?_
                       case hs => (first | exact hR'.sl)
                       case h1 => (first | omega | (simp; omega))
                       refine' WO.loadA (vs := _) rfl rfl ?hc ?hl rfl ?_
                       case hc => (first | exact RdF.cellsR hR' (i := k) hkl)
                       case hl => rfl
                       refine WO.alloc rfl rfl rfl (fun b1 hb1 => ?_)
                       refine WO.p rfl rfl (WO.storeA rfl rfl rfl rfl Pick.head rfl rfl ?_)
                       refine WO.nil ?_
                       refine W.seq ?_
                       refine W.sreg ?_
                       refine WO.p rfl rfl (WO.p rfl rfl ?_)
                       refine WO.callR rfl Try.call62 (fun L w hi => c_Contains w _ o _ (RdF.of_ow (e := 3) encI_ok (by repeat (first | exact Pick.head | apply Pick.tail)) hi)) rfl ?_
                       refine WO.nil ?_
                       refine W.cond_bl rfl (fun c6 => ?_) (fun c6 => ?_)
                       · first
                         | (exfalso; omega)
                         | (refine W.exit (blk_same ?_)
                            refine W.region ?_
                            refine WO.ar rfl rfl rfl (by (first | (unfold in64; omega) | (unfold in64; omega))) rfl (WO.p rfl rfl ?_)
                            refine WO.nil ?_
                            refine' ⟨k + 1, _, _, _, ?hp, ?hmu, ⟨rfl, rfl, rfl, rfl, rfl, rfl, rfl, trivial⟩, ?hS⟩
                            case hS => repeat (first | exact Sub.nil | refine Sub.cons (by repeat (first | exact Pick.head | apply Pick.tail)) ?_)
                            case hp => exact ⟨by omega, by first | (rw [ordT_yes he, List.foldl_append, ← hst2]; done) | (rw [ordT_no (fun h => h.1 (by assumption))]; exact hst2) | (rw [ordT_no (fun h => absurd h.2 (by assumption))]; exact hst2)⟩
                            case hmu => omega)
                       first
                       | (exfalso; omega)
                       | (refine W.skip ?_
                          refine W.sreg ?_
                          refine WO.p rfl rfl (WO.p rfl rfl (WO.field0 rfl rfl rfl (WO.load rfl rfl (Cell.own (Pick.tail (Pick.head)) rfl) rfl (WO.p rfl rfl (WO.p rfl rfl (WO.p rfl rfl ?_))))))
                          refine WO.callR (r := bgV b l (stK b l o o.length).1 (ovF b l o) k) rfl Try.call38 (fun L w hi => c_begin w ⟨q, 0, none⟩ a b v l _ _ k (PlR.own (by repeat (first | exact Pick.head | apply Pick.tail)) hR' hi) hd h8 hst (by omega) hkl) rfl ?_
                          refine WO.p rfl rfl (WO.p rfl rfl (WO.p rfl rfl (WO.p rfl rfl (WO.p rfl rfl ?_))))
                          refine WO.nil ?_
                          refine W.sreg ?_
                          refine WO.p rfl rfl (WO.p rfl rfl ?_)
                          refine WO.nil ?_
                          refine W.cond_bl rfl (fun c7 => ?_) (fun c7 => ?_)
                          · first
                            | (exfalso; omega)
                            | (have he : extP b l o k := ⟨by assumption, by assumption⟩
                               have hbe : bgE b l (stK b l o o.length).1 (ovF b l o) k = 0 := he.2
                               have hun := bgE_un hbe
                               have hfr := bgA_fr b l (stK b l o o.length).1 (ovF b l o) k
                               have hbn : bgN b l (stK b l o o.length).1 (ovF b l o) k = bgA b l (stK b l o o.length).1 (ovF b l o) k := if_pos hbe
                               have hsn := ovF_snoc (b := b) (l := l) o k
                               have hrm := ext_room hvo hkl he
                               refine W.drawD 10 [.r 0 [], .r 1 [], .b 2 [], .r 3 [], .r 6 [], .r 7 [], .b 8 [], .r 9 [], .c 4 [], .c 5 []] [] (A0 := []) (Sub.refl _) (by kernel_rfl) ?_ ?_
                               · exact (ALok.r (ALok.r (ALok.b (ALok.r (ALok.r (ALok.r (ALok.b (ALok.r (ALok.c (ALok.c ALok.nil))))))))))
                               refine' DT.r rfl rfl rfl ?hq ?_
                               case hq =>
                                 refine WO.p rfl rfl ?_
                                 exact WO.nil ⟨rfl, rfl⟩
                               refine' DT.r rfl rfl rfl ?hq ?_
                               case hq =>
                                 refine WO.p rfl rfl ?_
                                 exact WO.nil ⟨rfl, rfl⟩
                               refine' DT.b rfl rfl rfl ?hq ?_
                               case hq =>
                                 refine WO.callR (r := .slice ua o.length o.length) rfl Try.call63 (fun L w hi => by rw [← clipV_eq]; exact c_Clip w ua o.length uc huc (by omega) (fun h => by obtain ⟨_, a1, c1, e1, h1⟩ := hus; have e2 : a1 = ua := (by injection e1 with e2; exact e2.symm); rw [← e2]; exact h1 h)) rfl ?_
                                 exact WO.nil ⟨rfl, rfl⟩
                               refine' DT.r rfl rfl rfl ?hq ?_
                               case hq =>
                                 refine WO.p rfl rfl ?_
                                 exact WO.nil ⟨rfl, rfl⟩
                               refine' DT.r rfl rfl rfl ?hq ?_
                               case hq =>
                                 refine WO.p rfl rfl ?_
                                 exact WO.nil ⟨rfl, rfl⟩
                               refine' DT.r rfl rfl rfl ?hq ?_
                               case hq =>
                                 refine WO.field0 rfl rfl rfl ?_
                                 exact WO.nil ⟨rfl, rfl⟩
                               refine' DT.b rfl rfl rfl ?hq ?_
                               case hq =>
                                 refine WO.load rfl rfl (Cell.own Pick.head rfl) rfl ?_
                                 exact WO.nil ⟨rfl, rfl⟩
                               refine' DT.r rfl rfl rfl ?hq ?_
                               case hq =>
                                 refine WO.add rfl rfl (by unfold in64; omega) rfl ?_
                                 rw [hbn, ← hsn]
                                 exact WO.nil ⟨rfl, rfl⟩
                               refine DT.c [_, _, _, _, _] rfl rfl rfl rfl ?_
                               refine' WO.buildSl (cs := _) rfl rfl rfl rfl ?hf rfl rfl ?hl rfl (fun v2 => ?_)
                               case hf => (conv => lhs; simp [-List.getD_eq_getElem?_getD, fillL, vcl, wrl, TTab.pl?.lget']) <;> rfl
                               case hl => rfl
                               refine WO.nil ⟨_, [_], rfl, rfl, (Keep.r (Keep.b (Keep.r (Keep.r (Keep.r (Keep.b (Keep.r (Keep.r Keep.nil)))))))), ?_⟩
                               refine DT.c [_, _, _, _, _, _] rfl rfl rfl rfl ?_
                               refine' WO.appendClip (enc := encI) (n := o.length) (m := 1) (xs := o) (ys := [(k : Int)]) encI_ok rfl rfl rfl rfl rfl hu0 rfl (fun a1 e1 => by subst e1; refine ow_base (e := 3) (n := o.length) (c := uc) ?_; exact (by repeat (first | exact Sub.nil | refine Sub.cons (by repeat (first | exact Pick.head | apply Pick.tail)) ?_))) (isSl_lit (by omega) (fun _ => ⟨_, _, rfl⟩)) (by omega) (OwC.cells .head) rfl (by omega) (by omega) rfl (fun v1 => ?_)
                               refine WO.nil ⟨_, [_, _], rfl, rfl, (Keep.c (Keep.r (Keep.b (Keep.r (Keep.r (Keep.r (Keep.b (Keep.r (Keep.r Keep.nil))))))))), ?_⟩
                               refine DT.nil [_, _, _, _, _, _, _] rfl ?_
                               refine WO.callH (Hp := [pt s (.cells #[.pointer (some ⟨q, 0, none⟩), bv2, .int .i64 (ov2)] 83 (0, 0)), OwE encI 3 1 bv2 bs2, pt q (.cells (plC a b v (gW b l)).toArray 75 (0, 0)), OwE encI 3 1 v1 (o ++ [(k : Int)])]) rfl Try.call46 (.cons (by repeat (first | exact Pick.head | apply Pick.tail)) (.cons (by repeat (first | exact Pick.head | apply Pick.tail)) (.cons (by repeat (first | exact Pick.head | apply Pick.tail)) (.cons (by repeat (first | exact Pick.head | apply Pick.tail)) (Sub.refl _))))) (fun L w' hi hB2 => ih (f - 1) (by omega) (o ++ [(k : Int)]) bs2 ov2 s q _ bv2 w' _ hB2 (hvo.snoc hkl he) (by rw [List.length_append, List.length_singleton]; omega) (hz2 hst2) (hR'.agree hi.keepB)) rfl ?_
                               rintro _ _ ⟨bv3, rfl, rfl⟩
                               refine WO.nil ?_
                               refine W.region ?_
                               refine WO.ar rfl rfl rfl (by (first | (unfold in64; omega) | (unfold in64; omega))) rfl (WO.p rfl rfl ?_)
                               refine WO.nil ?_
                               refine' ⟨k + 1, _, _, _, ?hp, ?hmu, ⟨rfl, rfl, rfl, rfl, rfl, rfl, rfl, trivial⟩, ?hS⟩
                               case hS => repeat (first | exact Sub.nil | refine Sub.cons (by repeat (first | exact Pick.head | apply Pick.tail)) ?_)
                               case hp => exact ⟨by omega, by first | (rw [ordT_yes he, List.foldl_append, ← hst2]; done) | (rw [ordT_no (fun h => h.1 (by assumption))]; exact hst2) | (rw [ordT_no (fun h => absurd h.2 (by assumption))]; exact hst2)⟩
                               case hmu => omega)
                          first
                          | (exfalso; omega)
                          | (refine W.skip ?_
                             refine W.region ?_
                             refine WO.ar rfl rfl rfl (by (first | (unfold in64; omega) | (unfold in64; omega))) rfl (WO.p rfl rfl ?_)
                             refine WO.nil ?_
                             refine' ⟨k + 1, _, _, _, ?hp, ?hmu, ⟨rfl, rfl, rfl, rfl, rfl, rfl, rfl, trivial⟩, ?hS⟩
                             case hS => repeat (first | exact Sub.nil | refine Sub.cons (by repeat (first | exact Pick.head | apply Pick.tail)) ?_)
                             case hp => exact ⟨by omega, by first | (rw [ordT_yes he, List.foldl_append, ← hst2]; done) | (rw [ordT_no (fun h => h.1 (by assumption))]; exact hst2) | (rw [ordT_no (fun h => absurd h.2 (by assumption))]; exact hst2)⟩
                             case hmu => omega)))
                  first
                  | (exfalso; omega)
                  | (refine W.exit (blk_same ?_)
                     refine fin.normal (Res.none rfl) ⟨bv2, rfl, fun h hs => ?_⟩
                     rw [ords_eq hvo hf, show l.length = k by omega, ← hst2]
                     exact Sub.sat (by repeat (first | exact Sub.nil | refine Sub.cons (by repeat (first | exact Pick.head | apply Pick.tail)) ?_)) hs))
             first
             | (exfalso; omega)
             | (refine W.skip ?_
                refine W.chgE (X := Value × List Int × Int) (p := fun x => (x.2.1, x.2.2) = upd b l (best, ov) o) (H' := fun x => [pt s (.cells #[.pointer (some ⟨q, 0, none⟩), x.1, .int .i64 (x.2.2)] 83 (0, 0)), OwE encI 3 1 x.1 x.2.1, pt q (.cells (plC a b v (gW b l)).toArray 75 (0, 0)), OwE encI 3 1 (.slice ua o.length uc) o]) (fun h hs => ?_) ?_
                · first | exact ⟨(.slice (some ⟨lb, 0, none⟩) o.length o.length, o, ovF b l o), (upd_yes (by simp only; omega)).symm, Sub.sat (by repeat (first | exact Sub.nil | refine Sub.cons (by repeat (first | exact Pick.head | apply Pick.tail)) ?_)) hs⟩ | exact ⟨(bv, best, ov), (upd_no (by simp only; omega)).symm, Sub.sat (by repeat (first | exact Sub.nil | refine Sub.cons (by repeat (first | exact Pick.head | apply Pick.tail)) ?_)) hs⟩
                rintro ⟨bv1, bs1, ov1⟩ hup
                simp only at hup ⊢
                first | rw [← h6 (by omega)] | skip
                refine W.sreg ?_
                refine WO.p rfl rfl (WO.p rfl rfl (WO.field0 rfl rfl rfl (WO.load rfl rfl (Cell.own Pick.head rfl) rfl (WO.p rfl rfl (WO.field0 rfl rfl rfl (WO.fieldL rfl rfl rfl (WO.load rfl rfl (Cell.own (Pick.tail (Pick.tail (Pick.head))) rfl) rfl ?_)))))))
                refine' WO.len (n := _) rfl rfl ?hs rfl ?_
                case hs => (first | exact hR'.sl)
                refine WO.p rfl rfl ?_
                refine WO.nil ?_
                refine W.block ?_
                refine W.loop4 (fun (k : Nat) (bv2 : Value) (bs2 : List Int) (ov2 : Int) => k ≤ l.length ∧ (bs2, ov2) = (ordT b l f o k).foldl (upd b l) (best, ov))
                  (fun (k : Nat) (bv2 : Value) (bs2 : List Int) (ov2 : Int) => [(0, .pointer (some ⟨s, 0, none⟩)), (1, .slice ua o.length uc), (2, .int .i64 (ovF b l o)), (6, .int .i64 (stK b l o o.length).1), (69, v), (70, .int .i64 (l.length : Int)), (71, .int .i64 (k : Int))])
                  (fun (k : Nat) (bv2 : Value) (bs2 : List Int) (ov2 : Int) => [pt s (.cells #[.pointer (some ⟨q, 0, none⟩), bv2, .int .i64 ov2] 83 (0, 0)), OwE encI 3 1 bv2 bs2, pt q (.cells (plC a b v (gW b l)).toArray 75 (0, 0)), OwE encI 3 1 (.slice ua o.length uc) o])
                  (fun (k : Nat) (bv2 : Value) (bs2 : List Int) (ov2 : Int) => l.length - k) 0 bv1 bs1 ov1
                  (by exact ⟨by omega, by rw [ordT_0]; exact hup⟩) ⟨rfl, rfl, rfl, rfl, rfl, rfl, rfl, trivial⟩ (by repeat (first | exact Sub.nil | refine Sub.cons (by repeat (first | exact Pick.head | apply Pick.tail)) ?_)) ?_
                rintro k bv2 bs2 ov2 ⟨hk, hst2⟩
                refine W.sreg ?_
                refine WO.p rfl rfl ?_
                refine WO.nil ?_
                refine W.seq ?_
                refine W.cond_bl rfl (fun c5 => ?_) (fun c5 => ?_)
                · first
                  | (exfalso; omega)
                  | (refine W.skip ?_
                     refine W.seq ?_
                     refine W.block ?_
                     have hkl : k < l.length := by omega
                     have hrk := hd.at_ hkl
                     unfold OkR at hrk
                     refine W.sreg ?_
                     refine WO.p rfl rfl ?_
                     refine' WO.indexAddr (n := _) (i := _) rfl rfl rfl ?hs ?h1 rfl ?_
                     case hs => (first | exact hR'.sl)
                     case h1 => (first | omega | (simp; omega))
                     refine' WO.loadA (vs := _) rfl rfl ?hc ?hl rfl ?_
                     case hc => (first | exact RdF.cellsR hR' (i := k) hkl)
                     case hl => rfl
                     refine WO.alloc rfl rfl rfl (fun b1 hb1 => ?_)
                     refine WO.p rfl rfl (WO.storeA rfl rfl rfl rfl Pick.head rfl rfl ?_)
                     refine WO.nil ?_
                     refine W.seq ?_
                     refine W.sreg ?_
                     refine WO.p rfl rfl (WO.p rfl rfl ?_)
                     refine WO.callR rfl Try.call62 (fun L w hi => c_Contains w _ o _ (RdF.of_ow (e := 3) encI_ok (by repeat (first | exact Pick.head | apply Pick.tail)) hi)) rfl ?_
                     refine WO.nil ?_
                     refine W.cond_bl rfl (fun c6 => ?_) (fun c6 => ?_)
                     · first
                       | (exfalso; omega)
                       | (refine W.exit (blk_same ?_)
                          refine W.region ?_
                          refine WO.ar rfl rfl rfl (by (first | (unfold in64; omega) | (unfold in64; omega))) rfl (WO.p rfl rfl ?_)
                          refine WO.nil ?_
                          refine' ⟨k + 1, _, _, _, ?hp, ?hmu, ⟨rfl, rfl, rfl, rfl, rfl, rfl, rfl, trivial⟩, ?hS⟩
                          case hS => repeat (first | exact Sub.nil | refine Sub.cons (by repeat (first | exact Pick.head | apply Pick.tail)) ?_)
                          case hp => exact ⟨by omega, by first | (rw [ordT_yes he, List.foldl_append, ← hst2]; done) | (rw [ordT_no (fun h => h.1 (by assumption))]; exact hst2) | (rw [ordT_no (fun h => absurd h.2 (by assumption))]; exact hst2)⟩
                          case hmu => omega)
                     first
                     | (exfalso; omega)
                     | (refine W.skip ?_
                        refine W.sreg ?_
                        refine WO.p rfl rfl (WO.p rfl rfl (WO.field0 rfl rfl rfl (WO.load rfl rfl (Cell.own (Pick.tail (Pick.head)) rfl) rfl (WO.p rfl rfl (WO.p rfl rfl (WO.p rfl rfl ?_))))))
                        refine WO.callR (r := bgV b l (stK b l o o.length).1 (ovF b l o) k) rfl Try.call38 (fun L w hi => c_begin w ⟨q, 0, none⟩ a b v l _ _ k (PlR.own (by repeat (first | exact Pick.head | apply Pick.tail)) hR' hi) hd h8 hst (by omega) hkl) rfl ?_
                        refine WO.p rfl rfl (WO.p rfl rfl (WO.p rfl rfl (WO.p rfl rfl (WO.p rfl rfl ?_))))
                        refine WO.nil ?_
                        refine W.sreg ?_
                        refine WO.p rfl rfl (WO.p rfl rfl ?_)
                        refine WO.nil ?_
                        refine W.cond_bl rfl (fun c7 => ?_) (fun c7 => ?_)
                        · first
                          | (exfalso; omega)
                          | (have he : extP b l o k := ⟨by assumption, by assumption⟩
                             have hbe : bgE b l (stK b l o o.length).1 (ovF b l o) k = 0 := he.2
                             have hun := bgE_un hbe
                             have hfr := bgA_fr b l (stK b l o o.length).1 (ovF b l o) k
                             have hbn : bgN b l (stK b l o o.length).1 (ovF b l o) k = bgA b l (stK b l o o.length).1 (ovF b l o) k := if_pos hbe
                             have hsn := ovF_snoc (b := b) (l := l) o k
                             have hrm := ext_room hvo hkl he
                             refine W.drawD 10 [.r 0 [], .r 1 [], .b 2 [], .r 3 [], .r 6 [], .r 7 [], .b 8 [], .r 9 [], .c 4 [], .c 5 []] [] (A0 := []) (Sub.refl _) (by kernel_rfl) ?_ ?_
                             · exact (ALok.r (ALok.r (ALok.b (ALok.r (ALok.r (ALok.r (ALok.b (ALok.r (ALok.c (ALok.c ALok.nil))))))))))
                             refine' DT.r rfl rfl rfl ?hq ?_
                             case hq =>
                               refine WO.p rfl rfl ?_
                               exact WO.nil ⟨rfl, rfl⟩
                             refine' DT.r rfl rfl rfl ?hq ?_
                             case hq =>
                               refine WO.p rfl rfl ?_
                               exact WO.nil ⟨rfl, rfl⟩
                             refine' DT.b rfl rfl rfl ?hq ?_
                             case hq =>
                               refine WO.callR (r := .slice ua o.length o.length) rfl Try.call63 (fun L w hi => by rw [← clipV_eq]; exact c_Clip w ua o.length uc huc (by omega) (fun h => by obtain ⟨_, a1, c1, e1, h1⟩ := hus; have e2 : a1 = ua := (by injection e1 with e2; exact e2.symm); rw [← e2]; exact h1 h)) rfl ?_
                               exact WO.nil ⟨rfl, rfl⟩
                             refine' DT.r rfl rfl rfl ?hq ?_
                             case hq =>
                               refine WO.p rfl rfl ?_
                               exact WO.nil ⟨rfl, rfl⟩
                             refine' DT.r rfl rfl rfl ?hq ?_
                             case hq =>
                               refine WO.p rfl rfl ?_
                               exact WO.nil ⟨rfl, rfl⟩
                             refine' DT.r rfl rfl rfl ?hq ?_
                             case hq =>
                               refine WO.field0 rfl rfl rfl ?_
                               exact WO.nil ⟨rfl, rfl⟩
                             refine' DT.b rfl rfl rfl ?hq ?_
                             case hq =>
                               refine WO.load rfl rfl (Cell.own Pick.head rfl) rfl ?_
                               exact WO.nil ⟨rfl, rfl⟩
                             refine' DT.r rfl rfl rfl ?hq ?_
                             case hq =>
                               refine WO.add rfl rfl (by unfold in64; omega) rfl ?_
                               rw [hbn, ← hsn]
                               exact WO.nil ⟨rfl, rfl⟩
                             refine DT.c [_, _, _, _, _] rfl rfl rfl rfl ?_
                             refine' WO.buildSl (cs := _) rfl rfl rfl rfl ?hf rfl rfl ?hl rfl (fun v2 => ?_)
                             case hf => (conv => lhs; simp [-List.getD_eq_getElem?_getD, fillL, vcl, wrl, TTab.pl?.lget']) <;> rfl
                             case hl => rfl
                             refine WO.nil ⟨_, [_], rfl, rfl, (Keep.r (Keep.b (Keep.r (Keep.r (Keep.r (Keep.b (Keep.r (Keep.r Keep.nil)))))))), ?_⟩
                             refine DT.c [_, _, _, _, _, _] rfl rfl rfl rfl ?_
                             refine' WO.appendClip (enc := encI) (n := o.length) (m := 1) (xs := o) (ys := [(k : Int)]) encI_ok rfl rfl rfl rfl rfl hu0 rfl (fun a1 e1 => by subst e1; refine ow_base (e := 3) (n := o.length) (c := uc) ?_; exact (by repeat (first | exact Sub.nil | refine Sub.cons (by repeat (first | exact Pick.head | apply Pick.tail)) ?_))) (isSl_lit (by omega) (fun _ => ⟨_, _, rfl⟩)) (by omega) (OwC.cells .head) rfl (by omega) (by omega) rfl (fun v1 => ?_)
                             refine WO.nil ⟨_, [_, _], rfl, rfl, (Keep.c (Keep.r (Keep.b (Keep.r (Keep.r (Keep.r (Keep.b (Keep.r (Keep.r Keep.nil))))))))), ?_⟩
                             refine DT.nil [_, _, _, _, _, _, _] rfl ?_
                             refine WO.callH (Hp := [pt s (.cells #[.pointer (some ⟨q, 0, none⟩), bv2, .int .i64 (ov2)] 83 (0, 0)), OwE encI 3 1 bv2 bs2, pt q (.cells (plC a b v (gW b l)).toArray 75 (0, 0)), OwE encI 3 1 v1 (o ++ [(k : Int)])]) rfl Try.call46 (.cons (by repeat (first | exact Pick.head | apply Pick.tail)) (.cons (by repeat (first | exact Pick.head | apply Pick.tail)) (.cons (by repeat (first | exact Pick.head | apply Pick.tail)) (.cons (by repeat (first | exact Pick.head | apply Pick.tail)) (Sub.refl _))))) (fun L w' hi hB2 => ih (f - 1) (by omega) (o ++ [(k : Int)]) bs2 ov2 s q _ bv2 w' _ hB2 (hvo.snoc hkl he) (by rw [List.length_append, List.length_singleton]; omega) (hz2 hst2) (hR'.agree hi.keepB)) rfl ?_
                             rintro _ _ ⟨bv3, rfl, rfl⟩
                             refine WO.nil ?_
                             refine W.region ?_
                             refine WO.ar rfl rfl rfl (by (first | (unfold in64; omega) | (unfold in64; omega))) rfl (WO.p rfl rfl ?_)
                             refine WO.nil ?_
                             refine' ⟨k + 1, _, _, _, ?hp, ?hmu, ⟨rfl, rfl, rfl, rfl, rfl, rfl, rfl, trivial⟩, ?hS⟩
                             case hS => repeat (first | exact Sub.nil | refine Sub.cons (by repeat (first | exact Pick.head | apply Pick.tail)) ?_)
                             case hp => exact ⟨by omega, by first | (rw [ordT_yes he, List.foldl_append, ← hst2]; done) | (rw [ordT_no (fun h => h.1 (by assumption))]; exact hst2) | (rw [ordT_no (fun h => absurd h.2 (by assumption))]; exact hst2)⟩
                             case hmu => omega)
                        first
                        | (exfalso; omega)
                        | (refine W.skip ?_
                           refine W.region ?_
                           refine WO.ar rfl rfl rfl (by (first | (unfold in64; omega) | (unfold in64; omega))) rfl (WO.p rfl rfl ?_)
                           refine WO.nil ?_
                           refine' ⟨k + 1, _, _, _, ?hp, ?hmu, ⟨rfl, rfl, rfl, rfl, rfl, rfl, rfl, trivial⟩, ?hS⟩
                           case hS => repeat (first | exact Sub.nil | refine Sub.cons (by repeat (first | exact Pick.head | apply Pick.tail)) ?_)
                           case hp => exact ⟨by omega, by first | (rw [ordT_yes he, List.foldl_append, ← hst2]; done) | (rw [ordT_no (fun h => h.1 (by assumption))]; exact hst2) | (rw [ordT_no (fun h => absurd h.2 (by assumption))]; exact hst2)⟩
                           case hmu => omega)))
                first
                | (exfalso; omega)
                | (refine W.exit (blk_same ?_)
                   refine fin.normal (Res.none rfl) ⟨bv2, rfl, fun h hs => ?_⟩
                   rw [ords_eq hvo hf, show l.length = k by omega, ← hst2]
                   exact Sub.sat (by repeat (first | exact Sub.nil | refine Sub.cons (by repeat (first | exact Pick.head | apply Pick.tail)) ?_)) hs))))
     first
     | (exfalso; omega)
     | (refine WO.no rfl rfl (WO.no rfl rfl (WO.no rfl rfl (WO.no rfl rfl (WO.no rfl rfl (WO.no rfl rfl (WO.pg rfl rfl rfl (WO.p rfl rfl ?_)))))))
        refine WO.nil ?_
        refine W.cond_f rfl ?_
        refine W.skip ?_
        refine W.sreg ?_
        refine WO.p rfl rfl ?_
        refine WO.nil ?_
        refine W.seq ?_
        refine W.sreg ?_
        refine WO.p rfl rfl ?_
        refine' WO.len (n := _) rfl rfl ?hs rfl ?_
        case hs => (first | exact hus)
        refine WO.p rfl rfl ?_
        refine WO.nil ?_
        refine W.cond_bl rfl (fun c3 => ?_) (fun c3 => ?_)
        · first
          | (exfalso; omega)
          | (refine W.region ?_
             refine WO.p rfl rfl (WO.p rfl rfl ?_)
             refine' WO.len (n := _) rfl rfl ?hs rfl ?_
             case hs => (first | exact hus)
             refine WO.ar rfl rfl rfl (by (first | (unfold in64; omega) | (unfold in64; omega))) rfl ?_
             refine' WO.indexAddrZ (n := _) rfl rfl rfl ?hs ?h00 ?h1 rfl ?_
             case hs => (first | exact hus)
             case h00 => omega
             case h1 => (first | omega | (simp; omega))
             refine' WO.load (v := _) rfl rfl ?hc rfl ?_
             case hc => (first | (refine owE_cellS (e := 3) (xs := o) (x := (stK b l o o.length).1) (i := o.length - 1) (j := ((o.length : Int) - 1).toNat) ?_ (by omega) (h7 (by omega)) (by omega); exact (by repeat (first | exact Sub.nil | refine Sub.cons (by repeat (first | exact Pick.head | apply Pick.tail)) ?_))))
             refine WO.p rfl rfl ?_
             refine WO.nil ?_
             refine W.chgE (X := Value × List Int × Int) (p := fun x => (x.2.1, x.2.2) = upd b l (best, ov) o) (H' := fun x => [pt s (.cells #[.pointer (some ⟨q, 0, none⟩), x.1, .int .i64 (x.2.2)] 83 (0, 0)), OwE encI 3 1 x.1 x.2.1, pt q (.cells (plC a b v (gW b l)).toArray 75 (0, 0)), OwE encI 3 1 (.slice ua o.length uc) o]) (fun h hs => ?_) ?_
             · first | exact ⟨(.slice (some ⟨lb, 0, none⟩) o.length o.length, o, ovF b l o), (upd_yes (by simp only; omega)).symm, Sub.sat (by repeat (first | exact Sub.nil | refine Sub.cons (by repeat (first | exact Pick.head | apply Pick.tail)) ?_)) hs⟩ | exact ⟨(bv, best, ov), (upd_no (by simp only; omega)).symm, Sub.sat (by repeat (first | exact Sub.nil | refine Sub.cons (by repeat (first | exact Pick.head | apply Pick.tail)) ?_)) hs⟩
             rintro ⟨bv1, bs1, ov1⟩ hup
             simp only at hup ⊢
             first | rw [← h6 (by omega)] | skip
             refine W.sreg ?_
             refine WO.p rfl rfl (WO.p rfl rfl (WO.field0 rfl rfl rfl (WO.load rfl rfl (Cell.own Pick.head rfl) rfl (WO.p rfl rfl (WO.field0 rfl rfl rfl (WO.fieldL rfl rfl rfl (WO.load rfl rfl (Cell.own (Pick.tail (Pick.tail (Pick.head))) rfl) rfl ?_)))))))
             refine' WO.len (n := _) rfl rfl ?hs rfl ?_
             case hs => (first | exact hR'.sl)
             refine WO.p rfl rfl ?_
             refine WO.nil ?_
             refine W.block ?_
             refine W.loop4 (fun (k : Nat) (bv2 : Value) (bs2 : List Int) (ov2 : Int) => k ≤ l.length ∧ (bs2, ov2) = (ordT b l f o k).foldl (upd b l) (best, ov))
               (fun (k : Nat) (bv2 : Value) (bs2 : List Int) (ov2 : Int) => [(0, .pointer (some ⟨s, 0, none⟩)), (1, .slice ua o.length uc), (2, .int .i64 (ovF b l o)), (6, .int .i64 (stK b l o o.length).1), (69, v), (70, .int .i64 (l.length : Int)), (71, .int .i64 (k : Int))])
               (fun (k : Nat) (bv2 : Value) (bs2 : List Int) (ov2 : Int) => [pt s (.cells #[.pointer (some ⟨q, 0, none⟩), bv2, .int .i64 ov2] 83 (0, 0)), OwE encI 3 1 bv2 bs2, pt q (.cells (plC a b v (gW b l)).toArray 75 (0, 0)), OwE encI 3 1 (.slice ua o.length uc) o])
               (fun (k : Nat) (bv2 : Value) (bs2 : List Int) (ov2 : Int) => l.length - k) 0 bv1 bs1 ov1
               (by exact ⟨by omega, by rw [ordT_0]; exact hup⟩) ⟨rfl, rfl, rfl, rfl, rfl, rfl, rfl, trivial⟩ (by repeat (first | exact Sub.nil | refine Sub.cons (by repeat (first | exact Pick.head | apply Pick.tail)) ?_)) ?_
             rintro k bv2 bs2 ov2 ⟨hk, hst2⟩
             refine W.sreg ?_
             refine WO.p rfl rfl ?_
             refine WO.nil ?_
             refine W.seq ?_
             refine W.cond_bl rfl (fun c4 => ?_) (fun c4 => ?_)
             · first
               | (exfalso; omega)
               | (refine W.skip ?_
                  refine W.seq ?_
                  refine W.block ?_
                  have hkl : k < l.length := by omega
                  have hrk := hd.at_ hkl
                  unfold OkR at hrk
                  refine W.sreg ?_
                  refine WO.p rfl rfl ?_
                  refine' WO.indexAddr (n := _) (i := _) rfl rfl rfl ?hs ?h1 rfl ?_
                  case hs => (first | exact hR'.sl)
                  case h1 => (first | omega | (simp; omega))
                  refine' WO.loadA (vs := _) rfl rfl ?hc ?hl rfl ?_
                  case hc => (first | exact RdF.cellsR hR' (i := k) hkl)
                  case hl => rfl
                  refine WO.alloc rfl rfl rfl (fun b1 hb1 => ?_)
                  refine WO.p rfl rfl (WO.storeA rfl rfl rfl rfl Pick.head rfl rfl ?_)
                  refine WO.nil ?_
                  refine W.seq ?_
                  refine W.sreg ?_
                  refine WO.p rfl rfl (WO.p rfl rfl ?_)
                  refine WO.callR rfl Try.call62 (fun L w hi => c_Contains w _ o _ (RdF.of_ow (e := 3) encI_ok (by repeat (first | exact Pick.head | apply Pick.tail)) hi)) rfl ?_
                  refine WO.nil ?_
                  refine W.cond_bl rfl (fun c5 => ?_) (fun c5 => ?_)
                  · first
                    | (exfalso; omega)
                    | (refine W.exit (blk_same ?_)
                       refine W.region ?_
                       refine WO.ar rfl rfl rfl (by (first | (unfold in64; omega) | (unfold in64; omega))) rfl (WO.p rfl rfl ?_)
                       refine WO.nil ?_
                       refine' ⟨k + 1, _, _, _, ?hp, ?hmu, ⟨rfl, rfl, rfl, rfl, rfl, rfl, rfl, trivial⟩, ?hS⟩
                       case hS => repeat (first | exact Sub.nil | refine Sub.cons (by repeat (first | exact Pick.head | apply Pick.tail)) ?_)
                       case hp => exact ⟨by omega, by first | (rw [ordT_yes he, List.foldl_append, ← hst2]; done) | (rw [ordT_no (fun h => h.1 (by assumption))]; exact hst2) | (rw [ordT_no (fun h => absurd h.2 (by assumption))]; exact hst2)⟩
                       case hmu => omega)
                  first
                  | (exfalso; omega)
                  | (refine W.skip ?_
                     refine W.sreg ?_
                     refine WO.p rfl rfl (WO.p rfl rfl (WO.field0 rfl rfl rfl (WO.load rfl rfl (Cell.own (Pick.tail (Pick.head)) rfl) rfl (WO.p rfl rfl (WO.p rfl rfl (WO.p rfl rfl ?_))))))
                     refine WO.callR (r := bgV b l (stK b l o o.length).1 (ovF b l o) k) rfl Try.call38 (fun L w hi => c_begin w ⟨q, 0, none⟩ a b v l _ _ k (PlR.own (by repeat (first | exact Pick.head | apply Pick.tail)) hR' hi) hd h8 hst (by omega) hkl) rfl ?_
                     refine WO.p rfl rfl (WO.p rfl rfl (WO.p rfl rfl (WO.p rfl rfl (WO.p rfl rfl ?_))))
                     refine WO.nil ?_
                     refine W.sreg ?_
                     refine WO.p rfl rfl (WO.p rfl rfl ?_)
                     refine WO.nil ?_
                     refine W.cond_bl rfl (fun c6 => ?_) (fun c6 => ?_)
                     · first
                       | (exfalso; omega)
                       | (have he : extP b l o k := ⟨by assumption, by assumption⟩
                          have hbe : bgE b l (stK b l o o.length).1 (ovF b l o) k = 0 := he.2
                          have hun := bgE_un hbe
                          have hfr := bgA_fr b l (stK b l o o.length).1 (ovF b l o) k
                          have hbn : bgN b l (stK b l o o.length).1 (ovF b l o) k = bgA b l (stK b l o o.length).1 (ovF b l o) k := if_pos hbe
                          have hsn := ovF_snoc (b := b) (l := l) o k
                          have hrm := ext_room hvo hkl he
                          refine W.drawD 10 [.r 0 [], .r 1 [], .b 2 [], .r 3 [], .r 6 [], .r 7 [], .b 8 [], .r 9 [], .c 4 [], .c 5 []] [] (A0 := []) (Sub.refl _) (by kernel_rfl) ?_ ?_
                          · exact (ALok.r (ALok.r (ALok.b (ALok.r (ALok.r (ALok.r (ALok.b (ALok.r (ALok.c (ALok.c ALok.nil))))))))))
                          refine' DT.r rfl rfl rfl ?hq ?_
                          case hq =>
                            refine WO.p rfl rfl ?_
                            exact WO.nil ⟨rfl, rfl⟩
                          refine' DT.r rfl rfl rfl ?hq ?_
                          case hq =>
                            refine WO.p rfl rfl ?_
                            exact WO.nil ⟨rfl, rfl⟩
                          refine' DT.b rfl rfl rfl ?hq ?_
                          case hq =>
                            refine WO.callR (r := .slice ua o.length o.length) rfl Try.call63 (fun L w hi => by rw [← clipV_eq]; exact c_Clip w ua o.length uc huc (by omega) (fun h => by obtain ⟨_, a1, c1, e1, h1⟩ := hus; have e2 : a1 = ua := (by injection e1 with e2; exact e2.symm); rw [← e2]; exact h1 h)) rfl ?_
                            exact WO.nil ⟨rfl, rfl⟩
                          refine' DT.r rfl rfl rfl ?hq ?_
                          case hq =>
                            refine WO.p rfl rfl ?_
                            exact WO.nil ⟨rfl, rfl⟩
                          refine' DT.r rfl rfl rfl ?hq ?_
                          case hq =>
                            refine WO.p rfl rfl ?_
                            exact WO.nil ⟨rfl, rfl⟩
                          refine' DT.r rfl rfl rfl ?hq ?_
                          case hq =>
                            refine WO.field0 rfl rfl rfl ?_
                            exact WO.nil ⟨rfl, rfl⟩
                          refine' DT.b rfl rfl rfl ?hq ?_
                          case hq =>
                            refine WO.load rfl rfl (Cell.own Pick.head rfl) rfl ?_
                            exact WO.nil ⟨rfl, rfl⟩
                          refine' DT.r rfl rfl rfl ?hq ?_
                          case hq =>
                            refine WO.add rfl rfl (by unfold in64; omega) rfl ?_
                            rw [hbn, ← hsn]
                            exact WO.nil ⟨rfl, rfl⟩
                          refine DT.c [_, _, _, _, _] rfl rfl rfl rfl ?_
                          refine' WO.buildSl (cs := _) rfl rfl rfl rfl ?hf rfl rfl ?hl rfl (fun v2 => ?_)
                          case hf => (conv => lhs; simp [-List.getD_eq_getElem?_getD, fillL, vcl, wrl, TTab.pl?.lget']) <;> rfl
                          case hl => rfl
                          refine WO.nil ⟨_, [_], rfl, rfl, (Keep.r (Keep.b (Keep.r (Keep.r (Keep.r (Keep.b (Keep.r (Keep.r Keep.nil)))))))), ?_⟩
                          refine DT.c [_, _, _, _, _, _] rfl rfl rfl rfl ?_
                          refine' WO.appendClip (enc := encI) (n := o.length) (m := 1) (xs := o) (ys := [(k : Int)]) encI_ok rfl rfl rfl rfl rfl hu0 rfl (fun a1 e1 => by subst e1; refine ow_base (e := 3) (n := o.length) (c := uc) ?_; exact (by repeat (first | exact Sub.nil | refine Sub.cons (by repeat (first | exact Pick.head | apply Pick.tail)) ?_))) (isSl_lit (by omega) (fun _ => ⟨_, _, rfl⟩)) (by omega) (OwC.cells .head) rfl (by omega) (by omega) rfl (fun v1 => ?_)
                          refine WO.nil ⟨_, [_, _], rfl, rfl, (Keep.c (Keep.r (Keep.b (Keep.r (Keep.r (Keep.r (Keep.b (Keep.r (Keep.r Keep.nil))))))))), ?_⟩
                          refine DT.nil [_, _, _, _, _, _, _] rfl ?_
                          refine WO.callH (Hp := [pt s (.cells #[.pointer (some ⟨q, 0, none⟩), bv2, .int .i64 (ov2)] 83 (0, 0)), OwE encI 3 1 bv2 bs2, pt q (.cells (plC a b v (gW b l)).toArray 75 (0, 0)), OwE encI 3 1 v1 (o ++ [(k : Int)])]) rfl Try.call46 (.cons (by repeat (first | exact Pick.head | apply Pick.tail)) (.cons (by repeat (first | exact Pick.head | apply Pick.tail)) (.cons (by repeat (first | exact Pick.head | apply Pick.tail)) (.cons (by repeat (first | exact Pick.head | apply Pick.tail)) (Sub.refl _))))) (fun L w' hi hB2 => ih (f - 1) (by omega) (o ++ [(k : Int)]) bs2 ov2 s q _ bv2 w' _ hB2 (hvo.snoc hkl he) (by rw [List.length_append, List.length_singleton]; omega) (hz2 hst2) (hR'.agree hi.keepB)) rfl ?_
                          rintro _ _ ⟨bv3, rfl, rfl⟩
                          refine WO.nil ?_
                          refine W.region ?_
                          refine WO.ar rfl rfl rfl (by (first | (unfold in64; omega) | (unfold in64; omega))) rfl (WO.p rfl rfl ?_)
                          refine WO.nil ?_
                          refine' ⟨k + 1, _, _, _, ?hp, ?hmu, ⟨rfl, rfl, rfl, rfl, rfl, rfl, rfl, trivial⟩, ?hS⟩
                          case hS => repeat (first | exact Sub.nil | refine Sub.cons (by repeat (first | exact Pick.head | apply Pick.tail)) ?_)
                          case hp => exact ⟨by omega, by first | (rw [ordT_yes he, List.foldl_append, ← hst2]; done) | (rw [ordT_no (fun h => h.1 (by assumption))]; exact hst2) | (rw [ordT_no (fun h => absurd h.2 (by assumption))]; exact hst2)⟩
                          case hmu => omega)
                     first
                     | (exfalso; omega)
                     | (refine W.skip ?_
                        refine W.region ?_
                        refine WO.ar rfl rfl rfl (by (first | (unfold in64; omega) | (unfold in64; omega))) rfl (WO.p rfl rfl ?_)
                        refine WO.nil ?_
                        refine' ⟨k + 1, _, _, _, ?hp, ?hmu, ⟨rfl, rfl, rfl, rfl, rfl, rfl, rfl, trivial⟩, ?hS⟩
                        case hS => repeat (first | exact Sub.nil | refine Sub.cons (by repeat (first | exact Pick.head | apply Pick.tail)) ?_)
                        case hp => exact ⟨by omega, by first | (rw [ordT_yes he, List.foldl_append, ← hst2]; done) | (rw [ordT_no (fun h => h.1 (by assumption))]; exact hst2) | (rw [ordT_no (fun h => absurd h.2 (by assumption))]; exact hst2)⟩
                        case hmu => omega)))
             first
             | (exfalso; omega)
             | (refine W.exit (blk_same ?_)
                refine fin.normal (Res.none rfl) ⟨bv2, rfl, fun h hs => ?_⟩
                rw [ords_eq hvo hf, show l.length = k by omega, ← hst2]
                exact Sub.sat (by repeat (first | exact Sub.nil | refine Sub.cons (by repeat (first | exact Pick.head | apply Pick.tail)) ?_)) hs))
        first
        | (exfalso; omega)
        | (refine W.skip ?_
           refine W.chgE (X := Value × List Int × Int) (p := fun x => (x.2.1, x.2.2) = upd b l (best, ov) o) (H' := fun x => [pt s (.cells #[.pointer (some ⟨q, 0, none⟩), x.1, .int .i64 (x.2.2)] 83 (0, 0)), OwE encI 3 1 x.1 x.2.1, pt q (.cells (plC a b v (gW b l)).toArray 75 (0, 0)), OwE encI 3 1 (.slice ua o.length uc) o]) (fun h hs => ?_) ?_
           · first | exact ⟨(.slice (some ⟨lb, 0, none⟩) o.length o.length, o, ovF b l o), (upd_yes (by simp only; omega)).symm, Sub.sat (by repeat (first | exact Sub.nil | refine Sub.cons (by repeat (first | exact Pick.head | apply Pick.tail)) ?_)) hs⟩ | exact ⟨(bv, best, ov), (upd_no (by simp only; omega)).symm, Sub.sat (by repeat (first | exact Sub.nil | refine Sub.cons (by repeat (first | exact Pick.head | apply Pick.tail)) ?_)) hs⟩
           rintro ⟨bv1, bs1, ov1⟩ hup
           simp only at hup ⊢
           first | rw [← h6 (by omega)] | skip
           refine W.sreg ?_
           refine WO.p rfl rfl (WO.p rfl rfl (WO.field0 rfl rfl rfl (WO.load rfl rfl (Cell.own Pick.head rfl) rfl (WO.p rfl rfl (WO.field0 rfl rfl rfl (WO.fieldL rfl rfl rfl (WO.load rfl rfl (Cell.own (Pick.tail (Pick.tail (Pick.head))) rfl) rfl ?_)))))))
           refine' WO.len (n := _) rfl rfl ?hs rfl ?_
           case hs => (first | exact hR'.sl)
           refine WO.p rfl rfl ?_
           refine WO.nil ?_
           refine W.block ?_
           refine W.loop4 (fun (k : Nat) (bv2 : Value) (bs2 : List Int) (ov2 : Int) => k ≤ l.length ∧ (bs2, ov2) = (ordT b l f o k).foldl (upd b l) (best, ov))
             (fun (k : Nat) (bv2 : Value) (bs2 : List Int) (ov2 : Int) => [(0, .pointer (some ⟨s, 0, none⟩)), (1, .slice ua o.length uc), (2, .int .i64 (ovF b l o)), (6, .int .i64 (stK b l o o.length).1), (69, v), (70, .int .i64 (l.length : Int)), (71, .int .i64 (k : Int))])
             (fun (k : Nat) (bv2 : Value) (bs2 : List Int) (ov2 : Int) => [pt s (.cells #[.pointer (some ⟨q, 0, none⟩), bv2, .int .i64 ov2] 83 (0, 0)), OwE encI 3 1 bv2 bs2, pt q (.cells (plC a b v (gW b l)).toArray 75 (0, 0)), OwE encI 3 1 (.slice ua o.length uc) o])
             (fun (k : Nat) (bv2 : Value) (bs2 : List Int) (ov2 : Int) => l.length - k) 0 bv1 bs1 ov1
             (by exact ⟨by omega, by rw [ordT_0]; exact hup⟩) ⟨rfl, rfl, rfl, rfl, rfl, rfl, rfl, trivial⟩ (by repeat (first | exact Sub.nil | refine Sub.cons (by repeat (first | exact Pick.head | apply Pick.tail)) ?_)) ?_
           rintro k bv2 bs2 ov2 ⟨hk, hst2⟩
           refine W.sreg ?_
           refine WO.p rfl rfl ?_
           refine WO.nil ?_
           refine W.seq ?_
           refine W.cond_bl rfl (fun c4 => ?_) (fun c4 => ?_)
           · first
             | (exfalso; omega)
             | (refine W.skip ?_
                refine W.seq ?_
                refine W.block ?_
                have hkl : k < l.length := by omega
                have hrk := hd.at_ hkl
                unfold OkR at hrk
                refine W.sreg ?_
                refine WO.p rfl rfl ?_
                refine' WO.indexAddr (n := _) (i := _) rfl rfl rfl ?hs ?h1 rfl ?_
                case hs => (first | exact hR'.sl)
                case h1 => (first | omega | (simp; omega))
                refine' WO.loadA (vs := _) rfl rfl ?hc ?hl rfl ?_
                case hc => (first | exact RdF.cellsR hR' (i := k) hkl)
                case hl => rfl
                refine WO.alloc rfl rfl rfl (fun b1 hb1 => ?_)
                refine WO.p rfl rfl (WO.storeA rfl rfl rfl rfl Pick.head rfl rfl ?_)
                refine WO.nil ?_
                refine W.seq ?_
                refine W.sreg ?_
                refine WO.p rfl rfl (WO.p rfl rfl ?_)
                refine WO.callR rfl Try.call62 (fun L w hi => c_Contains w _ o _ (RdF.of_ow (e := 3) encI_ok (by repeat (first | exact Pick.head | apply Pick.tail)) hi)) rfl ?_
                refine WO.nil ?_
                refine W.cond_bl rfl (fun c5 => ?_) (fun c5 => ?_)
                · first
                  | (exfalso; omega)
                  | (refine W.exit (blk_same ?_)
                     refine W.region ?_
                     refine WO.ar rfl rfl rfl (by (first | (unfold in64; omega) | (unfold in64; omega))) rfl (WO.p rfl rfl ?_)
                     refine WO.nil ?_
                     refine' ⟨k + 1, _, _, _, ?hp, ?hmu, ⟨rfl, rfl, rfl, rfl, rfl, rfl, rfl, trivial⟩, ?hS⟩
                     case hS => repeat (first | exact Sub.nil | refine Sub.cons (by repeat (first | exact Pick.head | apply Pick.tail)) ?_)
                     case hp => exact ⟨by omega, by first | (rw [ordT_yes he, List.foldl_append, ← hst2]; done) | (rw [ordT_no (fun h => h.1 (by assumption))]; exact hst2) | (rw [ordT_no (fun h => absurd h.2 (by assumption))]; exact hst2)⟩
                     case hmu => omega)
                first
                | (exfalso; omega)
                | (refine W.skip ?_
                   refine W.sreg ?_
                   refine WO.p rfl rfl (WO.p rfl rfl (WO.field0 rfl rfl rfl (WO.load rfl rfl (Cell.own (Pick.tail (Pick.head)) rfl) rfl (WO.p rfl rfl (WO.p rfl rfl (WO.p rfl rfl ?_))))))
                   refine WO.callR (r := bgV b l (stK b l o o.length).1 (ovF b l o) k) rfl Try.call38 (fun L w hi => c_begin w ⟨q, 0, none⟩ a b v l _ _ k (PlR.own (by repeat (first | exact Pick.head | apply Pick.tail)) hR' hi) hd h8 hst (by omega) hkl) rfl ?_
                   refine WO.p rfl rfl (WO.p rfl rfl (WO.p rfl rfl (WO.p rfl rfl (WO.p rfl rfl ?_))))
                   refine WO.nil ?_
                   refine W.sreg ?_
                   refine WO.p rfl rfl (WO.p rfl rfl ?_)
                   refine WO.nil ?_
                   refine W.cond_bl rfl (fun c6 => ?_) (fun c6 => ?_)
                   · first
                     | (exfalso; omega)
                     | (have he : extP b l o k := ⟨by assumption, by assumption⟩
                        have hbe : bgE b l (stK b l o o.length).1 (ovF b l o) k = 0 := he.2
                        have hun := bgE_un hbe
                        have hfr := bgA_fr b l (stK b l o o.length).1 (ovF b l o) k
                        have hbn : bgN b l (stK b l o o.length).1 (ovF b l o) k = bgA b l (stK b l o o.length).1 (ovF b l o) k := if_pos hbe
                        have hsn := ovF_snoc (b := b) (l := l) o k
                        have hrm := ext_room hvo hkl he
                        refine W.drawD 10 [.r 0 [], .r 1 [], .b 2 [], .r 3 [], .r 6 [], .r 7 [], .b 8 [], .r 9 [], .c 4 [], .c 5 []] [] (A0 := []) (Sub.refl _) (by kernel_rfl) ?_ ?_
                        · exact (ALok.r (ALok.r (ALok.b (ALok.r (ALok.r (ALok.r (ALok.b (ALok.r (ALok.c (ALok.c ALok.nil))))))))))
                        refine' DT.r rfl rfl rfl ?hq ?_
                        case hq =>
                          refine WO.p rfl rfl ?_
                          exact WO.nil ⟨rfl, rfl⟩
                        refine' DT.r rfl rfl rfl ?hq ?_
                        case hq =>
                          refine WO.p rfl rfl ?_
                          exact WO.nil ⟨rfl, rfl⟩
                        refine' DT.b rfl rfl rfl ?hq ?_
                        case hq =>
                          refine WO.callR (r := .slice ua o.length o.length) rfl Try.call63 (fun L w hi => by rw [← clipV_eq]; exact c_Clip w ua o.length uc huc (by omega) (fun h => by obtain ⟨_, a1, c1, e1, h1⟩ := hus; have e2 : a1 = ua := (by injection e1 with e2; exact e2.symm); rw [← e2]; exact h1 h)) rfl ?_
                          exact WO.nil ⟨rfl, rfl⟩
                        refine' DT.r rfl rfl rfl ?hq ?_
                        case hq =>
                          refine WO.p rfl rfl ?_
                          exact WO.nil ⟨rfl, rfl⟩
                        refine' DT.r rfl rfl rfl ?hq ?_
                        case hq =>
                          refine WO.p rfl rfl ?_
                          exact WO.nil ⟨rfl, rfl⟩
                        refine' DT.r rfl rfl rfl ?hq ?_
                        case hq =>
                          refine WO.field0 rfl rfl rfl ?_
                          exact WO.nil ⟨rfl, rfl⟩
                        refine' DT.b rfl rfl rfl ?hq ?_
                        case hq =>
                          refine WO.load rfl rfl (Cell.own Pick.head rfl) rfl ?_
                          exact WO.nil ⟨rfl, rfl⟩
                        refine' DT.r rfl rfl rfl ?hq ?_
                        case hq =>
                          refine WO.add rfl rfl (by unfold in64; omega) rfl ?_
                          rw [hbn, ← hsn]
                          exact WO.nil ⟨rfl, rfl⟩
                        refine DT.c [_, _, _, _, _] rfl rfl rfl rfl ?_
                        refine' WO.buildSl (cs := _) rfl rfl rfl rfl ?hf rfl rfl ?hl rfl (fun v2 => ?_)
                        case hf => (conv => lhs; simp [-List.getD_eq_getElem?_getD, fillL, vcl, wrl, TTab.pl?.lget']) <;> rfl
                        case hl => rfl
                        refine WO.nil ⟨_, [_], rfl, rfl, (Keep.r (Keep.b (Keep.r (Keep.r (Keep.r (Keep.b (Keep.r (Keep.r Keep.nil)))))))), ?_⟩
                        refine DT.c [_, _, _, _, _, _] rfl rfl rfl rfl ?_
                        refine' WO.appendClip (enc := encI) (n := o.length) (m := 1) (xs := o) (ys := [(k : Int)]) encI_ok rfl rfl rfl rfl rfl hu0 rfl (fun a1 e1 => by subst e1; refine ow_base (e := 3) (n := o.length) (c := uc) ?_; exact (by repeat (first | exact Sub.nil | refine Sub.cons (by repeat (first | exact Pick.head | apply Pick.tail)) ?_))) (isSl_lit (by omega) (fun _ => ⟨_, _, rfl⟩)) (by omega) (OwC.cells .head) rfl (by omega) (by omega) rfl (fun v1 => ?_)
                        refine WO.nil ⟨_, [_, _], rfl, rfl, (Keep.c (Keep.r (Keep.b (Keep.r (Keep.r (Keep.r (Keep.b (Keep.r (Keep.r Keep.nil))))))))), ?_⟩
                        refine DT.nil [_, _, _, _, _, _, _] rfl ?_
                        refine WO.callH (Hp := [pt s (.cells #[.pointer (some ⟨q, 0, none⟩), bv2, .int .i64 (ov2)] 83 (0, 0)), OwE encI 3 1 bv2 bs2, pt q (.cells (plC a b v (gW b l)).toArray 75 (0, 0)), OwE encI 3 1 v1 (o ++ [(k : Int)])]) rfl Try.call46 (.cons (by repeat (first | exact Pick.head | apply Pick.tail)) (.cons (by repeat (first | exact Pick.head | apply Pick.tail)) (.cons (by repeat (first | exact Pick.head | apply Pick.tail)) (.cons (by repeat (first | exact Pick.head | apply Pick.tail)) (Sub.refl _))))) (fun L w' hi hB2 => ih (f - 1) (by omega) (o ++ [(k : Int)]) bs2 ov2 s q _ bv2 w' _ hB2 (hvo.snoc hkl he) (by rw [List.length_append, List.length_singleton]; omega) (hz2 hst2) (hR'.agree hi.keepB)) rfl ?_
                        rintro _ _ ⟨bv3, rfl, rfl⟩
                        refine WO.nil ?_
                        refine W.region ?_
                        refine WO.ar rfl rfl rfl (by (first | (unfold in64; omega) | (unfold in64; omega))) rfl (WO.p rfl rfl ?_)
                        refine WO.nil ?_
                        refine' ⟨k + 1, _, _, _, ?hp, ?hmu, ⟨rfl, rfl, rfl, rfl, rfl, rfl, rfl, trivial⟩, ?hS⟩
                        case hS => repeat (first | exact Sub.nil | refine Sub.cons (by repeat (first | exact Pick.head | apply Pick.tail)) ?_)
                        case hp => exact ⟨by omega, by first | (rw [ordT_yes he, List.foldl_append, ← hst2]; done) | (rw [ordT_no (fun h => h.1 (by assumption))]; exact hst2) | (rw [ordT_no (fun h => absurd h.2 (by assumption))]; exact hst2)⟩
                        case hmu => omega)
                   first
                   | (exfalso; omega)
                   | (refine W.skip ?_
                      refine W.region ?_
                      refine WO.ar rfl rfl rfl (by (first | (unfold in64; omega) | (unfold in64; omega))) rfl (WO.p rfl rfl ?_)
                      refine WO.nil ?_
                      refine' ⟨k + 1, _, _, _, ?hp, ?hmu, ⟨rfl, rfl, rfl, rfl, rfl, rfl, rfl, trivial⟩, ?hS⟩
                      case hS => repeat (first | exact Sub.nil | refine Sub.cons (by repeat (first | exact Pick.head | apply Pick.tail)) ?_)
                      case hp => exact ⟨by omega, by first | (rw [ordT_yes he, List.foldl_append, ← hst2]; done) | (rw [ordT_no (fun h => h.1 (by assumption))]; exact hst2) | (rw [ordT_no (fun h => absurd h.2 (by assumption))]; exact hst2)⟩
                      case hmu => omega)))
           first
           | (exfalso; omega)
           | (refine W.exit (blk_same ?_)
              refine fin.normal (Res.none rfl) ⟨bv2, rfl, fun h hs => ?_⟩
              rw [ords_eq hvo hf, show l.length = k by omega, ← hst2]
              exact Sub.sat (by repeat (first | exact Sub.nil | refine Sub.cons (by repeat (first | exact Pick.head | apply Pick.tail)) ?_)) hs))))
/-- what Best answers -/
def bsS (b : Int) (l : List Rn) : List Int × Int := (ords b l l.length []).foldl (upd b l) ([], 0)
def bsL (a b : Int) (l : List Rn) : List Int := if chkD a b l ≠ 0 then [] else (bsS b l).1
theorem c_Best (w : World) (v : Value) (a b : Int) (l : List Rn) (hR : RdF encR 6 w.heap.size w v l) : Ct Try.prog 19 [dayV a b v].toArray w fun r w' => ∃ Hq, (∃ x : Value, r = .tuple #[x, .int .i64 (chkD a b l)] ∧ Hq = [OwE encI 3 1 x (bsL a b l)]) ∧ Inv w [] Hq w' := by
  refine Ct.ofI (X := Value) (p := fun x r => r = .tuple #[x, .int .i64 (chkD a b l)]) (Hx := fun x => [OwE encI 3 1 x (bsL a b l)]) mixed tyTab Try.func19 rfl rfl ?_
  replace hR : RdF encR 6 (fnCx mixed tyTab Try.f19.ntmps w).B (fnCx mixed tyTab Try.f19.ntmps w).w0 v l := hR
  have ho := hR.sl.oc
  refine W.sreg ?_
  refine WO.boxA rfl rfl (fun b1 hb1 => ?_)
  refine WO.p rfl rfl (WO.p rfl rfl ?_)
  refine WO.nil ?_
  refine W.sreg ?_
  refine WO.loadA rfl rfl (Cells.own Pick.head) rfl rfl ?_
  refine WO.call rfl Try.call45 (fun L w hi => c_newPlanner w v a b l (hR.later hi)) rfl ?_
  rintro _ _ ⟨pv, rfl, rfl⟩
  refine WO.p rfl rfl (WO.p rfl rfl (WO.p rfl rfl (WO.p rfl rfl (WO.p rfl rfl ?_))))
  refine WO.nil ?_
  refine W.seq ?_
  refine W.sreg ?_
  refine WO.p rfl rfl (WO.p rfl rfl ?_)
  refine WO.nil ?_
  refine W.cond_bl rfl (fun c1 => ?_) (fun c1 => ?_)
  · first
    | (exfalso; omega)
    | (refine W.sreg ?_
       refine WO.p rfl rfl (WO.p rfl rfl (WO.p rfl rfl ?_))
       refine WO.nil ?_
       refine W.ret ?_
       first | (have e1 : bsL a b l = [] := if_pos (by assumption); rw [e1]; exact fin.ret (Res.two rfl (RV.tmp rfl) (RV.tmp rfl)) ⟨_, rfl, fun h hs => Sub.sat (.cons .head .nil) (owNil (enc := encI) (e := 3) (sz := 1) h hs)⟩) | (have e0 : chkD a b l = 0 := (by omega); have e1 : bsL a b l = (bsS b l).1 := if_neg (by omega); rw [e1, e0]; exact fin.ret (Res.two rfl (RV.tmp rfl) (RV.tmp rfl)) ⟨_, rfl, fun h hs => Sub.sat (by repeat (first | exact Sub.nil | refine Sub.cons (by repeat (first | exact Pick.head | apply Pick.tail)) ?_)) hs⟩))
  first
  | (exfalso; omega)
  | (refine W.skip ?_
     have hcd := chkD0.1 (show chkD a b l = 0 by omega)
     refine W.chgE (PtrP.open (by repeat (first | exact Pick.head | apply Pick.tail)) (show chkD a b l = 0 by omega)) ?_
     rintro q rfl
     refine W.sreg ?_
     refine WO.p rfl rfl ?_
     refine' WO.build (cs := _) rfl rfl rfl ?hf rfl ?_
     case hf => (conv => lhs; simp [-List.getD_eq_getElem?_getD, fillL, vcl, wrl, TTab.pl?.lget']) <;> rfl
     refine WO.boxA rfl rfl (fun b2 hb2 => ?_)
     refine WO.p rfl rfl ?_
     refine WO.nil ?_
     refine W.chg (owNil (enc := encI) (e := 3) (sz := 1)) (W.chg (owNil (enc := encI) (e := 3) (sz := 1)) ?_)
     refine W.sreg ?_
     refine WO.p rfl rfl ?_
     refine WO.callH (Hp := [pt b2 (.cells #[.pointer (some ⟨q, 0, none⟩), .slice none 0 0, .int .i64 (0)] 83 (0, 0)), OwE encI 3 1 (.slice none 0 0) ([] : List Int), pt q (.cells (plC a b v (gW b l)).toArray 75 (0, 0)), OwE encI 3 1 (.slice none 0 0) ([] : List Int)]) rfl Try.call46 (.cons (by repeat (first | exact Pick.head | apply Pick.tail)) (.cons (by repeat (first | exact Pick.head | apply Pick.tail)) (.cons (by repeat (first | exact Pick.head | apply Pick.tail)) (.cons (by repeat (first | exact Pick.head | apply Pick.tail)) (Sub.refl _))))) (fun L w' hi hB2 => c_try hcd.2 (by omega) l.length [] [] 0 b2 q _ _ w' _ hB2 VO.nil (by simp) (fun _ => rfl) (hR.agree hi.keepB)) rfl ?_
     rintro _ _ ⟨bv3, rfl, rfl⟩
     refine WO.nil ?_
     refine W.sreg ?_
     refine WO.p rfl rfl (WO.p rfl rfl (WO.fieldL rfl rfl rfl (WO.load rfl rfl (Cell.own Pick.head rfl) rfl (WO.p rfl rfl (WO.p rfl rfl ?_)))))
     refine WO.nil ?_
     refine W.ret ?_
     first | (have e1 : bsL a b l = [] := if_pos (by assumption); rw [e1]; exact fin.ret (Res.two rfl (RV.tmp rfl) (RV.tmp rfl)) ⟨_, rfl, fun h hs => Sub.sat (.cons .head .nil) (owNil (enc := encI) (e := 3) (sz := 1) h hs)⟩) | (have e0 : chkD a b l = 0 := (by omega); have e1 : bsL a b l = (bsS b l).1 := if_neg (by omega); rw [e1, e0]; exact fin.ret (Res.two rfl (RV.tmp rfl) (RV.tmp rfl)) ⟨_, rfl, fun h hs => Sub.sat (by repeat (first | exact Sub.nil | refine Sub.cons (by repeat (first | exact Pick.head | apply Pick.tail)) ?_)) hs⟩))
end Go.Proofs.Ytkonhpcldomidaa
namespace Go.Proofs.Ytkonhpcldomidaa
open Go Go.TH
attribute [local irreducible] W WO pt
set_option maxRecDepth 10000
set_option maxHeartbeats 1000000
theorem ref_over (w : World) (v u : Value) (a b : Int) (l : List Rn) (o : List Int) (hR : RdF encR 6 w.heap.size w v l) (hX : RdF encI 1 w.heap.size w u o) (hd : OkD a b l) (h8 : l.length ≤ 8) (hvo : VO b l o) : Ret Try.prog 48 [dayV a b v, u].toArray w (.int .i64 (ovF b l o)) := by
  refine Ret.of mixed tyTab Try.func48 rfl rfl ?_
  replace hR : RdF encR 6 (fnCx mixed tyTab Try.f48.ntmps w).B (fnCx mixed tyTab Try.f48.ntmps w).w0 v l := hR
  replace hX : RdF encI 1 (fnCx mixed tyTab Try.f48.ntmps w).B (fnCx mixed tyTab Try.f48.ntmps w).w0 u o := hX
  have ho := hR.sl.oc
  have hol := hvo.len
  refine W.sreg ?_
  refine WO.boxA rfl rfl (fun b1 hb1 => ?_)
  refine WO.p rfl rfl ?_
  refine WO.nil ?_
  refine W.seq ?_
  refine W.sreg ?_
  refine WO.p rfl rfl ?_
  refine' WO.len (n := _) rfl rfl ?hs rfl ?_
  case hs => (first | exact hX.sl)
  refine WO.p rfl rfl ?_
  refine WO.nil ?_
  refine W.cond_bl rfl (fun c1 => ?_) (fun c1 => ?_)
  · first
    | (exfalso; omega)
    | (refine W.sreg ?_
       refine WO.p rfl rfl ?_
       refine WO.nil ?_
       refine W.ret ?_
       refine fin.ret (Res.one rfl (RV.tmp rfl)) (congrArg (Value.int .i64) ?_)
       first | exact hof.symm | (rw [List.eq_nil_of_length_eq_zero (show o.length = 0 by omega)]; rfl))
  first
  | (exfalso; omega)
  | (refine W.skip ?_
     refine W.sreg ?_
     refine WO.loadA rfl rfl (Cells.own Pick.head) rfl rfl (WO.p rfl rfl ?_)
     refine WO.call rfl Try.call39 (fun L w hi => ref_times w v u a b l o (hR.later hi) (hX.later hi) hd hvo.1 (by omega)) rfl ?_
     rintro _ _ ⟨r1, rfl, rfl⟩
     rw [tmL_0 hvo.2.2]
     refine WO.fact (OwE.sl (enc := encI) (e := 2) (sz := 1) (xs := tmA b l o o.length) (v := r1) Pick.head) (fun hrs => ?_)
     rw [tmA_len] at hrs
     refine WO.p rfl rfl (WO.p rfl rfl (WO.p rfl rfl (WO.p rfl rfl (WO.p rfl rfl ?_))))
     refine WO.nil ?_
     refine W.seq ?_
     obtain ⟨k, hk⟩ : ∃ k, o.length = k + 1 := ⟨o.length - 1, by omega⟩
     obtain ⟨x, hx, hxl⟩ := in_nat (hvo.1 _ (getD_mem (show k < o.length by omega) 0))
     have hrx := hd.at_ hxl
     unfold OkR at hrx
     have hab := atK_bd hd hvo.1 (show k < o.length by omega) (tmE_0.1 hvo.2.2 k (by omega))
     have hof : ovF b l o = atK b l o k + (l.getD x rn0).mi := by unfold ovF; rw [hk]; show bgA b l (stK b l o k).1 (stK b l o k).2 (o.getD k 0).toNat + (l.getD (o.getD k 0).toNat rn0).mi = _; unfold atK; rw [hx, Int.toNat_natCast]
     refine W.drawD 17 [.r 0 [], .r 1 [], .r 2 [], .r 3 [], .r 4 [], .b 5 [], .r 6 [], .b 7 [], .r 8 [], .r 9 [], .r 10 [], .r 11 [], .r 12 [], .b 13 [], .r 14 [], .r 15 [], .b 16 []] [] (A0 := []) (Sub.refl _) (by kernel_rfl) ?_ ?_
     · exact (ALok.r (ALok.r (ALok.r (ALok.r (ALok.r (ALok.b (ALok.r (ALok.b (ALok.r (ALok.r (ALok.r (ALok.r (ALok.r (ALok.b (ALok.r (ALok.r (ALok.b ALok.nil)))))))))))))))))
     refine' DT.r rfl rfl rfl ?hq ?_
     case hq =>
       refine WO.p rfl rfl ?_
       exact WO.nil ⟨rfl, rfl⟩
     refine' DT.r rfl rfl rfl ?hq ?_
     case hq =>
       refine WO.p rfl rfl ?_
       exact WO.nil ⟨rfl, rfl⟩
     refine' DT.r rfl rfl rfl ?hq ?_
     case hq =>
       refine' WO.len (n := _) rfl rfl ?hs rfl ?_
       case hs => (first | exact hrs)
       exact WO.nil ⟨rfl, rfl⟩
     refine' DT.r rfl rfl rfl ?hq ?_
     case hq =>
       refine WO.sub rfl rfl (by unfold in64; omega) rfl ?_
       rw [show (o.length : Int) - 1 = (k : Int) by omega]
       exact WO.nil ⟨rfl, rfl⟩
     refine' DT.r rfl rfl rfl ?hq ?_
     case hq =>
       refine' WO.indexAddr (n := _) (i := _) rfl rfl rfl ?hs ?h1 rfl ?_
       case hs => (first | exact hrs)
       case h1 => (first | omega | (simp; omega))
       exact WO.nil ⟨rfl, rfl⟩
     refine' DT.b rfl rfl rfl ?hq ?_
     case hq =>
       refine' WO.load (v := _) rfl rfl ?hc rfl ?_
       case hc => (first | (refine owE_cellS (e := 2) (xs := tmA b l o o.length) (x := atK b l o k) (i := k) ?_ (by rw [tmA_len]; omega) (tmA_get (by omega)).symm rfl; exact (by repeat (first | exact Sub.nil | refine Sub.cons (by repeat (first | exact Pick.head | apply Pick.tail)) ?_))))
       exact WO.nil ⟨rfl, rfl⟩
     refine' DT.r rfl rfl rfl ?hq ?_
     case hq =>
       refine WO.fieldL rfl rfl rfl ?_
       exact WO.nil ⟨rfl, rfl⟩
     refine' DT.b rfl rfl rfl ?hq ?_
     case hq =>
       refine WO.load rfl rfl (Cell.own (Pick.tail (Pick.head)) rfl) rfl ?_
       exact WO.nil ⟨rfl, rfl⟩
     refine' DT.r rfl rfl rfl ?hq ?_
     case hq =>
       refine WO.p rfl rfl ?_
       exact WO.nil ⟨rfl, rfl⟩
     refine' DT.r rfl rfl rfl ?hq ?_
     case hq =>
       refine WO.p rfl rfl ?_
       exact WO.nil ⟨rfl, rfl⟩
     refine' DT.r rfl rfl rfl ?hq ?_
     case hq =>
       refine' WO.len (n := _) rfl rfl ?hs rfl ?_
       case hs => (first | exact hX.sl)
       exact WO.nil ⟨rfl, rfl⟩
     refine' DT.r rfl rfl rfl ?hq ?_
     case hq =>
       refine WO.sub rfl rfl (by unfold in64; omega) rfl ?_
       rw [show (o.length : Int) - 1 = (k : Int) by omega]
       exact WO.nil ⟨rfl, rfl⟩
     refine' DT.r rfl rfl rfl ?hq ?_
     case hq =>
       refine' WO.indexAddr (n := _) (i := _) rfl rfl rfl ?hs ?h1 rfl ?_
       case hs => (first | exact hX.sl)
       case h1 => (first | omega | (simp; omega))
       exact WO.nil ⟨rfl, rfl⟩
     refine' DT.b rfl rfl rfl ?hq ?_
     case hq =>
       refine' WO.load (v := _) rfl rfl ?hc rfl ?_
       case hc => (first | (refine hX.cell0 (i := k) (by omega) 0 ?_; rw [hx]; rfl))
       exact WO.nil ⟨rfl, rfl⟩
     refine' DT.r rfl rfl rfl ?hq ?_
     case hq =>
       refine' WO.indexAddr (n := _) (i := _) rfl rfl rfl ?hs ?h1 rfl ?_
       case hs => (first | exact hR.sl)
       case h1 => (first | omega | (simp; omega))
       exact WO.nil ⟨rfl, rfl⟩
     refine' DT.r rfl rfl rfl ?hq ?_
     case hq =>
       refine WO.field0 rfl rfl rfl ?_
       exact WO.nil ⟨rfl, rfl⟩
     refine' DT.b rfl rfl rfl ?hq ?_
     case hq =>
       refine' WO.load (v := _) rfl rfl ?hc rfl ?_
       case hc => (first | (refine hR.cell0 (i := x) (by omega) rn0 ?_; rfl))
       exact WO.nil ⟨rfl, rfl⟩
     refine DT.nil [_, _] rfl ?_
     refine WO.ar rfl rfl rfl (by (first | (unfold in64; omega) | (unfold in64; omega))) rfl (WO.p rfl rfl ?_)
     refine WO.nil ?_
     refine W.ret ?_
     refine fin.ret (Res.one rfl (RV.tmp rfl)) (congrArg (Value.int .i64) ?_)
     first | exact hof.symm | (rw [List.eq_nil_of_length_eq_zero (show o.length = 0 by omega)]; rfl))
theorem noE_next {a b : Int} {l : List Rn} {o : List Int} {k : Nat} (hc : chkD a b l = 0) (h : VO b l o) (hk : k < l.length) : noE a b l (o ++ [(k : Int)]) = 0 ↔ (k : Int) ∉ o := by
  have h1 := chkD0.1 hc
  have hin : ∀ x ∈ o ++ [(k : Int)], In l x := fun x hx => by
    rcases List.mem_append.1 hx with g | g
    · exact h.1 x g
    rw [List.mem_singleton.1 g]; unfold In; omega
  rw [noE0]
  constructor
  · rintro ⟨_, _, _, hn⟩ hm
    rw [List.nodup_append] at hn
    exact hn.2.2 _ hm _ (List.mem_singleton.2 rfl) rfl
  intro hm
  have hn : (o ++ [(k : Int)]).Nodup := by
    rw [List.nodup_append]
    refine ⟨h.2.1, List.pairwise_singleton _ _, fun x hx y hy e => ?_⟩
    rw [List.mem_singleton.1 hy] at e
    subst e; exact hm hx
  exact ⟨⟨hc, h1⟩, in_le hin hn, hin, hn⟩
theorem ext_iff {a b : Int} {l : List Rn} {o : List Int} {k : Nat} (hc : chkD a b l = 0) (h : VO b l o) (hk : k < l.length) : extP b l o k ↔ noE a b l (o ++ [(k : Int)]) = 0 ∧ tmE b l (o ++ [(k : Int)]) = 0 := by
  rw [noE_next hc h hk, tmE_snoc]
  unfold extP
  exact ⟨fun g => ⟨g.1, h.2.2, g.2⟩, fun g => ⟨g.1, g.2.2⟩⟩
/-- all but the first one -/
def ordR (b : Int) (l : List Rn) (f : Nat) (o : List Int) (k : Nat) : List (List Int) := (List.range k).flatMap fun i => if extP b l o i then ords b l (f - 1) (o ++ [(i : Int)]) else []
theorem ordT_R (b : Int) (l : List Rn) (f : Nat) (o : List Int) (k : Nat) : ordT b l f o k = o :: ordR b l f o k := rfl
theorem ordR_yes {b : Int} {l : List Rn} {f : Nat} {o : List Int} {k : Nat} (he : extP b l o k) : ordR b l f o (k + 1) = ordR b l f o k ++ ords b l (f - 1) (o ++ [(k : Int)]) := by
  unfold ordR; rw [List.range_succ, List.flatMap_append]; simp [he]
theorem ordR_no {b : Int} {l : List Rn} {f : Nat} {o : List Int} {k : Nat} (he : ¬ extP b l o k) : ordR b l f o (k + 1) = ordR b l f o k := by
  unfold ordR; rw [List.range_succ, List.flatMap_append]; simp [he]
def OrdP (b : Int) (l : List Rn) (f : Nat) (o : List Int) (x : Value × List Value) : List HP := [OwC 27 1 x.1 (ords b l f o).length x.2, RowsE encI 3 1 x.2 (ords b l f o)]
def OrdC (a b : Int) (v : Value) (l : List Rn) (f : Nat) : Prop := ∀ (o : List Int) (u : Value) (w : World) (B : Nat), B ≤ w.heap.size → VO b l o → l.length ≤ o.length + f → f ≤ 8 → RdF encR 6 B w v l →
  CtH Try.prog 47 [dayV a b v, u] w [OwE encI 3 1 u o] B (fun r Hq => ∃ x : Value × List Value, r = x.1 ∧ Hq = OrdP b l f o x)
theorem ref_orders {a b : Int} {v : Value} {l : List Rn} (hc : chkD a b l = 0) : ∀ f, OrdC a b v l f := by
  intro f
  induction f using Nat.strongRecOn with
  | _ f ih =>
  intro o u w B hB hvo hf hf8 hR
  obtain ⟨hln, hd⟩ := chkD0.1 hc
  refine CtH.ofI (X := Value × List Value) (p := fun x r => r = x.1) (Hx := OrdP b l f o) mixed tyTab hB Try.func47 rfl rfl (fun M hM => ?_)
  have hR' : RdF encR 6 (itCx mixed tyTab Try.f47.ntmps w M B hB hM).B (itCx mixed tyTab Try.f47.ntmps w M B hB hM).w0 v l := hR
  have hol := hvo.len
  have ho := hR.sl.oc
  refine W.fact (OwE.formCap (enc := encI) (e := 3) (sz := 1) (v := u) (xs := o) .head) (fun hu => ?_)
  obtain ⟨ua, uc, rfl, huc, hu0, hus⟩ := hu
  refine W.sreg ?_
  refine WO.boxA rfl rfl (fun b1 hb1 => ?_)
  refine WO.p rfl rfl ?_
  refine WO.nil ?_
  refine W.sreg ?_
  refine WO.p rfl rfl ?_
  refine' WO.buildSl (cs := _) rfl rfl rfl rfl ?hf rfl rfl ?hl rfl (fun v2 => ?_)
  case hf => (conv => lhs; simp [-List.getD_eq_getElem?_getD, fillL, vcl, wrl, TTab.pl?.lget']) <;> rfl
  case hl => rfl
  refine WO.p rfl rfl ?_
  refine WO.nil ?_
  refine W.seq ?_
  refine W.sreg ?_
  refine WO.p rfl rfl ?_
  refine WO.nil ?_
  refine W.block ?_
  refine W.chg (rowsNil (enc := encI) (e := 3) (sz := 1)) ?_
  refine W.loop3 (fun (k : Nat) (x : Value) (rv : List Value) => k ≤ l.length)
    (fun (k : Nat) (x : Value) (rv : List Value) => [(1, .slice ua o.length uc), (2, .pointer (some ⟨b1, 0, none⟩)), (5, x), (6, .int .i64 (k : Int))])
    (fun (k : Nat) (x : Value) (rv : List Value) => [pt b1 (.cells #[.int .i64 a, .int .i64 b, v] 26 (0, 0)), OwC 27 1 x (ordT b l f o k).length (.slice ua o.length uc :: rv), RowsE encI 3 1 rv (ordR b l f o k), OwE encI 3 1 (.slice ua o.length uc) o])
    (fun (k : Nat) (x : Value) (rv : List Value) => l.length - k) 0 (.slice (some ⟨v2, 0, none⟩) 1 1) []
    (by omega) ⟨rfl, rfl, rfl, rfl, trivial⟩ (by repeat (first | exact Sub.nil | refine Sub.cons (by repeat (first | exact Pick.head | apply Pick.tail)) ?_)) ?_
  rintro k x rv hk
  refine W.seq ?_
  refine W.sreg ?_
  refine WO.p rfl rfl (WO.fieldL rfl rfl rfl (WO.load rfl rfl (Cell.own Pick.head rfl) rfl ?_))
  refine' WO.len (n := _) rfl rfl ?hs rfl ?_
  case hs => (first | exact hR'.sl)
  refine WO.p rfl rfl ?_
  refine WO.nil ?_
  refine W.cond_bl rfl (fun c1 => ?_) (fun c1 => ?_)
  · first
    | (exfalso; omega)
    | (refine W.skip ?_
       refine W.seq ?_
       refine W.block ?_
       have hkl : k < l.length := by omega
       have hei := ext_iff hc hvo hkl
       have hnn := noE_next hc hvo hkl
       have hTl := ordT_len (b := b) (l := l) hln.2 hf8 (o := o) (k := k) (by omega)
       refine W.sreg ?_
       refine WO.buildSl0 rfl rfl (fun b0 => ?_)
       refine WO.p rfl rfl ?_
       refine WO.appendEZ (enc := encI) (m := o.length) (xs := []) (ys := o) encI_ok rfl rfl rfl rfl rfl Pick.head hus rfl (OwC.cells (by repeat (first | exact Pick.head | apply Pick.tail))) (by simp only [List.length_nil]; omega) (by simp only [List.length_nil]; omega) rfl (fun v1 => ?_)
       rw [List.nil_append]
       refine WO.p rfl rfl ?_
       refine' WO.buildSl (cs := _) rfl rfl rfl rfl ?hf rfl rfl ?hl rfl (fun v3 => ?_)
       case hf => (conv => lhs; simp [-List.getD_eq_getElem?_getD, fillL, vcl, wrl, TTab.pl?.lget']) <;> rfl
       case hl => rfl
       refine' WO.appendE (enc := encI) (m := 1) (xs := o) (ys := [(k : Int)]) encI_ok rfl rfl rfl rfl rfl (by repeat (first | exact Pick.head | apply Pick.tail)) (isSl_lit (by omega) (fun _ => ⟨_, _, rfl⟩)) (by omega) rfl (OwC.cells .head) (by omega) (by omega) rfl (fun g c => ?_)
       refine WO.p rfl rfl ?_
       refine WO.nil ?_
       refine W.seq ?_
       refine W.sreg ?_
       refine WO.loadA rfl rfl (Cells.own (Pick.tail (Pick.tail (Pick.head)))) rfl rfl (WO.p rfl rfl ?_)
       refine WO.callR rfl Try.call30 (fun L w hi => ref_Ordered w v _ a b l (o ++ [(k : Int)]) (hR'.later hi) (RdF.of_ow (e := 3) encI_ok (by repeat (first | exact Pick.head | apply Pick.tail)) hi)) rfl ?_
       refine WO.p rfl rfl ?_
       refine WO.nil ?_
       refine W.cond_bl rfl (fun c2 => ?_) (fun c2 => ?_)
       · first
         | (exfalso; omega)
         | (refine W.exit (blk_same ?_)
            first | (refine W.chg (rowsApp (enc := encI) (e := 3) (sz := 1) (rv := rv) (xss := ordR b l f o k) (rv' := rv2) (xss' := ords b l (f - 1) (o ++ [(k : Int)])) (by repeat (first | exact Pick.head | apply Pick.tail)) (by repeat (first | exact Pick.head | apply Pick.tail))) ?_; rw [← ordR_yes he, show (ordT b l f o k).length + (ords b l (f - 1) (o ++ [(k : Int)])).length = (ordT b l f o (k + 1)).length by rw [ordT_yes he, List.length_append]]) | (have hne : ¬ extP b l o k := (fun h => absurd (hei.1 h).1 (by assumption)); rw [← ordT_no (f := f) hne, ← ordR_no (f := f) hne]) | (have hne : ¬ extP b l o k := (fun h => absurd (hei.1 h).2 (by assumption)); rw [← ordT_no (f := f) hne, ← ordR_no (f := f) hne])
            refine W.region ?_
            refine WO.p rfl rfl (WO.ar rfl rfl rfl (by (first | (unfold in64; omega) | (unfold in64; omega))) rfl (WO.p rfl rfl ?_))
            refine WO.nil ?_
            refine' ⟨k + 1, _, _, ?hp, ?hmu, ⟨rfl, rfl, rfl, rfl, trivial⟩, ?hS⟩
            case hS => repeat (first | exact Sub.nil | refine Sub.cons (by repeat (first | exact Pick.head | apply Pick.tail)) ?_)
            case hp => omega
            case hmu => omega)
       first
       | (exfalso; omega)
       | (refine W.skip ?_
          have hno := noE0.1 (show noE a b l (o ++ [(k : Int)]) = 0 by omega)
          refine W.sreg ?_
          refine WO.loadA rfl rfl (Cells.own (Pick.tail (Pick.tail (Pick.head)))) rfl rfl (WO.p rfl rfl ?_)
          refine WO.call rfl Try.call39 (fun L w hi => ref_times w v _ a b l (o ++ [(k : Int)]) (hR'.later hi) (RdF.of_ow (e := 3) encI_ok (by repeat (first | exact Pick.head | apply Pick.tail)) hi) hd hno.2.2.1 (by simp; omega)) rfl ?_
          rintro _ _ ⟨r1, rfl, rfl⟩
          refine WO.p rfl rfl (WO.p rfl rfl (WO.p rfl rfl (WO.p rfl rfl (WO.p rfl rfl ?_))))
          refine WO.nil ?_
          refine W.sreg ?_
          refine WO.p rfl rfl (WO.p rfl rfl ?_)
          refine WO.nil ?_
          refine W.cond_bl rfl (fun c3 => ?_) (fun c3 => ?_)
          · first
            | (exfalso; omega)
            | (have he : extP b l o k := hei.2 ⟨by omega, by assumption⟩
               have hrm := ext_room hvo hkl he
               have hLm := ords_len (b := b) (l := l) hln.2 (f := f - 1) (o := o ++ [(k : Int)])
               have hpw : 9 ^ (f - 1) ≤ 9 ^ 8 := Nat.pow_le_pow_right (by omega) (by omega)
               refine W.region ?_
               refine WO.p rfl rfl (WO.loadA rfl rfl (Cells.own (Pick.tail (Pick.tail (Pick.tail (Pick.head))))) rfl rfl (WO.p rfl rfl ?_))
               refine WO.callH1 (A := OwE encI 3 1 (.slice (some ⟨g, 0, none⟩) (o.length + 1) c) (o ++ [(k : Int)])) rfl Try.call47 (by repeat (first | exact Pick.head | apply Pick.tail)) (fun L w' hi hB2 => ih (f - 1) (by omega) (o ++ [(k : Int)]) _ w' _ hB2 (hvo.snoc hkl he) (by simp; omega) (by omega) (hR'.agree hi.keepB)) rfl ?_
               rintro r2 _ ⟨⟨x2, rv2⟩, rfl, rfl⟩
               refine WO.fact (OwC.sl (e := 27) (sz := 1) (n := (ords b l (f - 1) (o ++ [(k : Int)])).length) (v := r2) (cs := rv2) Pick.head) (fun h2s => ?_)
               refine WO.fact (RowsE.ocF (enc := encI) (e := 3) (sz := 1) (rv := rv2) (xss := ords b l (f - 1) (o ++ [(k : Int)])) (Pick.tail Pick.head)) (fun h2o => ?_)
               refine WO.appendN (m := (ords b l (f - 1) (o ++ [(k : Int)])).length) (news := rv2) rfl rfl rfl rfl rfl (p := by repeat (first | exact Pick.head | apply Pick.tail)) h2s (OwC.cells Pick.head) (by rw [h2o.1]; omega) h2o.2 (by omega) (by omega) rfl (fun x' => ?_)
               refine WO.p rfl rfl ?_
               refine WO.nil ?_
               first | (refine W.chg (rowsApp (enc := encI) (e := 3) (sz := 1) (rv := rv) (xss := ordR b l f o k) (rv' := rv2) (xss' := ords b l (f - 1) (o ++ [(k : Int)])) (by repeat (first | exact Pick.head | apply Pick.tail)) (by repeat (first | exact Pick.head | apply Pick.tail))) ?_; rw [← ordR_yes he, show (ordT b l f o k).length + (ords b l (f - 1) (o ++ [(k : Int)])).length = (ordT b l f o (k + 1)).length by rw [ordT_yes he, List.length_append]]) | (have hne : ¬ extP b l o k := (fun h => absurd (hei.1 h).1 (by assumption)); rw [← ordT_no (f := f) hne, ← ordR_no (f := f) hne]) | (have hne : ¬ extP b l o k := (fun h => absurd (hei.1 h).2 (by assumption)); rw [← ordT_no (f := f) hne, ← ordR_no (f := f) hne])
               refine W.region ?_
               refine WO.p rfl rfl (WO.ar rfl rfl rfl (by (first | (unfold in64; omega) | (unfold in64; omega))) rfl (WO.p rfl rfl ?_))
               refine WO.nil ?_
               refine' ⟨k + 1, _, _, ?hp, ?hmu, ⟨rfl, rfl, rfl, rfl, trivial⟩, ?hS⟩
               case hS => repeat (first | exact Sub.nil | refine Sub.cons (by repeat (first | exact Pick.head | apply Pick.tail)) ?_)
               case hp => omega
               case hmu => omega)
          first
          | (exfalso; omega)
          | (refine W.skip ?_
             first | (refine W.chg (rowsApp (enc := encI) (e := 3) (sz := 1) (rv := rv) (xss := ordR b l f o k) (rv' := rv2) (xss' := ords b l (f - 1) (o ++ [(k : Int)])) (by repeat (first | exact Pick.head | apply Pick.tail)) (by repeat (first | exact Pick.head | apply Pick.tail))) ?_; rw [← ordR_yes he, show (ordT b l f o k).length + (ords b l (f - 1) (o ++ [(k : Int)])).length = (ordT b l f o (k + 1)).length by rw [ordT_yes he, List.length_append]]) | (have hne : ¬ extP b l o k := (fun h => absurd (hei.1 h).1 (by assumption)); rw [← ordT_no (f := f) hne, ← ordR_no (f := f) hne]) | (have hne : ¬ extP b l o k := (fun h => absurd (hei.1 h).2 (by assumption)); rw [← ordT_no (f := f) hne, ← ordR_no (f := f) hne])
             refine W.region ?_
             refine WO.p rfl rfl (WO.ar rfl rfl rfl (by (first | (unfold in64; omega) | (unfold in64; omega))) rfl (WO.p rfl rfl ?_))
             refine WO.nil ?_
             refine' ⟨k + 1, _, _, ?hp, ?hmu, ⟨rfl, rfl, rfl, rfl, trivial⟩, ?hS⟩
             case hS => repeat (first | exact Sub.nil | refine Sub.cons (by repeat (first | exact Pick.head | apply Pick.tail)) ?_)
             case hp => omega
             case hmu => omega)))
  first
  | (exfalso; omega)
  | (refine W.exit (blk_same ?_)
     refine W.sreg ?_
     refine WO.p rfl rfl (WO.p rfl rfl ?_)
     refine WO.nil ?_
     refine W.ret ?_
     refine fin.ret (Res.one rfl (RV.tmp rfl)) ⟨(x, .slice ua o.length uc :: rv), rfl, fun h hs => ?_⟩
     have h1 := rowsSnoc (enc := encI) (e := 3) (sz := 1) (rv := []) (xss := []) (r := .slice ua o.length uc) (xs := o) Pick.head (by repeat (first | exact Pick.head | apply Pick.tail)) h (rowsNil (enc := encI) (e := 3) (sz := 1) h hs)
     have h2 := rowsApp (enc := encI) (e := 3) (sz := 1) (rv := [] ++ [.slice ua o.length uc]) (xss := [] ++ [o]) (rv' := rv) (xss' := ordR b l f o k) Pick.head (by repeat (first | exact Pick.head | apply Pick.tail)) h h1
     unfold OrdP
     rw [ords_eq hvo hf, show l.length = k by omega]
     exact Sub.sat (by repeat (first | exact Sub.nil | refine Sub.cons (by repeat (first | exact Pick.head | apply Pick.tail)) ?_)) h2)
/-- the better one of two orders -/
def updL (b : Int) (l : List Rn) (bs o : List Int) : List Int := if bs.length < o.length ∨ o.length = bs.length ∧ ovF b l o < ovF b l bs then o else bs
theorem upd_L (b : Int) (l : List Rn) : ∀ (xs : List (List Int)) (bs : List Int), xs.foldl (upd b l) (bs, ovF b l bs) = (xs.foldl (updL b l) bs, ovF b l (xs.foldl (updL b l) bs))
  | [], _ => rfl
  | x :: xs, bs => by
    rw [List.foldl_cons, List.foldl_cons]
    have e : upd b l (bs, ovF b l bs) x = (updL b l bs x, ovF b l (updL b l bs x)) := by
      unfold upd updL
      simp only
      split <;> rfl
    rw [e, upd_L b l xs]
theorem bsS_L (b : Int) (l : List Rn) : (bsS b l).1 = (ords b l l.length []).foldl (updL b l) [] := by
  unfold bsS
  have := upd_L b l (ords b l l.length []) []
  rw [ovF_nil] at this
  rw [this]
theorem updL_yes {b : Int} {l : List Rn} {bs o : List Int} (h : bs.length < o.length ∨ o.length = bs.length ∧ ovF b l o < ovF b l bs) : updL b l bs o = o := if_pos h
theorem updL_no {b : Int} {l : List Rn} {bs o : List Int} (h : ¬ (bs.length < o.length ∨ o.length = bs.length ∧ ovF b l o < ovF b l bs)) : updL b l bs o = bs := if_neg h
theorem rdNil {α : Type} {enc : α → List Value} {sz n : Nat} {w : World} : RdF enc sz n w (.slice none 0 0) [] :=
  ⟨⟨by simp, none, 0, rfl, fun h => by simp at h⟩, fun h => by simp at h, fun i x h => by simp at h⟩
/-- one of some rows, or nil -/
def RowOr (rv : List Value) (xss : List (List Int)) (v : Value) (xs : List Int) : Prop := (v = .slice none 0 0 ∧ xs = []) ∨ ∃ j, j < xss.length ∧ v = rv.getD j undef ∧ xs = xss.getD j []
theorem RowOr.rd {C : Cx Try.prog} {H : List HP} {x v : Value} {rv : List Value} {xss : List (List Int)} {xs : List Int} {n : Nat} {L : List HP} {w : World} (h : RowOr rv xss v xs) (s : Sub H [OwC 27 1 x n rv, RowsE encI 3 1 rv xss]) (hi : Inv C.w0 C.M (L ++ H) w) : RdF encI 1 w.heap.size w v xs := by
  rcases h with ⟨rfl, rfl⟩ | ⟨j, hj, rfl, rfl⟩
  · exact rdNil
  cases s with
  | cons p s2 =>
    cases s2 with
    | cons q _ =>
      have hi2 := hi.pickL p
      have hi3 : Inv C.w0 C.M (L ++ (OwC 27 1 x n rv :: _)) w := hi2
      exact (RdR.of_ow (C := C) (e := 3) (e' := 27) encI_ok (H := OwC 27 1 x n rv :: _) Pick.head (Pick.tail q) hi3).row j hj
theorem VO_row {b : Int} {l : List Rn} {rv : List Value} {v : Value} {xs : List Int} (h : RowOr rv (ords b l l.length []) v xs) : VO b l xs := by
  rcases h with ⟨_, rfl⟩ | ⟨j, hj, _, rfl⟩
  · exact VO.nil
  exact (ords_mem VO.nil (getD_mem hj [])).1
/-- a piece that lets a slice be read -/
def RdP (v : Value) (xs : List Int) : HP := fun h => ∃ y : Value × Nat × List Value × List (List Int), RowOr y.2.2.1 y.2.2.2 v xs ∧ sat [OwC 27 1 y.1 y.2.1 y.2.2.1, RowsE encI 3 1 y.2.2.1 y.2.2.2] h
theorem RdP.open {v : Value} {xs : List Int} {H H' : List HP} (p : Pick (RdP v xs) H H') : ∀ h, sat H h → ∃ y : Value × Nat × List Value × List (List Int), RowOr y.2.2.1 y.2.2.2 v xs ∧ sat (OwC 27 1 y.1 y.2.1 y.2.2.1 :: RowsE encI 3 1 y.2.2.1 y.2.2.2 :: H') h := fun h hs => by
  obtain ⟨h1, h2, s, ⟨y, hr, hy⟩, hz⟩ := sat_perm p.perm hs
  exact ⟨y, hr, sat_join s hy hz⟩
theorem RdP.shut {v x : Value} {xs : List Int} {n : Nat} {rv : List Value} {xss : List (List Int)} {H H1 H2 : List HP} (hr : RowOr rv xss v xs) (p : Pick (OwC 27 1 x n rv) H H1) (q : Pick (RowsE encI 3 1 rv xss) H1 H2) : ∀ h, sat H h → sat (RdP v xs :: H2) h := fun h hs => by
  have h1 := sat_perm p.perm hs
  have h2 : sat (OwC 27 1 x n rv :: RowsE encI 3 1 rv xss :: H2) h := by
    obtain ⟨a, c, s, ha, hc⟩ := h1
    exact ⟨a, c, s, ha, sat_perm q.perm hc⟩
  have h3 := sat_one (Hs := [OwC 27 1 x n rv, RowsE encI 3 1 rv xss]) (H := H2) h h2
  obtain ⟨a, c, s, ha, hc⟩ := h3
  exact ⟨a, c, s, ⟨(x, n, rv, xss), hr, ha⟩, hc⟩
theorem fold_take {α β : Type} (f : β → α → β) (z : β) (y : α) {xs : List α} {i : Nat} (h : i < xs.length) : (xs.take (i + 1)).foldl f z = f ((xs.take i).foldl f z) (xs.getD i y) := by
  rw [List.take_add_one, List.getElem?_eq_getElem h, List.foldl_append, List.getD_eq_getElem?_getD, List.getElem?_eq_getElem h]; rfl
theorem ref_Best (w : World) (v : Value) (a b : Int) (l : List Rn) (hR : RdF encR 6 w.heap.size w v l) : Ct Try.prog 20 [dayV a b v].toArray w fun r w' => ∃ Hq, (∃ x : Value, r = .tuple #[x, .int .i64 (chkD a b l)] ∧ Hq = [RdP x (bsL a b l)]) ∧ Inv w [] Hq w' := by
  refine Ct.ofI (X := Value) (p := fun x r => r = .tuple #[x, .int .i64 (chkD a b l)]) (Hx := fun x => [RdP x (bsL a b l)]) mixed tyTab Try.func20 rfl rfl ?_
  replace hR : RdF encR 6 (fnCx mixed tyTab Try.f20.ntmps w).B (fnCx mixed tyTab Try.f20.ntmps w).w0 v l := hR
  have ho := hR.sl.oc
  refine W.sreg ?_
  refine WO.boxA rfl rfl (fun b1 hb1 => ?_)
  refine WO.p rfl rfl (WO.p rfl rfl ?_)
  refine WO.nil ?_
  refine W.seq ?_
  refine W.sreg ?_
  refine WO.loadA rfl rfl (Cells.own Pick.head) rfl rfl ?_
  refine WO.callR rfl Try.call35 (fun L w hi => ref_CheckDay w v a b l (hR.later hi)) rfl ?_
  refine WO.p rfl rfl ?_
  refine WO.nil ?_
  refine W.cond_bl rfl (fun c1 => ?_) (fun c1 => ?_)
  · first
    | (exfalso; omega)
    | (refine W.sreg ?_
       refine WO.loadA rfl rfl (Cells.own Pick.head) rfl rfl ?_
       refine WO.callR rfl Try.call35 (fun L w hi => ref_CheckDay w v a b l (hR.later hi)) rfl ?_
       refine WO.p rfl rfl (WO.p rfl rfl ?_)
       refine WO.nil ?_
       refine W.ret ?_
       first | (have e1 : bsL a b l = [] := if_pos (by assumption); rw [e1]; exact fin.ret (Res.two rfl (RV.tmp rfl) (RV.tmp rfl)) ⟨_, rfl, fun h hs => Sub.sat (.cons .head .nil) (RdP.shut (x := .slice none 0 0) (n := 0) (rv := []) (xss := []) (.inl ⟨rfl, rfl⟩) .head .head h (owcNil (e := 27) (sz := 1) h (rowsNil (enc := encI) (e := 3) (sz := 1) h hs)))⟩) | (have e1 : bsL a b l = bs := (by unfold bsL; rw [if_neg (by omega), bsS_L, ← hall, hbs, List.take_of_length_le (by omega)]); rw [e1, hc]; exact fin.ret (Res.two rfl (RV.tmp rfl) (RV.tmp rfl)) ⟨_, rfl, fun h hs => Sub.sat (.cons .head .nil) (RdP.shut (x := x) (n := all.length) hro (H := _) (by repeat (first | exact Pick.head | apply Pick.tail)) (by repeat (first | exact Pick.head | apply Pick.tail)) h hs)⟩))
  first
  | (exfalso; omega)
  | (refine W.skip ?_
     have hc : chkD a b l = 0 := by omega
     have hcd := chkD0.1 hc
     refine W.chg (owNil (enc := encI) (e := 3) (sz := 1)) ?_
     refine W.sreg ?_
     refine WO.loadA rfl rfl (Cells.own (Pick.tail (Pick.head))) rfl rfl ?_
     refine WO.callH1 (A := OwE encI 3 1 (.slice none 0 0) []) rfl Try.call47 (by repeat (first | exact Pick.head | apply Pick.tail)) (fun L w' hi hB2 => ref_orders hc l.length [] _ w' _ hB2 VO.nil (by simp) (by omega) (hR.agree hi.keepB)) rfl ?_
     rintro x _ ⟨⟨x', rv⟩, rfl, rfl⟩
     refine WO.p rfl rfl ?_
     refine WO.nil ?_
     refine W.sreg ?_
     refine WO.p rfl rfl ?_
     refine WO.nil ?_
     refine W.seq ?_
     obtain ⟨all, hall⟩ : ∃ all, all = ords b l l.length [] := ⟨_, rfl⟩
     have hvr : ∀ {v xs}, RowOr rv all v xs → VO b l xs := fun h => by rw [hall] at h; exact VO_row h
     unfold OrdP
     rw [← hall]
     refine W.fact (OwC.sl (e := 27) (sz := 1) (n := all.length) (v := x) (cs := rv) Pick.head) (fun hxs => ?_)
     refine W.fact (RowsE.ocF (enc := encI) (e := 3) (sz := 1) (rv := rv) (xss := all) (.tail .head)) (fun hrv => ?_)
     have hlen := hxs.le
     refine W.sreg ?_
     refine WO.p rfl rfl ?_
     refine WO.nil ?_
     refine W.block ?_
     refine W.loop3 (fun (i : Nat) (bv : Value) (bs : List Int) => i ≤ all.length ∧ bs = (all.take i).foldl (updL b l) [] ∧ RowOr rv all bv bs)
       (fun (i : Nat) (bv : Value) (bs : List Int) => [(1, .pointer (some ⟨b1, 0, none⟩)), (4, x), (5, bv), (6, .int .i64 (i : Int))])
       (fun (i : Nat) (bv : Value) (bs : List Int) => [pt b1 (.cells #[.int .i64 a, .int .i64 b, v] 26 (0, 0)), OwC 27 1 x all.length rv, RowsE encI 3 1 rv all])
       (fun (i : Nat) (bv : Value) (bs : List Int) => all.length - i) 0 (.slice none 0 0) []
       (by exact ⟨by omega, rfl, .inl ⟨rfl, rfl⟩⟩) ⟨rfl, rfl, rfl, rfl, trivial⟩ (by repeat (first | exact Sub.nil | refine Sub.cons (by repeat (first | exact Pick.head | apply Pick.tail)) ?_)) ?_
     rintro i bv bs ⟨hi, hbs, hro⟩
     refine W.seq ?_
     refine W.sreg ?_
     refine WO.p rfl rfl (WO.p rfl rfl ?_)
     refine' WO.len (n := _) rfl rfl ?hs rfl ?_
     case hs => (first | exact hxs)
     refine WO.p rfl rfl ?_
     refine WO.nil ?_
     refine W.cond_bl rfl (fun c2 => ?_) (fun c2 => ?_)
     · first
       | (exfalso; omega)
       | (refine W.skip ?_
          refine W.seq ?_
          refine W.block ?_
          refine W.seq ?_
          obtain ⟨o, hoo⟩ : ∃ o, o = all.getD i [] := ⟨_, rfl⟩
          have hroi : RowOr rv all (rv.getD i undef) o := .inr ⟨i, by omega, rfl, hoo⟩
          refine W.fact (fun L w hi => (RowOr.rd (x := x) (n := all.length) hroi (by repeat (first | exact Sub.nil | refine Sub.cons (by repeat (first | exact Pick.head | apply Pick.tail)) ?_)) hi).sl) (fun hos => ?_)
          refine W.fact (fun L w hi => (RowOr.rd (x := x) (n := all.length) hro (by repeat (first | exact Sub.nil | refine Sub.cons (by repeat (first | exact Pick.head | apply Pick.tail)) ?_)) hi).sl) (fun hbl => ?_)
          refine W.drawD 26 [.r 0 [], .r 1 [], .r 2 [], .b 3 [], .r 4 [], .r 5 [], .r 6 [], .r 7 [], .r 8 [], .r 9 [], .r 10 [], .r 11 [], .b 12 [], .r 13 [], .r 14 [], .r 15 [], .r 16 [], .r 17 [], .b 18 [], .r 19 [], .r 20 [], .r 21 [], .b 22 [], .b 23 [], .b 24 [], .r 25 []] [] (A0 := []) (Sub.refl _) (by kernel_rfl) ?_ ?_
          · exact (ALok.r (ALok.r (ALok.r (ALok.b (ALok.r (ALok.r (ALok.r (ALok.r (ALok.r (ALok.r (ALok.r (ALok.r (ALok.b (ALok.r (ALok.r (ALok.r (ALok.r (ALok.r (ALok.b (ALok.r (ALok.r (ALok.r (ALok.b (ALok.b (ALok.b (ALok.r ALok.nil))))))))))))))))))))))))))
          refine' DT.r rfl rfl rfl ?hq ?_
          case hq =>
            refine WO.p rfl rfl ?_
            exact WO.nil ⟨rfl, rfl⟩
          refine' DT.r rfl rfl rfl ?hq ?_
          case hq =>
            refine WO.p rfl rfl ?_
            exact WO.nil ⟨rfl, rfl⟩
          refine' DT.r rfl rfl rfl ?hq ?_
          case hq =>
            refine' WO.indexAddr (n := _) (i := _) rfl rfl rfl ?hs ?h1 rfl ?_
            case hs => (first | exact hxs)
            case h1 => (first | omega | (simp; omega))
            exact WO.nil ⟨rfl, rfl⟩
          refine' DT.b rfl rfl rfl ?hq ?_
          case hq =>
            refine' WO.load (v := _) rfl rfl ?hc rfl ?_
            case hc => (first | (refine OwC.cell1s (e := 27) (n := all.length) (v := x) (cs := rv) (i := i) ?_ (by omega); exact (by repeat (first | exact Sub.nil | refine Sub.cons (by repeat (first | exact Pick.head | apply Pick.tail)) ?_))))
            exact WO.nil ⟨rfl, rfl⟩
          refine' DT.r rfl rfl rfl ?hq ?_
          case hq =>
            refine' WO.len (n := _) rfl rfl ?hs rfl ?_
            case hs => (first | exact hos)
            exact WO.nil ⟨rfl, rfl⟩
          refine' DT.r rfl rfl rfl ?hq ?_
          case hq =>
            refine WO.p rfl rfl ?_
            exact WO.nil ⟨rfl, rfl⟩
          refine' DT.r rfl rfl rfl ?hq ?_
          case hq =>
            refine' WO.len (n := _) rfl rfl ?hs rfl ?_
            case hs => (first | exact hbl)
            exact WO.nil ⟨rfl, rfl⟩
          refine' DT.r rfl rfl rfl ?hq ?_
          case hq =>
            refine WO.p rfl rfl ?_
            exact WO.nil ⟨rfl, rfl⟩
          refine' DT.rB rfl rfl rfl ?hq (fun c3 => ?_) (fun c3 => ?_)
          case hq =>
            refine WO.p rfl rfl ?_
            exact WO.nil ⟨rfl, rfl⟩
          · first
            | (exfalso; omega)
            | (refine' DT.r rfl rfl rfl ?hq ?_
               case hq =>
                 refine WO.no rfl rfl ?_
                 exact WO.nil ⟨rfl, rfl⟩
               refine' DT.r rfl rfl rfl ?hq ?_
               case hq =>
                 refine WO.no rfl rfl ?_
                 exact WO.nil ⟨rfl, rfl⟩
               refine' DT.r rfl rfl rfl ?hq ?_
               case hq =>
                 refine WO.no rfl rfl ?_
                 exact WO.nil ⟨rfl, rfl⟩
               refine' DT.b rfl rfl rfl ?hq ?_
               case hq =>
                 refine WO.no rfl rfl ?_
                 exact WO.nil ⟨rfl, rfl⟩
               refine' DT.r rfl rfl rfl ?hq ?_
               case hq =>
                 refine WO.no rfl rfl ?_
                 exact WO.nil ⟨rfl, rfl⟩
               refine' DT.r rfl rfl rfl ?hq ?_
               case hq =>
                 refine WO.no rfl rfl ?_
                 exact WO.nil ⟨rfl, rfl⟩
               refine' DT.r rfl rfl rfl ?hq ?_
               case hq =>
                 refine WO.no rfl rfl ?_
                 exact WO.nil ⟨rfl, rfl⟩
               refine' DT.r rfl rfl rfl ?hq ?_
               case hq =>
                 refine WO.no rfl rfl ?_
                 exact WO.nil ⟨rfl, rfl⟩
               refine' DT.r rfl rfl rfl ?hq ?_
               case hq =>
                 refine WO.no rfl rfl ?_
                 exact WO.nil ⟨rfl, rfl⟩
               refine' DT.b rfl rfl rfl ?hq ?_
               case hq =>
                 refine WO.no rfl rfl ?_
                 exact WO.nil ⟨rfl, rfl⟩
               refine' DT.r rfl rfl rfl ?hq ?_
               case hq =>
                 refine WO.no rfl rfl ?_
                 exact WO.nil ⟨rfl, rfl⟩
               refine' DT.r rfl rfl rfl ?hq ?_
               case hq =>
                 refine WO.no rfl rfl ?_
                 exact WO.nil ⟨rfl, rfl⟩
               refine' DT.r rfl rfl rfl ?hq ?_
               case hq =>
                 refine WO.no rfl rfl ?_
                 exact WO.nil ⟨rfl, rfl⟩
               refine' DT.b rfl rfl rfl ?hq ?_
               case hq =>
                 refine WO.no rfl rfl ?_
                 exact WO.nil ⟨rfl, rfl⟩
               refine' DT.b rfl rfl rfl ?hq ?_
               case hq =>
                 refine WO.no rfl rfl ?_
                 exact WO.nil ⟨rfl, rfl⟩
               refine' DT.b rfl rfl rfl ?hq ?_
               case hq =>
                 refine WO.no rfl rfl ?_
                 exact WO.nil ⟨rfl, rfl⟩
               refine' DT.r rfl rfl rfl ?hq ?_
               case hq =>
                 refine WO.no rfl rfl ?_
                 exact WO.nil ⟨rfl, rfl⟩
               refine DT.nil [_, _, _] rfl ?_
               refine WO.no rfl rfl (WO.no rfl rfl (WO.no rfl rfl (WO.p rfl rfl ?_)))
               refine WO.nil ?_
               refine W.cond_t rfl ?_
               refine W.region ?_
               refine WO.p rfl rfl (WO.p rfl rfl ?_)
               refine' WO.indexAddr (n := _) (i := _) rfl rfl rfl ?hs ?h1 rfl ?_
               case hs => (first | exact hxs)
               case h1 => (first | omega | (simp; omega))
               refine' WO.load (v := _) rfl rfl ?hc rfl ?_
               case hc => (first | (refine OwC.cell1s (e := 27) (n := all.length) (v := x) (cs := rv) (i := i) ?_ (by omega); exact (by repeat (first | exact Sub.nil | refine Sub.cons (by repeat (first | exact Pick.head | apply Pick.tail)) ?_))))
               refine WO.p rfl rfl ?_
               refine WO.nil ?_
               refine W.region ?_
               refine WO.p rfl rfl (WO.ar rfl rfl rfl (by (first | (unfold in64; omega) | (unfold in64; omega))) rfl (WO.p rfl rfl ?_))
               refine WO.nil ?_
               refine' ⟨i + 1, _, updL b l bs o, ?hp, ?hmu, ⟨rfl, rfl, rfl, rfl, trivial⟩, ?hS⟩
               case hS => repeat (first | exact Sub.nil | refine Sub.cons (by repeat (first | exact Pick.head | apply Pick.tail)) ?_)
               case hp => exact ⟨by omega, by (rw [fold_take (updL b l) [] [] (show i < all.length by omega), ← hbs, ← hoo]), by first | (rw [updL_yes (by omega)]; exact hroi) | (rw [updL_no (by omega)]; exact hro)⟩
               case hmu => omega)
          first
          | (exfalso; omega)
          | (refine' DT.r rfl rfl rfl ?hq ?_
             case hq =>
               refine WO.pg rfl rfl rfl ?_
               exact WO.nil ⟨rfl, rfl⟩
             refine' DT.r rfl rfl rfl ?hq ?_
             case hq =>
               refine WO.pg rfl rfl rfl ?_
               exact WO.nil ⟨rfl, rfl⟩
             refine' DT.r rfl rfl rfl ?hq ?_
             case hq =>
               refine WO.go' rfl ?_
               refine' WO.indexAddr (n := _) (i := _) rfl rfl rfl ?hs ?h1 rfl ?_
               case hs => (first | exact hxs)
               case h1 => (first | omega | (simp; omega))
               exact WO.nil ⟨rfl, rfl⟩
             refine' DT.b rfl rfl rfl ?hq ?_
             case hq =>
               refine WO.go' rfl ?_
               refine' WO.load (v := _) rfl rfl ?hc rfl ?_
               case hc => (first | (refine OwC.cell1s (e := 27) (n := all.length) (v := x) (cs := rv) (i := i) ?_ (by omega); exact (by repeat (first | exact Sub.nil | refine Sub.cons (by repeat (first | exact Pick.head | apply Pick.tail)) ?_))))
               exact WO.nil ⟨rfl, rfl⟩
             refine' DT.r rfl rfl rfl ?hq ?_
             case hq =>
               refine WO.go' rfl ?_
               refine' WO.len (n := _) rfl rfl ?hs rfl ?_
               case hs => (first | exact hos)
               exact WO.nil ⟨rfl, rfl⟩
             refine' DT.r rfl rfl rfl ?hq ?_
             case hq =>
               refine WO.pg rfl rfl rfl ?_
               exact WO.nil ⟨rfl, rfl⟩
             refine' DT.r rfl rfl rfl ?hq ?_
             case hq =>
               refine WO.go' rfl ?_
               refine' WO.len (n := _) rfl rfl ?hs rfl ?_
               case hs => (first | exact hbl)
               exact WO.nil ⟨rfl, rfl⟩
             refine' DT.r rfl rfl rfl ?hq ?_
             case hq =>
               refine WO.pg rfl rfl rfl ?_
               exact WO.nil ⟨rfl, rfl⟩
             refine' DT.rB rfl rfl rfl ?hq (fun c4 => ?_) (fun c4 => ?_)
             case hq =>
               refine WO.pg rfl rfl rfl ?_
               exact WO.nil ⟨rfl, rfl⟩
             · first
               | (exfalso; omega)
               | (refine' DT.b rfl rfl rfl ?hq ?_
                  case hq =>
                    refine WO.go' rfl (WO.loadA rfl rfl (Cells.own Pick.head) rfl rfl ?_)
                    exact WO.nil ⟨rfl, rfl⟩
                  refine' DT.r rfl rfl rfl ?hq ?_
                  case hq =>
                    refine WO.pg rfl rfl rfl ?_
                    exact WO.nil ⟨rfl, rfl⟩
                  refine' DT.r rfl rfl rfl ?hq ?_
                  case hq =>
                    refine WO.pg rfl rfl rfl ?_
                    exact WO.nil ⟨rfl, rfl⟩
                  refine' DT.r rfl rfl rfl ?hq ?_
                  case hq =>
                    refine WO.go' rfl ?_
                    refine' WO.indexAddr (n := _) (i := _) rfl rfl rfl ?hs ?h1 rfl ?_
                    case hs => (first | exact hxs)
                    case h1 => (first | omega | (simp; omega))
                    exact WO.nil ⟨rfl, rfl⟩
                  refine' DT.b rfl rfl rfl ?hq ?_
                  case hq =>
                    refine WO.go' rfl ?_
                    refine' WO.load (v := _) rfl rfl ?hc rfl ?_
                    case hc => (first | (refine OwC.cell1s (e := 27) (n := all.length) (v := x) (cs := rv) (i := i) ?_ (by omega); exact (by repeat (first | exact Sub.nil | refine Sub.cons (by repeat (first | exact Pick.head | apply Pick.tail)) ?_))))
                    exact WO.nil ⟨rfl, rfl⟩
                  refine' DT.b rfl rfl rfl ?hq ?_
                  case hq =>
                    refine WO.go' rfl ?_
                    refine WO.callR rfl Try.call48 (fun L w hi => ref_over w v _ a b l o (hR.later hi) (RowOr.rd (x := x) (n := all.length) hroi (by repeat (first | exact Sub.nil | refine Sub.cons (by repeat (first | exact Pick.head | apply Pick.tail)) ?_)) hi) hcd.2 (by omega) (hvr hroi)) rfl ?_
                    exact WO.nil ⟨rfl, rfl⟩
                  refine' DT.b rfl rfl rfl ?hq ?_
                  case hq =>
                    refine WO.go' rfl (WO.loadA rfl rfl (Cells.own Pick.head) rfl rfl ?_)
                    exact WO.nil ⟨rfl, rfl⟩
                  refine' DT.r rfl rfl rfl ?hq ?_
                  case hq =>
                    refine WO.pg rfl rfl rfl ?_
                    exact WO.nil ⟨rfl, rfl⟩
                  refine DT.nil [_, _, _] rfl ?_
                  refine WO.go' rfl ?_
                  refine WO.callR rfl Try.call48 (fun L w hi => ref_over w v _ a b l bs (hR.later hi) (RowOr.rd (x := x) (n := all.length) hro (by repeat (first | exact Sub.nil | refine Sub.cons (by repeat (first | exact Pick.head | apply Pick.tail)) ?_)) hi) hcd.2 (by omega) (hvr hro)) rfl ?_
                  refine WO.pg rfl rfl rfl (WO.pg rfl rfl rfl (WO.p rfl rfl ?_))
                  refine WO.nil ?_
                  refine W.cond_bl rfl (fun c5 => ?_) (fun c5 => ?_)
                  · first
                    | (exfalso; omega)
                    | (refine W.region ?_
                       refine WO.p rfl rfl (WO.p rfl rfl ?_)
                       refine' WO.indexAddr (n := _) (i := _) rfl rfl rfl ?hs ?h1 rfl ?_
                       case hs => (first | exact hxs)
                       case h1 => (first | omega | (simp; omega))
                       refine' WO.load (v := _) rfl rfl ?hc rfl ?_
                       case hc => (first | (refine OwC.cell1s (e := 27) (n := all.length) (v := x) (cs := rv) (i := i) ?_ (by omega); exact (by repeat (first | exact Sub.nil | refine Sub.cons (by repeat (first | exact Pick.head | apply Pick.tail)) ?_))))
                       refine WO.p rfl rfl ?_
                       refine WO.nil ?_
                       refine W.region ?_
                       refine WO.p rfl rfl (WO.ar rfl rfl rfl (by (first | (unfold in64; omega) | (unfold in64; omega))) rfl (WO.p rfl rfl ?_))
                       refine WO.nil ?_
                       refine' ⟨i + 1, _, updL b l bs o, ?hp, ?hmu, ⟨rfl, rfl, rfl, rfl, trivial⟩, ?hS⟩
                       case hS => repeat (first | exact Sub.nil | refine Sub.cons (by repeat (first | exact Pick.head | apply Pick.tail)) ?_)
                       case hp => exact ⟨by omega, by (rw [fold_take (updL b l) [] [] (show i < all.length by omega), ← hbs, ← hoo]), by first | (rw [updL_yes (by omega)]; exact hroi) | (rw [updL_no (by omega)]; exact hro)⟩
                       case hmu => omega)
                  first
                  | (exfalso; omega)
                  | (refine W.skip ?_
                     refine W.region ?_
                     refine WO.p rfl rfl (WO.ar rfl rfl rfl (by (first | (unfold in64; omega) | (unfold in64; omega))) rfl (WO.p rfl rfl ?_))
                     refine WO.nil ?_
                     refine' ⟨i + 1, _, updL b l bs o, ?hp, ?hmu, ⟨rfl, rfl, rfl, rfl, trivial⟩, ?hS⟩
                     case hS => repeat (first | exact Sub.nil | refine Sub.cons (by repeat (first | exact Pick.head | apply Pick.tail)) ?_)
                     case hp => exact ⟨by omega, by (rw [fold_take (updL b l) [] [] (show i < all.length by omega), ← hbs, ← hoo]), by first | (rw [updL_yes (by omega)]; exact hroi) | (rw [updL_no (by omega)]; exact hro)⟩
                     case hmu => omega))
             first
             | (exfalso; omega)
             | (refine' DT.b rfl rfl rfl ?hq ?_
                case hq =>
                  refine WO.no rfl rfl ?_
                  exact WO.nil ⟨rfl, rfl⟩
                refine' DT.r rfl rfl rfl ?hq ?_
                case hq =>
                  refine WO.no rfl rfl ?_
                  exact WO.nil ⟨rfl, rfl⟩
                refine' DT.r rfl rfl rfl ?hq ?_
                case hq =>
                  refine WO.no rfl rfl ?_
                  exact WO.nil ⟨rfl, rfl⟩
                refine' DT.r rfl rfl rfl ?hq ?_
                case hq =>
                  refine WO.no rfl rfl ?_
                  exact WO.nil ⟨rfl, rfl⟩
                refine' DT.b rfl rfl rfl ?hq ?_
                case hq =>
                  refine WO.no rfl rfl ?_
                  exact WO.nil ⟨rfl, rfl⟩
                refine' DT.b rfl rfl rfl ?hq ?_
                case hq =>
                  refine WO.no rfl rfl ?_
                  exact WO.nil ⟨rfl, rfl⟩
                refine' DT.b rfl rfl rfl ?hq ?_
                case hq =>
                  refine WO.no rfl rfl ?_
                  exact WO.nil ⟨rfl, rfl⟩
                refine' DT.r rfl rfl rfl ?hq ?_
                case hq =>
                  refine WO.no rfl rfl ?_
                  exact WO.nil ⟨rfl, rfl⟩
                refine DT.nil [_, _, _] rfl ?_
                refine WO.no rfl rfl (WO.no rfl rfl (WO.pg rfl rfl rfl (WO.p rfl rfl ?_)))
                refine WO.nil ?_
                refine W.cond_f rfl ?_
                refine W.skip ?_
                refine W.region ?_
                refine WO.p rfl rfl (WO.ar rfl rfl rfl (by (first | (unfold in64; omega) | (unfold in64; omega))) rfl (WO.p rfl rfl ?_))
                refine WO.nil ?_
                refine' ⟨i + 1, _, updL b l bs o, ?hp, ?hmu, ⟨rfl, rfl, rfl, rfl, trivial⟩, ?hS⟩
                case hS => repeat (first | exact Sub.nil | refine Sub.cons (by repeat (first | exact Pick.head | apply Pick.tail)) ?_)
                case hp => exact ⟨by omega, by (rw [fold_take (updL b l) [] [] (show i < all.length by omega), ← hbs, ← hoo]), by first | (rw [updL_yes (by omega)]; exact hroi) | (rw [updL_no (by omega)]; exact hro)⟩
                case hmu => omega)))
     first
     | (exfalso; omega)
     | (refine W.exit (blk_same ?_)
        refine W.sreg ?_
        refine WO.p rfl rfl (WO.p rfl rfl (WO.p rfl rfl ?_))
        refine WO.nil ?_
        refine W.ret ?_
        first | (have e1 : bsL a b l = [] := if_pos (by assumption); rw [e1]; exact fin.ret (Res.two rfl (RV.tmp rfl) (RV.tmp rfl)) ⟨_, rfl, fun h hs => Sub.sat (.cons .head .nil) (RdP.shut (x := .slice none 0 0) (n := 0) (rv := []) (xss := []) (.inl ⟨rfl, rfl⟩) .head .head h (owcNil (e := 27) (sz := 1) h (rowsNil (enc := encI) (e := 3) (sz := 1) h hs)))⟩) | (have e1 : bsL a b l = bs := (by unfold bsL; rw [if_neg (by omega), bsS_L, ← hall, hbs, List.take_of_length_le (by omega)]); rw [e1, hc]; exact fin.ret (Res.two rfl (RV.tmp rfl) (RV.tmp rfl)) ⟨_, rfl, fun h hs => Sub.sat (.cons .head .nil) (RdP.shut (x := x) (n := all.length) hro (H := _) (by repeat (first | exact Pick.head | apply Pick.tail)) (by repeat (first | exact Pick.head | apply Pick.tail)) h hs)⟩)))
end Go.Proofs.Ytkonhpcldomidaa
namespace Go.Proofs.Ytkonhpcldomidaa
open Go Go.TH
attribute [local irreducible] W WO pt
set_option maxRecDepth 10000
set_option maxHeartbeats 1000000
abbrev Sk := Nat × Nat
def kv (k : Sk) : Value := .agg #[.int .i64 (k.1 : Int), .int .i64 (k.2 : Int)]
def Mt (es : List MapEntry) (kvs : List (Sk × Int)) : Prop := es.map (fun e => (e.key, e.val)) = kvs.map (fun p => (kv p.1, Value.int .i64 p.2))
def Rep (es : List MapEntry) (f : Sk → Option Int) : Prop := ∃ kvs : List (Sk × Int), Mt es kvs ∧ (kvs.map Prod.fst).Nodup ∧ ∀ k, f k = kvs.lookup k
/-- a map's stamps -/
def Reg (es : List MapEntry) (clk : Nat) : Prop := (es.map (·.born)).Nodup ∧ ∀ e ∈ es, e.born < clk
/-- a map of one's own -/
def MapP (b : Nat) (f : Sk → Option Int) : HP := fun h => ∃ (es : Array MapEntry) (clk : Nat), Rep es.toList f ∧ Reg es.toList clk ∧ pt b (.map es clk) h
def updM (f : Sk → Option Int) (k : Sk) (v : Int) : Sk → Option Int := fun k' => if k' = k then some v else f k'
theorem bl_and {p q : Prop} [Decidable p] [Decidable q] : (bl p && bl q) = bl (p ∧ q) := by rw [bl_eq, bl_eq, bl_eq]; simp
theorem run_eq77 (w : World) (a b : Sk) : (Op.equal 93 (kv a) (kv b)).run Try.prog w = .ok (bl (a = b)) w := by
  obtain ⟨a1, a2⟩ := a
  obtain ⟨b1, b2⟩ := b
  unfold kv
  simp [Op.equal, Op.maxDepth, go_sem, Try.underlying93]
  by_cases h1 : a1 = b1
  · by_cases h2 : a2 = b2
    · subst h1 h2; simp [bl_eq]
    have g : ¬ (a2 : Int) = (b2 : Int) := by omega
    subst h1; simp [bl_eq, h2, g]
  have g : ¬ (a1 : Int) = (b1 : Int) := by omega
  simp [bl_eq, h1, g]
theorem run_check3 (w : World) (e : Bool) (n : Nat) (v : Value) : (Instr.checkKey e (n + 1) 3 v).run Try.prog w = .ok () w := by
  unfold Instr.checkKey
  simp [run_underlying Try.underlying3]
theorem run_check77 (w : World) (e : Bool) (k : Sk) : (Instr.checkKey e 10000 93 (kv k)).run Try.prog w = .ok () w := by
  unfold kv
  rw [show (10000 : Nat) = 9998 + 1 + 1 from rfl]
  unfold Instr.checkKey
  simp [go_sem, run_underlying Try.underlying93, run_check3]
theorem lk_same (a : Sk) (v : Int) (r : List (Sk × Int)) : ((a, v) :: r).lookup a = some v := by rw [List.lookup_cons]; simp
theorem lk_ne {k a : Sk} (h : ¬ k = a) (v : Int) (r : List (Sk × Int)) : ((a, v) :: r).lookup k = r.lookup k := by
  have e : (k == a) = false := beq_false_of_ne h
  rw [List.lookup_cons, e]
theorem find77 (w : World) (k : Sk) : ∀ (es : List MapEntry) (kvs : List (Sk × Int)) (i : Nat), Mt es kvs →
    (∃ (j : Nat) (v : Int) (e : MapEntry), kvs.lookup k = some v ∧ (Instr.findAsking 93 (kv k) es i).run Try.prog w = .ok (some (i + j, .int .i64 v)) w ∧ es[j]? = some e ∧ e.key = kv k ∧
      ∀ u, ∃ kvs', Mt (es.modify j fun e => { e with key := kv k, val := .int .i64 u }) kvs' ∧ kvs'.map Prod.fst = kvs.map Prod.fst ∧ ∀ k', kvs'.lookup k' = if k' = k then some u else kvs.lookup k') ∨
    (kvs.lookup k = none ∧ (Instr.findAsking 93 (kv k) es i).run Try.prog w = .ok none w)
  | [], kvs, i, h => by
    unfold Mt at h
    obtain rfl : kvs = [] := by cases kvs with
      | nil => rfl
      | cons a r => simp at h
    exact .inr ⟨rfl, by simp [Instr.findAsking]⟩
  | e :: es, [], i, h => by unfold Mt at h; simp at h
  | e :: es, (a, v) :: r, i, h => by
    unfold Mt at h
    simp only [List.map_cons, List.cons.injEq, Prod.mk.injEq] at h
    obtain ⟨⟨h1, h1'⟩, h2⟩ := h
    by_cases g : k = a
    · subst g
      refine .inl ⟨0, v, e, lk_same _ _ _, ?_, rfl, h1, fun u => ⟨(k, u) :: r, ?_, rfl, fun k' => ?_⟩⟩
      · simp [Instr.findAsking, h1, h1', run_eq77, bl_eq]
      · unfold Mt; simp [h2]
      by_cases q : k' = k
      · subst q; rw [if_pos rfl, lk_same]
      rw [if_neg q, lk_ne q, lk_ne q]
    have hl : ((a, v) :: r).lookup k = r.lookup k := lk_ne g _ _
    rw [hl]
    rcases find77 w k es r (i + 1) h2 with ⟨j, v', e', q1, q2, q3, q4, q5⟩ | ⟨q1, q2⟩
    · refine .inl ⟨j + 1, v', e', q1, ?_, by simpa using q3, q4, fun u => ?_⟩
      · simp [Instr.findAsking, h1, run_eq77, bl_eq, g, q2]
        omega
      obtain ⟨kvs', p1, p0, p2⟩ := q5 u
      refine ⟨(a, v) :: kvs', ?_, by rw [List.map_cons, p0, List.map_cons], fun k' => ?_⟩
      · unfold Mt at p1 ⊢
        rw [List.modify_succ_cons, List.map_cons, p1, List.map_cons, h1, h1']
      by_cases q : k' = a
      · subst q; rw [if_neg (fun x => g x.symm), lk_same, lk_same]
      rw [lk_ne q, lk_ne q]
      exact p2 k'
    exact .inr ⟨q1, by simp [Instr.findAsking, h1, run_eq77, bl_eq, g, q2]⟩
theorem key77 (w : World) (k : Sk) (es : List MapEntry) : (Instr.findKey 93 (kv k) es).run Try.prog w = (Instr.findAsking 93 (kv k) es).run Try.prog w := run_findKey_eq w (by simp [Try.underlying93]) _ _
theorem stays77 (w : World) (k : Sk) : (Instr.keyThatStays (kv k) (kv k)).run Try.prog w = .ok (kv k) w := by
  have h : Instr.sameBits (9999 + 1) (kv k) (kv k) = true := by
    unfold kv
    unfold Instr.sameBits
    simp [Instr.sameBits]
  unfold Instr.keyThatStays
  rw [show (10000 : Nat) = 9999 + 1 from rfl, h]
  rfl
theorem Reg.mod {es : Array MapEntry} {clk : Nat} (h : Reg es.toList clk) (j : Nat) (u v : Value) : Reg (es.modify j fun e => { e with key := u, val := v }).toList clk := by
  have e1 : ((es.modify j fun e => { e with key := u, val := v }).toList).map (·.born) = es.toList.map (·.born) := by
    rw [Array.toList_modify]
    refine List.ext_getElem? fun i => ?_
    rw [List.getElem?_map, List.getElem?_map, List.getElem?_modify]
    split <;> simp [Function.comp_def]
  refine ⟨by rw [e1]; exact h.1, fun e he => ?_⟩
  have h1 : e.born ∈ es.toList.map (·.born) := by rw [← e1]; exact List.mem_map_of_mem he
  obtain ⟨e', h2, h3⟩ := List.mem_map.1 h1
  rw [← h3]; exact h.2 e' h2
theorem Reg.new {es : Array MapEntry} {clk : Nat} (h : Reg es.toList clk) (u v : Value) : Reg (es.push { key := u, val := v, born := clk }).toList (clk + 1) := by
  rw [Array.toList_push]
  refine ⟨?_, fun e he => ?_⟩
  · rw [List.map_append, List.nodup_append]
    refine ⟨h.1, List.pairwise_singleton _ _, fun x hx y hy => ?_⟩
    obtain ⟨e', h2, rfl⟩ := List.mem_map.1 hx
    have h3 := h.2 e' h2
    have h4 : y = clk := List.mem_singleton.1 hy
    omega
  rcases List.mem_append.1 he with h1 | h1
  · have := h.2 e h1; omega
  rw [List.mem_singleton.1 h1]; show clk < clk + 1; omega
theorem lk_mem {k : Sk} : ∀ {kvs : List (Sk × Int)}, kvs.lookup k = none → k ∉ kvs.map Prod.fst
  | [], _ => by simp
  | (a, v) :: r, h => by
    by_cases e : k = a
    · subst e; rw [lk_same] at h; simp at h
    rw [lk_ne e] at h
    rw [List.map_cons, List.mem_cons]
    exact fun q => q.elim (fun q => e q) (lk_mem h)
theorem lk_new {k : Sk} {v : Int} {kvs : List (Sk × Int)} (h : (kvs.map Prod.fst).Nodup) (g : kvs.lookup k = none) : ((kvs ++ [(k, v)]).map Prod.fst).Nodup := by
  rw [List.map_append, List.nodup_append]
  refine ⟨h, List.pairwise_singleton _ _, fun x hx y hy e => ?_⟩
  have h4 : y = k := List.mem_singleton.1 hy
  subst h4 e
  exact lk_mem g hx
theorem lk_of {k : Sk} {v : Int} : ∀ {kvs : List (Sk × Int)}, (kvs.map Prod.fst).Nodup → (k, v) ∈ kvs → kvs.lookup k = some v
  | [], _, h => by simp at h
  | (a, u) :: r, hn, h => by
    rw [List.map_cons, List.nodup_cons] at hn
    rcases List.mem_cons.1 h with h | h
    · injection h with h1 h2; subst h1 h2; exact lk_same _ _ _
    rw [lk_ne (fun e => hn.1 (by rw [← show k = a from e]; exact List.mem_map.2 ⟨(k, v), h, rfl⟩))]
    exact lk_of hn.2 h
theorem lk_in {k : Sk} {v : Int} : ∀ {kvs : List (Sk × Int)}, kvs.lookup k = some v → (k, v) ∈ kvs
  | [], h => by simp at h
  | (a, u) :: r, h => by
    by_cases e : k = a
    · subst e; rw [lk_same] at h; injection h with h; subst h; simp
    rw [lk_ne e] at h
    exact List.mem_cons_of_mem _ (lk_in h)
theorem MapP.start {b : Nat} {H H' : List HP} (p : Pick (pt b (.map #[] 0)) H H') : ∀ h, sat H h → sat (MapP b (fun _ => none) :: H') h := fun h hs => by
  obtain ⟨h1, h2, s, a, r⟩ := p.sat hs
  exact ⟨h1, h2, s, ⟨#[], 0, ⟨[], rfl, List.nodup_nil, fun _ => rfl⟩, ⟨List.nodup_nil, fun e h => by simp at h⟩, a⟩, r⟩
section
variable {C : Cx Try.prog} {E : Env} {H : List HP}
variable {ops : Array Oper} {K : KP} {rest : List Oper} {d : Nat} {ty : TypeId} {pos : String} {af : Array Edge} {x y z : Operand} {T : TypeId}
theorem MapP.open {w0 w : World} {M : List Nat} {L H' : List HP} {b : Nat} {f : Sk → Option Int} (p : Pick (MapP b f) H H') (hi : TH.Inv w0 M (L ++ H) w) : ∃ (es : Array MapEntry) (clk : Nat), Rep es.toList f ∧ Reg es.toList clk ∧ TH.Inv w0 M (pt b (.map es clk) :: (L ++ H')) w := by
  have h1 := (hi.pickL p).perm List.perm_middle
  obtain ⟨ha, hb, s, ⟨es, clk, e, e', q⟩, hr⟩ := h1.mine
  exact ⟨es, clk, e, e', h1.os, h1.tape, h1.output, h1.size, h1.keep, ha, hb, s, q, hr⟩
theorem MapP.shut {w0 w : World} {M : List Nat} {L H' : List HP} {b clk : Nat} {es : Array MapEntry} {f : Sk → Option Int} (e : Rep es.toList f) (e' : Reg es.toList clk) (hi : TH.Inv w0 M (pt b (.map es clk) :: (L ++ H')) w) : TH.Inv w0 M (L ++ MapP b f :: H') w := by
  have h2 : TH.Inv w0 M (MapP b f :: (L ++ H')) w := ⟨hi.os, hi.tape, hi.output, hi.size, hi.keep, sat_mono (fun h q => ⟨es, clk, e, e', q⟩) hi.mine⟩
  exact h2.perm (List.perm_middle (l₁ := L) (l₂ := H')).symm
theorem WO.mapUpd {b : Nat} {f : Sk → Option Int} {k : Sk} {v : Int} {u : Value} {H' : List HP} {et : TypeId} (hT : Try.prog.underlying T = some (.map 93 et)) (hm : ev E x = some (.map (some b))) (hk : ev E y = some u) (hku : u = kv k) (hu : ev E z = some (.int .i64 v)) (p : Pick (MapP b f) H H')
    (h : WO C ops rest K E (MapP b (updM f k v) :: H')) : WO C ops (⟨none, .mapUpdate T x y z, ty, pos, af, none⟩ :: rest) K E H := by
  subst hku
  refine WO.step0 rfl rfl (XO.run (by simp) fun L a w hfr hi => ?_)
  obtain ⟨es, clk, ⟨kvs, he, hkn, hf⟩, hreg, hi'⟩ := MapP.open p hi
  have hl := (hi'.look .head).1
  have hlt : b < w.heap.size := (Array.getElem?_eq_some_iff.1 hl).1
  obtain ⟨es', clk', hrep, hreg', hr⟩ : ∃ (es' : Array MapEntry) (clk' : Nat), Rep es'.toList (updM f k v) ∧ Reg es'.toList clk' ∧ (Instr.mapUpdate T (.map (some b)) (kv k) (.int .i64 v)).run Try.prog w = .ok () { w with heap := w.heap.setIfInBounds b (.map es' clk') } := by
    rcases find77 w k es.toList kvs 0 he with ⟨j, v', e', q1, q2, q3, q4, q5⟩ | ⟨q1, q2⟩
    · rw [← key77] at q2
      obtain ⟨kvs', p1, p0, p2⟩ := q5 v
      refine ⟨es.modify j fun e => { e with key := kv k, val := .int .i64 v }, clk, ⟨kvs', by rw [Array.toList_modify]; exact p1, by rw [p0]; exact hkn, fun k' => by unfold updM; rw [p2 k', hf k']⟩, Reg.mod hreg _ _ _, ?_⟩
      have q3' : es[j]? = some e' := by simpa using q3
      simp [Instr.mapUpdate, run_underlying hT, getMap_run hl, run_check77, q2, q3', q4, stays77]
      simp [setObj, Sem.run, hl, Result.andThen]
    rw [← key77] at q2
    refine ⟨es.push { key := kv k, val := .int .i64 v, born := clk }, clk + 1, ⟨kvs ++ [(k, v)], ?_, lk_new hkn q1, fun k' => ?_⟩, Reg.new hreg _ _, ?_⟩
    · unfold Mt at he ⊢
      rw [Array.toList_push, List.map_append, he, List.map_append]; rfl
    · unfold updM
      rw [List.lookup_append]
      by_cases q : k' = k
      · subst q; rw [if_pos rfl, q1, lk_same]; rfl
      rw [if_neg q, hf k', lk_ne q]
      cases kvs.lookup k' <;> rfl
    simp [Instr.mapUpdate, run_underlying hT, getMap_run hl, run_check77, q2]
    simp [setObj, Sem.run, hl, Result.andThen]
  refine ⟨undef, { w with heap := w.heap.setIfInBounds b (.map es' clk') }, _, .inr ⟨?_, rfl⟩, h, ?_⟩
  · simp [execOp, hfr.eval hm, hfr.eval hk, hfr.eval hu, hr]
  have hs := hi'.set (o' := .map es' clk') .head (w' := { w with heap := w.heap.setIfInBounds b (.map es' clk') }) rfl rfl rfl (by simp) (by simp [hlt]) (fun k hk => by simp [Array.getElem?_setIfInBounds_ne (Ne.symm hk)])
  exact MapP.shut hrep hreg' hs
theorem WO.mapGet {b : Nat} {f : Sk → Option Int} {k : Sk} {u : Value} {H' : List HP} (hT : Try.prog.underlying T = some (.map 93 2)) (hm : ev E x = some (.map (some b))) (hk : ev E y = some u) (hku : u = kv k) (p : Pick (MapP b f) H H') (hN : Nat.blt d C.N = true)
    (h : WO C ops rest K ((d, .int .i64 ((f k).getD 0)) :: E) H) : WO C ops (⟨some d, .lookup T x y false, ty, pos, af, none⟩ :: rest) K E H := by
  subst hku
  refine WO.pure _ (by simp) (fun L a w hfr hi => ?_) hN h
  obtain ⟨es, clk, ⟨kvs, he, hkn, hf⟩, hreg, hi'⟩ := MapP.open p hi
  have hl := (hi'.look .head).1
  have hzr : (zeroValue 2).run Try.prog w = .ok (.int .i64 0) w := run_zeroValue (ZT.of (t := tyTab) (T := 2) rfl).zero
  rcases find77 w k es.toList kvs 0 he with ⟨j, v', e', q1, q2, _⟩ | ⟨q1, q2⟩
  · rw [← key77] at q2
    simp [execOp, hfr.eval hm, hfr.eval hk, Instr.lookup, run_underlying hT, getMap_run hl, run_check77, q2, hf k, q1]
  rw [← key77] at q2
  simp [execOp, hfr.eval hm, hfr.eval hk, Instr.lookup, run_underlying hT, getMap_run hl, run_check77, q2, hf k, q1, hzr]
theorem WO.mapGet2 {b : Nat} {f : Sk → Option Int} {k : Sk} {u : Value} {H' : List HP} (hT : Try.prog.underlying T = some (.map 93 2)) (hm : ev E x = some (.map (some b))) (hk : ev E y = some u) (hku : u = kv k) (p : Pick (MapP b f) H H') (hN : Nat.blt d C.N = true)
    (h : WO C ops rest K ((d, .tuple #[.int .i64 ((f k).getD 0), .bool (bl ((f k).isSome = true))]) :: E) H) : WO C ops (⟨some d, .lookup T x y true, ty, pos, af, none⟩ :: rest) K E H := by
  subst hku
  refine WO.pure _ (by simp) (fun L a w hfr hi => ?_) hN h
  obtain ⟨es, clk, ⟨kvs, he, hkn, hf⟩, hreg, hi'⟩ := MapP.open p hi
  have hl := (hi'.look .head).1
  have hzr : (zeroValue 2).run Try.prog w = .ok (.int .i64 0) w := run_zeroValue (ZT.of (t := tyTab) (T := 2) rfl).zero
  rcases find77 w k es.toList kvs 0 he with ⟨j, v', e', q1, q2, _⟩ | ⟨q1, q2⟩
  · rw [← key77] at q2
    simp [execOp, hfr.eval hm, hfr.eval hk, Instr.lookup, run_underlying hT, getMap_run hl, run_check77, q2, hf k, q1, bl_eq]
  rw [← key77] at q2
  simp [execOp, hfr.eval hm, hfr.eval hk, Instr.lookup, run_underlying hT, getMap_run hl, run_check77, q2, hf k, q1, hzr, bl_eq]
end
end Go.Proofs.Ytkonhpcldomidaa
namespace Go.Proofs.Ytkonhpcldomidaa
open Go Go.TH
attribute [local irreducible] W WO pt
set_option maxRecDepth 10000
set_option maxHeartbeats 1000000
theorem WO.callCH {C : Cx Try.prog} {E : Env} {H : List HP} {ops : Array Oper} {K : KP} {rest : List Oper} {d : Nat} {ty : TypeId} {pos : String} {af : Array Edge} {x : Operand} {xs : List Operand} {ats : Array TypeId} {f : FuncId} {first captured vs : List Value} {Hp Hr : List HP} {Post : Value → List HP → Prop}
    (hx : ev E x = some (.func (.func f) first.toArray captured.toArray)) (hxs : evs E xs = some vs) (hcall : ∀ (args : Array Value) (w : World), (callFunc f args).run Try.prog w = .ok (.enter f args) w) (hH : Sub H (Hp ++ Hr))
    (hspec : ∀ (L : List HP) w, TH.Inv C.w0 C.M (L ++ H) w → C.B ≤ w.heap.size → CtH Try.prog f (first ++ vs ++ captured) w Hp C.B Post) (hN : Nat.blt d C.N = true)
    (h : ∀ v Hq, Post v Hq → WO C ops rest K ((d, v) :: E) (Hq ++ Hr)) : WO C ops (⟨some d, .call ⟨.value x, xs.toArray, ats⟩, ty, pos, af, none⟩ :: rest) K E H := by
  refine WO.step rfl rfl hN (XO.callF (Hp := Hp) (Hr := Hr) (Post := Post) (first := first.toArray) (captured := captured.toArray) hx hxs hcall hH (fun L w M' hi hM hp => ?_) h)
  have hc := hspec L w hi (Nat.le_trans C.hB hi.size) M' (fun b hb => by
    rcases hM b hb with h | h
    · exact Nat.le_trans C.hB h
    exact C.hM b h) hp
  have e : first.toArray ++ vs.toArray ++ captured.toArray = (first ++ vs ++ captured).toArray := by simp
  rw [e]; exact hc
/-- a map that is only read -/
def RdM (n : Nat) (w : World) (m : Nat) (f : Sk → Option Int) : Prop := m < n ∧ ∃ (es : Array MapEntry) (clk : Nat), Rep es.toList f ∧ w.heap[m]? = some (.map es clk)
theorem RdM.at_ {C : Cx Try.prog} {H L : List HP} {w : World} {m : Nat} {f : Sk → Option Int} (h : RdM C.B C.w0 m f) (hi : TH.Inv C.w0 C.M (L ++ H) w) : ∃ (es : Array MapEntry) (clk : Nat), Rep es.toList f ∧ w.heap[m]? = some (.map es clk) := by
  obtain ⟨h1, es, clk, h2, h3⟩ := h
  exact ⟨es, clk, h2, by rw [hi.keepB m h1]; exact h3⟩
theorem RdM.later {C : Cx Try.prog} {H L : List HP} {w : World} {m : Nat} {f : Sk → Option Int} (h : RdM C.B C.w0 m f) (hi : TH.Inv C.w0 C.M (L ++ H) w) : RdM w.heap.size w m f :=
  ⟨Nat.lt_of_lt_of_le h.1 (Nat.le_trans C.hB hi.size), h.at_ hi⟩
theorem RdM.own {C : Cx Try.prog} {H H' L : List HP} {w : World} {m : Nat} {f : Sk → Option Int} (p : Pick (MapP m f) H H') (hi : TH.Inv C.w0 C.M (L ++ H) w) : RdM w.heap.size w m f := by
  obtain ⟨es, clk, h1, _, hi'⟩ := MapP.open p hi
  have hl := (hi'.look .head).1
  exact ⟨(Array.getElem?_eq_some_iff.1 hl).1, es, clk, h1, hl⟩
theorem WO.mapGet2R {C : Cx Try.prog} {E : Env} {H : List HP} {ops : Array Oper} {K : KP} {rest : List Oper} {d : Nat} {ty : TypeId} {pos : String} {af : Array Edge} {x y : Operand} {T : TypeId} {m : Nat} {f : Sk → Option Int} {k : Sk} {u : Value} (hT : Try.prog.underlying T = some (.map 93 2)) (hm : ev E x = some (.map (some m))) (hk : ev E y = some u) (hku : u = kv k) (hR : RdM C.B C.w0 m f) (hN : Nat.blt d C.N = true)
    (h : WO C ops rest K ((d, .tuple #[.int .i64 ((f k).getD 0), .bool (bl ((f k).isSome = true))]) :: E) H) : WO C ops (⟨some d, .lookup T x y true, ty, pos, af, none⟩ :: rest) K E H := by
  subst hku
  refine WO.pure _ (by simp) (fun L a w hfr hi => ?_) hN h
  obtain ⟨es, clk, ⟨kvs, he, hkn, hf⟩, hl⟩ := hR.at_ hi
  have hzr : (zeroValue 2).run Try.prog w = .ok (.int .i64 0) w := run_zeroValue (ZT.of (t := tyTab) (T := 2) rfl).zero
  rcases find77 w k es.toList kvs 0 he with ⟨j, v', e', q1, q2, _⟩ | ⟨q1, q2⟩
  · rw [← key77] at q2
    simp [execOp, hfr.eval hm, hfr.eval hk, Instr.lookup, run_underlying hT, getMap_run hl, run_check77, q2, hf k, q1, bl_eq]
  rw [← key77] at q2
  simp [execOp, hfr.eval hm, hfr.eval hk, Instr.lookup, run_underlying hT, getMap_run hl, run_check77, q2, hf k, q1, hzr, bl_eq]
/-- never -/
def nev : Int := 1048576
def atM (f : Sk → Option Int) (k : Sk) : Int := (f k).getD nev
theorem c_at (w : World) (m : Nat) (f : Sk → Option Int) (k : Sk) (hM : RdM w.heap.size w m f) : Ret Try.prog 50 [.map (some m), kv k].toArray w (.int .i64 (atM f k)) := by
  refine Ret.of mixed tyTab Try.func50 rfl rfl ?_
  have hM' : RdM (fnCx mixed tyTab Try.f50.ntmps w).B (fnCx mixed tyTab Try.f50.ntmps w).w0 m f := hM
  refine W.sreg ?_
  refine WO.boxA rfl rfl (fun b1 hb1 => ?_)
  refine WO.p rfl rfl ?_
  refine WO.nil ?_
  refine W.seq ?_
  refine W.sreg ?_
  refine WO.p rfl rfl (WO.loadA rfl rfl (Cells.own Pick.head) rfl rfl ?_)
  refine WO.mapGet2R (k := k) rfl rfl rfl rfl hM' rfl ?_
  refine WO.p rfl rfl (WO.p rfl rfl (WO.p rfl rfl (WO.p rfl rfl (WO.p rfl rfl ?_))))
  refine WO.nil ?_
  refine W.sreg ?_
  refine WO.p rfl rfl ?_
  refine WO.nil ?_
  refine W.cond_bl rfl (fun c1 => ?_) (fun c1 => ?_)
  · first
    | (exfalso; omega)
    | (refine W.sreg ?_
       refine WO.p rfl rfl (WO.p rfl rfl ?_)
       refine WO.nil ?_
       refine W.ret ?_
       refine fin.ret (Res.one rfl (RV.tmp rfl)) (congrArg (Value.int .i64) ?_)
       first | (have hs : (f k).isSome = true := (by assumption); obtain ⟨z, hz⟩ := Option.isSome_iff_exists.1 hs; unfold atM; rw [hz]; rfl) | (have hs : ¬ (f k).isSome = true := (by assumption); have hz : f k = none := (by cases hq : f k with | none => rfl | some z => exact absurd (by rw [hq]; rfl) hs); unfold atM; rw [hz]; rfl))
  first
  | (exfalso; omega)
  | (refine W.skip ?_
     refine W.sreg ?_
     refine WO.p rfl rfl ?_
     refine WO.nil ?_
     refine W.ret ?_
     refine fin.ret (Res.one rfl (RV.tmp rfl)) (congrArg (Value.int .i64) ?_)
     first | (have hs : (f k).isSome = true := (by assumption); obtain ⟨z, hz⟩ := Option.isSome_iff_exists.1 hs; unfold atM; rw [hz]; rfl) | (have hs : ¬ (f k).isSome = true := (by assumption); have hz : f k = none := (by cases hq : f k with | none => rfl | some z => exact absurd (by rw [hq]; rfl) hs); unfold atM; rw [hz]; rfl))
theorem c_least (w : World) (u : Value) (g : Int) (xs : List Int) (hX : RdF encI 1 w.heap.size w u xs) : Ret Try.prog 65 [.int .i64 g, u].toArray w (.int .i64 (xs.foldl min g)) := by
  refine Ret.of mixed tyTab Try.func65 rfl rfl ?_
  replace hX : RdF encI 1 (fnCx mixed tyTab Try.f65.ntmps w).B (fnCx mixed tyTab Try.f65.ntmps w).w0 u xs := hX
  have hle := hX.sl.le
  refine W.sreg ?_
  refine WO.p rfl rfl ?_
  refine WO.nil ?_
  refine W.seq ?_
  refine W.sreg ?_
  refine WO.p rfl rfl ?_
  refine' WO.len (n := _) rfl rfl ?hs rfl ?_
  case hs => (first | exact hX.sl)
  refine WO.p rfl rfl ?_
  refine WO.nil ?_
  refine W.block ?_
  refine W.loop (fun (i : Nat) => i ≤ xs.length)
    (fun (i : Nat) => [(0, .int .i64 ((xs.take i).foldl min g)), (7, u), (8, .int .i64 (xs.length : Int)), (9, .int .i64 (i : Int))])
    (fun (i : Nat) => [])
    (fun (i : Nat) => xs.length - i) 0
    (by omega) ⟨rfl, rfl, rfl, rfl, trivial⟩ (by repeat (first | exact Sub.nil | refine Sub.cons (by repeat (first | exact Pick.head | apply Pick.tail)) ?_)) ?_
  rintro i hi
  refine W.sreg ?_
  refine WO.p rfl rfl ?_
  refine WO.nil ?_
  refine W.seq ?_
  refine W.cond_bl rfl (fun c1 => ?_) (fun c1 => ?_)
  · first
    | (exfalso; omega)
    | (refine W.skip ?_
       refine W.seq ?_
       refine W.block ?_
       refine W.sreg ?_
       refine' WO.indexAddr (n := _) (i := _) rfl rfl rfl ?hs ?h1 rfl ?_
       case hs => (first | exact hX.sl)
       case h1 => (first | omega | (simp; omega))
       refine' WO.load (v := _) rfl rfl ?hc rfl ?_
       case hc => (first | (refine hX.cell0 (i := i) (by omega) 0 ?_; rfl))
       refine WO.p rfl rfl ?_
       refine WO.nil ?_
       refine W.region ?_
       refine WO.p rfl rfl (WO.p rfl rfl ?_)
       refine WO.min2 rfl rfl rfl ?_
       rw [← fold_take (min : Int → Int → Int) g 0 (show i < xs.length by omega)]
       refine WO.p rfl rfl ?_
       refine WO.nil ?_
       refine W.region ?_
       refine WO.ar rfl rfl rfl (by (first | (unfold in64; omega) | (unfold in64; omega))) rfl (WO.p rfl rfl ?_)
       refine WO.nil ?_
       refine' ⟨i + 1, ?hp, ?hmu, ⟨rfl, rfl, rfl, rfl, trivial⟩, ?hS⟩
       case hS => repeat (first | exact Sub.nil | refine Sub.cons (by repeat (first | exact Pick.head | apply Pick.tail)) ?_)
       case hp => omega
       case hmu => omega)
  first
  | (exfalso; omega)
  | (refine W.exit (blk_same ?_)
     refine W.sreg ?_
     refine WO.p rfl rfl (WO.p rfl rfl ?_)
     refine WO.nil ?_
     refine W.ret ?_
     refine fin.ret (Res.one rfl (RV.tmp rfl)) (congrArg (Value.int .i64) ?_)
     rw [List.take_of_length_le (by omega)])
/-- when a run can be over, if it can begin -/
def putL (b : Int) (l : List Rn) (bf ov : Int) (k : Nat) : List Int := if bgE b l bf ov k = 0 then [bgA b l bf ov k + (l.getD k rn0).mi] else []
theorem putL_len (b : Int) (l : List Rn) (bf ov : Int) (k : Nat) : (putL b l bf ov k).length ≤ 1 := by unfold putL; split <;> simp
theorem c_put {a b : Int} {v : Value} {l : List Rn} (hd : OkD a b l) (h8 : l.length ≤ 8) (p : Addr) (b1 b2 b4 : Nat) (av : Value) (xs : List Int) (bf ov : Int) (set k : Nat) (w : World) (B : Nat) (hB : B ≤ w.heap.size) (hP : PlR B w p a b v l) (hbf : bf = -1 ∨ In l bf) (hov : 0 ≤ ov ∧ ov ≤ 100000000) (hk : k < l.length) (hx : xs.length ≤ 1000) :
    CtH Try.prog 64 [.int .i64 bf, .int .i64 ov, .pointer (some ⟨b1, 0, none⟩), .pointer (some ⟨b2, 0, none⟩), .pointer (some ⟨b4, 0, none⟩)] w [pt b1 (.cells #[.pointer (some p)] 68 (0, 0)), pt b2 (.cells #[.int .i64 (set : Int), .int .i64 (k : Int)] 93 (0, 0)), pt b4 (.cells #[av] 28 (0, 0)), OwE encI 2 1 av xs] B
      (fun r Hq => ∃ x : Value, r = .tuple #[] ∧ Hq = [pt b1 (.cells #[.pointer (some p)] 68 (0, 0)), pt b2 (.cells #[.int .i64 (set : Int), .int .i64 (k : Int)] 93 (0, 0)), pt b4 (.cells #[x] 28 (0, 0)), OwE encI 2 1 x (xs ++ putL b l bf ov k)]) := by
  refine CtH.ofI (X := Value) (p := fun _ r => r = .tuple #[]) (Hx := fun x => [pt b1 (.cells #[.pointer (some p)] 68 (0, 0)), pt b2 (.cells #[.int .i64 (set : Int), .int .i64 (k : Int)] 93 (0, 0)), pt b4 (.cells #[x] 28 (0, 0)), OwE encI 2 1 x (xs ++ putL b l bf ov k)]) mixed tyTab hB Try.func64 rfl rfl (fun M hM => ?_)
  have hP' : PlR (itCx mixed tyTab Try.f64.ntmps w M B hB hM).B (itCx mixed tyTab Try.f64.ntmps w M B hB hM).w0 p a b v l := hP
  have hrk := hd.at_ hk
  unfold OkR at hrk
  refine W.sreg ?_
  refine WO.load rfl rfl (Cell.own Pick.head rfl) rfl (WO.p rfl rfl (WO.p rfl rfl (WO.fieldL rfl rfl rfl (WO.load rfl rfl (Cell.own (Pick.tail (Pick.head)) rfl) rfl ?_))))
  refine WO.callR (r := bgV b l bf ov k) rfl Try.call38 (fun L w hi => c_begin w p a b v l bf ov k (hP'.later hi) hd h8 hbf (by omega) hk) rfl ?_
  refine WO.p rfl rfl (WO.p rfl rfl (WO.p rfl rfl (WO.p rfl rfl (WO.p rfl rfl ?_))))
  refine WO.nil ?_
  refine W.sreg ?_
  refine WO.p rfl rfl (WO.p rfl rfl ?_)
  refine WO.nil ?_
  refine W.cond_bl rfl (fun c1 => ?_) (fun c1 => ?_)
  · first
    | (exfalso; omega)
    | (have hbe : bgE b l bf ov k = 0 := by assumption
       have hbn : bgN b l bf ov k = bgA b l bf ov k := if_pos hbe
       have hun := bgE_un hbe
       have hfr := bgA_fr b l bf ov k
       have hpl : putL b l bf ov k = [bgA b l bf ov k + (l.getD k rn0).mi] := if_pos hbe
       rw [hbn]
       refine W.drawD 14 [.b 0 [], .r 1 [], .b 2 [], .r 3 [], .r 4 [], .r 5 [], .b 6 [], .r 7 [], .b 8 [], .r 9 [], .r 10 [], .b 11 [], .r 12 [], .c 13 []] [] (A0 := [_]) (H0 := [_, _, _]) (.cons (Pick.tail (Pick.tail (Pick.tail .head))) (.cons .head (.cons .head (.cons .head .nil)))) (by kernel_rfl) ?_ ?_
       · exact (ALok.b (ALok.r (ALok.b (ALok.r (ALok.r (ALok.r (ALok.b (ALok.r (ALok.b (ALok.r (ALok.r (ALok.b (ALok.r (ALok.c ALok.nil))))))))))))))
       refine' DT.b rfl rfl rfl ?hq ?_
       case hq =>
         refine WO.load rfl rfl (Cell.own (Pick.tail (Pick.tail (Pick.head))) rfl) rfl ?_
         exact WO.nil ⟨rfl, rfl⟩
       refine' DT.r rfl rfl rfl ?hq ?_
       case hq =>
         refine WO.p rfl rfl ?_
         exact WO.nil ⟨rfl, rfl⟩
       refine' DT.b rfl rfl rfl ?hq ?_
       case hq =>
         refine WO.load rfl rfl (Cell.own Pick.head rfl) rfl ?_
         exact WO.nil ⟨rfl, rfl⟩
       refine' DT.r rfl rfl rfl ?hq ?_
       case hq =>
         refine WO.p rfl rfl ?_
         exact WO.nil ⟨rfl, rfl⟩
       refine' DT.r rfl rfl rfl ?hq ?_
       case hq =>
         refine WO.field0 rfl rfl rfl ?_
         exact WO.nil ⟨rfl, rfl⟩
       refine' DT.r rfl rfl rfl ?hq ?_
       case hq =>
         refine WO.field rfl rfl rfl ?_
         exact WO.nil ⟨rfl, rfl⟩
       refine' DT.b rfl rfl rfl ?hq ?_
       case hq =>
         refine' WO.load (v := _) rfl rfl ?hc rfl ?_
         case hc => (first | (refine hP'.c.cellAt (u := v) ?_; rfl))
         exact WO.nil ⟨rfl, rfl⟩
       refine' DT.r rfl rfl rfl ?hq ?_
       case hq =>
         refine WO.fieldL rfl rfl rfl ?_
         exact WO.nil ⟨rfl, rfl⟩
       refine' DT.b rfl rfl rfl ?hq ?_
       case hq =>
         refine WO.load rfl rfl (Cell.own (Pick.tail (Pick.head)) rfl) rfl ?_
         exact WO.nil ⟨rfl, rfl⟩
       refine' DT.r rfl rfl rfl ?hq ?_
       case hq =>
         refine' WO.indexAddr (n := _) (i := _) rfl rfl rfl ?hs ?h1 rfl ?_
         case hs => (first | exact hP'.r.sl)
         case h1 => (first | omega | (simp; omega))
         exact WO.nil ⟨rfl, rfl⟩
       refine' DT.r rfl rfl rfl ?hq ?_
       case hq =>
         refine WO.field0 rfl rfl rfl ?_
         exact WO.nil ⟨rfl, rfl⟩
       refine' DT.b rfl rfl rfl ?hq ?_
       case hq =>
         refine' WO.load (v := _) rfl rfl ?hc rfl ?_
         case hc => (first | (refine hP'.r.cell0 (i := k) hk rn0 ?_; rfl))
         exact WO.nil ⟨rfl, rfl⟩
       refine' DT.r rfl rfl rfl ?hq ?_
       case hq =>
         refine WO.ar rfl rfl rfl (by (first | (unfold in64; omega) | (unfold in64; omega))) rfl ?_
         exact WO.nil ⟨rfl, rfl⟩
       refine DT.c [_, _, _, _] rfl rfl rfl rfl ?_
       refine' WO.buildSl (cs := _) rfl rfl rfl rfl ?hf rfl rfl ?hl rfl (fun v1 => ?_)
       case hf => (conv => lhs; simp [-List.getD_eq_getElem?_getD, fillL, vcl, wrl, TTab.pl?.lget']) <;> rfl
       case hl => rfl
       refine WO.nil ⟨_, [_, _], rfl, rfl, (Keep.r (Keep.b (Keep.r (Keep.r (Keep.b (Keep.r (Keep.b (Keep.r (Keep.r (Keep.r (Keep.b (Keep.r (Keep.b Keep.nil))))))))))))), ?_⟩
       refine DT.nil [_, _, _, _, _] rfl ?_
       refine' WO.appendE (enc := encI) (m := 1) (xs := xs) (ys := [bgA b l bf ov k + (l.getD k rn0).mi]) encI_ok rfl rfl rfl rfl rfl (by repeat (first | exact Pick.head | apply Pick.tail)) (isSl_lit (by omega) (fun _ => ⟨_, _, rfl⟩)) (by omega) rfl (OwC.cells .head) (by omega) (by omega) rfl (fun g c => ?_)
       refine WO.store1 rfl rfl rfl (by first | rfl | assumption) (Pick.tail (Pick.tail (Pick.tail (Pick.tail (Pick.head))))) rfl ?_
       refine WO.nil ?_
       first | (have hpl : putL b l bf ov k = [bgA b l bf ov k + (l.getD k rn0).mi] := if_pos (by assumption); rw [hpl]; exact fin.normal (Res.none rfl) ⟨_, rfl, fun h hs => Sub.sat (by repeat (first | exact Sub.nil | refine Sub.cons (by repeat (first | exact Pick.head | apply Pick.tail)) ?_)) hs⟩) | (have hpl : putL b l bf ov k = [] := if_neg (by assumption); rw [hpl, List.append_nil]; exact fin.normal (Res.none rfl) ⟨_, rfl, fun h hs => Sub.sat (by repeat (first | exact Sub.nil | refine Sub.cons (by repeat (first | exact Pick.head | apply Pick.tail)) ?_)) hs⟩))
  first
  | (exfalso; omega)
  | (refine W.skip ?_
     first | (have hpl : putL b l bf ov k = [bgA b l bf ov k + (l.getD k rn0).mi] := if_pos (by assumption); rw [hpl]; exact fin.normal (Res.none rfl) ⟨_, rfl, fun h hs => Sub.sat (by repeat (first | exact Sub.nil | refine Sub.cons (by repeat (first | exact Pick.head | apply Pick.tail)) ?_)) hs⟩) | (have hpl : putL b l bf ov k = [] := if_neg (by assumption); rw [hpl, List.append_nil]; exact fin.normal (Res.none rfl) ⟨_, rfl, fun h hs => Sub.sat (by repeat (first | exact Sub.nil | refine Sub.cons (by repeat (first | exact Pick.head | apply Pick.tail)) ?_)) hs⟩))
end Go.Proofs.Ytkonhpcldomidaa
namespace Go.Proofs.Ytkonhpcldomidaa
open Go Go.TH
attribute [local irreducible] W WO pt
set_option maxRecDepth 10000
set_option maxHeartbeats 1000000
theorem fit {a : Nat} (h : a < 1000000) : Fits .i64 a := Nat.lt_of_lt_of_le h (by decide)
theorem shl1 {k : Nat} (h : k ≤ 8) : 1 <<< k ≤ 256 := by
  rw [Nat.shiftLeft_eq, Nat.one_mul]
  exact Nat.pow_le_pow_right (n := 2) (by omega) h
/-- a set without one of its runs -/
def wo (set k : Nat) : Nat := set ^^^ (set &&& (1 <<< k))
theorem wo_lt {set k : Nat} (h : set < 256) : wo set k < 256 := Nat.xor_lt_two_pow (n := 8) h (Nat.lt_of_le_of_lt Nat.and_le_left h)
/-- is a run in a set? -/
def hasB (set i : Nat) : Prop := (set >>> i) &&& 1 = 1
instance (set i : Nat) : Decidable (hasB set i) := by unfold hasB; infer_instance
theorem and1_le (n : Nat) : n &&& 1 ≤ 1 := Nat.and_le_right
section
variable (b : Int) (l : List Rn) (f : Sk → Option Int) (set k : Nat)
def fo1 (j : Nat) : List Int := if hasB (wo set k) j ∧ atM f (wo set k, j) < nev then putL b l (j : Int) (atM f (wo set k, j)) k else []
def foA : List Int := if wo set k = 0 then putL b l (-1) 0 k else []
def foT (n : Nat) : List Int := foA b l set k ++ (List.range n).flatMap (fo1 b l f set k)
/-- when a set is over at the earliest, its last run being k -/
def fow : Int := (foT b l f set k l.length).foldl min nev
end
theorem foT_succ (b : Int) (l : List Rn) (f : Sk → Option Int) (set k n : Nat) : foT b l f set k (n + 1) = foT b l f set k n ++ fo1 b l f set k n := by
  unfold foT; rw [List.range_succ, List.flatMap_append, List.append_assoc]; simp
theorem foT_len (b : Int) (l : List Rn) (f : Sk → Option Int) (set k : Nat) : ∀ n, (foT b l f set k n).length ≤ n + 1
  | 0 => by
    unfold foT foA
    split
    · have := putL_len b l (-1) 0 k; simpa using this
    simp
  | n + 1 => by
    have ih := foT_len b l f set k n
    rw [foT_succ, List.length_append]
    have : (fo1 b l f set k n).length ≤ 1 := by
      unfold fo1
      split
      · exact putL_len _ _ _ _ _
      simp
    omega
theorem c_follows {a b : Int} {v : Value} {l : List Rn} (hd : OkD a b l) (h8 : l.length ≤ 8) (w : World) (p : Addr) (m : Nat) (f : Sk → Option Int) (set k : Nat) (hP : PlR w.heap.size w p a b v l) (hM : RdM w.heap.size w m f) (hf : ∀ s, 0 ≤ atM f s) (hset : set < 256) (hk : k < l.length) :
    Ret Try.prog 53 [.pointer (some p), .map (some m), kv (set, k)].toArray w (.int .i64 (fow b l f set k)) := by
  refine Ret.of mixed tyTab Try.func53 rfl rfl ?_
  have hP' : PlR (fnCx mixed tyTab Try.f53.ntmps w).B (fnCx mixed tyTab Try.f53.ntmps w).w0 p a b v l := hP
  have hM' : RdM (fnCx mixed tyTab Try.f53.ntmps w).B (fnCx mixed tyTab Try.f53.ntmps w).w0 m f := hM
  have hsh := shl1 (k := k) (by omega)
  have hwl := wo_lt (k := k) hset
  have hnv : nev = 1048576 := rfl
  refine W.sreg ?_
  refine WO.box1 rfl (by first | rfl | assumption) rfl (fun b1 hb1 => ?_)
  refine WO.boxA rfl rfl (fun b2 hb2 => ?_)
  refine WO.p rfl rfl ?_
  refine WO.nil ?_
  refine W.seq ?_
  refine W.drawD 5 [.r 0 [], .b 1 [], .r 2 [], .b 3 [], .r 4 []] [] (A0 := []) (Sub.refl _) (by kernel_rfl) ?_ ?_
  · exact (ALok.r (ALok.b (ALok.r (ALok.b (ALok.r ALok.nil)))))
  refine' DT.r rfl rfl rfl ?hq ?_
  case hq =>
    refine WO.field0 rfl rfl rfl ?_
    exact WO.nil ⟨rfl, rfl⟩
  refine' DT.b rfl rfl rfl ?hq ?_
  case hq =>
    refine WO.load rfl rfl (Cell.own Pick.head rfl) rfl ?_
    exact WO.nil ⟨rfl, rfl⟩
  refine' DT.r rfl rfl rfl ?hq ?_
  case hq =>
    refine WO.fieldL rfl rfl rfl ?_
    exact WO.nil ⟨rfl, rfl⟩
  refine' DT.b rfl rfl rfl ?hq ?_
  case hq =>
    refine WO.load rfl rfl (Cell.own Pick.head rfl) rfl ?_
    exact WO.nil ⟨rfl, rfl⟩
  refine' DT.r rfl rfl rfl ?hq ?_
  case hq =>
    refine WO.shlN (a := 1) (s := k) rfl rfl (by show k ≤ 64; omega) (fit (by omega)) rfl ?_
    exact WO.nil ⟨rfl, rfl⟩
  refine DT.nil [_, _] rfl ?_
  refine WO.andNotN rfl rfl (fit (by omega)) (fit (by omega)) rfl ?_
  rw [show set ^^^ (set &&& (1 <<< k)) = wo set k from rfl]
  refine WO.p rfl rfl ?_
  refine WO.nil ?_
  refine W.sreg ?_
  refine WO.alloc rfl rfl rfl (fun b3 hb3 => ?_)
  refine WO.nil ?_
  refine W.sreg ?_
  refine WO.p rfl rfl (WO.p rfl rfl ?_)
  refine WO.nil ?_
  refine W.seq ?_
  refine W.chg (owNil (enc := encI) (e := 2) (sz := 1)) ?_
  refine W.sreg ?_
  refine WO.p rfl rfl (WO.p rfl rfl ?_)
  refine WO.nil ?_
  refine W.cond_bl rfl (fun c1 => ?_) (fun c1 => ?_)
  · first
    | (exfalso; omega)
    | (refine W.region ?_
       refine WO.p rfl rfl ?_
       refine WO.callCH (first := []) (captured := [.pointer (some ⟨b1, 0, none⟩), .pointer (some ⟨b2, 0, none⟩), .pointer (some ⟨b3, 0, none⟩)]) (Hp := [pt b1 (.cells #[.pointer (some p)] 68 (0, 0)), pt b2 (.cells #[.int .i64 (set : Int), .int .i64 (k : Int)] 93 (0, 0)), pt b3 (.cells #[(.slice none 0 0)] 28 (0, 0)), OwE encI 2 1 (.slice none 0 0) ([] : List Int)]) (Post := fun r Hq => ∃ x : Value, r = .tuple #[] ∧ Hq = [pt b1 (.cells #[.pointer (some p)] 68 (0, 0)), pt b2 (.cells #[.int .i64 (set : Int), .int .i64 (k : Int)] 93 (0, 0)), pt b3 (.cells #[x] 28 (0, 0)), OwE encI 2 1 x ([] ++ putL b l (-1) 0 k)]) rfl rfl Try.call64 (.cons (by repeat (first | exact Pick.head | apply Pick.tail)) (.cons (by repeat (first | exact Pick.head | apply Pick.tail)) (.cons (by repeat (first | exact Pick.head | apply Pick.tail)) (.cons (by repeat (first | exact Pick.head | apply Pick.tail)) (Sub.refl _))))) (fun L u hi hB' => c_put hd h8 p b1 b2 b3 _ [] (-1) 0 set k u _ hB' ⟨hP'.c.agree hi.keepB, hP'.r.agree hi.keepB⟩ (.inl rfl) (by omega) hk (by simp)) rfl ?_
       rintro _ _ ⟨av1, rfl, rfl⟩
       refine WO.nil ?_
       refine W.seq ?_
       first | rw [show [] ++ putL b l (-1) 0 k = foT b l f set k 0 by unfold foT foA; rw [if_pos (by omega)]; simp] | rw [show OwE encI 2 1 (.slice none 0 0) ([] : List Int) = OwE encI 2 1 (.slice none 0 0) (foT b l f set k 0) by unfold foT foA; rw [if_neg (by omega)]; simp]
       refine W.sreg ?_
       refine WO.load rfl rfl (Cell.own Pick.head rfl) rfl (WO.p rfl rfl (WO.field0 rfl rfl rfl (WO.field rfl rfl rfl ?_)))
       refine' WO.load (v := _) rfl rfl ?hc rfl ?_
       case hc => (first | (refine hP'.c.cellAt (u := v) ?_; rfl))
       refine' WO.len (n := _) rfl rfl ?hs rfl ?_
       case hs => (first | exact hP'.r.sl)
       refine WO.p rfl rfl ?_
       refine WO.nil ?_
       refine W.block ?_
       refine W.loop2 (fun (j : Nat) (av : Value) => j ≤ l.length)
         (fun (j : Nat) (av : Value) => [(1, .map (some m)), (7, .int .i64 ((wo set k : Nat) : Int)), (8, .pointer (some ⟨b3, 0, none⟩)), (9, .func (.func 64) #[] #[.pointer (some ⟨b1, 0, none⟩), .pointer (some ⟨b2, 0, none⟩), .pointer (some ⟨b3, 0, none⟩)]), (27, v), (28, .int .i64 (l.length : Int)), (29, .int .i64 (j : Int))])
         (fun (j : Nat) (av : Value) => [pt b1 (.cells #[.pointer (some p)] 68 (0, 0)), pt b2 (.cells #[.int .i64 (set : Int), .int .i64 (k : Int)] 93 (0, 0)), pt b3 (.cells #[av] 28 (0, 0)), OwE encI 2 1 av (foT b l f set k j)])
         (fun (j : Nat) (av : Value) => l.length - j) 0 _
         (by omega) ⟨rfl, rfl, rfl, rfl, rfl, rfl, rfl, trivial⟩ (by repeat (first | exact Sub.nil | refine Sub.cons (by repeat (first | exact Pick.head | apply Pick.tail)) ?_)) ?_
       rintro j av hj
       refine W.sreg ?_
       refine WO.p rfl rfl ?_
       refine WO.nil ?_
       refine W.seq ?_
       refine W.cond_bl rfl (fun c2 => ?_) (fun c2 => ?_)
       · first
         | (exfalso; omega)
         | (refine W.skip ?_
            refine W.seq ?_
            refine W.block ?_
            refine W.sreg ?_
            refine WO.p rfl rfl (WO.p rfl rfl ?_)
            refine WO.nil ?_
            have hjl : j < l.length := by omega
            have hft := foT_len b l f set k j
            have hf0 := hf (wo set k, j)
            have h1 := and1_le (wo set k >>> j)
            refine W.sreg ?_
            refine WO.p rfl rfl (WO.p rfl rfl (WO.p rfl rfl ?_))
            refine' WO.build (cs := _) rfl rfl rfl ?hf rfl ?_
            case hf => (conv => lhs; simp [-List.getD_eq_getElem?_getD, fillL, vcl, wrl, TTab.pl?.lget']) <;> rfl
            refine WO.callR rfl Try.call50 (fun L w hi => c_at w m f (wo set k, j) (hM'.later hi)) rfl ?_
            refine WO.p rfl rfl ?_
            refine WO.nil ?_
            refine W.sreg ?_
            refine WO.p rfl rfl (WO.p rfl rfl ?_)
            refine WO.shrN rfl rfl (by show j ≤ 64; omega) rfl ?_
            refine WO.andN (b := 1) rfl rfl (Fits.shr (fit (by omega))) (fit (by omega)) rfl ?_
            refine WO.p rfl rfl (WO.p rfl rfl ?_)
            refine WO.guard_bl rfl rfl (fun c3 => ?_) (fun c3 => ?_)
            · first
              | (exfalso; omega)
              | (refine WO.pg rfl rfl rfl (WO.pg rfl rfl rfl (WO.p rfl rfl ?_))
                 refine WO.nil ?_
                 refine W.cond_bl rfl (fun c4 => ?_) (fun c4 => ?_)
                 · first
                   | (exfalso; omega)
                   | (refine W.region ?_
                      refine WO.p rfl rfl (WO.p rfl rfl (WO.p rfl rfl ?_))
                      refine WO.callCH (first := []) (captured := [.pointer (some ⟨b1, 0, none⟩), .pointer (some ⟨b2, 0, none⟩), .pointer (some ⟨b3, 0, none⟩)]) (Hp := [pt b1 (.cells #[.pointer (some p)] 68 (0, 0)), pt b2 (.cells #[.int .i64 (set : Int), .int .i64 (k : Int)] 93 (0, 0)), pt b3 (.cells #[av] 28 (0, 0)), OwE encI 2 1 av (foT b l f set k j)]) (Post := fun r Hq => ∃ x : Value, r = .tuple #[] ∧ Hq = [pt b1 (.cells #[.pointer (some p)] 68 (0, 0)), pt b2 (.cells #[.int .i64 (set : Int), .int .i64 (k : Int)] 93 (0, 0)), pt b3 (.cells #[x] 28 (0, 0)), OwE encI 2 1 x (foT b l f set k j ++ putL b l (j : Int) (atM f (wo set k, j)) k)]) rfl rfl Try.call64 (.cons (by repeat (first | exact Pick.head | apply Pick.tail)) (.cons (by repeat (first | exact Pick.head | apply Pick.tail)) (.cons (by repeat (first | exact Pick.head | apply Pick.tail)) (.cons (by repeat (first | exact Pick.head | apply Pick.tail)) (Sub.refl _))))) (fun L u hi hB' => c_put hd h8 p b1 b2 b3 _ (foT b l f set k j) (j : Int) _ set k u _ hB' ⟨hP'.c.agree hi.keepB, hP'.r.agree hi.keepB⟩ (.inr (by unfold In; omega)) (by omega) hk (by omega)) rfl ?_
                      rintro _ _ ⟨av1, rfl, rfl⟩
                      refine WO.nil ?_
                      first | rw [show foT b l f set k j ++ putL b l (j : Int) (atM f (wo set k, j)) k = foT b l f set k (j + 1) by rw [foT_succ]; unfold fo1; rw [if_pos ⟨by unfold hasB; omega, by omega⟩]] | rw [show foT b l f set k j = foT b l f set k (j + 1) by rw [foT_succ]; unfold fo1; rw [if_neg (fun h => by have h1 := h.1; unfold hasB at h1; omega)]; simp]
                      refine W.region ?_
                      refine WO.ar rfl rfl rfl (by (first | (unfold in64; omega) | (unfold in64; omega))) rfl (WO.p rfl rfl ?_)
                      refine WO.nil ?_
                      refine' ⟨j + 1, _, ?hp, ?hmu, ⟨rfl, rfl, rfl, rfl, rfl, rfl, rfl, trivial⟩, ?hS⟩
                      case hS => repeat (first | exact Sub.nil | refine Sub.cons (by repeat (first | exact Pick.head | apply Pick.tail)) ?_)
                      case hp => omega
                      case hmu => omega)
                 first
                 | (exfalso; omega)
                 | (refine W.skip ?_
                    first | rw [show foT b l f set k j ++ putL b l (j : Int) (atM f (wo set k, j)) k = foT b l f set k (j + 1) by rw [foT_succ]; unfold fo1; rw [if_pos ⟨by unfold hasB; omega, by omega⟩]] | rw [show foT b l f set k j = foT b l f set k (j + 1) by rw [foT_succ]; unfold fo1; rw [if_neg (fun h => by have h1 := h.1; unfold hasB at h1; omega)]; simp]
                    refine W.region ?_
                    refine WO.ar rfl rfl rfl (by (first | (unfold in64; omega) | (unfold in64; omega))) rfl (WO.p rfl rfl ?_)
                    refine WO.nil ?_
                    refine' ⟨j + 1, _, ?hp, ?hmu, ⟨rfl, rfl, rfl, rfl, rfl, rfl, rfl, trivial⟩, ?hS⟩
                    case hS => repeat (first | exact Sub.nil | refine Sub.cons (by repeat (first | exact Pick.head | apply Pick.tail)) ?_)
                    case hp => omega
                    case hmu => omega))
            first
            | (exfalso; omega)
            | (refine WO.no rfl rfl (WO.no rfl rfl (WO.p rfl rfl ?_))
               refine WO.nil ?_
               refine W.cond_f rfl ?_
               refine W.skip ?_
               first | rw [show foT b l f set k j ++ putL b l (j : Int) (atM f (wo set k, j)) k = foT b l f set k (j + 1) by rw [foT_succ]; unfold fo1; rw [if_pos ⟨by unfold hasB; omega, by omega⟩]] | rw [show foT b l f set k j = foT b l f set k (j + 1) by rw [foT_succ]; unfold fo1; rw [if_neg (fun h => by have h1 := h.1; unfold hasB at h1; omega)]; simp]
               refine W.region ?_
               refine WO.ar rfl rfl rfl (by (first | (unfold in64; omega) | (unfold in64; omega))) rfl (WO.p rfl rfl ?_)
               refine WO.nil ?_
               refine' ⟨j + 1, _, ?hp, ?hmu, ⟨rfl, rfl, rfl, rfl, rfl, rfl, rfl, trivial⟩, ?hS⟩
               case hS => repeat (first | exact Sub.nil | refine Sub.cons (by repeat (first | exact Pick.head | apply Pick.tail)) ?_)
               case hp => omega
               case hmu => omega))
       first
       | (exfalso; omega)
       | (refine W.exit (blk_same ?_)
          refine W.sreg ?_
          refine WO.load rfl rfl (Cell.own (Pick.tail (Pick.tail (Pick.head))) rfl) rfl ?_
          refine WO.callR rfl Try.call65 (fun L w hi => c_least w _ nev (foT b l f set k j) (RdF.of_ow (e := 2) encI_ok (by repeat (first | exact Pick.head | apply Pick.tail)) hi)) rfl ?_
          refine WO.p rfl rfl ?_
          refine WO.nil ?_
          refine W.ret ?_
          refine fin.ret (Res.one rfl (RV.tmp rfl)) (congrArg (Value.int .i64) ?_)
          rw [show j = l.length by omega]; rfl))
  first
  | (exfalso; omega)
  | (refine W.skip ?_
     refine W.seq ?_
     first | rw [show [] ++ putL b l (-1) 0 k = foT b l f set k 0 by unfold foT foA; rw [if_pos (by omega)]; simp] | rw [show OwE encI 2 1 (.slice none 0 0) ([] : List Int) = OwE encI 2 1 (.slice none 0 0) (foT b l f set k 0) by unfold foT foA; rw [if_neg (by omega)]; simp]
     refine W.sreg ?_
     refine WO.load rfl rfl (Cell.own (Pick.tail (Pick.tail (Pick.tail (Pick.head)))) rfl) rfl (WO.p rfl rfl (WO.field0 rfl rfl rfl (WO.field rfl rfl rfl ?_)))
     refine' WO.load (v := _) rfl rfl ?hc rfl ?_
     case hc => (first | (refine hP'.c.cellAt (u := v) ?_; rfl))
     refine' WO.len (n := _) rfl rfl ?hs rfl ?_
     case hs => (first | exact hP'.r.sl)
     refine WO.p rfl rfl ?_
     refine WO.nil ?_
     refine W.block ?_
     refine W.loop2 (fun (j : Nat) (av : Value) => j ≤ l.length)
       (fun (j : Nat) (av : Value) => [(1, .map (some m)), (7, .int .i64 ((wo set k : Nat) : Int)), (8, .pointer (some ⟨b3, 0, none⟩)), (9, .func (.func 64) #[] #[.pointer (some ⟨b1, 0, none⟩), .pointer (some ⟨b2, 0, none⟩), .pointer (some ⟨b3, 0, none⟩)]), (27, v), (28, .int .i64 (l.length : Int)), (29, .int .i64 (j : Int))])
       (fun (j : Nat) (av : Value) => [pt b1 (.cells #[.pointer (some p)] 68 (0, 0)), pt b2 (.cells #[.int .i64 (set : Int), .int .i64 (k : Int)] 93 (0, 0)), pt b3 (.cells #[av] 28 (0, 0)), OwE encI 2 1 av (foT b l f set k j)])
       (fun (j : Nat) (av : Value) => l.length - j) 0 _
       (by omega) ⟨rfl, rfl, rfl, rfl, rfl, rfl, rfl, trivial⟩ (by repeat (first | exact Sub.nil | refine Sub.cons (by repeat (first | exact Pick.head | apply Pick.tail)) ?_)) ?_
     rintro j av hj
     refine W.sreg ?_
     refine WO.p rfl rfl ?_
     refine WO.nil ?_
     refine W.seq ?_
     refine W.cond_bl rfl (fun c2 => ?_) (fun c2 => ?_)
     · first
       | (exfalso; omega)
       | (refine W.skip ?_
          refine W.seq ?_
          refine W.block ?_
          refine W.sreg ?_
          refine WO.p rfl rfl (WO.p rfl rfl ?_)
          refine WO.nil ?_
          have hjl : j < l.length := by omega
          have hft := foT_len b l f set k j
          have hf0 := hf (wo set k, j)
          have h1 := and1_le (wo set k >>> j)
          refine W.sreg ?_
          refine WO.p rfl rfl (WO.p rfl rfl (WO.p rfl rfl ?_))
          refine' WO.build (cs := _) rfl rfl rfl ?hf rfl ?_
          case hf => (conv => lhs; simp [-List.getD_eq_getElem?_getD, fillL, vcl, wrl, TTab.pl?.lget']) <;> rfl
          refine WO.callR rfl Try.call50 (fun L w hi => c_at w m f (wo set k, j) (hM'.later hi)) rfl ?_
          refine WO.p rfl rfl ?_
          refine WO.nil ?_
          refine W.sreg ?_
          refine WO.p rfl rfl (WO.p rfl rfl ?_)
          refine WO.shrN rfl rfl (by show j ≤ 64; omega) rfl ?_
          refine WO.andN (b := 1) rfl rfl (Fits.shr (fit (by omega))) (fit (by omega)) rfl ?_
          refine WO.p rfl rfl (WO.p rfl rfl ?_)
          refine WO.guard_bl rfl rfl (fun c3 => ?_) (fun c3 => ?_)
          · first
            | (exfalso; omega)
            | (refine WO.pg rfl rfl rfl (WO.pg rfl rfl rfl (WO.p rfl rfl ?_))
               refine WO.nil ?_
               refine W.cond_bl rfl (fun c4 => ?_) (fun c4 => ?_)
               · first
                 | (exfalso; omega)
                 | (refine W.region ?_
                    refine WO.p rfl rfl (WO.p rfl rfl (WO.p rfl rfl ?_))
                    refine WO.callCH (first := []) (captured := [.pointer (some ⟨b1, 0, none⟩), .pointer (some ⟨b2, 0, none⟩), .pointer (some ⟨b3, 0, none⟩)]) (Hp := [pt b1 (.cells #[.pointer (some p)] 68 (0, 0)), pt b2 (.cells #[.int .i64 (set : Int), .int .i64 (k : Int)] 93 (0, 0)), pt b3 (.cells #[av] 28 (0, 0)), OwE encI 2 1 av (foT b l f set k j)]) (Post := fun r Hq => ∃ x : Value, r = .tuple #[] ∧ Hq = [pt b1 (.cells #[.pointer (some p)] 68 (0, 0)), pt b2 (.cells #[.int .i64 (set : Int), .int .i64 (k : Int)] 93 (0, 0)), pt b3 (.cells #[x] 28 (0, 0)), OwE encI 2 1 x (foT b l f set k j ++ putL b l (j : Int) (atM f (wo set k, j)) k)]) rfl rfl Try.call64 (.cons (by repeat (first | exact Pick.head | apply Pick.tail)) (.cons (by repeat (first | exact Pick.head | apply Pick.tail)) (.cons (by repeat (first | exact Pick.head | apply Pick.tail)) (.cons (by repeat (first | exact Pick.head | apply Pick.tail)) (Sub.refl _))))) (fun L u hi hB' => c_put hd h8 p b1 b2 b3 _ (foT b l f set k j) (j : Int) _ set k u _ hB' ⟨hP'.c.agree hi.keepB, hP'.r.agree hi.keepB⟩ (.inr (by unfold In; omega)) (by omega) hk (by omega)) rfl ?_
                    rintro _ _ ⟨av1, rfl, rfl⟩
                    refine WO.nil ?_
                    first | rw [show foT b l f set k j ++ putL b l (j : Int) (atM f (wo set k, j)) k = foT b l f set k (j + 1) by rw [foT_succ]; unfold fo1; rw [if_pos ⟨by unfold hasB; omega, by omega⟩]] | rw [show foT b l f set k j = foT b l f set k (j + 1) by rw [foT_succ]; unfold fo1; rw [if_neg (fun h => by have h1 := h.1; unfold hasB at h1; omega)]; simp]
                    refine W.region ?_
                    refine WO.ar rfl rfl rfl (by (first | (unfold in64; omega) | (unfold in64; omega))) rfl (WO.p rfl rfl ?_)
                    refine WO.nil ?_
                    refine' ⟨j + 1, _, ?hp, ?hmu, ⟨rfl, rfl, rfl, rfl, rfl, rfl, rfl, trivial⟩, ?hS⟩
                    case hS => repeat (first | exact Sub.nil | refine Sub.cons (by repeat (first | exact Pick.head | apply Pick.tail)) ?_)
                    case hp => omega
                    case hmu => omega)
               first
               | (exfalso; omega)
               | (refine W.skip ?_
                  first | rw [show foT b l f set k j ++ putL b l (j : Int) (atM f (wo set k, j)) k = foT b l f set k (j + 1) by rw [foT_succ]; unfold fo1; rw [if_pos ⟨by unfold hasB; omega, by omega⟩]] | rw [show foT b l f set k j = foT b l f set k (j + 1) by rw [foT_succ]; unfold fo1; rw [if_neg (fun h => by have h1 := h.1; unfold hasB at h1; omega)]; simp]
                  refine W.region ?_
                  refine WO.ar rfl rfl rfl (by (first | (unfold in64; omega) | (unfold in64; omega))) rfl (WO.p rfl rfl ?_)
                  refine WO.nil ?_
                  refine' ⟨j + 1, _, ?hp, ?hmu, ⟨rfl, rfl, rfl, rfl, rfl, rfl, rfl, trivial⟩, ?hS⟩
                  case hS => repeat (first | exact Sub.nil | refine Sub.cons (by repeat (first | exact Pick.head | apply Pick.tail)) ?_)
                  case hp => omega
                  case hmu => omega))
          first
          | (exfalso; omega)
          | (refine WO.no rfl rfl (WO.no rfl rfl (WO.p rfl rfl ?_))
             refine WO.nil ?_
             refine W.cond_f rfl ?_
             refine W.skip ?_
             first | rw [show foT b l f set k j ++ putL b l (j : Int) (atM f (wo set k, j)) k = foT b l f set k (j + 1) by rw [foT_succ]; unfold fo1; rw [if_pos ⟨by unfold hasB; omega, by omega⟩]] | rw [show foT b l f set k j = foT b l f set k (j + 1) by rw [foT_succ]; unfold fo1; rw [if_neg (fun h => by have h1 := h.1; unfold hasB at h1; omega)]; simp]
             refine W.region ?_
             refine WO.ar rfl rfl rfl (by (first | (unfold in64; omega) | (unfold in64; omega))) rfl (WO.p rfl rfl ?_)
             refine WO.nil ?_
             refine' ⟨j + 1, _, ?hp, ?hmu, ⟨rfl, rfl, rfl, rfl, rfl, rfl, rfl, trivial⟩, ?hS⟩
             case hS => repeat (first | exact Sub.nil | refine Sub.cons (by repeat (first | exact Pick.head | apply Pick.tail)) ?_)
             case hp => omega
             case hmu => omega))
     first
     | (exfalso; omega)
     | (refine W.exit (blk_same ?_)
        refine W.sreg ?_
        refine WO.load rfl rfl (Cell.own (Pick.tail (Pick.tail (Pick.head))) rfl) rfl ?_
        refine WO.callR rfl Try.call65 (fun L w hi => c_least w _ nev (foT b l f set k j) (RdF.of_ow (e := 2) encI_ok (by repeat (first | exact Pick.head | apply Pick.tail)) hi)) rfl ?_
        refine WO.p rfl rfl ?_
        refine WO.nil ?_
        refine W.ret ?_
        refine fin.ret (Res.one rfl (RV.tmp rfl)) (congrArg (Value.int .i64) ?_)
        rw [show j = l.length by omega]; rfl))
end Go.Proofs.Ytkonhpcldomidaa
