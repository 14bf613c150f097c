/-
  What is proved here: the minutes of an order. Conditions: none; each contract states its own.
  What is proved here: the energy with which runs truly begin. Conditions: none; each contract states its own.
  What is proved here: plain: all orders that can be kept. Conditions: none; each theorem states its own.
  What is proved here: the best order. Conditions: none; each contract states its own.
-/
import Derived.Test.YtkonhpcldomidaaM4
set_option linter.unusedVariables false
set_option linter.unusedSimpArgs false
namespace Go.Proofs.Ytkonhpcldomidaa
open Go Go.TH
attribute [local irreducible] W WO pt
set_option maxRecDepth 10000
set_option maxHeartbeats 1000000
section
variable (b : Int) (l : List Rn) (o : List Int)
/-- the run before, and when it is over -/
def stK : Nat → Int × Int
  | 0 => (-1, 0)
  | k + 1 => (o.getD k 0, bgA b l (stK k).1 (stK k).2 (o.getD k 0).toNat + (l.getD (o.getD k 0).toNat rn0).mi)
def atK (k : Nat) : Int := bgA b l (stK b l o k).1 (stK b l o k).2 (o.getD k 0).toNat
def erK (k : Nat) : Int := bgE b l (stK b l o k).1 (stK b l o k).2 (o.getD k 0).toNat
/-- why an order cannot be kept -/
def tmE : Int := if fi (fun k => erK b l o k ≠ 0) o.length < o.length then erK b l o (fi (fun k => erK b l o k ≠ 0) o.length) else 0
def tmA (n : Nat) : List Int := (List.range n).map (atK b l o)
def tmL : List Int := if tmE b l o = 0 then tmA b l o o.length else []
end
theorem tmA_len (b : Int) (l : List Rn) (o : List Int) (n : Nat) : (tmA b l o n).length = n := by simp [tmA]
theorem tmA_succ (b : Int) (l : List Rn) (o : List Int) (n : Nat) : tmA b l o (n + 1) = tmA b l o n ++ [atK b l o n] := by unfold tmA; rw [List.range_succ, List.map_append]; rfl
theorem tmA_get {b : Int} {l : List Rn} {o : List Int} {n k : Nat} (h : k < n) : (tmA b l o n).getD k 0 = atK b l o k := by
  unfold tmA; rw [List.getD_eq_getElem?_getD, List.getElem?_map, List.getElem?_range h]; rfl
theorem tmE_of {b : Int} {l : List Rn} {o : List Int} {i : Nat} (hi : i < o.length) (h : ∀ j, j < i → erK b l o j = 0) (e : erK b l o i ≠ 0) : tmE b l o = erK b l o i := by
  have e1 : fi (fun k => erK b l o k ≠ 0) o.length = i := fi_eq (by omega) (fun _ => e) (fun j hj => by have := h j hj; omega)
  unfold tmE; rw [e1, if_pos hi]
theorem tmE_0 {b : Int} {l : List Rn} {o : List Int} : tmE b l o = 0 ↔ ∀ j, j < o.length → erK b l o j = 0 := by
  obtain ⟨h1, h2, h3⟩ := fi_spec (fun k => erK b l o k ≠ 0) o.length
  constructor
  · intro h j hj
    unfold tmE at h
    split at h
    · exact absurd h (h2 (by assumption))
    exact Classical.not_not.1 (h3 j (by omega))
  intro h
  have e1 : fi (fun k => erK b l o k ≠ 0) o.length = o.length := fi_eq (by omega) (fun h => by omega) (fun j hj => by have := h j hj; omega)
  unfold tmE; rw [e1, if_neg (by omega)]
theorem tmL_0 {b : Int} {l : List Rn} {o : List Int} (h : tmE b l o = 0) : tmL b l o = tmA b l o o.length := if_pos h
theorem tmL_ne {b : Int} {l : List Rn} {o : List Int} (h : tmE b l o ≠ 0) : tmL b l o = [] := if_neg h
theorem bgE_un {b : Int} {l : List Rn} {bf ov : Int} {k : Nat} (h : bgE b l bf ov k = 0) : bgA b l bf ov k ≤ (l.getD k rn0).un ∧ ¬ (0 ≤ bf ∧ wOf b l bf.toNat k = -1) := by
  unfold bgE at h
  split at h
  · omega
  split at h
  · omega
  exact ⟨by omega, by assumption⟩
theorem bgA_fr (b : Int) (l : List Rn) (bf ov : Int) (k : Nat) : (l.getD k rn0).fr ≤ bgA b l bf ov k := by unfold bgA; split <;> omega
theorem atK_bd {a b : Int} {l : List Rn} {o : List Int} (hd : OkD a b l) (hv : ∀ x ∈ o, In l x) {k : Nat} (hk : k < o.length) (h : erK b l o k = 0) : 0 ≤ atK b l o k ∧ atK b l o k ≤ 1000 := by
  have h1 := bgE_un h
  have h2 := bgA_fr b l (stK b l o k).1 (stK b l o k).2 (o.getD k 0).toNat
  have h3 := hv _ (getD_mem hk 0)
  unfold In at h3
  have h4 := hd.at_ (i := (o.getD k 0).toNat) (by omega)
  unfold OkR at h4
  unfold atK
  omega
theorem stK_ok {a b : Int} {l : List Rn} {o : List Int} (hd : OkD a b l) (hv : ∀ x ∈ o, In l x) : ∀ {k : Nat}, k ≤ o.length → (∀ j, j < k → erK b l o j = 0) → ((stK b l o k).1 = -1 ∨ In l (stK b l o k).1) ∧ 0 ≤ (stK b l o k).2 ∧ (stK b l o k).2 ≤ 2000
  | 0, _, _ => ⟨.inl rfl, by simp [stK], by simp [stK]⟩
  | k + 1, hk, h => by
    have h1 := atK_bd hd hv (show k < o.length by omega) (h k (by omega))
    have h3 := hv _ (getD_mem (show k < o.length by omega) 0)
    have h4 := hd.at_ (i := (o.getD k 0).toNat) (by unfold In at h3; omega)
    unfold OkR at h4
    refine ⟨.inr h3, ?_, ?_⟩
    · show 0 ≤ atK b l o k + _; omega
    show atK b l o k + _ ≤ 2000; omega
theorem atK_0 (b : Int) (l : List Rn) (o : List Int) : atK b l o 0 = (l.getD (o.getD 0 0).toNat rn0).fr := bgA_n (by simp [stK])
theorem atK_S {b : Int} {l : List Rn} {o : List Int} {k y x : Nat} (h1 : o.getD k 0 = (y : Int)) (h2 : o.getD (k + 1) 0 = (x : Int)) : atK b l o (k + 1) = max (l.getD x rn0).fr (atK b l o k + (l.getD y rn0).mi + wOf b l y x) := by
  show bgA b l (o.getD k 0) (bgA b l (stK b l o k).1 (stK b l o k).2 (o.getD k 0).toNat + (l.getD (o.getD k 0).toNat rn0).mi) (o.getD (k + 1) 0).toNat = _
  rw [show bgA b l (stK b l o k).1 (stK b l o k).2 (o.getD k 0).toNat = atK b l o k from rfl, h1, h2, bgA_i, Int.toNat_natCast, Int.toNat_natCast]
theorem erK_12 {b : Int} {l : List Rn} {o : List Int} {k x : Nat} (h2 : o.getD k 0 = (x : Int)) (hw : ¬ (0 ≤ (stK b l o k).1 ∧ wOf b l (stK b l o k).1.toNat x = -1)) (h : (l.getD x rn0).un < atK b l o k) : erK b l o k = 12 := by
  unfold erK bgE
  unfold atK at h
  rw [h2, Int.toNat_natCast] at h ⊢
  rw [if_neg hw, if_pos h]
theorem erK_ok {b : Int} {l : List Rn} {o : List Int} {k x : Nat} (h2 : o.getD k 0 = (x : Int)) (hw : ¬ (0 ≤ (stK b l o k).1 ∧ wOf b l (stK b l o k).1.toNat x = -1)) (h : ¬ (l.getD x rn0).un < atK b l o k) : erK b l o k = 0 := by
  unfold erK bgE
  unfold atK at h
  rw [h2, Int.toNat_natCast] at h ⊢
  rw [if_neg hw, if_neg h]
theorem erK_18 {b : Int} {l : List Rn} {o : List Int} {k x y : Nat} (h1 : o.getD k 0 = (y : Int)) (h2 : o.getD (k + 1) 0 = (x : Int)) (h : wOf b l y x = -1) : erK b l o (k + 1) = 18 := by
  show bgE b l (o.getD k 0) _ (o.getD (k + 1) 0).toNat = 18
  unfold bgE
  rw [h1, h2, Int.toNat_natCast, Int.toNat_natCast, if_pos ⟨by omega, h⟩]
theorem noW_0 {b : Int} {l : List Rn} {o : List Int} {x : Nat} : ¬ (0 ≤ (stK b l o 0).1 ∧ wOf b l (stK b l o 0).1.toNat x = -1) := by simp [stK]
theorem noW_S {b : Int} {l : List Rn} {o : List Int} {k x y : Nat} (h1 : o.getD k 0 = (y : Int)) (h : ¬ wOf b l y x = -1) : ¬ (0 ≤ (stK b l o (k + 1)).1 ∧ wOf b l (stK b l o (k + 1)).1.toNat x = -1) := by
  show ¬ (0 ≤ o.getD k 0 ∧ wOf b l (o.getD k 0).toNat x = -1)
  rw [h1, Int.toNat_natCast]; exact fun q => h q.2
theorem in_nat {l : List Rn} {x : Int} (h : In l x) : ∃ n : Nat, x = (n : Int) ∧ n < l.length := by unfold In at h; exact ⟨x.toNat, by omega, by omega⟩
theorem owE_cellS {C : Cx Try.prog} {H : List HP} {e : Nat} {v : Value} {xs : List Int} {i j : Nat} {x : Int} (s : Sub H [OwE encI e 1 v xs]) (hi : i < xs.length) (hx : x = xs.getD i 0) (hj : j = i) : Cell C H (elt v j 1) (.int .i64 x) := by
  subst hj
  cases s with
  | cons p _ => exact OwE.cell0 encI_ok p hi 0 (by rw [hx]; rfl)
theorem isSl_lit {a0 : Option Addr} {n c : Nat} (h : n ≤ 9223372036854775807) (h2 : 0 < n → ∃ b o, a0 = some ⟨b, o, none⟩) : IsSl (.slice a0 n c) n := ⟨h, a0, c, rfl, h2⟩
theorem ref_times (w : World) (v u : Value) (a b : Int) (l : List Rn) (o : List Int) (hR : RdF encR 6 w.heap.size w v l) (hX : RdF encI 1 w.heap.size w u o) (hd : OkD a b l) (hv : ∀ x ∈ o, In l x) (h100 : o.length ≤ 1000) : Ct Try.prog 39 [dayV a b v, u].toArray w fun r w' => ∃ Hq, (∃ x : Value, r = .tuple #[x, .int .i64 (tmE b l o)] ∧ Hq = [OwE encI 2 1 x (tmL b l o)]) ∧ Inv w [] Hq w' := by
  refine Ct.ofI (X := Value) (p := fun x r => r = .tuple #[x, .int .i64 (tmE b l o)]) (Hx := fun x => [OwE encI 2 1 x (tmL b l o)]) mixed tyTab Try.func39 rfl rfl ?_
  replace hR : RdF encR 6 (fnCx mixed tyTab Try.f39.ntmps w).B (fnCx mixed tyTab Try.f39.ntmps w).w0 v l := hR
  replace hX : RdF encI 1 (fnCx mixed tyTab Try.f39.ntmps w).B (fnCx mixed tyTab Try.f39.ntmps w).w0 u o := hX
  have ho := hR.sl.oc
  have hle := hR.sl.le
  have hlx := hX.sl.le
  refine W.sreg ?_
  refine WO.boxA rfl rfl (fun b1 hb1 => ?_)
  refine WO.p rfl rfl (WO.p rfl rfl ?_)
  refine WO.nil ?_
  refine W.sreg ?_
  refine WO.p rfl rfl ?_
  refine WO.nil ?_
  refine W.seq ?_
  refine W.sreg ?_
  refine WO.p rfl rfl ?_
  refine WO.nil ?_
  refine W.block ?_
  refine W.chg (owNil (enc := encI) (e := 2) (sz := 1)) ?_
  refine W.loop2 (fun (i : Nat) (out : Value) => i ≤ o.length ∧ ∀ j, j < i → erK b l o j = 0)
    (fun (i : Nat) (out : Value) => [(1, u), (2, .pointer (some ⟨b1, 0, none⟩)), (6, out), (7, .int .i64 (i : Int))])
    (fun (i : Nat) (out : Value) => [pt b1 (.cells #[.int .i64 a, .int .i64 b, v] 26 (0, 0)), OwE encI 2 1 out (tmA b l o i)])
    (fun (i : Nat) (out : Value) => o.length - i) 0 (.slice none 0 0)
    (by exact ⟨by omega, fun j hj => by omega⟩) ⟨rfl, rfl, rfl, rfl, trivial⟩ (by repeat (first | exact Sub.nil | refine Sub.cons (by repeat (first | exact Pick.head | apply Pick.tail)) ?_)) ?_
  rintro i out ⟨hi, her⟩
  refine W.seq ?_
  refine W.sreg ?_
  refine WO.p rfl rfl (WO.p rfl rfl ?_)
  refine' WO.len (n := _) rfl rfl ?hs rfl ?_
  case hs => (first | exact hX.sl)
  refine WO.p rfl rfl ?_
  refine WO.nil ?_
  refine W.cond_bl rfl (fun c1 => ?_) (fun c1 => ?_)
  · first
    | (exfalso; omega)
    | (refine W.skip ?_
       refine W.seq ?_
       refine W.block ?_
       refine W.seq ?_
       obtain ⟨x, hx, hxl⟩ := in_nat (hv _ (getD_mem (show i < o.length by omega) 0))
       have hrx := hd.at_ hxl
       unfold OkR at hrx
       have hat0 : i = 0 → (l.getD x rn0).fr = atK b l o i := fun e => by subst e; rw [atK_0, hx, Int.toNat_natCast]
       have hnw : i = 0 → ¬ (0 ≤ (stK b l o i).1 ∧ wOf b l (stK b l o i).1.toNat x = -1) := fun e => by subst e; exact noW_0
       refine W.drawD 9 [.r 0 [], .b 1 [], .r 2 [], .r 3 [], .r 4 [], .b 5 [], .r 6 [], .b 7 [], .a 8 8 (.cells #[.int .i64 0, .int .i64 0, .int .i64 0, .int .i64 0, .int .i64 0, .int .i64 0] 48 (0, 0))] [] (A0 := []) (Sub.refl _) (by kernel_rfl) ?_ ?_
       · exact (ALok.r (ALok.b (ALok.r (ALok.r (ALok.r (ALok.b (ALok.r (ALok.b (ALok.cons rfl rfl rfl rfl rfl ALok.nil)))))))))
       refine' DT.r rfl rfl rfl ?hq ?_
       case hq =>
         refine WO.fieldL rfl rfl rfl ?_
         exact WO.nil ⟨rfl, rfl⟩
       refine' DT.b rfl rfl rfl ?hq ?_
       case hq =>
         refine WO.load rfl rfl (Cell.own Pick.head rfl) rfl ?_
         exact WO.nil ⟨rfl, rfl⟩
       refine' DT.r rfl rfl rfl ?hq ?_
       case hq =>
         refine WO.p rfl rfl ?_
         exact WO.nil ⟨rfl, rfl⟩
       refine' DT.r rfl rfl rfl ?hq ?_
       case hq =>
         refine WO.p rfl rfl ?_
         exact WO.nil ⟨rfl, rfl⟩
       refine' DT.r rfl rfl rfl ?hq ?_
       case hq =>
         refine' WO.indexAddr (n := _) (i := _) rfl rfl rfl ?hs ?h1 rfl ?_
         case hs => (first | exact hX.sl)
         case h1 => (first | omega | (simp; omega))
         exact WO.nil ⟨rfl, rfl⟩
       refine' DT.b rfl rfl rfl ?hq ?_
       case hq =>
         refine' WO.load (v := _) rfl rfl ?hc rfl ?_
         case hc => (first | (refine hX.cell0 (i := i) (by omega) 0 ?_; rw [hx]; rfl))
         exact WO.nil ⟨rfl, rfl⟩
       refine' DT.r rfl rfl rfl ?hq ?_
       case hq =>
         refine' WO.indexAddr (n := _) (i := _) rfl rfl rfl ?hs ?h1 rfl ?_
         case hs => (first | exact hR.sl)
         case h1 => (first | omega | (simp; omega))
         exact WO.nil ⟨rfl, rfl⟩
       refine' DT.b rfl rfl rfl ?hq ?_
       case hq =>
         refine' WO.loadA (vs := _) rfl rfl ?hc ?hl rfl ?_
         case hc => (first | exact RdF.cellsR hR (i := x) (by omega))
         case hl => rfl
         exact WO.nil ⟨rfl, rfl⟩
       refine DT.a (fun b2 => ?_)
       refine DT.nil [_, _, _] rfl ?_
       refine WO.storeA rfl rfl rfl rfl Pick.head rfl rfl ?_
       refine WO.nil ?_
       refine W.sreg ?_
       refine WO.fieldL rfl rfl rfl (WO.load rfl rfl (Cell.own Pick.head rfl) rfl (WO.p rfl rfl ?_))
       refine WO.nil ?_
       refine W.seq ?_
       refine W.sreg ?_
       refine WO.p rfl rfl (WO.p rfl rfl ?_)
       refine WO.nil ?_
       refine W.cond_bl rfl (fun c2 => ?_) (fun c2 => ?_)
       · first
         | (exfalso; omega)
         | (refine W.seq ?_
            obtain ⟨k, hki⟩ : ∃ k, i = k + 1 := ⟨i - 1, by omega⟩
            obtain ⟨y, hy, hyl⟩ := in_nat (hv _ (getD_mem (show k < o.length by omega) 0))
            have hry := hd.at_ hyl
            unfold OkR at hry
            have hw := hd.w hyl x
            have hatk := atK_bd hd hv (show k < o.length by omega) (her k (by omega))
            refine W.drawD 10 [.b 0 [], .r 1 [], .r 2 [], .r 3 [], .r 4 [], .b 5 [], .r 6 [], .r 7 [], .r 8 [], .b 9 []] [] (A0 := []) (Sub.refl _) (by kernel_rfl) ?_ ?_
            · exact (ALok.b (ALok.r (ALok.r (ALok.r (ALok.r (ALok.b (ALok.r (ALok.r (ALok.r (ALok.b ALok.nil))))))))))
            refine' DT.b rfl rfl rfl ?hq ?_
            case hq =>
              refine WO.loadA rfl rfl (Cells.own (Pick.tail (Pick.head))) rfl rfl ?_
              exact WO.nil ⟨rfl, rfl⟩
            refine' DT.r rfl rfl rfl ?hq ?_
            case hq =>
              refine WO.p rfl rfl ?_
              exact WO.nil ⟨rfl, rfl⟩
            refine' DT.r rfl rfl rfl ?hq ?_
            case hq =>
              refine WO.p rfl rfl ?_
              exact WO.nil ⟨rfl, rfl⟩
            refine' DT.r rfl rfl rfl ?hq ?_
            case hq =>
              refine WO.sub rfl rfl (by unfold in64; omega) rfl ?_
              rw [show (i : Int) - 1 = (k : Int) by omega]
              exact WO.nil ⟨rfl, rfl⟩
            refine' DT.r rfl rfl rfl ?hq ?_
            case hq =>
              refine' WO.indexAddr (n := _) (i := _) rfl rfl rfl ?hs ?h1 rfl ?_
              case hs => (first | exact hX.sl)
              case h1 => (first | omega | (simp; omega))
              exact WO.nil ⟨rfl, rfl⟩
            refine' DT.b rfl rfl rfl ?hq ?_
            case hq =>
              refine' WO.load (v := _) rfl rfl ?hc rfl ?_
              case hc => (first | (refine hX.cell0 (i := k) (by omega) 0 ?_; rw [hy]; rfl))
              exact WO.nil ⟨rfl, rfl⟩
            refine' DT.r rfl rfl rfl ?hq ?_
            case hq =>
              refine WO.p rfl rfl ?_
              exact WO.nil ⟨rfl, rfl⟩
            refine' DT.r rfl rfl rfl ?hq ?_
            case hq =>
              refine WO.p rfl rfl ?_
              exact WO.nil ⟨rfl, rfl⟩
            refine' DT.r rfl rfl rfl ?hq ?_
            case hq =>
              refine' WO.indexAddr (n := _) (i := _) rfl rfl rfl ?hs ?h1 rfl ?_
              case hs => (first | exact hX.sl)
              case h1 => (first | omega | (simp; omega))
              exact WO.nil ⟨rfl, rfl⟩
            refine' DT.b rfl rfl rfl ?hq ?_
            case hq =>
              refine' WO.load (v := _) rfl rfl ?hc rfl ?_
              case hc => (first | (refine hX.cell0 (i := i) (by omega) 0 ?_; rw [hx]; rfl))
              exact WO.nil ⟨rfl, rfl⟩
            refine DT.nil [_, _, _] rfl ?_
            refine WO.callR rfl Try.call56 (fun L w hi => ref_Waits w v a b l y x (hR.later hi) hd hyl hxl) rfl ?_
            refine WO.p rfl rfl ?_
            refine WO.nil ?_
            refine W.seq ?_
            refine W.sreg ?_
            refine WO.p rfl rfl (WO.p rfl rfl ?_)
            refine WO.nil ?_
            refine W.cond_bl rfl (fun c3 => ?_) (fun c3 => ?_)
            · first
              | (exfalso; omega)
              | (refine W.sreg ?_
                 refine WO.p rfl rfl (WO.p rfl rfl ?_)
                 refine WO.nil ?_
                 refine W.ret ?_
                 first | (have e18 : erK b l o i = 18 := (by rw [hki]; rw [hki] at hx; exact erK_18 hy hx (by omega)); have e1 : tmE b l o = 18 := (by rw [tmE_of (show i < o.length by omega) her (by omega), e18]); rw [e1, tmL_ne (by omega)]; exact fin.ret (Res.two rfl (RV.tmp rfl) (RV.tmp rfl)) ⟨_, rfl, fun h hs => Sub.sat (.cons .head .nil) (owNil (enc := encI) (e := 2) (sz := 1) h hs)⟩) | (have e12 : erK b l o i = 12 := (by first | exact erK_12 hx hnw' (by assumption) | exact erK_12 hx (hnw (by omega)) (by assumption)); have e1 : tmE b l o = 12 := (by rw [tmE_of (show i < o.length by omega) her (by omega), e12]); rw [e1, tmL_ne (by omega)]; exact fin.ret (Res.two rfl (RV.tmp rfl) (RV.tmp rfl)) ⟨_, rfl, fun h hs => Sub.sat (.cons .head .nil) (owNil (enc := encI) (e := 2) (sz := 1) h hs)⟩) | (have e1 : tmE b l o = 0 := tmE_0.2 (fun j hj => her j (by omega)); rw [tmL_0 e1, e1, show o.length = i by omega]; exact fin.ret (Res.two rfl (RV.tmp rfl) (RV.tmp rfl)) ⟨_, rfl, fun h hs => Sub.sat (by repeat (first | exact Sub.nil | refine Sub.cons (by repeat (first | exact Pick.head | apply Pick.tail)) ?_)) hs⟩))
            first
            | (exfalso; omega)
            | (refine W.skip ?_
               refine W.fact (OwE.sl (enc := encI) (e := 2) (sz := 1) (v := out) (xs := tmA b l o i) (by repeat (first | exact Pick.head | apply Pick.tail))) (fun hos => ?_)
               rw [tmA_len] at hos
               have hatS : max (l.getD x rn0).fr (atK b l o k + (l.getD y rn0).mi + wOf b l y x) = atK b l o i := by rw [hki]; rw [hki] at hx; exact (atK_S hy hx).symm
               have hnw' : ¬ (0 ≤ (stK b l o i).1 ∧ wOf b l (stK b l o i).1.toNat x = -1) := by rw [hki]; exact noW_S (b := b) (l := l) (o := o) (k := k) (x := x) hy (show ¬ wOf b l y x = -1 by omega)
               refine W.drawD 19 [.r 0 [], .r 1 [], .r 2 [], .r 3 [], .r 4 [], .b 5 [], .r 6 [], .b 7 [], .r 8 [], .r 9 [], .r 10 [], .r 11 [], .b 12 [], .r 13 [], .r 14 [], .b 15 [], .r 16 [], .r 17 [], .r 18 []] [] (A0 := []) (Sub.refl _) (by kernel_rfl) ?_ ?_
               · exact (ALok.r (ALok.r (ALok.r (ALok.r (ALok.r (ALok.b (ALok.r (ALok.b (ALok.r (ALok.r (ALok.r (ALok.r (ALok.b (ALok.r (ALok.r (ALok.b (ALok.r (ALok.r (ALok.r ALok.nil)))))))))))))))))))
               refine' DT.r rfl rfl rfl ?hq ?_
               case hq =>
                 refine WO.p rfl rfl ?_
                 exact WO.nil ⟨rfl, rfl⟩
               refine' DT.r rfl rfl rfl ?hq ?_
               case hq =>
                 refine WO.p rfl rfl ?_
                 exact WO.nil ⟨rfl, rfl⟩
               refine' DT.r rfl rfl rfl ?hq ?_
               case hq =>
                 refine WO.p rfl rfl ?_
                 exact WO.nil ⟨rfl, rfl⟩
               refine' DT.r rfl rfl rfl ?hq ?_
               case hq =>
                 refine WO.sub rfl rfl (by unfold in64; omega) rfl ?_
                 rw [show (i : Int) - 1 = (k : Int) by omega]
                 exact WO.nil ⟨rfl, rfl⟩
               refine' DT.r rfl rfl rfl ?hq ?_
               case hq =>
                 refine' WO.indexAddr (n := _) (i := _) rfl rfl rfl ?hs ?h1 rfl ?_
                 case hs => (first | exact hos)
                 case h1 => (first | omega | (simp; omega))
                 exact WO.nil ⟨rfl, rfl⟩
               refine' DT.b rfl rfl rfl ?hq ?_
               case hq =>
                 refine' WO.load (v := _) rfl rfl ?hc rfl ?_
                 case hc => (first | (refine owE_cellS (e := 2) (xs := tmA b l o i) (x := atK b l o k) (i := k) ?_ (by rw [tmA_len]; omega) (tmA_get (by omega)).symm rfl; exact (by repeat (first | exact Sub.nil | refine Sub.cons (by repeat (first | exact Pick.head | apply Pick.tail)) ?_))))
                 exact WO.nil ⟨rfl, rfl⟩
               refine' DT.r rfl rfl rfl ?hq ?_
               case hq =>
                 refine WO.fieldL rfl rfl rfl ?_
                 exact WO.nil ⟨rfl, rfl⟩
               refine' DT.b rfl rfl rfl ?hq ?_
               case hq =>
                 refine WO.load rfl rfl (Cell.own (Pick.tail (Pick.head)) rfl) rfl ?_
                 exact WO.nil ⟨rfl, rfl⟩
               refine' DT.r rfl rfl rfl ?hq ?_
               case hq =>
                 refine WO.p rfl rfl ?_
                 exact WO.nil ⟨rfl, rfl⟩
               refine' DT.r rfl rfl rfl ?hq ?_
               case hq =>
                 refine WO.p rfl rfl ?_
                 exact WO.nil ⟨rfl, rfl⟩
               refine' DT.r rfl rfl rfl ?hq ?_
               case hq =>
                 refine WO.sub rfl rfl (by unfold in64; omega) rfl ?_
                 rw [show (i : Int) - 1 = (k : Int) by omega]
                 exact WO.nil ⟨rfl, rfl⟩
               refine' DT.r rfl rfl rfl ?hq ?_
               case hq =>
                 refine' WO.indexAddr (n := _) (i := _) rfl rfl rfl ?hs ?h1 rfl ?_
                 case hs => (first | exact hX.sl)
                 case h1 => (first | omega | (simp; omega))
                 exact WO.nil ⟨rfl, rfl⟩
               refine' DT.b rfl rfl rfl ?hq ?_
               case hq =>
                 refine' WO.load (v := _) rfl rfl ?hc rfl ?_
                 case hc => (first | (refine hX.cell0 (i := k) (by omega) 0 ?_; rw [hy]; rfl))
                 exact WO.nil ⟨rfl, rfl⟩
               refine' DT.r rfl rfl rfl ?hq ?_
               case hq =>
                 refine' WO.indexAddr (n := _) (i := _) rfl rfl rfl ?hs ?h1 rfl ?_
                 case hs => (first | exact hR.sl)
                 case h1 => (first | omega | (simp; omega))
                 exact WO.nil ⟨rfl, rfl⟩
               refine' DT.r rfl rfl rfl ?hq ?_
               case hq =>
                 refine WO.field0 rfl rfl rfl ?_
                 exact WO.nil ⟨rfl, rfl⟩
               refine' DT.b rfl rfl rfl ?hq ?_
               case hq =>
                 refine' WO.load (v := _) rfl rfl ?hc rfl ?_
                 case hc => (first | (refine hR.cell0 (i := y) hyl rn0 ?_; rfl))
                 exact WO.nil ⟨rfl, rfl⟩
               refine' DT.r rfl rfl rfl ?hq ?_
               case hq =>
                 refine WO.ar rfl rfl rfl (by (first | (unfold in64; omega) | (unfold in64; omega))) rfl ?_
                 exact WO.nil ⟨rfl, rfl⟩
               refine' DT.r rfl rfl rfl ?hq ?_
               case hq =>
                 refine WO.p rfl rfl ?_
                 exact WO.nil ⟨rfl, rfl⟩
               refine' DT.r rfl rfl rfl ?hq ?_
               case hq =>
                 refine WO.ar rfl rfl rfl (by (first | (unfold in64; omega) | (unfold in64; omega))) rfl ?_
                 exact WO.nil ⟨rfl, rfl⟩
               refine DT.nil [_, _, _] rfl ?_
               refine WO.max2 rfl rfl rfl ?_
               rw [hatS]
               refine WO.p rfl rfl ?_
               refine WO.nil ?_
               refine W.seq ?_
               first | rw [hat0 (by omega)] | skip
               refine W.sreg ?_
               refine WO.p rfl rfl (WO.fieldL rfl rfl rfl (WO.load rfl rfl (Cell.own Pick.head rfl) rfl (WO.p rfl rfl ?_)))
               refine WO.nil ?_
               refine W.cond_bl rfl (fun c4 => ?_) (fun c4 => ?_)
               · first
                 | (exfalso; omega)
                 | (refine W.sreg ?_
                    refine WO.p rfl rfl (WO.p rfl rfl ?_)
                    refine WO.nil ?_
                    refine W.ret ?_
                    first | (have e18 : erK b l o i = 18 := (by rw [hki]; rw [hki] at hx; exact erK_18 hy hx (by omega)); have e1 : tmE b l o = 18 := (by rw [tmE_of (show i < o.length by omega) her (by omega), e18]); rw [e1, tmL_ne (by omega)]; exact fin.ret (Res.two rfl (RV.tmp rfl) (RV.tmp rfl)) ⟨_, rfl, fun h hs => Sub.sat (.cons .head .nil) (owNil (enc := encI) (e := 2) (sz := 1) h hs)⟩) | (have e12 : erK b l o i = 12 := (by first | exact erK_12 hx hnw' (by assumption) | exact erK_12 hx (hnw (by omega)) (by assumption)); have e1 : tmE b l o = 12 := (by rw [tmE_of (show i < o.length by omega) her (by omega), e12]); rw [e1, tmL_ne (by omega)]; exact fin.ret (Res.two rfl (RV.tmp rfl) (RV.tmp rfl)) ⟨_, rfl, fun h hs => Sub.sat (.cons .head .nil) (owNil (enc := encI) (e := 2) (sz := 1) h hs)⟩) | (have e1 : tmE b l o = 0 := tmE_0.2 (fun j hj => her j (by omega)); rw [tmL_0 e1, e1, show o.length = i by omega]; exact fin.ret (Res.two rfl (RV.tmp rfl) (RV.tmp rfl)) ⟨_, rfl, fun h hs => Sub.sat (by repeat (first | exact Sub.nil | refine Sub.cons (by repeat (first | exact Pick.head | apply Pick.tail)) ?_)) hs⟩))
               first
               | (exfalso; omega)
               | (refine W.skip ?_
                  have hok : erK b l o i = 0 := by first | exact erK_ok hx hnw' (by assumption) | exact erK_ok hx (hnw (by omega)) (by assumption)
                  refine W.region ?_
                  refine WO.p rfl rfl (WO.p rfl rfl ?_)
                  refine' WO.buildSl (cs := _) rfl rfl rfl rfl ?hf rfl rfl ?hl rfl (fun v3 => ?_)
                  case hf => (conv => lhs; simp [-List.getD_eq_getElem?_getD, fillL, vcl, wrl, TTab.pl?.lget']) <;> rfl
                  case hl => rfl
                  refine' WO.appendE (enc := encI) (m := 1) (xs := tmA b l o i) (ys := [atK b l o i]) encI_ok rfl rfl rfl rfl rfl (by repeat (first | exact Pick.head | apply Pick.tail)) (isSl_lit (by omega) (fun _ => ⟨_, _, rfl⟩)) (by omega) rfl (OwC.cells .head) (by rw [tmA_len]; omega) (by rw [tmA_len]; omega) rfl (fun g c => ?_)
                  rw [← tmA_succ]
                  refine WO.p rfl rfl ?_
                  refine WO.nil ?_
                  refine W.region ?_
                  refine WO.p rfl rfl (WO.ar rfl rfl rfl (by (first | (unfold in64; omega) | (unfold in64; omega))) rfl (WO.p rfl rfl ?_))
                  refine WO.nil ?_
                  refine' ⟨i + 1, _, ?hp, ?hmu, ⟨rfl, rfl, rfl, rfl, trivial⟩, ?hS⟩
                  case hS => repeat (first | exact Sub.nil | refine Sub.cons (by repeat (first | exact Pick.head | apply Pick.tail)) ?_)
                  case hp => exact ⟨by omega, fun j hj => by (rcases Nat.lt_or_ge j i with g | g; exact her j g; (rw [show j = i by omega]; exact hok))⟩
                  case hmu => omega)))
       first
       | (exfalso; omega)
       | (refine W.skip ?_
          refine W.seq ?_
          first | rw [hat0 (by omega)] | skip
          refine W.sreg ?_
          refine WO.p rfl rfl (WO.fieldL rfl rfl rfl (WO.load rfl rfl (Cell.own Pick.head rfl) rfl (WO.p rfl rfl ?_)))
          refine WO.nil ?_
          refine W.cond_bl rfl (fun c3 => ?_) (fun c3 => ?_)
          · first
            | (exfalso; omega)
            | (refine W.sreg ?_
               refine WO.p rfl rfl (WO.p rfl rfl ?_)
               refine WO.nil ?_
               refine W.ret ?_
               first | (have e18 : erK b l o i = 18 := (by rw [hki]; rw [hki] at hx; exact erK_18 hy hx (by omega)); have e1 : tmE b l o = 18 := (by rw [tmE_of (show i < o.length by omega) her (by omega), e18]); rw [e1, tmL_ne (by omega)]; exact fin.ret (Res.two rfl (RV.tmp rfl) (RV.tmp rfl)) ⟨_, rfl, fun h hs => Sub.sat (.cons .head .nil) (owNil (enc := encI) (e := 2) (sz := 1) h hs)⟩) | (have e12 : erK b l o i = 12 := (by first | exact erK_12 hx hnw' (by assumption) | exact erK_12 hx (hnw (by omega)) (by assumption)); have e1 : tmE b l o = 12 := (by rw [tmE_of (show i < o.length by omega) her (by omega), e12]); rw [e1, tmL_ne (by omega)]; exact fin.ret (Res.two rfl (RV.tmp rfl) (RV.tmp rfl)) ⟨_, rfl, fun h hs => Sub.sat (.cons .head .nil) (owNil (enc := encI) (e := 2) (sz := 1) h hs)⟩) | (have e1 : tmE b l o = 0 := tmE_0.2 (fun j hj => her j (by omega)); rw [tmL_0 e1, e1, show o.length = i by omega]; exact fin.ret (Res.two rfl (RV.tmp rfl) (RV.tmp rfl)) ⟨_, rfl, fun h hs => Sub.sat (by repeat (first | exact Sub.nil | refine Sub.cons (by repeat (first | exact Pick.head | apply Pick.tail)) ?_)) hs⟩))
          first
          | (exfalso; omega)
          | (refine W.skip ?_
             have hok : erK b l o i = 0 := by first | exact erK_ok hx hnw' (by assumption) | exact erK_ok hx (hnw (by omega)) (by assumption)
             refine W.region ?_
             refine WO.p rfl rfl (WO.p rfl rfl ?_)
             refine' WO.buildSl (cs := _) rfl rfl rfl rfl ?hf rfl rfl ?hl rfl (fun v3 => ?_)
             case hf => (conv => lhs; simp [-List.getD_eq_getElem?_getD, fillL, vcl, wrl, TTab.pl?.lget']) <;> rfl
             case hl => rfl
             refine' WO.appendE (enc := encI) (m := 1) (xs := tmA b l o i) (ys := [atK b l o i]) encI_ok rfl rfl rfl rfl rfl (by repeat (first | exact Pick.head | apply Pick.tail)) (isSl_lit (by omega) (fun _ => ⟨_, _, rfl⟩)) (by omega) rfl (OwC.cells .head) (by rw [tmA_len]; omega) (by rw [tmA_len]; omega) rfl (fun g c => ?_)
             rw [← tmA_succ]
             refine WO.p rfl rfl ?_
             refine WO.nil ?_
             refine W.region ?_
             refine WO.p rfl rfl (WO.ar rfl rfl rfl (by (first | (unfold in64; omega) | (unfold in64; omega))) rfl (WO.p rfl rfl ?_))
             refine WO.nil ?_
             refine' ⟨i + 1, _, ?hp, ?hmu, ⟨rfl, rfl, rfl, rfl, trivial⟩, ?hS⟩
             case hS => repeat (first | exact Sub.nil | refine Sub.cons (by repeat (first | exact Pick.head | apply Pick.tail)) ?_)
             case hp => exact ⟨by omega, fun j hj => by (rcases Nat.lt_or_ge j i with g | g; exact her j g; (rw [show j = i by omega]; exact hok))⟩
             case hmu => omega)))
  first
  | (exfalso; omega)
  | (refine W.exit (blk_same ?_)
     refine W.sreg ?_
     refine WO.p rfl rfl (WO.p rfl rfl (WO.p rfl rfl ?_))
     refine WO.nil ?_
     refine W.ret ?_
     first | (have e18 : erK b l o i = 18 := (by rw [hki]; rw [hki] at hx; exact erK_18 hy hx (by omega)); have e1 : tmE b l o = 18 := (by rw [tmE_of (show i < o.length by omega) her (by omega), e18]); rw [e1, tmL_ne (by omega)]; exact fin.ret (Res.two rfl (RV.tmp rfl) (RV.tmp rfl)) ⟨_, rfl, fun h hs => Sub.sat (.cons .head .nil) (owNil (enc := encI) (e := 2) (sz := 1) h hs)⟩) | (have e12 : erK b l o i = 12 := (by first | exact erK_12 hx hnw' (by assumption) | exact erK_12 hx (hnw (by omega)) (by assumption)); have e1 : tmE b l o = 12 := (by rw [tmE_of (show i < o.length by omega) her (by omega), e12]); rw [e1, tmL_ne (by omega)]; exact fin.ret (Res.two rfl (RV.tmp rfl) (RV.tmp rfl)) ⟨_, rfl, fun h hs => Sub.sat (.cons .head .nil) (owNil (enc := encI) (e := 2) (sz := 1) h hs)⟩) | (have e1 : tmE b l o = 0 := tmE_0.2 (fun j hj => her j (by omega)); rw [tmL_0 e1, e1, show o.length = i by omega]; exact fin.ret (Res.two rfl (RV.tmp rfl) (RV.tmp rfl)) ⟨_, rfl, fun h hs => Sub.sat (by repeat (first | exact Sub.nil | refine Sub.cons (by repeat (first | exact Pick.head | apply Pick.tail)) ?_)) hs⟩))
/-- what Times answers -/
def TmE (a b : Int) (l : List Rn) (o : List Int) : Int := if noE a b l o ≠ 0 then noE a b l o else tmE b l o
def TmL (a b : Int) (l : List Rn) (o : List Int) : List Int := if noE a b l o ≠ 0 then [] else tmL b l o
theorem TmE_bad {a b : Int} {l : List Rn} {o : List Int} (h : noE a b l o ≠ 0) : TmE a b l o = noE a b l o := if_pos h
theorem TmL_bad {a b : Int} {l : List Rn} {o : List Int} (h : noE a b l o ≠ 0) : TmL a b l o = [] := if_pos h
theorem TmE_ok {a b : Int} {l : List Rn} {o : List Int} (h : ¬ noE a b l o ≠ 0) : TmE a b l o = tmE b l o := if_neg h
theorem TmL_ok {a b : Int} {l : List Rn} {o : List Int} (h : ¬ noE a b l o ≠ 0) : TmL a b l o = tmL b l o := if_neg h
theorem noE0 {a b : Int} {l : List Rn} {o : List Int} : noE a b l o = 0 ↔ (chkD a b l = 0 ∧ (1 ≤ l.length ∧ l.length ≤ 8) ∧ OkD a b l) ∧ o.length ≤ l.length ∧ (∀ x ∈ o, In l x) ∧ o.Nodup := by
  unfold noE
  split
  · exact ⟨fun h => by omega, fun h => by omega⟩
  rw [ordE0]
  have h0 : chkD a b l = 0 := by omega
  exact ⟨fun h => ⟨⟨h0, chkD0.1 h0⟩, h⟩, fun h => h.2⟩
theorem ref_Times (w : World) (v u : Value) (a b : Int) (l : List Rn) (o : List Int) (hR : RdF encR 6 w.heap.size w v l) (hX : RdF encI 1 w.heap.size w u o) : Ct Try.prog 14 [dayV a b v, u].toArray w fun r w' => ∃ Hq, (∃ x : Value, r = .tuple #[x, .int .i64 (TmE a b l o)] ∧ Hq = [OwE encI 2 1 x (TmL a b l o)]) ∧ Inv w [] Hq w' := by
  refine Ct.ofI (X := Value) (p := fun x r => r = .tuple #[x, .int .i64 (TmE a b l o)]) (Hx := fun x => [OwE encI 2 1 x (TmL a b l o)]) mixed tyTab Try.func14 rfl rfl ?_
  replace hR : RdF encR 6 (fnCx mixed tyTab Try.f14.ntmps w).B (fnCx mixed tyTab Try.f14.ntmps w).w0 v l := hR
  replace hX : RdF encI 1 (fnCx mixed tyTab Try.f14.ntmps w).B (fnCx mixed tyTab Try.f14.ntmps w).w0 u o := hX
  have ho := hR.sl.oc
  refine W.sreg ?_
  refine WO.boxA rfl rfl (fun b1 hb1 => ?_)
  refine WO.p rfl rfl (WO.p rfl rfl ?_)
  refine WO.nil ?_
  refine W.seq ?_
  refine W.sreg ?_
  refine WO.loadA rfl rfl (Cells.own Pick.head) rfl rfl (WO.p rfl rfl ?_)
  refine WO.callR rfl Try.call30 (fun L w hi => ref_Ordered w v u a b l o (hR.later hi) (hX.later hi)) rfl ?_
  refine WO.p rfl rfl ?_
  refine WO.nil ?_
  refine W.cond_bl rfl (fun c1 => ?_) (fun c1 => ?_)
  · first
    | (exfalso; omega)
    | (refine W.sreg ?_
       refine WO.loadA rfl rfl (Cells.own Pick.head) rfl rfl (WO.p rfl rfl ?_)
       refine WO.callR rfl Try.call30 (fun L w hi => ref_Ordered w v u a b l o (hR.later hi) (hX.later hi)) rfl ?_
       refine WO.p rfl rfl (WO.p rfl rfl ?_)
       refine WO.nil ?_
       refine W.ret ?_
       first | (rw [TmE_bad (by assumption), TmL_bad (by assumption)]; exact fin.ret (Res.two rfl (RV.tmp rfl) (RV.tmp rfl)) ⟨_, rfl, fun h hs => Sub.sat (.cons .head .nil) (owNil (enc := encI) (e := 2) (sz := 1) h hs)⟩) | (rw [TmE_ok (by assumption), TmL_ok (by assumption)]; exact fin.ret (Res.two rfl (RV.tmp rfl) (RV.tmp rfl)) ⟨_, rfl, fun h hs => Sub.sat (by repeat (first | exact Sub.nil | refine Sub.cons (by repeat (first | exact Pick.head | apply Pick.tail)) ?_)) hs⟩))
  first
  | (exfalso; omega)
  | (refine W.skip ?_
     have hno := noE0.1 (show noE a b l o = 0 by omega)
     refine W.sreg ?_
     refine WO.loadA rfl rfl (Cells.own Pick.head) rfl rfl (WO.p rfl rfl ?_)
     refine WO.call rfl Try.call39 (fun L w hi => ref_times w v u a b l o (hR.later hi) (hX.later hi) hno.1.2.2 hno.2.2.1 (by omega)) rfl ?_
     rintro _ _ ⟨r1, rfl, rfl⟩
     refine WO.p rfl rfl (WO.p rfl rfl (WO.p rfl rfl (WO.p rfl rfl ?_)))
     refine WO.nil ?_
     refine W.ret ?_
     first | (rw [TmE_bad (by assumption), TmL_bad (by assumption)]; exact fin.ret (Res.two rfl (RV.tmp rfl) (RV.tmp rfl)) ⟨_, rfl, fun h hs => Sub.sat (.cons .head .nil) (owNil (enc := encI) (e := 2) (sz := 1) h hs)⟩) | (rw [TmE_ok (by assumption), TmL_ok (by assumption)]; exact fin.ret (Res.two rfl (RV.tmp rfl) (RV.tmp rfl)) ⟨_, rfl, fun h hs => Sub.sat (by repeat (first | exact Sub.nil | refine Sub.cons (by repeat (first | exact Pick.head | apply Pick.tail)) ?_)) hs⟩))
theorem c_Times (w : World) (v u : Value) (a b : Int) (l : List Rn) (o : List Int) (hR : RdF encR 6 w.heap.size w v l) (hX : RdF encI 1 w.heap.size w u o) : Ct Try.prog 13 [dayV a b v, u].toArray w fun r w' => ∃ Hq, (∃ x : Value, r = .tuple #[x, .int .i64 (TmE a b l o)] ∧ Hq = [OwE encI 2 1 x (TmL a b l o)]) ∧ Inv w [] Hq w' := by
  refine Ct.ofI (X := Value) (p := fun x r => r = .tuple #[x, .int .i64 (TmE a b l o)]) (Hx := fun x => [OwE encI 2 1 x (TmL a b l o)]) mixed tyTab Try.func13 rfl rfl ?_
  replace hR : RdF encR 6 (fnCx mixed tyTab Try.f13.ntmps w).B (fnCx mixed tyTab Try.f13.ntmps w).w0 v l := hR
  replace hX : RdF encI 1 (fnCx mixed tyTab Try.f13.ntmps w).B (fnCx mixed tyTab Try.f13.ntmps w).w0 u o := hX
  have ho := hR.sl.oc
  have hlx := hX.sl.le
  refine W.sreg ?_
  refine WO.boxA rfl rfl (fun b1 hb1 => ?_)
  refine WO.p rfl rfl (WO.p rfl rfl ?_)
  refine WO.nil ?_
  refine W.sreg ?_
  refine WO.loadA rfl rfl (Cells.own Pick.head) rfl rfl (WO.p rfl rfl ?_)
  refine WO.call rfl Try.call37 (fun L w hi => c_newOrder w v u a b l o (hR.later hi) (hX.later hi)) rfl ?_
  rintro _ _ ⟨pv, rfl, rfl⟩
  refine WO.p rfl rfl (WO.p rfl rfl (WO.p rfl rfl (WO.p rfl rfl (WO.p rfl rfl ?_))))
  refine WO.nil ?_
  refine W.seq ?_
  refine W.sreg ?_
  refine WO.p rfl rfl (WO.p rfl rfl ?_)
  refine WO.nil ?_
  refine W.cond_bl rfl (fun c1 => ?_) (fun c1 => ?_)
  · first
    | (exfalso; omega)
    | (refine W.sreg ?_
       refine WO.p rfl rfl (WO.p rfl rfl (WO.p rfl rfl ?_))
       refine WO.nil ?_
       refine W.ret ?_
       first | (rw [TmE_bad (by assumption), TmL_bad (by assumption)]; exact fin.ret (Res.two rfl (RV.tmp rfl) (RV.tmp rfl)) ⟨_, rfl, fun h hs => Sub.sat (.cons .head .nil) (owNil (enc := encI) (e := 2) (sz := 1) h hs)⟩) | (have e1 : tmE b l o = erK b l o i := tmE_of (show i < o.length by omega) her (by assumption); rw [TmE_ok (by assumption), TmL_ok (by assumption), e1, tmL_ne (by omega)]; exact fin.ret (Res.two rfl (RV.tmp rfl) (RV.tmp rfl)) ⟨_, rfl, fun h hs => Sub.sat (.cons .head .nil) (owNil (enc := encI) (e := 2) (sz := 1) h hs)⟩) | (have e1 : tmE b l o = 0 := tmE_0.2 (fun j hj => her j (by omega)); rw [TmE_ok (by assumption), TmL_ok (by assumption), tmL_0 e1, e1, show o.length = i by omega]; exact fin.ret (Res.two rfl (RV.tmp rfl) (RV.tmp rfl)) ⟨_, rfl, fun h hs => Sub.sat (by repeat (first | exact Sub.nil | refine Sub.cons (by repeat (first | exact Pick.head | apply Pick.tail)) ?_)) hs⟩))
  first
  | (exfalso; omega)
  | (refine W.skip ?_
     obtain ⟨⟨hc0, hln, hd⟩, hol, hv, hnd⟩ := noE0.1 (show noE a b l o = 0 by omega)
     refine W.chgE (PtrP.open (by repeat (first | exact Pick.head | apply Pick.tail)) hc0) ?_
     rintro q rfl
     refine W.sreg ?_
     refine WO.p rfl rfl ?_
     refine WO.nil ?_
     refine W.sreg ?_
     refine WO.p rfl rfl (WO.p rfl rfl ?_)
     refine WO.nil ?_
     refine W.seq ?_
     refine W.sreg ?_
     refine WO.p rfl rfl ?_
     refine' WO.len (n := _) rfl rfl ?hs rfl ?_
     case hs => (first | exact hX.sl)
     refine WO.p rfl rfl ?_
     refine WO.nil ?_
     refine W.block ?_
     refine W.chg (owNil (enc := encI) (e := 2) (sz := 1)) ?_
     refine W.loop2 (fun (i : Nat) (out : Value) => i ≤ o.length ∧ ∀ j, j < i → erK b l o j = 0)
       (fun (i : Nat) (out : Value) => [(6, .pointer (some ⟨q, 0, none⟩)), (8, out), (9, .int .i64 (stK b l o i).1), (10, .int .i64 (stK b l o i).2), (24, u), (25, .int .i64 (o.length : Int)), (26, .int .i64 (i : Int))])
       (fun (i : Nat) (out : Value) => [pt q (.cells (plC a b v (gW b l)).toArray 75 (0, 0)), OwE encI 2 1 out (tmA b l o i)])
       (fun (i : Nat) (out : Value) => o.length - i) 0 (.slice none 0 0)
       (by exact ⟨by omega, fun j hj => by omega⟩) ⟨rfl, rfl, rfl, rfl, rfl, rfl, rfl, trivial⟩ (by repeat (first | exact Sub.nil | refine Sub.cons (by repeat (first | exact Pick.head | apply Pick.tail)) ?_)) ?_
     rintro i out ⟨hi, her⟩
     refine W.sreg ?_
     refine WO.p rfl rfl ?_
     refine WO.nil ?_
     refine W.seq ?_
     refine W.cond_bl rfl (fun c2 => ?_) (fun c2 => ?_)
     · first
       | (exfalso; omega)
       | (refine W.skip ?_
          refine W.seq ?_
          refine W.block ?_
          obtain ⟨x, hx, hxl⟩ := in_nat (hv _ (getD_mem (show i < o.length by omega) 0))
          have hst := stK_ok hd hv hi her
          have hrx := hd.at_ hxl
          unfold OkR at hrx
          refine W.sreg ?_
          refine' WO.indexAddr (n := _) (i := _) rfl rfl rfl ?hs ?h1 rfl ?_
          case hs => (first | exact hX.sl)
          case h1 => (first | omega | (simp; omega))
          refine' WO.load (v := _) rfl rfl ?hc rfl ?_
          case hc => (first | (refine hX.cell0 (i := i) (by omega) 0 ?_; rw [hx]; rfl))
          refine WO.p rfl rfl ?_
          refine WO.nil ?_
          refine W.sreg ?_
          refine WO.p rfl rfl (WO.p rfl rfl (WO.p rfl rfl (WO.p rfl rfl ?_)))
          refine WO.callR (r := .tuple #[.int .i64 (bgN b l (stK b l o i).1 (stK b l o i).2 x), .int .i64 (erK b l o i)]) rfl Try.call38 (fun L w hi => by have h := c_begin w ⟨q, 0, none⟩ a b v l (stK b l o i).1 (stK b l o i).2 x (PlR.own (by repeat (first | exact Pick.head | apply Pick.tail)) hR hi) hd (by omega) hst.1 (by omega) hxl; unfold bgV at h; unfold erK; rw [hx, Int.toNat_natCast]; exact h) rfl ?_
          refine WO.p rfl rfl (WO.p rfl rfl (WO.p rfl rfl (WO.p rfl rfl (WO.p rfl rfl ?_))))
          refine WO.nil ?_
          refine W.seq ?_
          refine W.sreg ?_
          refine WO.p rfl rfl (WO.p rfl rfl ?_)
          refine WO.nil ?_
          refine W.cond_bl rfl (fun c3 => ?_) (fun c3 => ?_)
          · first
            | (exfalso; omega)
            | (refine W.sreg ?_
               refine WO.p rfl rfl (WO.p rfl rfl (WO.p rfl rfl ?_))
               refine WO.nil ?_
               refine W.ret ?_
               first | (rw [TmE_bad (by assumption), TmL_bad (by assumption)]; exact fin.ret (Res.two rfl (RV.tmp rfl) (RV.tmp rfl)) ⟨_, rfl, fun h hs => Sub.sat (.cons .head .nil) (owNil (enc := encI) (e := 2) (sz := 1) h hs)⟩) | (have e1 : tmE b l o = erK b l o i := tmE_of (show i < o.length by omega) her (by assumption); rw [TmE_ok (by assumption), TmL_ok (by assumption), e1, tmL_ne (by omega)]; exact fin.ret (Res.two rfl (RV.tmp rfl) (RV.tmp rfl)) ⟨_, rfl, fun h hs => Sub.sat (.cons .head .nil) (owNil (enc := encI) (e := 2) (sz := 1) h hs)⟩) | (have e1 : tmE b l o = 0 := tmE_0.2 (fun j hj => her j (by omega)); rw [TmE_ok (by assumption), TmL_ok (by assumption), tmL_0 e1, e1, show o.length = i by omega]; exact fin.ret (Res.two rfl (RV.tmp rfl) (RV.tmp rfl)) ⟨_, rfl, fun h hs => Sub.sat (by repeat (first | exact Sub.nil | refine Sub.cons (by repeat (first | exact Pick.head | apply Pick.tail)) ?_)) hs⟩))
          first
          | (exfalso; omega)
          | (refine W.skip ?_
             have hok : erK b l o i = 0 := by omega
             have hbn : bgN b l (stK b l o i).1 (stK b l o i).2 x = atK b l o i := by unfold atK; unfold erK at hok; rw [hx, Int.toNat_natCast] at hok ⊢; exact if_pos hok
             rw [hbn]
             have hab := atK_bd hd hv (show i < o.length by omega) hok
             refine W.sreg ?_
             refine WO.p rfl rfl (WO.p rfl rfl ?_)
             refine' WO.buildSl (cs := _) rfl rfl rfl rfl ?hf rfl rfl ?hl rfl (fun v2 => ?_)
             case hf => (conv => lhs; simp [-List.getD_eq_getElem?_getD, fillL, vcl, wrl, TTab.pl?.lget']) <;> rfl
             case hl => rfl
             refine' WO.appendE (enc := encI) (m := 1) (xs := tmA b l o i) (ys := [atK b l o i]) encI_ok rfl rfl rfl rfl rfl (by repeat (first | exact Pick.head | apply Pick.tail)) (isSl_lit (by omega) (fun _ => ⟨_, _, rfl⟩)) (by omega) rfl (OwC.cells .head) (by rw [tmA_len]; omega) (by rw [tmA_len]; omega) rfl (fun g c => ?_)
             rw [← tmA_succ]
             refine WO.p rfl rfl ?_
             refine WO.nil ?_
             refine W.drawD 13 [.r 0 [], .r 1 [9], .r 2 [9], .r 3 [9], .r 4 [9], .r 5 [9], .b 6 [9], .r 7 [9], .r 8 [9], .r 9 [9], .b 10 [9], .r 11 [9], .r 12 [9]] [9] (A0 := []) (Sub.refl _) (by kernel_rfl) ?_ ?_
             · exact (ALok.r (ALok.r (ALok.r (ALok.r (ALok.r (ALok.r (ALok.b (ALok.r (ALok.r (ALok.r (ALok.b (ALok.r (ALok.r ALok.nil)))))))))))))
             refine' DT.r rfl rfl rfl ?hq ?_
             case hq =>
               refine WO.p rfl rfl ?_
               exact WO.nil ⟨rfl, rfl⟩
             refine' DT.r rfl rfl rfl ?hq ?_
             case hq =>
               refine WO.p rfl rfl ?_
               exact WO.nil ⟨rfl, rfl⟩
             refine' DT.r rfl rfl rfl ?hq ?_
             case hq =>
               refine WO.p rfl rfl ?_
               exact WO.nil ⟨rfl, rfl⟩
             refine' DT.r rfl rfl rfl ?hq ?_
             case hq =>
               refine WO.p rfl rfl ?_
               exact WO.nil ⟨rfl, rfl⟩
             refine' DT.r rfl rfl rfl ?hq ?_
             case hq =>
               refine WO.field0 rfl rfl rfl ?_
               exact WO.nil ⟨rfl, rfl⟩
             refine' DT.r rfl rfl rfl ?hq ?_
             case hq =>
               refine WO.fieldL rfl rfl rfl ?_
               exact WO.nil ⟨rfl, rfl⟩
             refine' DT.b rfl rfl rfl ?hq ?_
             case hq =>
               refine WO.load rfl rfl (Cell.own (Pick.tail (Pick.tail (Pick.head))) rfl) rfl ?_
               exact WO.nil ⟨rfl, rfl⟩
             refine' DT.r rfl rfl rfl ?hq ?_
             case hq =>
               refine WO.p rfl rfl ?_
               exact WO.nil ⟨rfl, rfl⟩
             refine' DT.r rfl rfl rfl ?hq ?_
             case hq =>
               refine' WO.indexAddr (n := _) (i := _) rfl rfl rfl ?hs ?h1 rfl ?_
               case hs => (first | exact hR.sl)
               case h1 => (first | omega | (simp; omega))
               exact WO.nil ⟨rfl, rfl⟩
             refine' DT.r rfl rfl rfl ?hq ?_
             case hq =>
               refine WO.field0 rfl rfl rfl ?_
               exact WO.nil ⟨rfl, rfl⟩
             refine' DT.b rfl rfl rfl ?hq ?_
             case hq =>
               refine' WO.load (v := _) rfl rfl ?hc rfl ?_
               case hc => (first | (refine hR.cell0 (i := x) hxl rn0 ?_; rfl))
               exact WO.nil ⟨rfl, rfl⟩
             refine' DT.r rfl rfl rfl ?hq ?_
             case hq =>
               refine WO.add rfl rfl (by unfold in64; omega) rfl ?_
               exact WO.nil ⟨rfl, rfl⟩
             refine' DT.r rfl rfl rfl ?hq ?_
             case hq =>
               refine WO.p rfl rfl ?_
               exact WO.nil ⟨rfl, rfl⟩
             refine DT.nil [_, _, _] rfl ?_
             refine WO.p rfl rfl ?_
             refine WO.nil ?_
             have hs1 : (stK b l o (i + 1)).1 = (x : Int) := hx
             have hs2 : (stK b l o (i + 1)).2 = atK b l o i + (l.getD x rn0).mi := by show bgA b l (stK b l o i).1 (stK b l o i).2 (o.getD i 0).toNat + (l.getD (o.getD i 0).toNat rn0).mi = _; unfold atK; rw [hx, Int.toNat_natCast]
             rw [← hs2, ← hs1]
             refine W.region ?_
             refine WO.ar rfl rfl rfl (by (first | (unfold in64; omega) | (unfold in64; omega))) rfl (WO.p rfl rfl ?_)
             refine WO.nil ?_
             refine' ⟨i + 1, _, ?hp, ?hmu, ⟨rfl, rfl, rfl, rfl, rfl, rfl, rfl, trivial⟩, ?hS⟩
             case hS => repeat (first | exact Sub.nil | refine Sub.cons (by repeat (first | exact Pick.head | apply Pick.tail)) ?_)
             case hp => exact ⟨by omega, fun j hj => by (rcases Nat.lt_or_ge j i with g | g; exact her j g; (rw [show j = i by omega]; exact hok))⟩
             case hmu => omega))
     first
     | (exfalso; omega)
     | (refine W.exit (blk_same ?_)
        refine W.sreg ?_
        refine WO.p rfl rfl (WO.p rfl rfl (WO.p rfl rfl ?_))
        refine WO.nil ?_
        refine W.ret ?_
        first | (rw [TmE_bad (by assumption), TmL_bad (by assumption)]; exact fin.ret (Res.two rfl (RV.tmp rfl) (RV.tmp rfl)) ⟨_, rfl, fun h hs => Sub.sat (.cons .head .nil) (owNil (enc := encI) (e := 2) (sz := 1) h hs)⟩) | (have e1 : tmE b l o = erK b l o i := tmE_of (show i < o.length by omega) her (by assumption); rw [TmE_ok (by assumption), TmL_ok (by assumption), e1, tmL_ne (by omega)]; exact fin.ret (Res.two rfl (RV.tmp rfl) (RV.tmp rfl)) ⟨_, rfl, fun h hs => Sub.sat (.cons .head .nil) (owNil (enc := encI) (e := 2) (sz := 1) h hs)⟩) | (have e1 : tmE b l o = 0 := tmE_0.2 (fun j hj => her j (by omega)); rw [TmE_ok (by assumption), TmL_ok (by assumption), tmL_0 e1, e1, show o.length = i by omega]; exact fin.ret (Res.two rfl (RV.tmp rfl) (RV.tmp rfl)) ⟨_, rfl, fun h hs => Sub.sat (by repeat (first | exact Sub.nil | refine Sub.cons (by repeat (first | exact Pick.head | apply Pick.tail)) ?_)) hs⟩)))
end Go.Proofs.Ytkonhpcldomidaa
namespace Go.Proofs.Ytkonhpcldomidaa
open Go Go.TH
attribute [local irreducible] W WO pt
set_option maxRecDepth 10000
set_option maxHeartbeats 1000000
section
variable (l : List Rn) (o bs ls : List Int)
/-- the run at a place of an order -/
def ruK (i : Nat) : Rn := l.getD (o.getD i 0).toNat rn0
/-- when the run before is over -/
def ovK : Nat → Int
  | 0 => 0
  | i + 1 => bs.getD i 0 + (ruK l o i).mi
def okP (i : Nat) : Prop := ((ruK l o i).lo ≤ ls.getD i 0 ∧ ls.getD i 0 ≤ (ruK l o i).hi) ∧ ovK l o bs i ≤ bs.getD i 0 ∧ bs.getD i 0 ≤ 1000000
instance (i : Nat) : Decidable (okP l o bs ls i) := by unfold okP; infer_instance
def okA (n : Nat) : Prop := ∀ i, i < n → okP l o bs ls i
instance (n : Nat) : Decidable (okA l o bs ls n) := by unfold okA; infer_instance
def plN (kp : Int) : Nat → Int
  | 0 => 0
  | i + 1 => en kp (ls.getD i 0) (bs.getD (i + 1) 0 - bs.getD i 0 - (ruK l o i).mi).toNat
def plA (kp : Int) (n : Nat) : List Int := (List.range n).map (plN l o bs ls kp)
end
/-- what Play answers -/
def plE (a b : Int) (l : List Rn) (o bs ls : List Int) (kp : Int) : Int := if noE a b l o ≠ 0 then noE a b l o else if bs.length ≠ o.length ∨ ls.length ≠ o.length then 15 else if ¬ (a ≤ kp ∧ kp ≤ b) then 3 else if okA l o bs ls o.length then 0 else 3
def plL (a b : Int) (l : List Rn) (o bs ls : List Int) (kp : Int) : List Int := if plE a b l o bs ls kp = 0 then plA l o bs ls kp o.length else []
theorem plA_len (l : List Rn) (o bs ls : List Int) (kp : Int) (n : Nat) : (plA l o bs ls kp n).length = n := by simp [plA]
theorem plA_succ (l : List Rn) (o bs ls : List Int) (kp : Int) (n : Nat) : plA l o bs ls kp (n + 1) = plA l o bs ls kp n ++ [plN l o bs ls kp n] := by unfold plA; rw [List.range_succ, List.map_append]; rfl
theorem plA_get {l : List Rn} {o bs ls : List Int} {kp : Int} {n i : Nat} (h : i < n) : (plA l o bs ls kp n).getD i 0 = plN l o bs ls kp i := by
  unfold plA; rw [List.getD_eq_getElem?_getD, List.getElem?_map, List.getElem?_range h]; rfl
theorem plE_bad {a b : Int} {l : List Rn} {o bs ls : List Int} {kp : Int} (h : noE a b l o ≠ 0) : plE a b l o bs ls kp = noE a b l o ∧ plL a b l o bs ls kp = [] := by
  have e : plE a b l o bs ls kp = noE a b l o := if_pos h
  exact ⟨e, by unfold plL; rw [e, if_neg h]⟩
theorem plE_15 {a b : Int} {l : List Rn} {o bs ls : List Int} {kp : Int} (h : ¬ noE a b l o ≠ 0) (g : bs.length ≠ o.length ∨ ls.length ≠ o.length) : plE a b l o bs ls kp = 15 ∧ plL a b l o bs ls kp = [] := by
  have e : plE a b l o bs ls kp = 15 := by unfold plE; rw [if_neg h, if_pos g]
  exact ⟨e, by unfold plL; rw [e, if_neg (by omega)]⟩
theorem plE_3 {a b : Int} {l : List Rn} {o bs ls : List Int} {kp : Int} (h : ¬ noE a b l o ≠ 0) (g : ¬ (bs.length ≠ o.length ∨ ls.length ≠ o.length)) (k : ¬ (a ≤ kp ∧ kp ≤ b) ∨ ¬ okA l o bs ls o.length) : plE a b l o bs ls kp = 3 ∧ plL a b l o bs ls kp = [] := by
  have e : plE a b l o bs ls kp = 3 := by
    unfold plE; rw [if_neg h, if_neg g]
    by_cases q : a ≤ kp ∧ kp ≤ b
    · rw [if_neg (fun z => z q), if_neg (by rcases k with k | k; exact absurd q k; exact k)]
    rw [if_pos q]
  exact ⟨e, by unfold plL; rw [e, if_neg (by omega)]⟩
theorem plE_0 {a b : Int} {l : List Rn} {o bs ls : List Int} {kp : Int} (h : ¬ noE a b l o ≠ 0) (g : ¬ (bs.length ≠ o.length ∨ ls.length ≠ o.length)) (k : a ≤ kp ∧ kp ≤ b) (q : okA l o bs ls o.length) : plE a b l o bs ls kp = 0 ∧ plL a b l o bs ls kp = plA l o bs ls kp o.length := by
  have e : plE a b l o bs ls kp = 0 := by unfold plE; rw [if_neg h, if_neg g, if_neg (fun z => z k), if_pos q]
  exact ⟨e, by unfold plL; rw [e, if_pos rfl]⟩
theorem okA.succ {l : List Rn} {o bs ls : List Int} {i : Nat} (h : okA l o bs ls i) (g : okP l o bs ls i) : okA l o bs ls (i + 1) := fun j hj => by
  rcases Nat.lt_or_ge j i with q | q
  · exact h j q
  rw [show j = i by omega]; exact g
theorem ovK_nn {a b : Int} {l : List Rn} {o bs ls : List Int} (hd : OkD a b l) (hv : ∀ x ∈ o, In l x) : ∀ {i : Nat}, i ≤ o.length → okA l o bs ls i → 0 ≤ ovK l o bs i ∧ ovK l o bs i ≤ 1001000
  | 0, _, _ => by simp [ovK]
  | i + 1, hi, h => by
    have ih := ovK_nn hd hv (show i ≤ o.length by omega) (fun j hj => h j (by omega))
    have h1 := h i (by omega)
    obtain ⟨x, hx, hxl⟩ := in_nat (hv _ (getD_mem (show i < o.length by omega) 0))
    have h2 := hd.at_ hxl
    unfold OkR at h2
    unfold okP at h1
    show 0 ≤ bs.getD i 0 + (l.getD (o.getD i 0).toNat rn0).mi ∧ bs.getD i 0 + (l.getD (o.getD i 0).toNat rn0).mi ≤ 1001000
    rw [hx, Int.toNat_natCast]
    omega
theorem okP_iff {l : List Rn} {o bs ls : List Int} {i x : Nat} (hx : o.getD i 0 = (x : Int)) : okP l o bs ls i ↔ ((l.getD x rn0).lo ≤ ls.getD i 0 ∧ ls.getD i 0 ≤ (l.getD x rn0).hi) ∧ ovK l o bs i ≤ bs.getD i 0 ∧ bs.getD i 0 ≤ 1000000 := by
  unfold okP ruK; rw [hx, Int.toNat_natCast]
theorem ovK_S {l : List Rn} {o bs : List Int} {i k x : Nat} (hk : i = k + 1) (hx : o.getD k 0 = (x : Int)) : ovK l o bs i = bs.getD k 0 + (l.getD x rn0).mi := by
  subst hk; show bs.getD k 0 + (l.getD (o.getD k 0).toNat rn0).mi = _; rw [hx, Int.toNat_natCast]
theorem plN_S {l : List Rn} {o bs ls : List Int} {kp : Int} {i k x : Nat} (hk : i = k + 1) (hx : o.getD k 0 = (x : Int)) : plN l o bs ls kp i = en kp (ls.getD k 0) (bs.getD i 0 - bs.getD k 0 - (l.getD x rn0).mi).toNat := by
  subst hk; show en kp (ls.getD k 0) (bs.getD (k + 1) 0 - bs.getD k 0 - (l.getD (o.getD k 0).toNat rn0).mi).toNat = _; rw [hx, Int.toNat_natCast]
theorem ok_ke {a b : Int} {l : List Rn} {o bs ls : List Int} {kp : Int} (hd : OkD a b l) (hkp : a ≤ kp ∧ kp ≤ b) {i x : Nat} (hx : o.getD i 0 = (x : Int)) (hxl : x < l.length) (h : okP l o bs ls i) : OkE kp (ls.getD i 0) := by
  have h1 := hd.1
  have h2 := hd.at_ hxl
  have h3 := (okP_iff hx).1 h
  unfold OkK at h1; unfold OkR at h2; unfold OkE
  omega
theorem pl_zero (l : List Rn) (o bs ls : List Int) (kp : Int) (n : Nat) : List.replicate n (0 : Int) = (plA l o bs ls kp n).take 0 ++ List.replicate (n - 0) 0 := by simp
theorem pl_set {l : List Rn} {o bs ls : List Int} {kp : Int} {n k : Nat} (h : k < n) : ((plA l o bs ls kp n).take k ++ List.replicate (n - k) (0 : Int)).set k (plN l o bs ls kp k) = (plA l o bs ls kp n).take (k + 1) ++ List.replicate (n - (k + 1)) 0 := by
  have hl : ((plA l o bs ls kp n).take k).length = k := by rw [List.length_take, plA_len]; omega
  rw [List.set_append_right _ _ (by omega), hl, Nat.sub_self, show n - k = (n - (k + 1)) + 1 by omega, List.replicate_succ, List.set_cons_zero, take_succ' (by rw [plA_len]; exact h), plA_get h]
  simp
theorem pl_end (l : List Rn) (o bs ls : List Int) (kp : Int) (n : Nat) : (plA l o bs ls kp n).take n ++ List.replicate (n - n) (0 : Int) = plA l o bs ls kp n := by
  rw [List.take_of_length_le (by rw [plA_len]; omega)]; simp
theorem pl_0 {l : List Rn} {o bs ls : List Int} {kp : Int} {n : Nat} (h : 0 < n) : (plA l o bs ls kp n).take 0 ++ List.replicate (n - 0) (0 : Int) = (plA l o bs ls kp n).take (0 + 1) ++ List.replicate (n - (0 + 1)) 0 := by
  have := pl_set (l := l) (o := o) (bs := bs) (ls := ls) (kp := kp) h
  rw [← this]
  obtain ⟨m, rfl⟩ : ∃ m, n = m + 1 := ⟨n - 1, by omega⟩
  rfl
theorem c_Play (w : World) (v u g e : Value) (a b : Int) (l : List Rn) (o bs ls : List Int) (kp : Int) (hR : RdF encR 6 w.heap.size w v l) (hX : RdF encI 1 w.heap.size w u o) (hG : RdF encI 1 w.heap.size w g bs) (hE : RdF encI 1 w.heap.size w e ls) : Ct Try.prog 15 [dayV a b v, u, g, e, .int .i64 kp].toArray w fun r w' => ∃ Hq, (∃ x : Value, r = .tuple #[x, .int .i64 (plE a b l o bs ls kp)] ∧ Hq = [OwE encI 2 1 x (plL a b l o bs ls kp)]) ∧ Inv w [] Hq w' := by
  refine Ct.ofI (X := Value) (p := fun x r => r = .tuple #[x, .int .i64 (plE a b l o bs ls kp)]) (Hx := fun x => [OwE encI 2 1 x (plL a b l o bs ls kp)]) mixed tyTab Try.func15 rfl rfl ?_
  replace hR : RdF encR 6 (fnCx mixed tyTab Try.f15.ntmps w).B (fnCx mixed tyTab Try.f15.ntmps w).w0 v l := hR
  replace hX : RdF encI 1 (fnCx mixed tyTab Try.f15.ntmps w).B (fnCx mixed tyTab Try.f15.ntmps w).w0 u o := hX
  replace hG : RdF encI 1 (fnCx mixed tyTab Try.f15.ntmps w).B (fnCx mixed tyTab Try.f15.ntmps w).w0 g bs := hG
  replace hE : RdF encI 1 (fnCx mixed tyTab Try.f15.ntmps w).B (fnCx mixed tyTab Try.f15.ntmps w).w0 e ls := hE
  have ho := hR.sl.oc
  have hle := hR.sl.le
  have hlx := hX.sl.le
  refine W.sreg ?_
  refine WO.boxA rfl rfl (fun b1 hb1 => ?_)
  refine WO.p rfl rfl (WO.p rfl rfl ?_)
  refine WO.nil ?_
  refine W.sreg ?_
  refine WO.loadA rfl rfl (Cells.own Pick.head) rfl rfl (WO.p rfl rfl ?_)
  refine WO.call rfl Try.call37 (fun L w hi => c_newOrder w v u a b l o (hR.later hi) (hX.later hi)) rfl ?_
  rintro _ _ ⟨pv, rfl, rfl⟩
  refine WO.p rfl rfl (WO.p rfl rfl (WO.p rfl rfl (WO.p rfl rfl (WO.p rfl rfl ?_))))
  refine WO.nil ?_
  refine W.seq ?_
  refine W.block ?_
  refine W.sreg ?_
  refine WO.p rfl rfl (WO.p rfl rfl (WO.p rfl rfl ?_))
  refine WO.nil ?_
  refine W.cond_bl rfl (fun c1 => ?_) (fun c1 => ?_)
  · first
    | (exfalso; omega)
    | (refine W.sreg ?_
       refine WO.p rfl rfl (WO.p rfl rfl (WO.p rfl rfl ?_))
       refine WO.nil ?_
       refine W.ret ?_
       first | (have e1 := plE_bad (bs := bs) (ls := ls) (kp := kp) (show noE a b l o ≠ 0 by assumption); rw [e1.1, e1.2]; exact fin.ret (Res.two rfl (RV.tmp rfl) (RV.tmp rfl)) ⟨_, rfl, fun h hs => Sub.sat (.cons .head .nil) (owNil (enc := encI) (e := 2) (sz := 1) h hs)⟩) | (have e1 := plE_15 (kp := kp) (show ¬ noE a b l o ≠ 0 by assumption) (show bs.length ≠ o.length ∨ ls.length ≠ o.length by omega); rw [e1.1, e1.2]; exact fin.ret (Res.two rfl (RV.tmp rfl) (RV.tmp rfl)) ⟨_, rfl, fun h hs => Sub.sat (.cons .head .nil) (owNil (enc := encI) (e := 2) (sz := 1) h hs)⟩) | (have e1 := plE_3 (show ¬ noE a b l o ≠ 0 by assumption) (show ¬ (bs.length ≠ o.length ∨ ls.length ≠ o.length) by omega) (.inl (show ¬ (a ≤ kp ∧ kp ≤ b) by assumption)); rw [e1.1, e1.2]; exact fin.ret (Res.two rfl (RV.tmp rfl) (RV.tmp rfl)) ⟨_, rfl, fun h hs => Sub.sat (.cons .head .nil) (owNil (enc := encI) (e := 2) (sz := 1) h hs)⟩) | (have e1 := plE_3 (kp := kp) (show ¬ noE a b l o ≠ 0 by assumption) (show ¬ (bs.length ≠ o.length ∨ ls.length ≠ o.length) by omega) (.inr (fun h => by have q := (okP_iff hx).1 (h i (by omega)); omega)); rw [e1.1, e1.2]; exact fin.ret (Res.two rfl (RV.tmp rfl) (RV.tmp rfl)) ⟨_, rfl, fun h hs => Sub.sat (.cons .head .nil) (owNil (enc := encI) (e := 2) (sz := 1) h hs)⟩) | (have e1 := plE_0 (show ¬ noE a b l o ≠ 0 by assumption) (show ¬ (bs.length ≠ o.length ∨ ls.length ≠ o.length) by omega) (show a ≤ kp ∧ kp ≤ b by omega) hal'; have e2 := pl_end l o bs ls kp o.length; rw [show n = o.length by omega, e2, e1.1, e1.2]; exact fin.ret (Res.two rfl (RV.tmp rfl) (RV.tmp rfl)) ⟨_, rfl, fun h hs => Sub.sat (by repeat (first | exact Sub.nil | refine Sub.cons (by repeat (first | exact Pick.head | apply Pick.tail)) ?_)) hs⟩))
  first
  | (exfalso; omega)
  | (refine W.sreg ?_
     refine WO.p rfl rfl ?_
     refine' WO.len (n := _) rfl rfl ?hs rfl ?_
     case hs => (first | exact hG.sl)
     refine WO.p rfl rfl ?_
     refine' WO.len (n := _) rfl rfl ?hs rfl ?_
     case hs => (first | exact hX.sl)
     refine WO.p rfl rfl (WO.p rfl rfl ?_)
     refine WO.guard_bl rfl rfl (fun c2 => ?_) (fun c2 => ?_)
     · first
       | (exfalso; omega)
       | (refine WO.no rfl rfl (WO.no rfl rfl (WO.no rfl rfl (WO.no rfl rfl (WO.no rfl rfl (WO.p rfl rfl (WO.p rfl rfl ?_))))))
          refine WO.nil ?_
          refine W.cond_t rfl ?_
          refine W.sreg ?_
          refine WO.p rfl rfl (WO.p rfl rfl ?_)
          refine WO.nil ?_
          refine W.ret ?_
          first | (have e1 := plE_bad (bs := bs) (ls := ls) (kp := kp) (show noE a b l o ≠ 0 by assumption); rw [e1.1, e1.2]; exact fin.ret (Res.two rfl (RV.tmp rfl) (RV.tmp rfl)) ⟨_, rfl, fun h hs => Sub.sat (.cons .head .nil) (owNil (enc := encI) (e := 2) (sz := 1) h hs)⟩) | (have e1 := plE_15 (kp := kp) (show ¬ noE a b l o ≠ 0 by assumption) (show bs.length ≠ o.length ∨ ls.length ≠ o.length by omega); rw [e1.1, e1.2]; exact fin.ret (Res.two rfl (RV.tmp rfl) (RV.tmp rfl)) ⟨_, rfl, fun h hs => Sub.sat (.cons .head .nil) (owNil (enc := encI) (e := 2) (sz := 1) h hs)⟩) | (have e1 := plE_3 (show ¬ noE a b l o ≠ 0 by assumption) (show ¬ (bs.length ≠ o.length ∨ ls.length ≠ o.length) by omega) (.inl (show ¬ (a ≤ kp ∧ kp ≤ b) by assumption)); rw [e1.1, e1.2]; exact fin.ret (Res.two rfl (RV.tmp rfl) (RV.tmp rfl)) ⟨_, rfl, fun h hs => Sub.sat (.cons .head .nil) (owNil (enc := encI) (e := 2) (sz := 1) h hs)⟩) | (have e1 := plE_3 (kp := kp) (show ¬ noE a b l o ≠ 0 by assumption) (show ¬ (bs.length ≠ o.length ∨ ls.length ≠ o.length) by omega) (.inr (fun h => by have q := (okP_iff hx).1 (h i (by omega)); omega)); rw [e1.1, e1.2]; exact fin.ret (Res.two rfl (RV.tmp rfl) (RV.tmp rfl)) ⟨_, rfl, fun h hs => Sub.sat (.cons .head .nil) (owNil (enc := encI) (e := 2) (sz := 1) h hs)⟩) | (have e1 := plE_0 (show ¬ noE a b l o ≠ 0 by assumption) (show ¬ (bs.length ≠ o.length ∨ ls.length ≠ o.length) by omega) (show a ≤ kp ∧ kp ≤ b by omega) hal'; have e2 := pl_end l o bs ls kp o.length; rw [show n = o.length by omega, e2, e1.1, e1.2]; exact fin.ret (Res.two rfl (RV.tmp rfl) (RV.tmp rfl)) ⟨_, rfl, fun h hs => Sub.sat (by repeat (first | exact Sub.nil | refine Sub.cons (by repeat (first | exact Pick.head | apply Pick.tail)) ?_)) hs⟩))
     first
     | (exfalso; omega)
     | (refine WO.pg rfl rfl rfl (WO.go' rfl ?_)
        refine' WO.len (n := _) rfl rfl ?hs rfl ?_
        case hs => (first | exact hE.sl)
        refine WO.pg rfl rfl rfl (WO.go' rfl ?_)
        refine' WO.len (n := _) rfl rfl ?hs rfl ?_
        case hs => (first | exact hX.sl)
        refine WO.pg rfl rfl rfl (WO.p rfl rfl (WO.p rfl rfl ?_))
        refine WO.nil ?_
        refine W.cond_bl rfl (fun c3 => ?_) (fun c3 => ?_)
        · first
          | (exfalso; omega)
          | (refine W.sreg ?_
             refine WO.p rfl rfl (WO.p rfl rfl ?_)
             refine WO.nil ?_
             refine W.ret ?_
             first | (have e1 := plE_bad (bs := bs) (ls := ls) (kp := kp) (show noE a b l o ≠ 0 by assumption); rw [e1.1, e1.2]; exact fin.ret (Res.two rfl (RV.tmp rfl) (RV.tmp rfl)) ⟨_, rfl, fun h hs => Sub.sat (.cons .head .nil) (owNil (enc := encI) (e := 2) (sz := 1) h hs)⟩) | (have e1 := plE_15 (kp := kp) (show ¬ noE a b l o ≠ 0 by assumption) (show bs.length ≠ o.length ∨ ls.length ≠ o.length by omega); rw [e1.1, e1.2]; exact fin.ret (Res.two rfl (RV.tmp rfl) (RV.tmp rfl)) ⟨_, rfl, fun h hs => Sub.sat (.cons .head .nil) (owNil (enc := encI) (e := 2) (sz := 1) h hs)⟩) | (have e1 := plE_3 (show ¬ noE a b l o ≠ 0 by assumption) (show ¬ (bs.length ≠ o.length ∨ ls.length ≠ o.length) by omega) (.inl (show ¬ (a ≤ kp ∧ kp ≤ b) by assumption)); rw [e1.1, e1.2]; exact fin.ret (Res.two rfl (RV.tmp rfl) (RV.tmp rfl)) ⟨_, rfl, fun h hs => Sub.sat (.cons .head .nil) (owNil (enc := encI) (e := 2) (sz := 1) h hs)⟩) | (have e1 := plE_3 (kp := kp) (show ¬ noE a b l o ≠ 0 by assumption) (show ¬ (bs.length ≠ o.length ∨ ls.length ≠ o.length) by omega) (.inr (fun h => by have q := (okP_iff hx).1 (h i (by omega)); omega)); rw [e1.1, e1.2]; exact fin.ret (Res.two rfl (RV.tmp rfl) (RV.tmp rfl)) ⟨_, rfl, fun h hs => Sub.sat (.cons .head .nil) (owNil (enc := encI) (e := 2) (sz := 1) h hs)⟩) | (have e1 := plE_0 (show ¬ noE a b l o ≠ 0 by assumption) (show ¬ (bs.length ≠ o.length ∨ ls.length ≠ o.length) by omega) (show a ≤ kp ∧ kp ≤ b by omega) hal'; have e2 := pl_end l o bs ls kp o.length; rw [show n = o.length by omega, e2, e1.1, e1.2]; exact fin.ret (Res.two rfl (RV.tmp rfl) (RV.tmp rfl)) ⟨_, rfl, fun h hs => Sub.sat (by repeat (first | exact Sub.nil | refine Sub.cons (by repeat (first | exact Pick.head | apply Pick.tail)) ?_)) hs⟩))
        first
        | (exfalso; omega)
        | (refine W.seq ?_
           refine W.drawD 9 [.r 0 [], .r 1 [], .b 2 [], .r 3 [], .r 4 [], .b 5 [], .r 6 [], .r 7 [], .c 8 []] [] (A0 := []) (Sub.refl _) (by kernel_rfl) ?_ ?_
           · exact (ALok.r (ALok.r (ALok.b (ALok.r (ALok.r (ALok.b (ALok.r (ALok.r (ALok.c ALok.nil)))))))))
           refine' DT.r rfl rfl rfl ?hq ?_
           case hq =>
             refine WO.field0 rfl rfl rfl ?_
             exact WO.nil ⟨rfl, rfl⟩
           refine' DT.r rfl rfl rfl ?hq ?_
           case hq =>
             refine WO.field0 rfl rfl rfl ?_
             exact WO.nil ⟨rfl, rfl⟩
           refine' DT.b rfl rfl rfl ?hq ?_
           case hq =>
             refine WO.load rfl rfl (Cell.own (Pick.tail (Pick.head)) rfl) rfl ?_
             exact WO.nil ⟨rfl, rfl⟩
           refine' DT.r rfl rfl rfl ?hq ?_
           case hq =>
             refine WO.field0 rfl rfl rfl ?_
             exact WO.nil ⟨rfl, rfl⟩
           refine' DT.r rfl rfl rfl ?hq ?_
           case hq =>
             refine WO.fieldL rfl rfl rfl ?_
             exact WO.nil ⟨rfl, rfl⟩
           refine' DT.b rfl rfl rfl ?hq ?_
           case hq =>
             refine WO.load rfl rfl (Cell.own (Pick.tail (Pick.head)) rfl) rfl ?_
             exact WO.nil ⟨rfl, rfl⟩
           refine' DT.r rfl rfl rfl ?hq ?_
           case hq =>
             refine WO.p rfl rfl ?_
             exact WO.nil ⟨rfl, rfl⟩
           refine' DT.r rfl rfl rfl ?hq ?_
           case hq =>
             refine WO.callR rfl Try.call41 (fun L w hi => c_one w _) rfl ?_
             exact WO.nil ⟨rfl, rfl⟩
           refine DT.c [_, _] rfl rfl rfl rfl ?_
           refine' WO.buildSl (cs := _) rfl rfl rfl rfl ?hf rfl rfl ?hl rfl (fun v2 => ?_)
           case hf => (conv => lhs; simp [-List.getD_eq_getElem?_getD, fillL, vcl, wrl, TTab.pl?.lget']) <;> rfl
           case hl => rfl
           refine WO.nil ⟨_, [_], rfl, rfl, (Keep.r (Keep.r (Keep.b (Keep.r (Keep.r (Keep.b (Keep.r (Keep.r Keep.nil)))))))), ?_⟩
           refine DT.nil [_, _, _] rfl ?_
           refine WO.callR (r := .bool (bl (a ≤ kp ∧ kp ≤ b))) rfl Try.call40 (fun L w hi => by rw [← all1 (p := (kp, kp)) (lo := a) (hi := b) (by unfold InR; simp)]; exact c_within w _ [(kp, kp)] _ _ (RdF.of_ow (e := 23) encP_ok (by repeat (first | exact Pick.head | apply Pick.tail)) hi)) rfl ?_
           refine WO.p rfl rfl (WO.p rfl rfl ?_)
           refine WO.nil ?_
           refine W.cond_nbl rfl (fun c4 => ?_) (fun c4 => ?_)
           · first
             | (exfalso; omega)
             | (refine W.sreg ?_
                refine WO.p rfl rfl (WO.p rfl rfl ?_)
                refine WO.nil ?_
                refine W.ret ?_
                first | (have e1 := plE_bad (bs := bs) (ls := ls) (kp := kp) (show noE a b l o ≠ 0 by assumption); rw [e1.1, e1.2]; exact fin.ret (Res.two rfl (RV.tmp rfl) (RV.tmp rfl)) ⟨_, rfl, fun h hs => Sub.sat (.cons .head .nil) (owNil (enc := encI) (e := 2) (sz := 1) h hs)⟩) | (have e1 := plE_15 (kp := kp) (show ¬ noE a b l o ≠ 0 by assumption) (show bs.length ≠ o.length ∨ ls.length ≠ o.length by omega); rw [e1.1, e1.2]; exact fin.ret (Res.two rfl (RV.tmp rfl) (RV.tmp rfl)) ⟨_, rfl, fun h hs => Sub.sat (.cons .head .nil) (owNil (enc := encI) (e := 2) (sz := 1) h hs)⟩) | (have e1 := plE_3 (show ¬ noE a b l o ≠ 0 by assumption) (show ¬ (bs.length ≠ o.length ∨ ls.length ≠ o.length) by omega) (.inl (show ¬ (a ≤ kp ∧ kp ≤ b) by assumption)); rw [e1.1, e1.2]; exact fin.ret (Res.two rfl (RV.tmp rfl) (RV.tmp rfl)) ⟨_, rfl, fun h hs => Sub.sat (.cons .head .nil) (owNil (enc := encI) (e := 2) (sz := 1) h hs)⟩) | (have e1 := plE_3 (kp := kp) (show ¬ noE a b l o ≠ 0 by assumption) (show ¬ (bs.length ≠ o.length ∨ ls.length ≠ o.length) by omega) (.inr (fun h => by have q := (okP_iff hx).1 (h i (by omega)); omega)); rw [e1.1, e1.2]; exact fin.ret (Res.two rfl (RV.tmp rfl) (RV.tmp rfl)) ⟨_, rfl, fun h hs => Sub.sat (.cons .head .nil) (owNil (enc := encI) (e := 2) (sz := 1) h hs)⟩) | (have e1 := plE_0 (show ¬ noE a b l o ≠ 0 by assumption) (show ¬ (bs.length ≠ o.length ∨ ls.length ≠ o.length) by omega) (show a ≤ kp ∧ kp ≤ b by omega) hal'; have e2 := pl_end l o bs ls kp o.length; rw [show n = o.length by omega, e2, e1.1, e1.2]; exact fin.ret (Res.two rfl (RV.tmp rfl) (RV.tmp rfl)) ⟨_, rfl, fun h hs => Sub.sat (by repeat (first | exact Sub.nil | refine Sub.cons (by repeat (first | exact Pick.head | apply Pick.tail)) ?_)) hs⟩))
           first
           | (exfalso; omega)
           | (refine W.skip ?_
              obtain ⟨⟨hc0, hln, hd⟩, hol, hv, hnd⟩ := noE0.1 (show noE a b l o = 0 by omega)
              refine W.chgE (PtrP.open (by repeat (first | exact Pick.head | apply Pick.tail)) hc0) ?_
              rintro q rfl
              refine W.sreg ?_
              refine WO.p rfl rfl ?_
              refine WO.nil ?_
              refine W.seq ?_
              refine W.sreg ?_
              refine WO.p rfl rfl ?_
              refine' WO.len (n := _) rfl rfl ?hs rfl ?_
              case hs => (first | exact hX.sl)
              refine WO.p rfl rfl ?_
              refine WO.nil ?_
              refine W.block ?_
              refine W.loop (fun (i : Nat) => i ≤ o.length ∧ okA l o bs ls i)
                (fun (i : Nat) => [(1, u), (2, g), (3, e), (4, .int .i64 kp), (12, .pointer (some ⟨q, 0, none⟩)), (14, .int .i64 (ovK l o bs i)), (56, u), (57, .int .i64 (o.length : Int)), (58, .int .i64 (i : Int))])
                (fun (i : Nat) => [pt q (.cells (plC a b v (gW b l)).toArray 75 (0, 0))])
                (fun (i : Nat) => o.length - i) 0
                (by exact ⟨by omega, fun j hj => by omega⟩) ⟨rfl, rfl, rfl, rfl, rfl, rfl, rfl, rfl, rfl, trivial⟩ (by repeat (first | exact Sub.nil | refine Sub.cons (by repeat (first | exact Pick.head | apply Pick.tail)) ?_)) ?_
              rintro i ⟨hi, hal⟩
              refine W.sreg ?_
              refine WO.p rfl rfl ?_
              refine WO.nil ?_
              refine W.seq ?_
              refine W.cond_bl rfl (fun c5 => ?_) (fun c5 => ?_)
              · first
                | (exfalso; omega)
                | (refine W.skip ?_
                   refine W.seq ?_
                   refine W.block ?_
                   obtain ⟨x, hx, hxl⟩ := in_nat (hv _ (getD_mem (show i < o.length by omega) 0))
                   have hrx := hd.at_ hxl
                   unfold OkR at hrx
                   have hov := ovK_nn hd hv hi hal
                   have hovS := ovK_S (l := l) (bs := bs) (show i + 1 = i + 1 from rfl) hx
                   refine W.sreg ?_
                   refine WO.p rfl rfl ?_
                   refine' WO.indexAddr (n := _) (i := _) rfl rfl rfl ?hs ?h1 rfl ?_
                   case hs => (first | exact hX.sl)
                   case h1 => (first | omega | (simp; omega))
                   refine' WO.load (v := _) rfl rfl ?hc rfl ?_
                   case hc => (first | (refine hX.cell0 (i := i) (by omega) 0 ?_; rw [hx]; rfl))
                   refine WO.p rfl rfl (WO.p rfl rfl ?_)
                   refine WO.nil ?_
                   refine W.sreg ?_
                   refine WO.p rfl rfl (WO.p rfl rfl (WO.field0 rfl rfl rfl (WO.fieldL rfl rfl rfl (WO.load rfl rfl (Cell.own Pick.head rfl) rfl (WO.p rfl rfl ?_)))))
                   refine' WO.indexAddr (n := _) (i := _) rfl rfl rfl ?hs ?h1 rfl ?_
                   case hs => (first | exact hR.sl)
                   case h1 => (first | omega | (simp; omega))
                   refine' WO.loadA (vs := _) rfl rfl ?hc ?hl rfl ?_
                   case hc => (first | exact RdF.cellsR hR (i := x) (by omega))
                   case hl => rfl
                   refine WO.alloc rfl rfl rfl (fun b3 hb3 => ?_)
                   refine WO.storeA rfl rfl rfl rfl Pick.head rfl rfl ?_
                   refine WO.nil ?_
                   refine W.seq ?_
                   refine W.seq ?_
                   refine W.drawD 22 [.r 0 [], .r 1 [], .b 2 [], .r 3 [], .r 4 [], .b 5 [], .r 6 [], .r 7 [], .r 8 [], .b 9 [], .r 10 [], .c 11 [], .f 12 [], .r 13 [], .r 14 [], .r 15 [], .r 16 [], .r 17 [], .r 18 [], .b 19 [], .r 20 [], .c 21 []] [] (A0 := []) (Sub.refl _) (by kernel_rfl) ?_ ?_
                   · exact (ALok.r (ALok.r (ALok.b (ALok.r (ALok.r (ALok.b (ALok.r (ALok.r (ALok.r (ALok.b (ALok.r (ALok.c (ALok.f (ALok.r (ALok.r (ALok.r (ALok.r (ALok.r (ALok.r (ALok.b (ALok.r (ALok.c ALok.nil))))))))))))))))))))))
                   refine' DT.r rfl rfl rfl ?hq ?_
                   case hq =>
                     refine WO.fieldL rfl rfl rfl ?_
                     exact WO.nil ⟨rfl, rfl⟩
                   refine' DT.r rfl rfl rfl ?hq ?_
                   case hq =>
                     refine WO.field0 rfl rfl rfl ?_
                     exact WO.nil ⟨rfl, rfl⟩
                   refine' DT.b rfl rfl rfl ?hq ?_
                   case hq =>
                     refine WO.load rfl rfl (Cell.own Pick.head rfl) rfl ?_
                     exact WO.nil ⟨rfl, rfl⟩
                   refine' DT.r rfl rfl rfl ?hq ?_
                   case hq =>
                     refine WO.fieldL rfl rfl rfl ?_
                     exact WO.nil ⟨rfl, rfl⟩
                   refine' DT.r rfl rfl rfl ?hq ?_
                   case hq =>
                     refine WO.fieldL rfl rfl rfl ?_
                     exact WO.nil ⟨rfl, rfl⟩
                   refine' DT.b rfl rfl rfl ?hq ?_
                   case hq =>
                     refine WO.load rfl rfl (Cell.own Pick.head rfl) rfl ?_
                     exact WO.nil ⟨rfl, rfl⟩
                   refine' DT.r rfl rfl rfl ?hq ?_
                   case hq =>
                     refine WO.p rfl rfl ?_
                     exact WO.nil ⟨rfl, rfl⟩
                   refine' DT.r rfl rfl rfl ?hq ?_
                   case hq =>
                     refine WO.p rfl rfl ?_
                     exact WO.nil ⟨rfl, rfl⟩
                   refine' DT.r rfl rfl rfl ?hq ?_
                   case hq =>
                     refine' WO.indexAddr (n := _) (i := _) rfl rfl rfl ?hs ?h1 rfl ?_
                     case hs => (first | exact hE.sl)
                     case h1 => (first | omega | (simp; omega))
                     exact WO.nil ⟨rfl, rfl⟩
                   refine' DT.b rfl rfl rfl ?hq ?_
                   case hq =>
                     refine' WO.load (v := _) rfl rfl ?hc rfl ?_
                     case hc => (first | (refine hE.cell0 (i := i) (by omega) 0 ?_; rfl))
                     exact WO.nil ⟨rfl, rfl⟩
                   refine' DT.r rfl rfl rfl ?hq ?_
                   case hq =>
                     refine WO.callR rfl Try.call41 (fun L w hi => c_one w _) rfl ?_
                     exact WO.nil ⟨rfl, rfl⟩
                   refine DT.c [_, _] rfl rfl rfl rfl ?_
                   refine' WO.buildSl (cs := _) rfl rfl rfl rfl ?hf rfl rfl ?hl rfl (fun v4 => ?_)
                   case hf => (conv => lhs; simp [-List.getD_eq_getElem?_getD, fillL, vcl, wrl, TTab.pl?.lget']) <;> rfl
                   case hl => rfl
                   refine WO.nil ⟨_, [_], rfl, rfl, (Keep.r (Keep.b (Keep.r (Keep.r (Keep.r (Keep.b (Keep.r (Keep.r (Keep.b (Keep.r (Keep.r Keep.nil))))))))))), ?_⟩
                   refine' DT.f [_, _, _] rfl rfl rfl rfl ?hq ?_
                   case hq =>
                     refine WO.callR (r := .bool (bl ((l.getD x rn0).lo ≤ ls.getD i 0 ∧ ls.getD i 0 ≤ (l.getD x rn0).hi))) rfl Try.call40 (fun L w hi => by rw [← all1 (p := (ls.getD i 0, ls.getD i 0)) (lo := (l.getD x rn0).lo) (hi := (l.getD x rn0).hi) (by unfold InR; simp)]; exact c_within w _ [(ls.getD i 0, ls.getD i 0)] _ _ (RdF.of_ow (e := 23) encP_ok (by repeat (first | exact Pick.head | apply Pick.tail)) hi)) rfl ?_
                     exact WO.nil ⟨rfl, rfl⟩
                   refine' DT.r rfl rfl rfl ?hq ?_
                   case hq =>
                     refine WO.p rfl rfl ?_
                     exact WO.nil ⟨rfl, rfl⟩
                   refine' DT.rNB rfl rfl rfl ?hq (fun c6 => ?_) (fun c6 => ?_)
                   case hq =>
                     refine WO.p rfl rfl ?_
                     exact WO.nil ⟨rfl, rfl⟩
                   · first
                     | (exfalso; omega)
                     | (refine' DT.r rfl rfl rfl ?hq ?_
                        case hq =>
                          refine WO.no rfl rfl ?_
                          exact WO.nil ⟨rfl, rfl⟩
                        refine' DT.r rfl rfl rfl ?hq ?_
                        case hq =>
                          refine WO.no rfl rfl ?_
                          exact WO.nil ⟨rfl, rfl⟩
                        refine' DT.r rfl rfl rfl ?hq ?_
                        case hq =>
                          refine WO.no rfl rfl ?_
                          exact WO.nil ⟨rfl, rfl⟩
                        refine' DT.r rfl rfl rfl ?hq ?_
                        case hq =>
                          refine WO.no rfl rfl ?_
                          exact WO.nil ⟨rfl, rfl⟩
                        refine' DT.b rfl rfl rfl ?hq ?_
                        case hq =>
                          refine WO.no rfl rfl ?_
                          exact WO.nil ⟨rfl, rfl⟩
                        refine' DT.r rfl rfl rfl ?hq ?_
                        case hq =>
                          refine WO.no rfl rfl ?_
                          exact WO.nil ⟨rfl, rfl⟩
                        refine DT.c [_, _, _] rfl rfl rfl rfl ?_
                        refine WO.no rfl rfl ?_
                        refine WO.nil ⟨_, [_], rfl, rfl, (Keep.r (Keep.b (Keep.r (Keep.r (Keep.r (Keep.r (Keep.r (Keep.r (Keep.f (Keep.c (Keep.r (Keep.b (Keep.r (Keep.r (Keep.r (Keep.b (Keep.r (Keep.r (Keep.b (Keep.r (Keep.r Keep.nil))))))))))))))))))))), ?_⟩
                        refine DT.nil [_, _, _] rfl ?_
                        refine WO.no rfl rfl (WO.no rfl rfl (WO.p rfl rfl ?_))
                        refine WO.nil ?_
                        refine W.cond_t rfl ?_
                        refine W.sreg ?_
                        refine WO.p rfl rfl (WO.p rfl rfl ?_)
                        refine WO.nil ?_
                        refine W.ret ?_
                        first | (have e1 := plE_bad (bs := bs) (ls := ls) (kp := kp) (show noE a b l o ≠ 0 by assumption); rw [e1.1, e1.2]; exact fin.ret (Res.two rfl (RV.tmp rfl) (RV.tmp rfl)) ⟨_, rfl, fun h hs => Sub.sat (.cons .head .nil) (owNil (enc := encI) (e := 2) (sz := 1) h hs)⟩) | (have e1 := plE_15 (kp := kp) (show ¬ noE a b l o ≠ 0 by assumption) (show bs.length ≠ o.length ∨ ls.length ≠ o.length by omega); rw [e1.1, e1.2]; exact fin.ret (Res.two rfl (RV.tmp rfl) (RV.tmp rfl)) ⟨_, rfl, fun h hs => Sub.sat (.cons .head .nil) (owNil (enc := encI) (e := 2) (sz := 1) h hs)⟩) | (have e1 := plE_3 (show ¬ noE a b l o ≠ 0 by assumption) (show ¬ (bs.length ≠ o.length ∨ ls.length ≠ o.length) by omega) (.inl (show ¬ (a ≤ kp ∧ kp ≤ b) by assumption)); rw [e1.1, e1.2]; exact fin.ret (Res.two rfl (RV.tmp rfl) (RV.tmp rfl)) ⟨_, rfl, fun h hs => Sub.sat (.cons .head .nil) (owNil (enc := encI) (e := 2) (sz := 1) h hs)⟩) | (have e1 := plE_3 (kp := kp) (show ¬ noE a b l o ≠ 0 by assumption) (show ¬ (bs.length ≠ o.length ∨ ls.length ≠ o.length) by omega) (.inr (fun h => by have q := (okP_iff hx).1 (h i (by omega)); omega)); rw [e1.1, e1.2]; exact fin.ret (Res.two rfl (RV.tmp rfl) (RV.tmp rfl)) ⟨_, rfl, fun h hs => Sub.sat (.cons .head .nil) (owNil (enc := encI) (e := 2) (sz := 1) h hs)⟩) | (have e1 := plE_0 (show ¬ noE a b l o ≠ 0 by assumption) (show ¬ (bs.length ≠ o.length ∨ ls.length ≠ o.length) by omega) (show a ≤ kp ∧ kp ≤ b by omega) hal'; have e2 := pl_end l o bs ls kp o.length; rw [show n = o.length by omega, e2, e1.1, e1.2]; exact fin.ret (Res.two rfl (RV.tmp rfl) (RV.tmp rfl)) ⟨_, rfl, fun h hs => Sub.sat (by repeat (first | exact Sub.nil | refine Sub.cons (by repeat (first | exact Pick.head | apply Pick.tail)) ?_)) hs⟩))
                   first
                   | (exfalso; omega)
                   | (refine' DT.r rfl rfl rfl ?hq ?_
                      case hq =>
                        refine WO.pg rfl rfl rfl ?_
                        exact WO.nil ⟨rfl, rfl⟩
                      refine' DT.r rfl rfl rfl ?hq ?_
                      case hq =>
                        refine WO.pg rfl rfl rfl ?_
                        exact WO.nil ⟨rfl, rfl⟩
                      refine' DT.r rfl rfl rfl ?hq ?_
                      case hq =>
                        refine WO.pg rfl rfl rfl ?_
                        exact WO.nil ⟨rfl, rfl⟩
                      refine' DT.r rfl rfl rfl ?hq ?_
                      case hq =>
                        refine WO.go' rfl ?_
                        refine' WO.indexAddr (n := _) (i := _) rfl rfl rfl ?hs ?h1 rfl ?_
                        case hs => (first | exact hG.sl)
                        case h1 => (first | omega | (simp; omega))
                        exact WO.nil ⟨rfl, rfl⟩
                      refine' DT.b rfl rfl rfl ?hq ?_
                      case hq =>
                        refine WO.go' rfl ?_
                        refine' WO.load (v := _) rfl rfl ?hc rfl ?_
                        case hc => (first | (refine hG.cell0 (i := i) (by omega) 0 ?_; rfl))
                        exact WO.nil ⟨rfl, rfl⟩
                      refine' DT.r rfl rfl rfl ?hq ?_
                      case hq =>
                        refine WO.go' rfl ?_
                        refine WO.callR rfl Try.call41 (fun L w hi => c_one w _) rfl ?_
                        exact WO.nil ⟨rfl, rfl⟩
                      refine DT.c [_, _, _] rfl rfl rfl rfl ?_
                      refine WO.go' rfl ?_
                      refine' WO.buildSl (cs := _) rfl rfl rfl rfl ?hf rfl rfl ?hl rfl (fun v5 => ?_)
                      case hf => (conv => lhs; simp [-List.getD_eq_getElem?_getD, fillL, vcl, wrl, TTab.pl?.lget']) <;> rfl
                      case hl => rfl
                      refine WO.nil ⟨_, [_, _], rfl, rfl, (Keep.r (Keep.b (Keep.r (Keep.r (Keep.r (Keep.r (Keep.r (Keep.r (Keep.f (Keep.c (Keep.r (Keep.b (Keep.r (Keep.r (Keep.r (Keep.b (Keep.r (Keep.r (Keep.b (Keep.r (Keep.r Keep.nil))))))))))))))))))))), ?_⟩
                      refine DT.nil [_, _, _, _] rfl ?_
                      refine WO.go' rfl ?_
                      refine WO.callR (r := .bool (bl (ovK l o bs i ≤ bs.getD i 0 ∧ bs.getD i 0 ≤ 1000000))) rfl Try.call40 (fun L w hi => by rw [← all1 (p := (bs.getD i 0, bs.getD i 0)) (lo := ovK l o bs i) (hi := 1000000) (by unfold InR; simp)]; exact c_within w _ [(bs.getD i 0, bs.getD i 0)] _ _ (RdF.of_ow (e := 23) encP_ok (by repeat (first | exact Pick.head | apply Pick.tail)) hi)) rfl ?_
                      refine WO.pg rfl rfl rfl (WO.p rfl rfl ?_)
                      refine WO.nil ?_
                      refine W.cond_nbl rfl (fun c7 => ?_) (fun c7 => ?_)
                      · first
                        | (exfalso; omega)
                        | (refine W.sreg ?_
                           refine WO.p rfl rfl (WO.p rfl rfl ?_)
                           refine WO.nil ?_
                           refine W.ret ?_
                           first | (have e1 := plE_bad (bs := bs) (ls := ls) (kp := kp) (show noE a b l o ≠ 0 by assumption); rw [e1.1, e1.2]; exact fin.ret (Res.two rfl (RV.tmp rfl) (RV.tmp rfl)) ⟨_, rfl, fun h hs => Sub.sat (.cons .head .nil) (owNil (enc := encI) (e := 2) (sz := 1) h hs)⟩) | (have e1 := plE_15 (kp := kp) (show ¬ noE a b l o ≠ 0 by assumption) (show bs.length ≠ o.length ∨ ls.length ≠ o.length by omega); rw [e1.1, e1.2]; exact fin.ret (Res.two rfl (RV.tmp rfl) (RV.tmp rfl)) ⟨_, rfl, fun h hs => Sub.sat (.cons .head .nil) (owNil (enc := encI) (e := 2) (sz := 1) h hs)⟩) | (have e1 := plE_3 (show ¬ noE a b l o ≠ 0 by assumption) (show ¬ (bs.length ≠ o.length ∨ ls.length ≠ o.length) by omega) (.inl (show ¬ (a ≤ kp ∧ kp ≤ b) by assumption)); rw [e1.1, e1.2]; exact fin.ret (Res.two rfl (RV.tmp rfl) (RV.tmp rfl)) ⟨_, rfl, fun h hs => Sub.sat (.cons .head .nil) (owNil (enc := encI) (e := 2) (sz := 1) h hs)⟩) | (have e1 := plE_3 (kp := kp) (show ¬ noE a b l o ≠ 0 by assumption) (show ¬ (bs.length ≠ o.length ∨ ls.length ≠ o.length) by omega) (.inr (fun h => by have q := (okP_iff hx).1 (h i (by omega)); omega)); rw [e1.1, e1.2]; exact fin.ret (Res.two rfl (RV.tmp rfl) (RV.tmp rfl)) ⟨_, rfl, fun h hs => Sub.sat (.cons .head .nil) (owNil (enc := encI) (e := 2) (sz := 1) h hs)⟩) | (have e1 := plE_0 (show ¬ noE a b l o ≠ 0 by assumption) (show ¬ (bs.length ≠ o.length ∨ ls.length ≠ o.length) by omega) (show a ≤ kp ∧ kp ≤ b by omega) hal'; have e2 := pl_end l o bs ls kp o.length; rw [show n = o.length by omega, e2, e1.1, e1.2]; exact fin.ret (Res.two rfl (RV.tmp rfl) (RV.tmp rfl)) ⟨_, rfl, fun h hs => Sub.sat (by repeat (first | exact Sub.nil | refine Sub.cons (by repeat (first | exact Pick.head | apply Pick.tail)) ?_)) hs⟩))
                      first
                      | (exfalso; omega)
                      | (refine W.skip ?_
                         refine W.drawD 6 [.r 0 [], .r 1 [], .r 2 [], .b 3 [], .r 4 [], .b 5 []] [] (A0 := []) (Sub.refl _) (by kernel_rfl) ?_ ?_
                         · exact (ALok.r (ALok.r (ALok.r (ALok.b (ALok.r (ALok.b ALok.nil))))))
                         refine' DT.r rfl rfl rfl ?hq ?_
                         case hq =>
                           refine WO.p rfl rfl ?_
                           exact WO.nil ⟨rfl, rfl⟩
                         refine' DT.r rfl rfl rfl ?hq ?_
                         case hq =>
                           refine WO.p rfl rfl ?_
                           exact WO.nil ⟨rfl, rfl⟩
                         refine' DT.r rfl rfl rfl ?hq ?_
                         case hq =>
                           refine' WO.indexAddr (n := _) (i := _) rfl rfl rfl ?hs ?h1 rfl ?_
                           case hs => (first | exact hG.sl)
                           case h1 => (first | omega | (simp; omega))
                           exact WO.nil ⟨rfl, rfl⟩
                         refine' DT.b rfl rfl rfl ?hq ?_
                         case hq =>
                           refine' WO.load (v := _) rfl rfl ?hc rfl ?_
                           case hc => (first | (refine hG.cell0 (i := i) (by omega) 0 ?_; rfl))
                           exact WO.nil ⟨rfl, rfl⟩
                         refine' DT.r rfl rfl rfl ?hq ?_
                         case hq =>
                           refine WO.field0 rfl rfl rfl ?_
                           exact WO.nil ⟨rfl, rfl⟩
                         refine' DT.b rfl rfl rfl ?hq ?_
                         case hq =>
                           refine WO.load rfl rfl (Cell.own (Pick.tail (Pick.tail (Pick.head))) rfl) rfl ?_
                           exact WO.nil ⟨rfl, rfl⟩
                         refine DT.nil [_, _, _, _] rfl ?_
                         refine WO.add rfl rfl (by unfold in64; omega) rfl ?_
                         rw [← hovS]
                         refine WO.p rfl rfl ?_
                         refine WO.nil ?_
                         refine W.region ?_
                         refine WO.ar rfl rfl rfl (by (first | (unfold in64; omega) | (unfold in64; omega))) rfl (WO.p rfl rfl ?_)
                         refine WO.nil ?_
                         refine' ⟨i + 1, ?hp, ?hmu, ⟨rfl, rfl, rfl, rfl, rfl, rfl, rfl, rfl, rfl, trivial⟩, ?hS⟩
                         case hS => repeat (first | exact Sub.nil | refine Sub.cons (by repeat (first | exact Pick.head | apply Pick.tail)) ?_)
                         case hp => exact ⟨by omega, hal.succ ((okP_iff hx).2 (by omega))⟩
                         case hmu => omega)))
              first
              | (exfalso; omega)
              | (refine W.exit (blk_same ?_)
                 have hal' : okA l o bs ls o.length := by rw [show o.length = i by omega]; exact hal
                 refine W.sreg ?_
                 refine WO.p rfl rfl ?_
                 refine' WO.len (n := _) rfl rfl ?hs rfl ?_
                 case hs => (first | exact hX.sl)
                 refine WO.makeEN (z := (0 : Int)) encI_ok rfl rfl rfl rfl rfl (by omega) (by omega) rfl (fun lb => ?_)
                 rw [pl_zero l o bs ls kp]
                 refine WO.p rfl rfl ?_
                 refine WO.nil ?_
                 refine W.seq ?_
                 refine W.sreg ?_
                 refine WO.p rfl rfl ?_
                 refine' WO.len (n := _) rfl rfl ?hs rfl ?_
                 case hs => (first | exact hX.sl)
                 refine WO.p rfl rfl ?_
                 refine WO.nil ?_
                 refine W.block ?_
                 refine W.loop (fun (n : Nat) => n ≤ o.length)
                   (fun (n : Nat) => [(1, u), (2, g), (3, e), (4, .int .i64 kp), (12, .pointer (some ⟨q, 0, none⟩)), (18, .slice (some ⟨lb, 0, none⟩) o.length o.length), (107, u), (108, .int .i64 (o.length : Int)), (109, .int .i64 (n : Int))])
                   (fun (n : Nat) => [pt q (.cells (plC a b v (gW b l)).toArray 75 (0, 0)), OwE encI 2 1 (.slice (some ⟨lb, 0, none⟩) o.length o.length) ((plA l o bs ls kp o.length).take n ++ List.replicate (o.length - n) 0)])
                   (fun (n : Nat) => o.length - n) 0
                   (by omega) ⟨rfl, rfl, rfl, rfl, rfl, rfl, rfl, rfl, rfl, trivial⟩ (by repeat (first | exact Sub.nil | refine Sub.cons (by repeat (first | exact Pick.head | apply Pick.tail)) ?_)) ?_
                 rintro n hn
                 refine W.sreg ?_
                 refine WO.p rfl rfl ?_
                 refine WO.nil ?_
                 refine W.seq ?_
                 refine W.cond_bl rfl (fun c6 => ?_) (fun c6 => ?_)
                 · first
                   | (exfalso; omega)
                   | (refine W.skip ?_
                      refine W.seq ?_
                      refine W.block ?_
                      refine W.sreg ?_
                      refine WO.p rfl rfl (WO.p rfl rfl ?_)
                      refine WO.nil ?_
                      refine W.sreg ?_
                      refine WO.p rfl rfl (WO.p rfl rfl ?_)
                      refine WO.nil ?_
                      refine W.cond_bl rfl (fun c7 => ?_) (fun c7 => ?_)
                      · first
                        | (exfalso; omega)
                        | (refine W.seq ?_
                           obtain ⟨k, hk⟩ : ∃ k, n = k + 1 := ⟨n - 1, by omega⟩
                           obtain ⟨y, hy, hyl⟩ := in_nat (hv _ (getD_mem (show k < o.length by omega) 0))
                           have hry := hd.at_ hyl
                           unfold OkR at hry
                           obtain ⟨x, hx, hxl⟩ := in_nat (hv _ (getD_mem (show n < o.length by omega) 0))
                           have hok1 := ok_ke hd (show a ≤ kp ∧ kp ≤ b by omega) hy hyl (hal' k (by omega))
                           have hok2 := (okP_iff hx).1 (hal' n (by omega))
                           have hok3 := (okP_iff hy).1 (hal' k (by omega))
                           rw [ovK_S hk hy] at hok2
                           have hok4 := (ovK_nn (i := k) hd hv (by omega) (fun j hj => hal' j (by omega))).1
                           have hplS := plN_S (l := l) (bs := bs) (ls := ls) (kp := kp) hk hy
                           obtain ⟨mm, hmm⟩ : ∃ mm : Nat, bs.getD n 0 - bs.getD k 0 - (l.getD y rn0).mi = (mm : Int) := ⟨(bs.getD n 0 - bs.getD k 0 - (l.getD y rn0).mi).toNat, by omega⟩
                           rw [hmm, Int.toNat_natCast] at hplS
                           refine W.drawD 23 [.r 0 [], .r 1 [], .r 2 [], .b 3 [], .r 4 [], .r 5 [], .r 6 [], .r 7 [], .b 8 [], .r 9 [], .r 10 [], .r 11 [], .r 12 [], .r 13 [], .b 14 [], .r 15 [], .r 16 [], .r 17 [], .r 18 [], .b 19 [], .r 20 [], .r 21 [], .b 22 []] [] (A0 := []) (Sub.refl _) (by kernel_rfl) ?_ ?_
                           · exact (ALok.r (ALok.r (ALok.r (ALok.b (ALok.r (ALok.r (ALok.r (ALok.r (ALok.b (ALok.r (ALok.r (ALok.r (ALok.r (ALok.r (ALok.b (ALok.r (ALok.r (ALok.r (ALok.r (ALok.b (ALok.r (ALok.r (ALok.b ALok.nil)))))))))))))))))))))))
                           refine' DT.r rfl rfl rfl ?hq ?_
                           case hq =>
                             refine WO.p rfl rfl ?_
                             exact WO.nil ⟨rfl, rfl⟩
                           refine' DT.r rfl rfl rfl ?hq ?_
                           case hq =>
                             refine WO.p rfl rfl ?_
                             exact WO.nil ⟨rfl, rfl⟩
                           refine' DT.r rfl rfl rfl ?hq ?_
                           case hq =>
                             refine' WO.indexAddr (n := _) (i := _) rfl rfl rfl ?hs ?h1 rfl ?_
                             case hs => (first | exact hG.sl)
                             case h1 => (first | omega | (simp; omega))
                             exact WO.nil ⟨rfl, rfl⟩
                           refine' DT.b rfl rfl rfl ?hq ?_
                           case hq =>
                             refine' WO.load (v := _) rfl rfl ?hc rfl ?_
                             case hc => (first | (refine hG.cell0 (i := n) (by omega) 0 ?_; rfl))
                             exact WO.nil ⟨rfl, rfl⟩
                           refine' DT.r rfl rfl rfl ?hq ?_
                           case hq =>
                             refine WO.p rfl rfl ?_
                             exact WO.nil ⟨rfl, rfl⟩
                           refine' DT.r rfl rfl rfl ?hq ?_
                           case hq =>
                             refine WO.p rfl rfl ?_
                             exact WO.nil ⟨rfl, rfl⟩
                           refine' DT.r rfl rfl rfl ?hq ?_
                           case hq =>
                             refine WO.sub rfl rfl (by unfold in64; omega) rfl ?_
                             rw [show (n : Int) - 1 = (k : Int) by omega]
                             exact WO.nil ⟨rfl, rfl⟩
                           refine' DT.r rfl rfl rfl ?hq ?_
                           case hq =>
                             refine' WO.indexAddr (n := _) (i := _) rfl rfl rfl ?hs ?h1 rfl ?_
                             case hs => (first | exact hG.sl)
                             case h1 => (first | omega | (simp; omega))
                             exact WO.nil ⟨rfl, rfl⟩
                           refine' DT.b rfl rfl rfl ?hq ?_
                           case hq =>
                             refine' WO.load (v := _) rfl rfl ?hc rfl ?_
                             case hc => (first | (refine hG.cell0 (i := k) (by omega) 0 ?_; rfl))
                             exact WO.nil ⟨rfl, rfl⟩
                           refine' DT.r rfl rfl rfl ?hq ?_
                           case hq =>
                             refine WO.ar rfl rfl rfl (by (first | (unfold in64; omega) | (unfold in64; omega))) rfl ?_
                             exact WO.nil ⟨rfl, rfl⟩
                           refine' DT.r rfl rfl rfl ?hq ?_
                           case hq =>
                             refine WO.p rfl rfl ?_
                             exact WO.nil ⟨rfl, rfl⟩
                           refine' DT.r rfl rfl rfl ?hq ?_
                           case hq =>
                             refine WO.p rfl rfl ?_
                             exact WO.nil ⟨rfl, rfl⟩
                           refine' DT.r rfl rfl rfl ?hq ?_
                           case hq =>
                             refine WO.field0 rfl rfl rfl ?_
                             exact WO.nil ⟨rfl, rfl⟩
                           refine' DT.r rfl rfl rfl ?hq ?_
                           case hq =>
                             refine WO.fieldL rfl rfl rfl ?_
                             exact WO.nil ⟨rfl, rfl⟩
                           refine' DT.b rfl rfl rfl ?hq ?_
                           case hq =>
                             refine WO.load rfl rfl (Cell.own Pick.head rfl) rfl ?_
                             exact WO.nil ⟨rfl, rfl⟩
                           refine' DT.r rfl rfl rfl ?hq ?_
                           case hq =>
                             refine WO.p rfl rfl ?_
                             exact WO.nil ⟨rfl, rfl⟩
                           refine' DT.r rfl rfl rfl ?hq ?_
                           case hq =>
                             refine WO.p rfl rfl ?_
                             exact WO.nil ⟨rfl, rfl⟩
                           refine' DT.r rfl rfl rfl ?hq ?_
                           case hq =>
                             refine WO.sub rfl rfl (by unfold in64; omega) rfl ?_
                             rw [show (n : Int) - 1 = (k : Int) by omega]
                             exact WO.nil ⟨rfl, rfl⟩
                           refine' DT.r rfl rfl rfl ?hq ?_
                           case hq =>
                             refine' WO.indexAddr (n := _) (i := _) rfl rfl rfl ?hs ?h1 rfl ?_
                             case hs => (first | exact hX.sl)
                             case h1 => (first | omega | (simp; omega))
                             exact WO.nil ⟨rfl, rfl⟩
                           refine' DT.b rfl rfl rfl ?hq ?_
                           case hq =>
                             refine' WO.load (v := _) rfl rfl ?hc rfl ?_
                             case hc => (first | (refine hX.cell0 (i := k) (by omega) 0 ?_; rw [hy]; rfl))
                             exact WO.nil ⟨rfl, rfl⟩
                           refine' DT.r rfl rfl rfl ?hq ?_
                           case hq =>
                             refine' WO.indexAddr (n := _) (i := _) rfl rfl rfl ?hs ?h1 rfl ?_
                             case hs => (first | exact hR.sl)
                             case h1 => (first | omega | (simp; omega))
                             exact WO.nil ⟨rfl, rfl⟩
                           refine' DT.r rfl rfl rfl ?hq ?_
                           case hq =>
                             refine WO.field0 rfl rfl rfl ?_
                             exact WO.nil ⟨rfl, rfl⟩
                           refine' DT.b rfl rfl rfl ?hq ?_
                           case hq =>
                             refine' WO.load (v := _) rfl rfl ?hc rfl ?_
                             case hc => (first | (refine hR.cell0 (i := y) (by omega) rn0 ?_; rfl))
                             exact WO.nil ⟨rfl, rfl⟩
                           refine DT.nil [_, _] rfl ?_
                           refine WO.sub rfl rfl (by unfold in64; omega) rfl ?_
                           rw [hmm]
                           refine WO.p rfl rfl ?_
                           refine WO.nil ?_
                           refine W.region ?_
                           refine WO.p rfl rfl (WO.p rfl rfl (WO.p rfl rfl (WO.p rfl rfl ?_)))
                           refine WO.sub rfl rfl (by unfold in64; omega) rfl ?_
                           rw [show (n : Int) - 1 = (k : Int) by omega]
                           refine' WO.indexAddr (n := _) (i := _) rfl rfl rfl ?hs ?h1 rfl ?_
                           case hs => (first | exact hE.sl)
                           case h1 => (first | omega | (simp; omega))
                           refine' WO.load (v := _) rfl rfl ?hc rfl ?_
                           case hc => (first | (refine hE.cell0 (i := k) (by omega) 0 ?_; rfl))
                           refine WO.p rfl rfl (WO.p rfl rfl ?_)
                           refine WO.callR rfl Try.call42 (fun L w hi => c_left w kp (ls.getD k 0) mm hok1) rfl ?_
                           rw [← hplS]
                           refine' WO.indexAddr (n := _) (i := _) rfl rfl rfl ?hs ?h1 rfl ?_
                           case hs => (first | exact isSl_lit (n := o.length) (c := o.length) (by omega) (fun _ => ⟨_, _, rfl⟩))
                           case h1 => (first | omega | (simp; omega))
                           refine WO.storeE (n := plN l o bs ls kp n) (i := n) encI_ok rfl rfl rfl rfl (by repeat (first | exact Pick.head | apply Pick.tail)) (by simp only [List.length_append, List.length_take, plA_len, List.length_replicate]; omega) ?_
                           rw [pl_set (by omega)]
                           refine WO.nil ?_
                           first | rw [show (plA l o bs ls kp o.length).take n ++ List.replicate (o.length - n) (0 : Int) = (plA l o bs ls kp o.length).take (n + 1) ++ List.replicate (o.length - (n + 1)) 0 by rw [show n = 0 by omega]; exact pl_0 (by omega)] | skip
                           refine W.region ?_
                           refine WO.ar rfl rfl rfl (by (first | (unfold in64; omega) | (unfold in64; omega))) rfl (WO.p rfl rfl ?_)
                           refine WO.nil ?_
                           refine' ⟨n + 1, ?hp, ?hmu, ⟨rfl, rfl, rfl, rfl, rfl, rfl, rfl, rfl, rfl, trivial⟩, ?hS⟩
                           case hS => repeat (first | exact Sub.nil | refine Sub.cons (by repeat (first | exact Pick.head | apply Pick.tail)) ?_)
                           case hp => omega
                           case hmu => omega)
                      first
                      | (exfalso; omega)
                      | (refine W.skip ?_
                         first | rw [show (plA l o bs ls kp o.length).take n ++ List.replicate (o.length - n) (0 : Int) = (plA l o bs ls kp o.length).take (n + 1) ++ List.replicate (o.length - (n + 1)) 0 by rw [show n = 0 by omega]; exact pl_0 (by omega)] | skip
                         refine W.region ?_
                         refine WO.ar rfl rfl rfl (by (first | (unfold in64; omega) | (unfold in64; omega))) rfl (WO.p rfl rfl ?_)
                         refine WO.nil ?_
                         refine' ⟨n + 1, ?hp, ?hmu, ⟨rfl, rfl, rfl, rfl, rfl, rfl, rfl, rfl, rfl, trivial⟩, ?hS⟩
                         case hS => repeat (first | exact Sub.nil | refine Sub.cons (by repeat (first | exact Pick.head | apply Pick.tail)) ?_)
                         case hp => omega
                         case hmu => omega))
                 first
                 | (exfalso; omega)
                 | (refine W.exit (blk_same ?_)
                    refine W.sreg ?_
                    refine WO.p rfl rfl (WO.p rfl rfl (WO.p rfl rfl ?_))
                    refine WO.nil ?_
                    refine W.ret ?_
                    first | (have e1 := plE_bad (bs := bs) (ls := ls) (kp := kp) (show noE a b l o ≠ 0 by assumption); rw [e1.1, e1.2]; exact fin.ret (Res.two rfl (RV.tmp rfl) (RV.tmp rfl)) ⟨_, rfl, fun h hs => Sub.sat (.cons .head .nil) (owNil (enc := encI) (e := 2) (sz := 1) h hs)⟩) | (have e1 := plE_15 (kp := kp) (show ¬ noE a b l o ≠ 0 by assumption) (show bs.length ≠ o.length ∨ ls.length ≠ o.length by omega); rw [e1.1, e1.2]; exact fin.ret (Res.two rfl (RV.tmp rfl) (RV.tmp rfl)) ⟨_, rfl, fun h hs => Sub.sat (.cons .head .nil) (owNil (enc := encI) (e := 2) (sz := 1) h hs)⟩) | (have e1 := plE_3 (show ¬ noE a b l o ≠ 0 by assumption) (show ¬ (bs.length ≠ o.length ∨ ls.length ≠ o.length) by omega) (.inl (show ¬ (a ≤ kp ∧ kp ≤ b) by assumption)); rw [e1.1, e1.2]; exact fin.ret (Res.two rfl (RV.tmp rfl) (RV.tmp rfl)) ⟨_, rfl, fun h hs => Sub.sat (.cons .head .nil) (owNil (enc := encI) (e := 2) (sz := 1) h hs)⟩) | (have e1 := plE_3 (kp := kp) (show ¬ noE a b l o ≠ 0 by assumption) (show ¬ (bs.length ≠ o.length ∨ ls.length ≠ o.length) by omega) (.inr (fun h => by have q := (okP_iff hx).1 (h i (by omega)); omega)); rw [e1.1, e1.2]; exact fin.ret (Res.two rfl (RV.tmp rfl) (RV.tmp rfl)) ⟨_, rfl, fun h hs => Sub.sat (.cons .head .nil) (owNil (enc := encI) (e := 2) (sz := 1) h hs)⟩) | (have e1 := plE_0 (show ¬ noE a b l o ≠ 0 by assumption) (show ¬ (bs.length ≠ o.length ∨ ls.length ≠ o.length) by omega) (show a ≤ kp ∧ kp ≤ b by omega) hal'; have e2 := pl_end l o bs ls kp o.length; rw [show n = o.length by omega, e2, e1.1, e1.2]; exact fin.ret (Res.two rfl (RV.tmp rfl) (RV.tmp rfl)) ⟨_, rfl, fun h hs => Sub.sat (by repeat (first | exact Sub.nil | refine Sub.cons (by repeat (first | exact Pick.head | apply Pick.tail)) ?_)) hs⟩)))))))
end Go.Proofs.Ytkonhpcldomidaa
namespace Go.Proofs.Ytkonhpcldomidaa
open Go Go.TH
set_option maxRecDepth 10000
set_option maxHeartbeats 1000000
theorem nodup_le : ∀ (n : Nat) (o : List Int), (∀ x ∈ o, 0 ≤ x ∧ x < (n : Int)) → o.Nodup → o.length ≤ n
  | 0, [], _, _ => Nat.le_refl _
  | 0, x :: _, h, _ => by have := h x (by simp); omega
  | n + 1, o, h, hn => by
    have h1 : (o.filter (fun x => x ≠ (n : Int))).length ≤ n := nodup_le n _ (fun x hx => by
      have h2 := List.mem_filter.1 hx
      have h3 := h x h2.1
      have h4 : x ≠ (n : Int) := by simpa using h2.2
      omega) (hn.filter _)
    have h2 : o.length = (o.filter (fun x => x ≠ (n : Int))).length + o.count (n : Int) := by
      rw [← List.countP_eq_length_filter, List.length_eq_countP_add_countP (fun x => decide (x ≠ (n : Int))) (l := o)]
      congr 1
      rw [List.count]
      refine List.countP_congr fun x _ => ?_
      simp
    have h3 := List.nodup_iff_count.1 hn (n : Int)
    omega
theorem in_le {l : List Rn} {o : List Int} (hv : ∀ x ∈ o, In l x) (hn : o.Nodup) : o.length ≤ l.length := nodup_le l.length o (fun x hx => hv x hx) hn
theorem getD_app_l {o r : List Int} {k : Nat} (h : k < o.length) : (o ++ r).getD k 0 = o.getD k 0 := by
  rw [List.getD_eq_getElem?_getD, List.getElem?_append_left h, ← List.getD_eq_getElem?_getD]
theorem getD_app_e (o : List Int) (x : Int) : (o ++ [x]).getD o.length 0 = x := by
  rw [List.getD_eq_getElem?_getD, List.getElem?_append_right (Nat.le_refl _)]; simp
section
variable {b : Int} {l : List Rn}
theorem stK_app (o r : List Int) : ∀ {k : Nat}, k ≤ o.length → stK b l (o ++ r) k = stK b l o k
  | 0, _ => rfl
  | k + 1, h => by
    have ih := stK_app o r (show k ≤ o.length by omega)
    show ((o ++ r).getD k 0, bgA b l (stK b l (o ++ r) k).1 (stK b l (o ++ r) k).2 ((o ++ r).getD k 0).toNat + (l.getD ((o ++ r).getD k 0).toNat rn0).mi) = (o.getD k 0, bgA b l (stK b l o k).1 (stK b l o k).2 (o.getD k 0).toNat + (l.getD (o.getD k 0).toNat rn0).mi)
    rw [ih, getD_app_l (by omega)]
theorem erK_app {o r : List Int} {k : Nat} (h : k < o.length) : erK b l (o ++ r) k = erK b l o k := by
  unfold erK; rw [stK_app o r (by omega), getD_app_l h]
theorem atK_app {o r : List Int} {k : Nat} (h : k < o.length) : atK b l (o ++ r) k = atK b l o k := by
  unfold atK; rw [stK_app o r (by omega), getD_app_l h]
theorem erK_last (o : List Int) (i : Nat) : erK b l (o ++ [(i : Int)]) o.length = bgE b l (stK b l o o.length).1 (stK b l o o.length).2 i := by
  unfold erK; rw [stK_app o _ (Nat.le_refl _), getD_app_e, Int.toNat_natCast]
theorem atK_last (o : List Int) (i : Nat) : atK b l (o ++ [(i : Int)]) o.length = bgA b l (stK b l o o.length).1 (stK b l o o.length).2 i := by
  unfold atK; rw [stK_app o _ (Nat.le_refl _), getD_app_e, Int.toNat_natCast]
theorem tmE_snoc (o : List Int) (i : Nat) : tmE b l (o ++ [(i : Int)]) = 0 ↔ tmE b l o = 0 ∧ bgE b l (stK b l o o.length).1 (stK b l o o.length).2 i = 0 := by
  rw [tmE_0, tmE_0]
  constructor
  · intro h
    refine ⟨fun j hj => ?_, ?_⟩
    · rw [← erK_app (r := [(i : Int)]) hj]; exact h j (by simp; omega)
    rw [← erK_last]; exact h _ (by simp)
  rintro ⟨h1, h2⟩ j hj
  rw [List.length_append, List.length_singleton] at hj
  rcases Nat.lt_or_ge j o.length with g | g
  · rw [erK_app g]; exact h1 j g
  rw [show j = o.length by omega, erK_last]; exact h2
end
section
variable (b : Int) (l : List Rn)
/-- when an order is over -/
def ovF (o : List Int) : Int := (stK b l o o.length).2
/-- an order goes on with a run -/
def extP (o : List Int) (i : Nat) : Prop := (i : Int) ∉ o ∧ bgE b l (stK b l o o.length).1 (stK b l o o.length).2 i = 0
instance (o : List Int) (i : Nat) : Decidable (extP b l o i) := by unfold extP; infer_instance
/-- all orders that go on from one, in lexicographic order -/
def ords : Nat → List Int → List (List Int)
  | 0, o => [o]
  | f + 1, o => o :: (List.range l.length).flatMap fun i => if extP b l o i then ords f (o ++ [(i : Int)]) else []
/-- the first ones of them -/
def ordT (f : Nat) (o : List Int) (k : Nat) : List (List Int) := o :: (List.range k).flatMap fun i => if extP b l o i then ords b l (f - 1) (o ++ [(i : Int)]) else []
/-- an order that can be kept -/
def VO (o : List Int) : Prop := (∀ x ∈ o, In l x) ∧ o.Nodup ∧ tmE b l o = 0
/-- a better order -/
def upd (s : List Int × Int) (o : List Int) : List Int × Int := if s.1.length < o.length ∨ o.length = s.1.length ∧ ovF b l o < s.2 then (o, ovF b l o) else s
end
section
variable {b : Int} {l : List Rn} {o : List Int}
theorem VO.nil : VO b l [] := ⟨fun x hx => by simp at hx, List.nodup_nil, tmE_0.2 (fun j hj => by simp at hj)⟩
theorem VO.snoc (h : VO b l o) {i : Nat} (hi : i < l.length) (he : extP b l o i) : VO b l (o ++ [(i : Int)]) := by
  refine ⟨fun x hx => ?_, ?_, (tmE_snoc o i).2 ⟨h.2.2, he.2⟩⟩
  · rcases List.mem_append.1 hx with g | g
    · exact h.1 x g
    rw [List.mem_singleton.1 g]; unfold In; omega
  rw [List.nodup_append]
  refine ⟨h.2.1, List.pairwise_singleton _ _, fun x hx y hy e => ?_⟩
  rw [List.mem_singleton.1 hy] at e
  subst e; exact he.1 hx
theorem VO.len (h : VO b l o) : o.length ≤ l.length := in_le h.1 h.2.1
theorem ext_room (h : VO b l o) {i : Nat} (hi : i < l.length) (he : extP b l o i) : o.length + 1 ≤ l.length := by
  have := (h.snoc hi he).len
  simpa using this
theorem ords_eq (h : VO b l o) {f : Nat} (hf : l.length ≤ o.length + f) : ords b l f o = ordT b l f o l.length := by
  cases f with
  | succ f => rfl
  | zero =>
    unfold ords ordT
    congr 1
    refine (List.flatMap_eq_nil_iff.2 fun i hi => ?_).symm
    refine if_neg fun he => ?_
    have := ext_room h (List.mem_range.1 hi) he
    omega
theorem ordT_0 (f : Nat) (o : List Int) : ordT b l f o 0 = [o] := by simp [ordT]
theorem ordT_yes {f k : Nat} (he : extP b l o k) : ordT b l f o (k + 1) = ordT b l f o k ++ ords b l (f - 1) (o ++ [(k : Int)]) := by
  unfold ordT; rw [List.range_succ, List.flatMap_append, List.cons_append]; simp [he]
theorem ordT_no {f k : Nat} (he : ¬ extP b l o k) : ordT b l f o (k + 1) = ordT b l f o k := by
  unfold ordT; rw [List.range_succ, List.flatMap_append]; simp [he]
theorem ords_mem : ∀ {f : Nat} {o x : List Int}, VO b l o → x ∈ ords b l f o → VO b l x ∧ ∃ r, x = o ++ r
  | 0, o, x, h, hx => by
    unfold ords at hx
    rw [List.mem_singleton.1 hx]; exact ⟨h, [], by simp⟩
  | f + 1, o, x, h, hx => by
    unfold ords at hx
    rcases List.mem_cons.1 hx with rfl | hx
    · exact ⟨h, [], by simp⟩
    obtain ⟨i, hi, hx⟩ := List.mem_flatMap.1 hx
    split at hx
    · rename_i he
      obtain ⟨h1, r, rfl⟩ := ords_mem (h.snoc (List.mem_range.1 hi) he) hx
      exact ⟨h1, (i : Int) :: r, by simp⟩
    simp at hx
/-- all of them are there -/
theorem ords_all : ∀ {f : Nat} {o : List Int} (r : List Int), VO b l (o ++ r) → r.length ≤ f → o ++ r ∈ ords b l f o
  | 0, o, [], _, _ => by simp [ords]
  | 0, _, _ :: _, _, h => by simp at h
  | f + 1, o, [], _, _ => by simp [ords]
  | f + 1, o, x :: r, h, hf => by
    have hx := h.1 x (by simp)
    obtain ⟨i, rfl, hi⟩ := in_nat hx
    have e : o ++ (i : Int) :: r = (o ++ [(i : Int)]) ++ r := by simp
    rw [e] at h ⊢
    have ih := ords_all (f := f) (o := o ++ [(i : Int)]) r h (by simpa using hf)
    unfold ords
    refine List.mem_cons_of_mem _ (List.mem_flatMap.2 ⟨i, List.mem_range.2 hi, ?_⟩)
    have he : extP b l o i := by
      constructor
      · intro hm
        have h2 := h.2.1
        rw [List.append_assoc, List.nodup_append] at h2
        exact h2.2.2 _ hm (i : Int) (by simp) rfl
      have h3 := tmE_0.1 h.2.2 o.length (by simp)
      rw [erK_app (by simp), erK_last] at h3
      exact h3
    rw [if_pos he]; exact ih
theorem ords_len (h8 : l.length ≤ 8) : ∀ {f : Nat} {o : List Int}, (ords b l f o).length ≤ 9 ^ f
  | 0, o => by simp [ords]
  | f + 1, o => by
    unfold ords
    have h1 : ∀ k, ((List.range k).flatMap fun i => if extP b l o i then ords b l f (o ++ [(i : Int)]) else []).length ≤ k * 9 ^ f := by
      intro k
      induction k with
      | zero => simp
      | succ k ih =>
        rw [List.range_succ, List.flatMap_append, List.length_append, Nat.add_mul]
        have : ([k].flatMap fun i => if extP b l o i then ords b l f (o ++ [(i : Int)]) else []).length ≤ 9 ^ f := by
          simp only [List.flatMap_cons, List.flatMap_nil, List.append_nil]
          split
          · exact ords_len h8
          simp
        omega
    have h2 := h1 l.length
    have h3 : l.length * 9 ^ f ≤ 8 * 9 ^ f := Nat.mul_le_mul_right _ h8
    have h4 : 1 ≤ 9 ^ f := Nat.one_le_pow _ _ (by omega)
    rw [List.length_cons, Nat.pow_succ]; omega
theorem ordT_len (h8 : l.length ≤ 8) {f : Nat} (hf : f ≤ 8) {o : List Int} {k : Nat} (hk : k ≤ 8) : (ordT b l f o k).length ≤ 1000000000 := by
  have h1 : ∀ k, ((List.range k).flatMap fun i => if extP b l o i then ords b l (f - 1) (o ++ [(i : Int)]) else []).length ≤ k * 9 ^ 8 := by
    intro k
    induction k with
    | zero => simp
    | succ k ih =>
      rw [List.range_succ, List.flatMap_append, List.length_append, Nat.add_mul]
      have : ([k].flatMap fun i => if extP b l o i then ords b l (f - 1) (o ++ [(i : Int)]) else []).length ≤ 9 ^ 8 := by
        simp only [List.flatMap_cons, List.flatMap_nil, List.append_nil]
        split
        · exact Nat.le_trans (ords_len h8) (Nat.pow_le_pow_right (by omega) (by omega))
        simp
      omega
  have h2 := h1 k
  have h3 : k * 9 ^ 8 ≤ 8 * 9 ^ 8 := Nat.mul_le_mul_right _ hk
  have h4 : 8 * 9 ^ 8 = 344373768 := by decide
  unfold ordT
  rw [List.length_cons]; omega
theorem ovF_nil : ovF b l [] = 0 := rfl
theorem ovF_snoc (o : List Int) (i : Nat) : ovF b l (o ++ [(i : Int)]) = bgA b l (stK b l o o.length).1 (ovF b l o) i + (l.getD i rn0).mi := by
  unfold ovF
  rw [List.length_append, List.length_singleton]
  show bgA b l (stK b l (o ++ [(i : Int)]) o.length).1 (stK b l (o ++ [(i : Int)]) o.length).2 ((o ++ [(i : Int)]).getD o.length 0).toNat + (l.getD ((o ++ [(i : Int)]).getD o.length 0).toNat rn0).mi = _
  rw [stK_app o _ (Nat.le_refl _), getD_app_e, Int.toNat_natCast]
theorem upd_yes {s : List Int × Int} (h : s.1.length < o.length ∨ o.length = s.1.length ∧ ovF b l o < s.2) : upd b l s o = (o, ovF b l o) := if_pos h
theorem upd_no {s : List Int × Int} (h : ¬ (s.1.length < o.length ∨ o.length = s.1.length ∧ ovF b l o < s.2)) : upd b l s o = s := if_neg h
theorem ovF_bd {a : Int} (hd : OkD a b l) (h : VO b l o) : 0 ≤ ovF b l o ∧ ovF b l o ≤ 2000 := (stK_ok hd h.1 (Nat.le_refl _) (tmE_0.1 h.2.2)).2
theorem stF_in {a : Int} (hd : OkD a b l) (h : VO b l o) : (stK b l o o.length).1 = -1 ∨ In l (stK b l o o.length).1 := (stK_ok hd h.1 (Nat.le_refl _) (tmE_0.1 h.2.2)).1
end
end Go.Proofs.Ytkonhpcldomidaa
namespace Go.Proofs.Ytkonhpcldomidaa
open Go Go.TH
attribute [local irreducible] W WO pt
set_option maxRecDepth 10000
set_option maxHeartbeats 1000000
theorem c_Index (w : World) (u : Value) (xs : List Int) (x : Int) (hX : RdF encI 1 w.heap.size w u xs) : RetE Try.prog 72 [u, .int .i64 x].toArray w (fun r => ∃ n : Int, r = .int .i64 n ∧ (0 ≤ n ↔ x ∈ xs)) := by
  refine RetE.of mixed tyTab Try.func72 rfl rfl ?_
  replace hX : RdF encI 1 (fnCx mixed tyTab Try.f72.ntmps w).B (fnCx mixed tyTab Try.f72.ntmps w).w0 u xs := hX
  have hle := hX.sl.le
  refine W.sreg ?_
  refine WO.p rfl rfl ?_
  refine WO.nil ?_
  refine W.seq ?_
  refine W.sreg ?_
  refine WO.p rfl rfl ?_
  refine' WO.len (n := _) rfl rfl ?hs rfl ?_
  case hs => (first | exact hX.sl)
  refine WO.p rfl rfl ?_
  refine WO.nil ?_
  refine W.block ?_
  refine W.loop (fun (i : Nat) => i ≤ xs.length ∧ ∀ q, q < i → x ≠ xs.getD q 0)
    (fun (i : Nat) => [(8, .int .i64 (i : Int)), (7, .int .i64 (xs.length : Int)), (0, u), (1, .int .i64 x)])
    (fun (i : Nat) => [])
    (fun (i : Nat) => xs.length - i) 0
    (by exact ⟨by omega, fun q hq => by omega⟩) ⟨rfl, rfl, rfl, rfl, trivial⟩ (by repeat (first | exact Sub.nil | refine Sub.cons (by repeat (first | exact Pick.head | apply Pick.tail)) ?_)) ?_
  rintro i ⟨hi0, hal⟩
  refine W.sreg ?_
  refine WO.p rfl rfl ?_
  refine WO.nil ?_
  refine W.seq ?_
  refine W.cond_bl rfl (fun c1 => ?_) (fun c1 => ?_)
  · first
    | (exfalso; omega)
    | (refine W.skip ?_
       refine W.seq ?_
       refine W.block ?_
       refine W.sreg ?_
       refine WO.p rfl rfl (WO.p rfl rfl ?_)
       refine WO.nil ?_
       refine W.sreg ?_
       refine WO.p rfl rfl (WO.p rfl rfl (WO.p rfl rfl ?_))
       refine' WO.indexAddr (n := _) (i := _) rfl rfl rfl ?hs ?h1 rfl ?_
       case hs => (first | exact hX.sl)
       case h1 => (first | omega | (simp; omega))
       refine' WO.load (v := _) rfl rfl ?hc rfl ?_
       case hc => (first | (refine hX.cell0 (i := i) (by omega) 0 ?_; rfl))
       refine WO.p rfl rfl ?_
       refine WO.nil ?_
       refine W.cond_bl rfl (fun c2 => ?_) (fun c2 => ?_)
       · first
         | (exfalso; omega)
         | (refine W.sreg ?_
            refine WO.p rfl rfl (WO.p rfl rfl ?_)
            refine WO.nil ?_
            refine W.ret ?_
            exact fin.ret (Res.one rfl (RV.tmp rfl)) ⟨_, rfl, by first | exact ⟨fun h => by omega, fun h => by (obtain ⟨q, hq, e⟩ := mem_take (k := xs.length) (by rw [List.take_length]; exact h); exact absurd e.symm (hal q (by omega)))⟩ | exact ⟨fun _ => by (rw [show x = xs.getD i 0 by assumption]; exact getD_mem (by omega) 0), fun _ => by omega⟩⟩)
       first
       | (exfalso; omega)
       | (refine W.skip ?_
          refine W.region ?_
          refine WO.ar rfl rfl rfl (by (first | (unfold in64; omega) | (unfold in64; omega))) rfl (WO.p rfl rfl ?_)
          refine WO.nil ?_
          refine' ⟨i + 1, ?hp, ?hmu, ⟨rfl, rfl, rfl, rfl, trivial⟩, ?hS⟩
          case hS => repeat (first | exact Sub.nil | refine Sub.cons (by repeat (first | exact Pick.head | apply Pick.tail)) ?_)
          case hp => exact ⟨by omega, fun q hq => by (rcases Nat.lt_or_ge q i with g | g; exact hal q g; (rw [show q = i by omega]; assumption))⟩
          case hmu => omega))
  first
  | (exfalso; omega)
  | (refine W.exit (blk_same ?_)
     refine W.sreg ?_
     refine WO.p rfl rfl ?_
     refine WO.nil ?_
     refine W.ret ?_
     exact fin.ret (Res.one rfl (RV.tmp rfl)) ⟨_, rfl, by first | exact ⟨fun h => by omega, fun h => by (obtain ⟨q, hq, e⟩ := mem_take (k := xs.length) (by rw [List.take_length]; exact h); exact absurd e.symm (hal q (by omega)))⟩ | exact ⟨fun _ => by (rw [show x = xs.getD i 0 by assumption]; exact getD_mem (by omega) 0), fun _ => by omega⟩⟩)
theorem c_Contains (w : World) (u : Value) (xs : List Int) (x : Int) (hX : RdF encI 1 w.heap.size w u xs) : Ret Try.prog 62 [u, .int .i64 x].toArray w (.bool (bl (x ∈ xs))) := by
  refine Ret.of mixed tyTab Try.func62 rfl rfl ?_
  replace hX : RdF encI 1 (fnCx mixed tyTab Try.f62.ntmps w).B (fnCx mixed tyTab Try.f62.ntmps w).w0 u xs := hX
  refine W.sreg ?_
  refine WO.p rfl rfl ?_
  refine WO.nil ?_
  refine W.sreg ?_
  refine WO.p rfl rfl (WO.p rfl rfl ?_)
  refine WO.callE rfl Try.call72 (fun L w hi' => c_Index w u xs x (hX.later hi')) rfl ?_
  rintro _ ⟨n, rfl, hn⟩
  refine WO.p rfl rfl (WO.p rfl rfl ?_)
  refine WO.nil ?_
  refine W.ret ?_
  refine fin.ret (Res.one rfl (RV.tmp rfl)) ?_
  refine congrArg Value.bool ?_
  rw [bl_eq, bl_eq]; exact decide_eq_decide.2 hn
/-- a slice without room behind it -/
def clipV (a : Option Addr) (n : Nat) : Value := .slice (if n = 0 then a else ofs a (0 * 1)) (n - 0) (n - 0)
theorem c_Clip (w : World) (a : Option Addr) (n c : Nat) (h : n ≤ c) (hn : n ≤ 9223372036854775807) (h0 : 0 < n → ∃ b o, a = some ⟨b, o, none⟩) : Ret Try.prog 63 [.slice a n c].toArray w (clipV a n) := by
  refine Ret.of mixed tyTab Try.func63 rfl rfl ?_
  refine W.sreg ?_
  refine WO.p rfl rfl ?_
  refine WO.nil ?_
  refine W.sreg ?_
  refine WO.p rfl rfl (WO.p rfl rfl ?_)
  refine' WO.len (n := _) rfl rfl ?hs rfl ?_
  case hs => (first | exact isSl_lit (by omega) h0)
  refine WO.p rfl rfl ?_
  refine' WO.len (n := _) rfl rfl ?hs rfl ?_
  case hs => (first | exact isSl_lit (by omega) h0)
  refine WO.slSl (lo := 0) (hi := n) (mx := n) rfl rfl bnd.no (bnd.at rfl) (bnd.at rfl) (by simp) (by omega) (by omega) (by omega) rfl ?_
  refine WO.p rfl rfl ?_
  refine WO.nil ?_
  refine W.ret ?_
  exact fin.ret (Res.one rfl (RV.tmp rfl)) rfl
section
variable {P : Program} {C : Cx P} {E : Env} {H : List HP}
variable {ops : Array Oper} {K : KP} {rest : List Oper} {d : Nat} {ty : TypeId} {pos : String} {af : Array Edge} {x y : Operand} {T : TypeId}
/-- something is appended to a slice that has no room -/
theorem WO.appendFull {e sz by' n m : Nat} {a : Addr} {u zv : Value} {cs news : List Value} (hT : C.tt.sl? T = some (e, sz, by')) (hz : C.tt.z? e = some zv) (hzs : Nat.beq zv.cells.size sz = true)
    (hx : ev E x = some (.slice (some a) n n)) (hy : ev E y = some u) (hc0 : Cells C H a cs) (hcl : cs.length = n * sz) (hS : IsSl u m) (hm : 0 < m) (hc : Cells C H (base u) news) (hl : news.length = m * sz)
    (hb : (n + m) * by' ≤ 140737488355328) (h63 : n + m ≤ 9223372036854775807) (hN : Nat.blt d C.N = true)
    (h : ∀ g c, WO C ops rest K ((d, .slice (some ⟨g, 0, none⟩) (n + m) c) :: E) (OwC e sz (.slice (some ⟨g, 0, none⟩) (n + m) c) (n + m) (cs ++ news) :: H)) : WO C ops (⟨some d, .call ⟨.builtin .append, #[x, y], #[T, T]⟩, ty, pos, af, none⟩ :: rest) K E H := by
  refine WO.step rfl rfl hN (XO.run (by simp) fun L ac w hf hi => ?_)
  obtain ⟨i, hi1, hi2, hi3, hi4⟩ := sl_info hT hz
  subst hi2; subst hi3
  have hzs' := Nat.eq_of_beq_eq_true hzs
  have hmax : n + m ≤ maxLen := by simpa [maxLen] using h63
  obtain ⟨a0, c0, rfl, ha0⟩ := hS.is
  obtain ⟨b0, o0, rfl⟩ := ha0 hm
  have hnews : ∀ j v, news[j]? = some v → w.cell? ((⟨b0, o0, none⟩ : Addr).add j) = some v := fun j v hv => hc j v hv L w hi
  have holds : ∀ j v, cs[j]? = some v → w.cell? (a.add j) = some v := fun j v hv => hc0 j v hv L w hi
  have hr := run_append_grow (P := P) w T ty e i zv (SlT.of hT).u hi1 hi4 a n n cs hcl holds ⟨b0, o0, none⟩ m c0 news hl hnews (by omega) (by omega) (growslice_fits (by omega) hb)
  have hlen : (cs ++ news).length = (n + m) * i.size := by rw [List.length_append, hcl, hl, Nat.add_mul]
  have hrun : ∀ (v' : Value) (w' : World), (Builtin.append_ #[T, T] ty #[.slice (some a) n n, .slice (some ⟨b0, o0, none⟩) m c0]).run P w = .ok v' w' → (execOp ac.eval ⟨some d, .call ⟨.builtin .append, #[x, y], #[T, T]⟩, ty, pos, af, none⟩).run P w = .ok (.value v') w' := by
    intro v' w' hr
    simp [execOp, resolve, hf.eval hx, hf.eval hy, invoke, builtin, hr]
  have hinv : Inv C.w0 C.M (L ++ OwC e i.size (.slice (some ⟨w.heap.size, 0, none⟩) (n + m) (grownCap w (n + m) n e)) (n + m) (cs ++ news) :: H) (w.drew.alloc (.cells (cs.toArray ++ news.toArray ++ Builtin.zeroCells zv.cells (grownCap w (n + m) n e - (n + m))) e)) := by
    have hge := grownCap_ge w (n + m) n e
    have hcm : grownCap w (n + m) n e ≤ maxLen := grownCap_le_maxLen w (n + m) n e hmax
    have h2 := (hi.drawn).alloc' (.cells (cs.toArray ++ news.toArray ++ Builtin.zeroCells zv.cells (grownCap w (n + m) n e - (n + m))) e)
    have e1 : cs.toArray ++ news.toArray ++ Builtin.zeroCells zv.cells (grownCap w (n + m) n e - (n + m)) = ((cs ++ news) ++ (Builtin.zeroCells zv.cells (grownCap w (n + m) n e - (n + m))).toList).toArray := by
      apply Array.ext'; simp
    refine OwC.shut (cur := (cs ++ news) ++ (Builtin.zeroCells zv.cells (grownCap w (n + m) n e - (n + m))).toList) hlen hge hcm ?_ ?_ ?_
    · rw [List.length_append, hlen, Array.length_toList, size_zeroCells, hzs', ← Nat.add_mul]; congr 1; omega
    · rw [← hlen]; exact List.take_left
    rw [← e1]; exact h2
  exact ⟨_, _, _, .inl (hrun _ _ hr), h _ _, hinv⟩
/-- something is appended to a slice that has no room, or is nil -/
theorem WO.appendClip {α : Type} {enc : α → List Value} {e sz by' n m : Nat} {a0 : Option Addr} {u zv : Value} {xs ys : List α} (he : EncOk enc sz) (hT : C.tt.sl? T = some (e, sz, by')) (hz : C.tt.z? e = some zv) (hzs : Nat.beq zv.cells.size sz = true)
    (hx : ev E x = some (.slice a0 n n)) (hy : ev E y = some u) (h0 : a0 = none → n = 0) (hn : xs.length = n) (hc0 : ∀ a, a0 = some a → Cells C H a (xs.flatMap enc)) (hS : IsSl u m) (hm : 0 < m) (hc : Cells C H (base u) (ys.flatMap enc)) (hl : ys.length = m)
    (hb : (n + m) * by' ≤ 140737488355328) (h63 : n + m ≤ 9223372036854775807) (hN : Nat.blt d C.N = true)
    (h : ∀ v, WO C ops rest K ((d, v) :: E) (OwE enc e sz v (xs ++ ys) :: H)) : WO C ops (⟨some d, .call ⟨.builtin .append, #[x, y], #[T, T]⟩, ty, pos, af, none⟩ :: rest) K E H := by
  cases a0 with
  | none =>
    have hn0 : n = 0 := h0 rfl
    subst hn0
    obtain rfl : xs = [] := List.eq_nil_of_length_eq_zero hn
    refine WO.chg (owNil (enc := enc) (e := e) (sz := sz)) ?_
    exact WO.appendE (enc := enc) (m := m) (xs := []) (ys := ys) he hT hz hzs hx hy .head hS hm hl (fun j v hv => by obtain hq := hc j v hv; exact fun L w hi => hq (L ++ [OwE enc e sz (.slice none 0 0) []]) w (by simpa using hi)) (by simpa using hb) (by simpa using h63) hN (fun g c => h _)
  | some a =>
    refine WO.appendFull (a := a) (n := n) (m := m) (cs := xs.flatMap enc) (news := ys.flatMap enc) hT hz hzs hx hy (hc0 a rfl) (by rw [he.flat_len, hn]) hS hm hc (by rw [he.flat_len, hl]) hb h63 hN (fun g c => ?_)
    refine WO.chg (H' := OwE enc e sz (.slice (some ⟨g, 0, none⟩) (n + m) c) (xs ++ ys) :: H) (fun h hs => ?_) (h _)
    unfold OwE; rw [List.length_append, hn, hl, List.flatMap_append]; exact hs
end
end Go.Proofs.Ytkonhpcldomidaa
