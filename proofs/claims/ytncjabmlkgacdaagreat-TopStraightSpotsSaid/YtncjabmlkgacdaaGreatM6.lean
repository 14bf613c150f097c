/-
  What is proved here: the least value of two factors. Conditions: none; each contract states its own.
-/
import Derived.Test.YtncjabmlkgacdaaGreatM5
import Derived.Test.YtncjabmlkgacdaaGreatM2
import Derived.Maps.RangeRun
import Derived.Test.YtncjabmlkgacdaaGreatM3
import Derived.Test.YtncjabmlkgacdaaGreatM4
set_option linter.unusedVariables false
set_option linter.unusedSimpArgs false
namespace Go.Proofs.YtncjabmlkgacdaaGreat.Sp
open Go Go.TH
attribute [local irreducible] W WO pt
set_option maxRecDepth 10000
set_option maxHeartbeats 2000000
def leE (l : List Rn) (p q : Int) : Int := if chkA l p q ≠ 0 then chkA l p q else if Dbt (sds l) then 20 else if Bnd (sds l) p q then 0 else 5
theorem leE_1 {l : List Rn} {p q : Int} (h : chkA l p q ≠ 0) : leE l p q = chkA l p q := by unfold leE; rw [if_pos h]
theorem leE_20 {l : List Rn} {p q : Int} (h : ¬ chkA l p q ≠ 0) (g : Dbt (sds l)) : leE l p q = 20 := by unfold leE; rw [if_neg h, if_pos g]
theorem leE_5 {l : List Rn} {p q : Int} (h : ¬ chkA l p q ≠ 0) (g : ¬ Dbt (sds l)) (b : ¬ Bnd (sds l) p q) : leE l p q = 5 := by unfold leE; rw [if_neg h, if_neg g, if_neg b]
theorem leE_0 {l : List Rn} {p q : Int} (h : ¬ chkA l p q ≠ 0) (g : ¬ Dbt (sds l)) (b : Bnd (sds l) p q) : leE l p q = 0 := by unfold leE; rw [if_neg h, if_neg g, if_pos b]
def BestR (l : List Rn) (p q : Int) (r : Value) : Prop := ∃ (m : Option Nat) (s : Sd) (t : Int), r = .tuple #[mdV (.map m) s t, .int .i64 (leE l p q)] ∧ (leE l p q = 0 → MostI (sds l) p q (s, t))
theorem leE_ok {l : List Rn} {p q : Int} (h : leE l p q = 0) : OkRs l ∧ l.length ≤ 12 ∧ OkN p ∧ OkN q ∧ ¬ Dbt (sds l) ∧ Bnd (sds l) p q := by
 unfold leE at h
 split at h
 ·omega
 ·rename_i h1
  obtain ⟨h2, h3⟩ := chkA0.1 (show chkA l p q = 0 by omega)
  obtain ⟨h4, h5⟩ := chkRs0.1 h2
  split at h
  ·omega
  ·split at h
   ·exact ⟨h5, h4, h3.1, h3.2, by assumption, by assumption⟩
   ·omega
end Go.Proofs.YtncjabmlkgacdaaGreat.Sp
namespace Go.Proofs.YtncjabmlkgacdaaGreat.Sp
open Go Go.TH
section
variable {S : List Sd} {p q : Int}
def FitC (S : List Sd) (t : Tru) : Prop := t ∈ crnS S ∧ ∀ k ∈ S, fitS k t
theorem line_att (hN : ¬ Dbt S) (hn : ∀ s ∈ S, s.a ≠ 0 ∨ s.b ≠ 0) (hS : ∀ s ∈ S, ∃ o ∈ S, o.a = -s.a ∧ o.b = -s.b) (hw : p ≠ 0 ∨ q ≠ 0) {b : Sd} (hb : b ∈ S) (hf1 : b.a * siz (wS p q) = p * siz b) (hf2 : b.b * siz (wS p q) = q * siz b) (hmax : ∀ y ∈ mstA S p q, y.1.c * siz b ≤ b.c * siz (wS p q) * y.2) :
 ∃ t, FitC S t ∧ (p * t.a + q * t.b) * siz b = b.c * siz (wS p q) * t.d := by
 have key : ∀ t : Tru, b.a * t.a + b.b * t.b = b.c * t.d → (p * t.a + q * t.b) * siz b = b.c * siz (wS p q) * t.d := fun t h => by
  have e : (p * t.a + q * t.b) * siz b = p * siz b * t.a + q * siz b * t.b := by grind
  rw [e, ← hf1, ← hf2]
  have e2 : b.a * siz (wS p q) * t.a + b.b * siz (wS p q) * t.b = (b.a * t.a + b.b * t.b) * siz (wS p q) := by grind
  rw [e2, h]; grind
 rcases line_fit hN hn hS hw hb hf1 hf2 hmax with ⟨j, hj, hd, hfit⟩ | hfit
 ·refine ⟨cnr b j, ⟨crn_mem hb hj hd, hfit⟩, key _ ?_⟩
  rw [cnr_val]
  show crs b j * b.c + crs b b * j.c = b.c * crs b j
  unfold crs; grind
 ·refine ⟨foot b, ⟨foot_mem hb, hfit⟩, key _ ?_⟩
  show b.a * (b.a * b.c) + b.b * (b.b * b.c) = b.c * sq b
  unfold sq; grind
theorem par_att (hN : ¬ Dbt S) (hn : ∀ s ∈ S, s.a ≠ 0 ∨ s.b ≠ 0) (hS : ∀ s ∈ S, ∃ o ∈ S, o.a = -s.a ∧ o.b = -s.b) (hw : p ≠ 0 ∨ q ≠ 0) {b : Sd} (hb : b ∈ S) {d e : Int} (hd : 0 < d) (he : 0 < e) (h1 : p * d = b.a * e) (h2 : q * d = b.b * e) (hmax : ∀ y ∈ mstA S p q, y.1.c * d ≤ e * b.c * y.2) :
 ∃ t, FitC S t ∧ (p * t.a + q * t.b) * d = e * b.c * t.d := by
 have hbp := siz_pos (hn b hb)
 have hs : siz (wS p q) * d = siz b * e := siz_same (a := b) (k := wS p q) (by omega) (by omega) h1 h2
 have can : ∀ x y : Int, x * d = y * d → x = y := fun x y h => by
  have := mul_cancel0 (x := x - y) hd (by rw [Int.sub_mul]; omega)
  omega
 have f1 : b.a * siz (wS p q) = p * siz b := can _ _ (by
  have e1 : b.a * siz (wS p q) * d = b.a * (siz (wS p q) * d) := by grind
  have e2 : p * siz b * d = p * d * siz b := by grind
  rw [e1, hs, e2, h1]; grind)
 have f2 : b.b * siz (wS p q) = q * siz b := can _ _ (by
  have e1 : b.b * siz (wS p q) * d = b.b * (siz (wS p q) * d) := by grind
  have e2 : q * siz b * d = q * d * siz b := by grind
  rw [e1, hs, e2, h2]; grind)
 obtain ⟨t, ht, hv⟩ := line_att hN hn hS hw hb f1 f2 (fun y hy => by
  have h3 := Int.mul_le_mul_of_nonneg_right (hmax y hy) (Int.le_of_lt hbp)
  have e1 : y.1.c * d * siz b = y.1.c * siz b * d := by grind
  have e2 : e * b.c * y.2 * siz b = b.c * (siz b * e) * y.2 := by grind
  rw [e1, e2, ← hs] at h3
  have e3 : b.c * (siz (wS p q) * d) * y.2 = b.c * siz (wS p q) * y.2 * d := by grind
  rw [e3] at h3
  rcases Int.lt_or_le (b.c * siz (wS p q) * y.2) (y.1.c * siz b) with g | g
  ·have := Int.mul_lt_mul_of_pos_right g hd; omega
  ·exact g)
 refine ⟨t, ht, ?_⟩
 have e1 : (p * t.a + q * t.b) * d * siz b = (p * t.a + q * t.b) * siz b * d := by grind
 have e2 : e * b.c * t.d * siz b = b.c * (siz b * e) * t.d := by grind
 have e3 : b.c * siz (wS p q) * t.d * d = b.c * (siz (wS p q) * d) * t.d := by grind
 have e4 : (p * t.a + q * t.b) * d * siz b = e * b.c * t.d * siz b := by rw [e1, hv, e2, ← hs, e3]
 have := mul_cancel0 (x := (p * t.a + q * t.b) * d - e * b.c * t.d) hbp (by rw [Int.sub_mul]; omega)
 omega
theorem att_w (hN : ¬ Dbt S) (hn : ∀ s ∈ S, s.a ≠ 0 ∨ s.b ≠ 0) (hS : ∀ s ∈ S, ∃ o ∈ S, o.a = -s.a ∧ o.b = -s.b) (hw : p ≠ 0 ∨ q ≠ 0) {y : Sd × Int} (hy : y ∈ mstA S p q) (hmax : ∀ z ∈ mstA S p q, ¬ gtM z y) : ∃ t, FitC S t ∧ (p * t.a + q * t.b) * y.2 = y.1.c * t.d := by
 have hm : ∀ z ∈ mstA S p q, z.1.c * y.2 ≤ y.1.c * z.2 := fun z hz => by
  have := hmax z hz
  unfold gtM at this; omega
 rcases mst_inv hy with ⟨s, hs, hf, h1, h2, h3, h4⟩ | ⟨a, ha, b, hb, hd, hx, hz, h1, h2, h3, h4⟩
 ·have k1 : s.a * siz (wS p q) + p * -(siz s) = 0 := hf.2.1
  have k2 : s.b * siz (wS p q) + q * -(siz s) = 0 := hf.2.2
  rw [Int.mul_neg] at k1 k2
  obtain ⟨t, ht, hv⟩ := line_att hN hn hS hw hs (by omega) (by omega) (fun z hz => by rw [← h1, ← h2]; exact hm z hz)
  exact ⟨t, ht, by rw [h1, h2]; exact hv⟩
 ·rw [h2] at hm
  have la := lin_a a b (wS p q)
  have lb := lin_b a b (wS p q)
  have la' : p * crs a b = crs (wS p q) b * a.a + crs a (wS p q) * b.a := la
  have lb' : q * crs a b = crs (wS p q) b * a.b + crs a (wS p q) * b.b := lb
  rcases Int.lt_or_le 0 (crs (wS p q) b) with g1 | g1
  ·rcases Int.lt_or_le 0 (crs a (wS p q)) with g2 | g2
   ·refine ⟨cnr a b, ⟨crn_mem ha hb hd, cnr_fit hN hn ha hb hd g1 g2 (fun z hz => by rw [← h1]; exact hm z hz)⟩, ?_⟩
    have hv := cnr_val a b (wS p q)
    have hv' : p * (cnr a b).a + q * (cnr a b).b = crs (wS p q) b * a.c + crs a (wS p q) * b.c := hv
    rw [hv', h1, h2]; rfl
   ·have z0 : crs a (wS p q) = 0 := by omega
    rw [z0, Int.zero_mul, Int.add_zero] at la' lb' h1
    obtain ⟨t, ht, hv⟩ := par_att hN hn hS hw ha hd g1 (by rw [la', Int.mul_comm]) (by rw [lb', Int.mul_comm]) (fun z hz => by rw [← h1]; exact hm z hz)
    exact ⟨t, ht, by rw [h1, h2]; exact hv⟩
  ·have z0 : crs (wS p q) b = 0 := by omega
   rw [z0, Int.zero_mul, Int.zero_add] at la' lb' h1
   have g2 : 0 < crs a (wS p q) := by
    rcases Int.lt_or_le 0 (crs a (wS p q)) with g | g
    ·exact g
    ·have z1 : crs a (wS p q) = 0 := by omega
     rw [z1, Int.zero_mul] at la' lb'
     rcases hw with h | h
     ·exact absurd (mul_cancel0 hd la') h
     ·exact absurd (mul_cancel0 hd lb') h
   obtain ⟨t, ht, hv⟩ := par_att hN hn hS hw hb hd g2 (by rw [la', Int.mul_comm]) (by rw [lb', Int.mul_comm]) (fun z hz => by rw [← h1]; exact hm z hz)
   exact ⟨t, ht, by rw [h1, h2]; exact hv⟩
theorem fit_ex (hN : ¬ Dbt S) (hn : ∀ s ∈ S, s.a ≠ 0 ∨ s.b ≠ 0) (hS : ∀ s ∈ S, ∃ o ∈ S, o.a = -s.a ∧ o.b = -s.b) (h0 : S ≠ []) (hpos : ∀ p q, ∀ y ∈ mstA S p q, 0 < y.2) : ∃ t, FitC S t := by
 obtain ⟨s, hs⟩ := List.exists_mem_of_ne_nil S h0
 have e : siz (wS s.a s.b) = siz s := rfl
 obtain ⟨y, hy, _⟩ := cand_one (p := s.a) (q := s.b) hs ⟨by show s.a * s.b - s.b * s.a = 0; rw [Int.mul_comm]; omega, by rw [e]; show s.a * siz s + s.a * -(siz s) = 0; rw [Int.mul_neg]; omega, by rw [e]; show s.b * siz s + s.b * -(siz s) = 0; rw [Int.mul_neg]; omega⟩
 obtain ⟨m, hm, hx⟩ := max_frac (fun y : Sd × Int => y.1.c) (fun y => y.2) (mstA S s.a s.b) (List.ne_nil_of_mem hy) (hpos _ _)
 obtain ⟨t, ht, _⟩ := att_w hN hn hS (hn s hs) hm (fun z hz => by have := hx z hz; unfold gtM; omega)
 exact ⟨t, ht⟩
end
theorem att_ex {l : List Rn} {p q : Int} (h : leE l p q = 0) (h0 : l ≠ []) {y : Sd × Int} (hm : MostI (sds l) p q y) : ∃ t, FitC (sds l) t ∧ (p * t.a + q * t.b) * y.2 = y.1.c * t.d := by
 obtain ⟨h1, h2, h3, h4, h5, h6⟩ := leE_ok h
 have hn := sds_nz h1
 have hS : ∀ s ∈ sds l, ∃ o ∈ sds l, o.a = -s.a ∧ o.b = -s.b := fun s hs => by
  obtain ⟨r, hr, hm⟩ := List.mem_flatMap.1 hs
  have : s = loS r ∨ s = hiS r := by simpa using hm
  rcases this with rfl | rfl
  ·exact ⟨hiS r, List.mem_flatMap.2 ⟨r, hr, by simp⟩, rfl, rfl⟩
  ·exact ⟨loS r, List.mem_flatMap.2 ⟨r, hr, by simp⟩, by show r.p = - -r.p; omega, by show r.q = - -r.q; omega⟩
 have hs0 : sds l ≠ [] := fun e => by
  have := sds_len l
  rw [e] at this
  have := List.length_pos_iff.2 h0
  simp at *; omega
 rcases hm.mem with ⟨rfl, rfl, rfl⟩ | ⟨hpq, hy⟩
 ·obtain ⟨t, ht⟩ := fit_ex h5 hn hS hs0 (fun p q y hy => by
   obtain ⟨g, hg, hx⟩ := List.mem_flatMap.1 hy
   unfold mstL at hx
   cases e : mstG (sds l) p q g with
   | none => rw [e] at hx; simp at hx
   | some x =>
    rw [e] at hx
    obtain rfl : y = (tkS (sds l) g x.1 g.length, x.2) := by simpa using hx
    exact mst_pos hn (grp_ok (m := 2) (by omega) hg).1 e)
  exact ⟨t, ht, by simp [sd0]⟩
 ·exact att_w h5 hn hS (by omega) hy (fun z hz => hm.max z hz hpq)
theorem crn_ok {l : List Rn} (h : OkRs l) {t : Tru} (ht : t ∈ crnS (sds l)) : OkT t := by
 have hS := sds_ok h
 have hn := sds_nz h
 obtain ⟨i, _, hi, hm⟩ := mem_seg.1 ht
 have si : OkS 20 100000 (sAt (sds l) i) := hS _ (getD_mem hi sd0)
 have ni : (sAt (sds l) i).a ≠ 0 ∨ (sAt (sds l) i).b ≠ 0 := hn _ (getD_mem hi sd0)
 have m3 := mul_bd si.a si.c
 have m4 := mul_bd si.b si.c
 have m1 := mul_bd si.a si.a
 have m2 := mul_bd si.b si.b
 have cb : ∀ a b : Sd, OkS 20 100000 a → OkS 20 100000 b → 0 < crs a b → OkT (cnr a b) := fun a b ha hb hd => by
  have c1 := crs_bd (ha.up (A' := 20) (B' := 1000000) (by omega) (by omega)) (hb.up (A' := 20) (B' := 1000000) (by omega) (by omega))
  have n1 := mul_bd ha.c hb.b
  have n2 := mul_bd hb.c ha.b
  have n3 := mul_bd ha.a hb.c
  have n4 := mul_bd hb.a ha.c
  exact ⟨by unfold cnr; dsimp only; omega, by unfold cnr; dsimp only; omega, by unfold cnr; dsimp only; omega⟩
 unfold cI at hm
 rcases List.mem_cons.1 hm with rfl | hm
 ·have := sq_pos ni
  unfold sq at this
  exact ⟨by unfold foot sq; dsimp only; omega, by unfold foot; dsimp only; omega, by unfold foot; dsimp only; omega⟩
 ·obtain ⟨j, _, hj, hm⟩ := mem_seg.1 hm
  have sj : OkS 20 100000 (sAt (sds l) j) := hS _ (getD_mem (show j < (sds l).length by omega) sd0)
  unfold cJ at hm
  split at hm
  ·simp at hm
  ·rename_i hz
   have ht : t = if crs (sAt (sds l) i) (sAt (sds l) j) < 0 then cnr (sAt (sds l) j) (sAt (sds l) i) else cnr (sAt (sds l) i) (sAt (sds l) j) := by simpa using hm
   rw [ht]
   split
   ·exact cb _ _ sj si (by rw [crs_anti]; omega)
   ·exact cb _ _ si sj (by omega)
end Go.Proofs.YtncjabmlkgacdaaGreat.Sp
namespace Go.Proofs.YtncjabmlkgacdaaGreat.Sp
open Go Go.TH
attribute [local irreducible] W WO pt
set_option maxRecDepth 10000
set_option maxHeartbeats 2000000
theorem OwE.cellsPr {C : Cx Tryz.prog} {H : List HP} {v : Value} {rl : List Rn} (s : Sub H [OwE encPr 181 10 v rl]) {z : Int} {i : Nat} (hz : z = ((i / 2 : Nat) : Int)) (h1 : i < 2 * rl.length) : Cells C H (elt v z.toNat 10) (encPr (rl.getD (i / 2) rn0)) := by
 subst hz
 cases s with
 | cons p _ => exact OwE.cells encPr_ok p (by omega) rn0
theorem Cell.ownP {C : Cx Tryz.prog} {H H' : List HP} {b : Nat} {cs : List Value} {t : TypeId} {fr : Nat × Nat} {j : Nat} {v : Value} (p : Pick (pt b (.cells cs.toArray t fr)) H H') (hv : lget cs j = some v) : Cell C H (prt ⟨b, 0, none⟩ j) v := by
 have h := Cell.own (C := C) p hv
 have e : prt ⟨b, 0, none⟩ j = ⟨b, j, none⟩ := by
  rw [prt_eq]; unfold Addr.add; simp
  try (intro h0; exact h0.symm)
 rw [e]; exact h
theorem c_corners1h (B : Nat) (wr : World) (tb : Nat) (rv sv : Value) (rl : List Rn) (hok : OkRs rl) (h0 : 0 < rl.length) (hl12 : rl.length ≤ 12) (last : Nat) (l : Nat) (Hc : Nat → List HP) (hy : ∀ k x v, (crnS (sds rl))[k]? = some x → k ≤ last → YieldB Tryz.prog B wr l #[v] (bl (k < last)) (gT x v :: Hc k) (Hc (k + 1))) (cb : Nat) (w : World) (M' : List Nat) (hB : B ≤ w.heap.size) (hk : ∀ k, k < B → w.heap[k]? = wr.heap[k]?) (hM : ∀ b ∈ M', B ≤ b)
 (hi : Inv w M' ([pt cb (.cells #[.pointer (some ⟨tb, 0, none⟩)] 100 (0, 0)), pt tb (.cells #[rv, sv] 179 (0, 0)), OwE encPr 181 10 rv rl, OwE encSd 96 3 sv (sds rl)] ++ Hc 0) w) :
 Ct Tryz.prog 167 ([.func (.yield l) #[] #[], .pointer (some ⟨cb, 0, none⟩)] : List Value).toArray w fun _ w' => Inv w M' ([pt cb (.cells #[.pointer (some ⟨tb, 0, none⟩)] 100 (0, 0)), pt tb (.cells #[rv, sv] 179 (0, 0)), OwE encPr 181 10 rv rl, OwE encSd 96 3 sv (sds rl)] ++ Hc (min (crnS (sds rl)).length (last + 1))) w' := by
 have hsl := sds_len rl
 have hS := sds_ok hok
 refine Iter.of mixed tyTab hB hM Tryz.func167 rfl rfl hi (W.seq (W.fact (OwE.sl (enc := encPr) (e := 181) (sz := 10) (v := rv) (xs := rl) (by repeat first | exact .head | apply Pick.tail)) (fun hrsl => (W.fact (OwE.sl (enc := encSd) (e := 96) (sz := 3) (v := sv) (xs := sds rl) (by repeat first | exact .head | apply Pick.tail)) (fun hssl => (W.sreg (WO.load rfl rfl (Cell.own Pick.head rfl) rfl (WO.p rfl rfl (WO.field0 rfl rfl rfl ?_)))))))))
 refine' WO.load (v := _) rfl rfl ?hc rfl ?_
 case hc => (first | (refine Cell.own (b := tb) (off := 0) (cs := [rv, sv]) (by repeat first | exact .head | apply Pick.tail) ?_; rfl))
 refine WO.len rfl rfl hrsl rfl (WO.eqlF rfl rfl (by omega) rfl (WO.p rfl rfl (WO.no rfl rfl (WO.no rfl rfl (WO.no rfl rfl (WO.no rfl rfl (WO.p rfl rfl (WO.nil (W.cond_f rfl (W.skip (W.sreg (WO.load rfl rfl (Cell.own Pick.head rfl) rfl (WO.p rfl rfl (WO.field rfl rfl rfl ?_))))))))))))))
 refine' WO.load (v := _) rfl rfl ?hc rfl ?_
 case hc => (first | (refine Cell.ownP (b := tb) (j := 1) (cs := [rv, sv]) (by repeat first | exact .head | apply Pick.tail) ?_; rfl))
 refine WO.len rfl rfl hssl rfl (WO.makeEN (z := sd0) encSd_ok rfl rfl rfl rfl rfl (by omega) (by omega) rfl (fun lb => (WO.p rfl rfl (WO.nil (W.sreg (WO.p rfl rfl (WO.load rfl rfl (Cell.own (Pick.tail (Pick.head)) rfl) rfl (WO.p rfl rfl (WO.field rfl rfl rfl ?_)))))))))
 refine' WO.load (v := _) rfl rfl ?hc rfl ?_
 case hc => (first | (refine Cell.ownP (b := tb) (j := 1) (cs := [rv, sv]) (by repeat first | exact .head | apply Pick.tail) ?_; rfl))
 refine WO.copyEN (m := (sds rl).length) (xs := List.replicate (sds rl).length sd0) (ys := sds rl) encSd_ok rfl rfl rfl (by repeat exact .head) hssl (by simp) (by simp; omega) (by simp) (OwC.cells (by repeat first | exact .head | apply Pick.tail)) rfl (WO.nil (W.sreg (WO.p rfl rfl (WO.len rfl rfl (isSl_lit (n := (sds rl).length) (by omega) (fun _ => ⟨_, _, rfl⟩)) rfl (WO.p rfl rfl (WO.nil (W.block ?_)))))))
 rw [show Hc 0 = Hc (pI (sds rl) 0) by rw [pI_0]]
 refine W.loop (fun (i : Nat) => i ≤ (sds rl).length ∧ pI (sds rl) i ≤ last)
  (fun (i : Nat) => [(39, .int .i64 (i : Int)), (38, .int .i64 ((sds rl).length : Int)), (37, .slice (some ⟨lb, 0, none⟩) (sds rl).length (sds rl).length), (3, .slice (some ⟨lb, 0, none⟩) (sds rl).length (sds rl).length), (0, .func (.yield l) #[] #[]), (1, .pointer (some ⟨cb, 0, none⟩))])
  (fun (i : Nat) => [pt cb (.cells #[.pointer (some ⟨tb, 0, none⟩)] 100 (0, 0)), pt tb (.cells #[rv, sv] 179 (0, 0)), OwE encPr 181 10 rv rl, OwE encSd 96 3 sv (sds rl), OwE encSd 96 3 (.slice (some ⟨lb, 0, none⟩) (sds rl).length (sds rl).length) (sds rl), sat (Hc (pI (sds rl) i))])
  (fun (i : Nat) => (sds rl).length - i) 0
  (by exact ⟨by omega, by rw [pI_0]; omega⟩) ⟨rfl, rfl, rfl, rfl, rfl, rfl, trivial⟩ (by repeat (first | exact Sub.nil | refine Sub.cons (by repeat first | exact .head | apply Pick.tail) ?_)) ?_
 rintro i ⟨hi0, hil⟩
 refine W.sreg (WO.p rfl rfl (WO.nil (W.seq ?_)))
 refine W.cond_bl rfl (fun c1 => ?_) (fun c1 => ?_)
 ·refine W.skip (W.seq (W.block ?_))
  have si : OkS 20 100000 (sAt (sds rl) i) := hS _ (getD_mem (show i < (sds rl).length by omega) sd0)
  have ri := hok _ (getD_mem (show i / 2 < rl.length by omega) rn0)
  have hsq := sds_sq (l := rl) (i := i) (by omega)
  have hq2 : ((i : Nat) : Int).tdiv 2 = ((i / 2 : Nat) : Int) := rfl
  have m1 := mul_bd (A := 20) (B := 20) ri.1 ri.1
  have m2 := mul_bd (A := 20) (B := 20) ri.2.1 ri.2.1
  have m3 := mul_bd si.a si.c
  have m4 := mul_bd si.b si.c
  refine W.sreg (WO.p rfl rfl (WO.indexAddr rfl rfl rfl (isSl_lit (n := (sds rl).length) (by omega) (fun _ => ⟨_, _, rfl⟩)) (by omega) rfl ?_))
  refine' WO.loadA (vs := _) rfl rfl ?hc ?hl rfl ?_
  case hc => (first | (refine OwE.cellsSub (S := sds rl) (lb := lb) (e := 96) (i := (sds rl).length) (j := i) (n := (sds rl).length) ?_ ?_; exact Sub.cons (by repeat first | exact .head | apply Pick.tail) Sub.nil; omega))
  case hl => rfl
  refine WO.alloc rfl rfl rfl (fun b1 hb1 => (WO.p rfl rfl (WO.storeA rfl rfl rfl rfl Pick.head rfl rfl (WO.nil (W.sreg (WO.load rfl rfl (Cell.own (Pick.tail (Pick.head)) rfl) rfl (WO.p rfl rfl (WO.field0 rfl rfl rfl ?_))))))))
  refine' WO.load (v := _) rfl rfl ?hc rfl ?_
  case hc => (first | (refine Cell.own (b := tb) (off := 0) (cs := [rv, sv]) (by repeat first | exact .head | apply Pick.tail) ?_; rfl))
  refine WO.p rfl rfl (WO.quo rfl rfl (by omega) (by unfold in64; omega) rfl ?_)
  refine' WO.indexAddrZ (n := _) rfl rfl rfl ?hs ?h00 ?h1 rfl ?_
  case hs => exact hrsl
  case h00 => omega
  case h1 => (omega)
  refine' WO.loadA (vs := _) rfl rfl ?hc ?hl rfl ?_
  case hc => (first | (refine OwE.cellsPr (v := rv) (i := i) (rl := rl) ?_ ?_ ?_; exact Sub.cons (by repeat first | exact .head | apply Pick.tail) Sub.nil; omega; omega))
  case hl => rfl
  refine WO.alloc rfl rfl rfl (fun b2 hb2 => (WO.storeA rfl rfl rfl rfl Pick.head rfl rfl (WO.nil (W.sreg (WO.field0 rfl rfl rfl (WO.field0 rfl rfl rfl (WO.load rfl rfl (Cell.own Pick.head rfl) rfl (WO.field0 rfl rfl rfl (WO.field0 rfl rfl rfl (WO.load rfl rfl (Cell.own Pick.head rfl) rfl (WO.ar rfl rfl rfl (by unfold in64; omega) rfl (WO.field0 rfl rfl rfl (WO.fieldL rfl rfl rfl (WO.load rfl rfl (Cell.own Pick.head rfl) rfl (WO.field0 rfl rfl rfl (WO.fieldL rfl rfl rfl (WO.load rfl rfl (Cell.own Pick.head rfl) rfl (WO.ar rfl rfl rfl (by unfold in64; omega) rfl (WO.ar rfl rfl rfl (by unfold in64; omega) rfl (WO.p rfl rfl (WO.nil (W.seq (W.sreg ?_)))))))))))))))))))))))
  refine WO.p rfl rfl (WO.indexArrL (o' := 0) rfl rfl rfl (by decide) rfl rfl (WO.load rfl rfl (Cell.own (Pick.tail (Pick.head)) rfl) rfl (WO.indexArrL (o' := 2) rfl rfl rfl (by decide) rfl rfl (WO.load rfl rfl (Cell.own (Pick.tail (Pick.head)) rfl) rfl (WO.ar rfl rfl rfl (by unfold in64; omega) rfl (WO.indexArrL (o' := 1) rfl rfl rfl (by decide) rfl rfl (WO.load rfl rfl (Cell.own (Pick.tail (Pick.head)) rfl) rfl (WO.indexArrL (o' := 2) rfl rfl rfl (by decide) rfl rfl (WO.load rfl rfl (Cell.own (Pick.tail (Pick.head)) rfl) rfl (WO.ar rfl rfl rfl (by unfold in64; omega) rfl (WO.p rfl rfl (WO.build rfl rfl rfl rfl rfl ?_))))))))))))
  refine WO.chg (gT_in (x := foot (sAt (sds rl) i)) rfl rfl hsq) (WO.yieldB (go := bl (pI (sds rl) i < last)) rfl rfl (by repeat exact .head) (by repeat first | exact .head | apply Pick.tail) (((hy _ _ _ (crn_foot (by omega)) (by omega)).one).agree hk) rfl ?_)
  have hget := (List.getElem?_eq_some_iff.1 (crn_foot (S := sds rl) (i := i) (by omega))).1
  refine WO.p rfl rfl (WO.nil ?_)
  refine W.cond_nbl rfl (fun c2 => ?_) (fun c2 => ?_)
  ·refine W.ret (fin.ret (Res.none rfl) ?_)
   rw [show min (crnS (sds rl)).length (last + 1) = pI (sds rl) i + 1 by omega]
   repeat (first | exact Sub.nil | refine Sub.cons (by repeat first | exact .head | apply Pick.tail) ?_)
  ·refine W.skip (W.sreg (WO.p rfl rfl (WO.p rfl rfl (WO.slSl (lo := 0) (hi := i) (mx := (sds rl).length) rfl rfl bnd.no (bnd.at rfl) bnd.no (by simp) (by omega) (by omega) (by omega) rfl ?_))))
   rw [sub0v]
   refine WO.len rfl rfl (isSl_lit (n := i) (by omega) (fun _ => ⟨_, _, rfl⟩)) rfl (WO.p rfl rfl (WO.nil (W.block ?_)))
   rw [show pI (sds rl) i + 1 = pJ (sds rl) i 0 from pJ_0.symm]
   refine W.loop (fun (j : Nat) => j ≤ i ∧ pJ (sds rl) i j ≤ last)
    (fun (j : Nat) => [(86, .int .i64 (j : Int)), (85, .int .i64 (i : Int)), (84, .slice (some ⟨lb, 0, none⟩) i (sds rl).length), (39, .int .i64 (i : Int)), (38, .int .i64 ((sds rl).length : Int)), (37, .slice (some ⟨lb, 0, none⟩) (sds rl).length (sds rl).length), (3, .slice (some ⟨lb, 0, none⟩) (sds rl).length (sds rl).length), (5, .pointer (some ⟨b1, 0, none⟩)), (0, .func (.yield l) #[] #[]), (1, .pointer (some ⟨cb, 0, none⟩))])
    (fun (j : Nat) => [pt b1 (.cells #[.int .i64 (sAt (sds rl) i).a, .int .i64 (sAt (sds rl) i).b, .int .i64 (sAt (sds rl) i).c] 96 (0, 0)), pt cb (.cells #[.pointer (some ⟨tb, 0, none⟩)] 100 (0, 0)), pt tb (.cells #[rv, sv] 179 (0, 0)), OwE encPr 181 10 rv rl, OwE encSd 96 3 sv (sds rl), OwE encSd 96 3 (.slice (some ⟨lb, 0, none⟩) (sds rl).length (sds rl).length) (sds rl), sat (Hc (pJ (sds rl) i j))])
    (fun (j : Nat) => i - j) 0
    (by exact ⟨by omega, by rw [pJ_0]; omega⟩) ⟨rfl, rfl, rfl, rfl, rfl, rfl, rfl, rfl, rfl, rfl, trivial⟩ (by repeat (first | exact Sub.nil | refine Sub.cons (by repeat first | exact .head | apply Pick.tail) ?_)) ?_
   rintro j ⟨hj0, hjl⟩
   refine W.sreg (WO.p rfl rfl (WO.nil (W.seq ?_)))
   refine W.cond_bl rfl (fun c3 => ?_) (fun c3 => ?_)
   ·refine W.skip (W.seq (W.block (W.sreg (WO.indexAddr rfl rfl rfl (isSl_lit (n := i) (by omega) (fun _ => ⟨_, _, rfl⟩)) (by omega) rfl ?_))))
    refine' WO.loadA (vs := _) rfl rfl ?hc ?hl rfl ?_
    case hc => (first | (refine OwE.cellsSub (S := sds rl) (lb := lb) (e := 96) (i := i) (j := j) (n := (sds rl).length) ?_ ?_; exact Sub.cons (by repeat first | exact .head | apply Pick.tail) Sub.nil; omega))
    case hl => rfl
    refine WO.alloc rfl rfl rfl (fun b3 hb3 => (WO.storeA rfl rfl rfl rfl Pick.head rfl rfl (WO.nil ?_)))
    have sj : OkS 20 100000 (sAt (sds rl) j) := hS _ (getD_mem (show j < (sds rl).length by omega) sd0)
    have c1 := crs_bd (si.up (A' := 20) (B' := 1000000) (by omega) (by omega)) (sj.up (A' := 20) (B' := 1000000) (by omega) (by omega))
    have n1 := mul_bd si.c sj.b
    have n2 := mul_bd sj.c si.b
    have n3 := mul_bd si.a sj.c
    have n4 := mul_bd sj.a si.c
    refine W.sreg (WO.loadA rfl rfl (Cells.own (Pick.tail (Pick.head))) rfl rfl (WO.loadA rfl rfl (Cells.own Pick.head) rfl rfl (WO.callR rfl Tryz.call168 (fun L w hi => c_cross w (sAt (sds rl) i) (sAt (sds rl) j) (si.up (by omega) (by omega)) (sj.up (by omega) (by omega))) rfl (WO.p rfl rfl (WO.nil (W.seq ?_))))))
    refine W.drawD 23 [.r 0 [], .b 1 [], .r 2 [], .b 3 [], .r 4 [], .r 5 [], .b 6 [], .r 7 [], .b 8 [], .r 9 [], .r 10 [], .r 11 [], .b 12 [], .r 13 [], .b 14 [], .r 15 [], .r 16 [], .b 17 [], .r 18 [], .b 19 [], .r 20 [], .r 21 [], .r 22 []] [] (A0 := []) (Sub.refl _) (by kernel_rfl) ?_ ?_
    ·repeat constructor
    refine DT.r rfl rfl rfl (WO.indexArrL (o' := 2) rfl rfl rfl (by decide) rfl rfl (WO.nil ⟨rfl, rfl⟩)) (DT.b rfl rfl rfl (WO.load rfl rfl (Cell.own (Pick.tail (Pick.head)) rfl) rfl (WO.nil ⟨rfl, rfl⟩)) (DT.r rfl rfl rfl (WO.indexArrL (o' := 1) rfl rfl rfl (by decide) rfl rfl (WO.nil ⟨rfl, rfl⟩)) (DT.b rfl rfl rfl (WO.load rfl rfl (Cell.own Pick.head rfl) rfl (WO.nil ⟨rfl, rfl⟩)) (DT.r rfl rfl rfl (WO.ar rfl rfl rfl (by unfold in64; omega) rfl (WO.nil ⟨rfl, rfl⟩)) (DT.r rfl rfl rfl (WO.indexArrL (o' := 2) rfl rfl rfl (by decide) rfl rfl (WO.nil ⟨rfl, rfl⟩)) (DT.b rfl rfl rfl (WO.load rfl rfl (Cell.own Pick.head rfl) rfl (WO.nil ⟨rfl, rfl⟩)) ?_))))))
    refine DT.r rfl rfl rfl (WO.indexArrL (o' := 1) rfl rfl rfl (by decide) rfl rfl (WO.nil ⟨rfl, rfl⟩)) (DT.b rfl rfl rfl (WO.load rfl rfl (Cell.own (Pick.tail (Pick.head)) rfl) rfl (WO.nil ⟨rfl, rfl⟩)) (DT.r rfl rfl rfl (WO.ar rfl rfl rfl (by unfold in64; omega) rfl (WO.nil ⟨rfl, rfl⟩)) (DT.r rfl rfl rfl (WO.ar rfl rfl rfl (by unfold in64; omega) rfl (WO.nil ⟨rfl, rfl⟩)) (DT.r rfl rfl rfl (WO.indexArrL (o' := 0) rfl rfl rfl (by decide) rfl rfl (WO.nil ⟨rfl, rfl⟩)) (DT.b rfl rfl rfl (WO.load rfl rfl (Cell.own (Pick.tail (Pick.head)) rfl) rfl (WO.nil ⟨rfl, rfl⟩)) (DT.r rfl rfl rfl (WO.indexArrL (o' := 2) rfl rfl rfl (by decide) rfl rfl (WO.nil ⟨rfl, rfl⟩)) ?_))))))
    refine DT.b rfl rfl rfl (WO.load rfl rfl (Cell.own Pick.head rfl) rfl (WO.nil ⟨rfl, rfl⟩)) (DT.r rfl rfl rfl (WO.ar rfl rfl rfl (by unfold in64; omega) rfl (WO.nil ⟨rfl, rfl⟩)) (DT.r rfl rfl rfl (WO.indexArrL (o' := 0) rfl rfl rfl (by decide) rfl rfl (WO.nil ⟨rfl, rfl⟩)) (DT.b rfl rfl rfl (WO.load rfl rfl (Cell.own Pick.head rfl) rfl (WO.nil ⟨rfl, rfl⟩)) (DT.r rfl rfl rfl (WO.indexArrL (o' := 2) rfl rfl rfl (by decide) rfl rfl (WO.nil ⟨rfl, rfl⟩)) (DT.b rfl rfl rfl (WO.load rfl rfl (Cell.own (Pick.tail (Pick.head)) rfl) rfl (WO.nil ⟨rfl, rfl⟩)) (DT.r rfl rfl rfl (WO.ar rfl rfl rfl (by unfold in64; omega) rfl (WO.nil ⟨rfl, rfl⟩)) ?_))))))
    refine DT.r rfl rfl rfl (WO.ar rfl rfl rfl (by unfold in64; omega) rfl (WO.nil ⟨rfl, rfl⟩)) (DT.r rfl rfl rfl (WO.p rfl rfl (WO.nil ⟨rfl, rfl⟩)) (DT.nil [_, _, _, _, _, _, _, _] rfl (WO.p rfl rfl (WO.nil (W.seq (W.sreg (WO.p rfl rfl (WO.p rfl rfl (WO.nil ?_)))))))))
    refine W.cond_bl rfl (fun c4 => ?_) (fun c4 => ?_)
    ·refine W.region (WO.p rfl rfl (WO.neg rfl (by unfold in64; omega) rfl (WO.p rfl rfl (WO.neg rfl (by unfold in64; omega) rfl (WO.p rfl rfl (WO.neg rfl (by unfold in64; omega) rfl (WO.p rfl rfl (WO.p rfl rfl (WO.p rfl rfl (WO.nil (W.sreg (WO.p rfl rfl (WO.p rfl rfl (WO.p rfl rfl ?_))))))))))))))
     refine WO.guard_bl rfl rfl (fun c5 => ?_) (fun c5 => ?_)
     ·refine WO.pg rfl rfl rfl (WO.pg rfl rfl rfl (WO.pg rfl rfl rfl (WO.pg rfl rfl rfl (WO.go' rfl (WO.build rfl rfl rfl rfl rfl (WO.go' rfl ?_))))))
      (have hcj := cJ_n (S := sds rl) (i := i) (j := j) (by assumption); refine WO.chg (gT_in (x := cnr (sAt (sds rl) j) (sAt (sds rl) i)) (a := -((sAt (sds rl) i).c * (sAt (sds rl) j).b - (sAt (sds rl) j).c * (sAt (sds rl) i).b)) (b := -((sAt (sds rl) i).a * (sAt (sds rl) j).c - (sAt (sds rl) j).a * (sAt (sds rl) i).c)) (d := -crs (sAt (sds rl) i) (sAt (sds rl) j)) (by show _ = (sAt (sds rl) j).c * (sAt (sds rl) i).b - (sAt (sds rl) i).c * (sAt (sds rl) j).b; omega) (by show _ = (sAt (sds rl) j).a * (sAt (sds rl) i).c - (sAt (sds rl) i).a * (sAt (sds rl) j).c; omega) (by show _ = crs (sAt (sds rl) j) (sAt (sds rl) i); rw [crs_anti (sAt (sds rl) i) (sAt (sds rl) j)])) ?_; refine WO.yieldB (go := bl (pJ (sds rl) i j < last)) rfl rfl (by repeat exact .head) (by repeat first | exact .head | apply Pick.tail) (((hy _ _ _ (crn_at (by omega) (by omega) hcj) (by omega)).one).agree hk) rfl ?_)
      have hget := (List.getElem?_eq_some_iff.1 (crn_at (S := sds rl) (i := i) (j := j) (by omega) (by omega) hcj)).1
      refine WO.pg rfl rfl rfl (WO.p rfl rfl (WO.nil ?_))
      refine W.cond_nbl rfl (fun c6 => ?_) (fun c6 => ?_)
      ·refine W.ret (fin.ret (Res.none rfl) ?_)
       rw [show min (crnS (sds rl)).length (last + 1) = pJ (sds rl) i j + 1 by omega]
       repeat (first | exact Sub.nil | refine Sub.cons (by repeat first | exact .head | apply Pick.tail) ?_)
      ·refine W.skip ?_
       (rw [show pJ (sds rl) i j + 1 = pJ (sds rl) i (j + 1) by rw [pJ_succ, hcj]; rfl]; have hnx2 : pJ (sds rl) i (j + 1) ≤ last := by rw [pJ_succ, hcj]; show pJ (sds rl) i j + 1 ≤ last; omega)
       refine W.region (WO.ar rfl rfl rfl (by unfold in64; omega) rfl (WO.p rfl rfl (WO.nil ?_)))
       refine' ⟨j + 1, ?hp, ?hmu, ⟨rfl, rfl, rfl, rfl, rfl, rfl, rfl, rfl, rfl, rfl, trivial⟩, ?hS⟩
       case hS => repeat (first | exact Sub.nil | refine Sub.cons (by repeat first | exact .head | apply Pick.tail) ?_)
       case hp => exact ⟨by omega, hnx2⟩
       case hmu => omega
     ·exfalso; omega
    ·refine W.skip (W.sreg (WO.p rfl rfl (WO.p rfl rfl (WO.p rfl rfl ?_))))
     refine WO.guard_bl rfl rfl (fun c7 => ?_) (fun c7 => ?_)
     ·refine WO.pg rfl rfl rfl (WO.pg rfl rfl rfl (WO.pg rfl rfl rfl (WO.pg rfl rfl rfl (WO.go' rfl (WO.build rfl rfl rfl rfl rfl (WO.go' rfl ?_))))))
      (have hcj := cJ_p (S := sds rl) (i := i) (j := j) (by assumption); refine WO.chg (gT_in (x := cnr (sAt (sds rl) i) (sAt (sds rl) j)) rfl rfl rfl) ?_; refine WO.yieldB (go := bl (pJ (sds rl) i j < last)) rfl rfl (by repeat exact .head) (by repeat first | exact .head | apply Pick.tail) (((hy _ _ _ (crn_at (by omega) (by omega) hcj) (by omega)).one).agree hk) rfl ?_)
      have hget := (List.getElem?_eq_some_iff.1 (crn_at (S := sds rl) (i := i) (j := j) (by omega) (by omega) hcj)).1
      refine WO.pg rfl rfl rfl (WO.p rfl rfl (WO.nil ?_))
      refine W.cond_nbl rfl (fun c8 => ?_) (fun c8 => ?_)
      ·refine W.ret (fin.ret (Res.none rfl) ?_)
       rw [show min (crnS (sds rl)).length (last + 1) = pJ (sds rl) i j + 1 by omega]
       repeat (first | exact Sub.nil | refine Sub.cons (by repeat first | exact .head | apply Pick.tail) ?_)
      ·refine W.skip ?_
       (rw [show pJ (sds rl) i j + 1 = pJ (sds rl) i (j + 1) by rw [pJ_succ, hcj]; rfl]; have hnx2 : pJ (sds rl) i (j + 1) ≤ last := by rw [pJ_succ, hcj]; show pJ (sds rl) i j + 1 ≤ last; omega)
       refine W.region (WO.ar rfl rfl rfl (by unfold in64; omega) rfl (WO.p rfl rfl (WO.nil ?_)))
       refine' ⟨j + 1, ?hp, ?hmu, ⟨rfl, rfl, rfl, rfl, rfl, rfl, rfl, rfl, rfl, rfl, trivial⟩, ?hS⟩
       case hS => repeat (first | exact Sub.nil | refine Sub.cons (by repeat first | exact .head | apply Pick.tail) ?_)
       case hp => exact ⟨by omega, hnx2⟩
       case hmu => omega
     ·refine WO.no rfl rfl (WO.no rfl rfl (WO.no rfl rfl (WO.no rfl rfl (WO.no rfl rfl (WO.no rfl rfl (WO.no rfl rfl (WO.p rfl rfl (WO.nil (W.cond_f rfl (W.skip ?_))))))))))
      (have hz := cJ_z (S := sds rl) (i := i) (j := j) (by omega); rw [show pJ (sds rl) i j = pJ (sds rl) i (j + 1) by rw [pJ_succ, hz]; rfl] at hjl ⊢; have hnx2 := hjl)
      refine W.region (WO.ar rfl rfl rfl (by unfold in64; omega) rfl (WO.p rfl rfl (WO.nil ?_)))
      refine' ⟨j + 1, ?hp, ?hmu, ⟨rfl, rfl, rfl, rfl, rfl, rfl, rfl, rfl, rfl, rfl, trivial⟩, ?hS⟩
      case hS => repeat (first | exact Sub.nil | refine Sub.cons (by repeat first | exact .head | apply Pick.tail) ?_)
      case hp => exact ⟨by omega, hnx2⟩
      case hmu => omega
   ·refine W.exit (blk_same ?_)
    obtain rfl : i = j := by omega
    rw [← pI_succ] at hjl ⊢
    have hnx := hjl
    refine W.region (WO.ar rfl rfl rfl (by unfold in64; omega) rfl (WO.p rfl rfl (WO.nil ?_)))
    refine' ⟨i + 1, ?hp, ?hmu, ⟨rfl, rfl, rfl, rfl, rfl, rfl, trivial⟩, ?hS⟩
    case hS => repeat (first | exact Sub.nil | refine Sub.cons (by repeat first | exact .head | apply Pick.tail) ?_)
    case hp => exact ⟨by omega, hnx⟩
    case hmu => omega
 ·refine W.exit (blk_same ?_)
  obtain rfl : (sds rl).length = i := by omega
  refine fin.normal (Res.none rfl) ?_
  rw [crnS_len, show min (pI (sds rl) (sds rl).length) (last + 1) = pI (sds rl) (sds rl).length by omega]
  repeat (first | exact Sub.nil | refine Sub.cons (by repeat first | exact .head | apply Pick.tail) ?_)
end Go.Proofs.YtncjabmlkgacdaaGreat.Sp
namespace Go.Proofs.YtncjabmlkgacdaaGreat.Sp
open Go Go.TH
theorem gcd2_int (n : Int) {d : Int} (hd : 0 < d) : gcd2 (ab n) d = (Int.gcd n d : Int) := by
 unfold gcd2 Int.gcd
 have h1 : (ab n).toNat = n.natAbs := by unfold ab; omega
 have h2 : d.toNat = d.natAbs := by omega
 rw [h1, h2]
theorem red_cop (n : Int) {d : Int} (hd : 0 < d) : Int.gcd (red n d).1 (red n d).2 = 1 := by
 have hg := gcd2_int n hd
 have hp : 0 < Int.gcd n d := by
  have := gcd2_pos (a := ab n) hd
  rw [hg] at this; omega
 obtain ⟨x, hx⟩ := Int.gcd_dvd_left (a := n) (b := d)
 obtain ⟨y, hy⟩ := Int.gcd_dvd_right (a := n) (b := d)
 have e : red n d = (n / (Int.gcd n d : Int), d / (Int.gcd n d : Int)) := by
  unfold red
  rw [hg, Int.tdiv_eq_ediv_of_dvd ⟨x, hx⟩, Int.tdiv_eq_ediv_of_dvd ⟨y, hy⟩]
 rw [e]
 exact Int.gcd_ediv_gcd_ediv_gcd hp
theorem cop_dvd {a b c x : Int} (hg : Int.gcd a b = 1) (h : a * c = x * b) : b ∣ c := by
 have n1 : a.natAbs * c.natAbs = x.natAbs * b.natAbs := by rw [← Int.natAbs_mul, ← Int.natAbs_mul, h]
 have k : b.natAbs ∣ a.natAbs * c.natAbs := by rw [n1]; exact Nat.dvd_mul_left _ _
 have hc : Nat.Coprime b.natAbs a.natAbs := by
  have : Nat.gcd a.natAbs b.natAbs = 1 := hg
  rw [Nat.gcd_comm] at this
  exact this
 exact Int.natAbs_dvd_natAbs.1 (hc.dvd_of_dvd_mul_left k)
theorem red_eqZ {n d m e : Int} (hd : 0 < d) (he : 0 < e) (h : n * e = m * d) : red n d = red m e := by
 obtain ⟨g, hg, h1, h2, h3, _⟩ := red_parts n hd
 obtain ⟨k, hk, h4, h5, h6, _⟩ := red_parts m he
 have c1 := red_cop n hd
 have c2 := red_cop m he
 generalize red n d = u at *
 generalize red m e = v at *
 have hx : u.1 * v.2 = v.1 * u.2 := by
  have e1 : (u.1 * v.2) * (g * k) = (v.1 * u.2) * (g * k) := by
   have : n * e = u.1 * g * (v.2 * k) := by rw [h1, h5]
   have : m * d = v.1 * k * (u.2 * g) := by rw [h4, h2]
   grind
  exact Int.eq_of_mul_eq_mul_right (Int.ne_of_gt (Int.mul_pos hg hk)) e1
 have d1 : u.2 ∣ v.2 := cop_dvd c1 hx
 have d2 : v.2 ∣ u.2 := cop_dvd c2 hx.symm
 have e2 : u.2 = v.2 := Int.le_antisymm (Int.le_of_dvd h6 d1) (Int.le_of_dvd h3 d2)
 rw [e2] at hx
 have e1 : u.1 = v.1 := Int.eq_of_mul_eq_mul_right (by omega) hx
 exact Prod.ext e1 e2
end Go.Proofs.YtncjabmlkgacdaaGreat.Sp
namespace Go.Proofs.YtncjabmlkgacdaaGreat.Sp
open Go Go.TH
attribute [local irreducible] W WO pt
set_option maxRecDepth 10000
set_option maxHeartbeats 4000000
theorem eq36 (x y : Int × Int) : EqT Tryz.prog .eql 50 (raV x) (raV y) (.bool (bl (x = y))) := by
 intro a b w
 have e : bl (x = y) = bl (x.1 = y.1 ∧ x.2 = y.2) := by
  rw [bl_eq, bl_eq, decide_eq_decide]; exact ⟨fun h => by subst h; exact ⟨rfl, rfl⟩, fun h => Prod.ext h.1 h.2⟩
 rw [e]
 simp [go_sem, Tryz.eqGuardType50, Tryz.underlying50]
 by_cases h1 : x.1 = y.1 <;> by_cases h2 : x.2 = y.2 <;> simp [h1, h2, bl_eq]
def attP (l : List Rn) (p q : Int) (r : Int × Int) (t : Tru) : Bool := decide (fitL l t ∧ red (p * t.a + q * t.b) t.d = r)
def attH (l : List Rn) (p q : Int) (r : Int × Int) : Nat := (crnS (sds l)).findIdx (attP l p q r)
def AttR (l : List Rn) (p q : Int) (v : Value) : Prop := ∃ t : Tru, v = .tuple #[truV t, .int .i64 (leE l p q)] ∧ (leE l p q = 0 → OkT t ∧ fitL l t ∧ ∃ y, MostI (sds l) p q y ∧ (p * t.a + q * t.b) * y.2 = y.1.c * t.d)
theorem att_hit {l : List Rn} {p q : Int} (h : leE l p q = 0) (h0 : l ≠ []) {y : Sd × Int} (hm : MostI (sds l) p q y) : attH l p q (red y.1.c y.2) < (crnS (sds l)).length := by
 obtain ⟨h1, h2, h3, h4, h5, h6⟩ := leE_ok h
 obtain ⟨t, ht, hv⟩ := att_ex h h0 hm
 refine List.findIdx_lt_length.2 ⟨t, ht.1, ?_⟩
 unfold attP
 rw [decide_eq_true_eq]
 exact ⟨fitL_iff.2 ht.2, red_eqZ (by have := (crn_ok h1 ht.1).d; omega) (hm.ok h1 h3 h4).t.1 hv⟩
def oT (c : Prop) [Decidable c] (x : Tru) : Tru := if c then ⟨0, 0, 0⟩ else x
def tr0 : Tru := ⟨0, 0, 0⟩
theorem oT_t {c : Prop} [Decidable c] {x : Tru} (h : c) : oT c x = ⟨0, 0, 0⟩ := if_pos h
theorem oT_f {c : Prop} [Decidable c] {x : Tru} (h : ¬ c) : oT c x = x := if_neg h
theorem fit0 {l : List Rn} {t : Tru} (h : OkRs l) (hl : l.length ≤ 12) (ht : OkT t) : chkFit l t = 0 ↔ fitL l t := by
 have h0 : chkRs l = 0 := chkRs0.2 ⟨hl, h⟩
 unfold chkFit
 rw [if_neg (by omega), if_pos ht]
 split
 ·simp_all
 ·simp_all
theorem red_inj {n d m e : Int} (hd : 0 < d) (he : 0 < e) (h : red n d = red m e) : n * e = m * d := by
 have h1 := (red_lt (n := n) (m := m) hd he)
 have h2 := (red_lt (n := m) (m := n) he hd)
 rw [h] at h1 h2
 have h3 : ¬ n * e < m * d := fun q => by have := h1.2 q; omega
 have h4 : ¬ m * d < n * e := fun q => by have := h2.2 q; omega
 omega
theorem att_at {l : List Rn} {p q : Int} {r : Int × Int} (h : attH l p q r < (crnS (sds l)).length) : (crnS (sds l)).getD (attH l p q r) tr0 ∈ crnS (sds l) ∧ fitL l ((crnS (sds l)).getD (attH l p q r) tr0) ∧ red (p * ((crnS (sds l)).getD (attH l p q r) tr0).a + q * ((crnS (sds l)).getD (attH l p q r) tr0).b) ((crnS (sds l)).getD (attH l p q r) tr0).d = r := by
 have e : (crnS (sds l)).getD (attH l p q r) tr0 = (crnS (sds l))[attH l p q r] := by rw [List.getD_eq_getElem?_getD, List.getElem?_eq_getElem h]; rfl
 rw [e]
 have := of_decide_eq_true (List.findIdx_getElem (w := h) : attP l p q r _ = true)
 exact ⟨List.getElem_mem _, this⟩
end Go.Proofs.YtncjabmlkgacdaaGreat.Sp
namespace Go.Proofs.YtncjabmlkgacdaaGreat.Sp
open Go Go.TH
attribute [local irreducible] W WO pt
set_option maxRecDepth 10000
set_option maxHeartbeats 1000000
end Go.Proofs.YtncjabmlkgacdaaGreat.Sp
namespace Go.Proofs.YtncjabmlkgacdaaGreat.Sp
open Go Go.TH
attribute [local irreducible] W WO pt
set_option maxRecDepth 10000
set_option maxHeartbeats 1000000
def Reg (es : List MapEntry) (clk : Nat) : Prop := (es.map (·.born)).Nodup ∧ ∀ e ∈ es, e.born < clk
def nv : Option MapEntry → Value
 | none => .tuple #[.bool false]
 | some e => .tuple #[.bool true, e.key, e.val]
def sn (seen : Array Nat) : Option MapEntry → Array Nat
 | none => seen
 | some e => seen.push e.born
def Nx (es : Array MapEntry) (seen : Array Nat) : Option MapEntry → Prop
 | none => (leftOf es seen).size = 0
 | some e => e ∈ (leftOf es seen).toList
def itO (m clk : Nat) (seen : Array Nat) : Obj := .mapIter (some m) clk seen clk
section
variable {C : Cx Tryz.prog} {E : Env} {H H' H2 : List HP}
variable {ops : Array Oper} {K : KP} {rest : List Oper} {d : Nat} {ty : TypeId} {pos : String} {af : Array Edge} {x y z : Operand} {T : TypeId}
variable {r m clk : Nat} {es : Array MapEntry} {seen : Array Nat}
theorem WO.rangeM {k e : TypeId} (hT : Tryz.prog.underlying T = some (.map k e)) (hx : ev E x = some (.map (some m))) (p : Pick (pt m (.map es clk)) H H') (hN : Nat.blt d C.N = true)
 (h : ∀ r, WO C ops rest K ((d, .pointer (some ⟨r, 0, none⟩)) :: E) (pt r (itO m clk #[]) :: H)) : WO C ops (⟨some d, .range T x, ty, pos, af, none⟩ :: rest) K E H := by
 refine WO.step rfl rfl hN (XO.run (by simp) fun L a w hfr hi => ?_)
 have hl := (((hi.pickL p).perm List.perm_middle).look .head).1
 refine ⟨.pointer (some ⟨w.heap.size, 0, none⟩), w.alloc (itO m clk #[]), _, .inl ?_, h _, hi.alloc' _⟩
 have hr := run_range_map (P := Tryz.prog) w T k e m es clk hT hl
 simp only [execOp, hfr.eval hx]
 simp [hr, itO]
theorem WO.nextM (hx : ev E x = some (.pointer (some ⟨r, 0, none⟩))) (p : Pick (pt r (itO m clk seen)) H H') (q : Pick (pt m (.map es clk)) H H2) (hreg : Reg es.toList clk) (hN : Nat.blt d C.N = true)
 (h : ∀ o, Nx es seen o → WO C ops rest K ((d, nv o) :: E) (pt r (itO m clk (sn seen o)) :: H')) : WO C ops (⟨some d, .next x false, ty, pos, af, none⟩ :: rest) K E H := by
 refine WO.step rfl rfl hN (XO.run (by simp) fun L a w hfr hi => ?_)
 have hl := (((hi.pickL q).perm List.perm_middle).look .head).1
 have hi1 := (hi.pickL p).perm List.perm_middle
 have hr0 := (hi1.look .head).1
 have hr : w.heap[r]? = some (.mapIter (some m) clk seen clk) := hr0
 rcases run_next_at (P := Tryz.prog) w ty r m clk clk seen es clk hr hl hreg.2 (Nat.le_refl _) with ⟨h0, he⟩ | ⟨e, hm, w1, hw, he⟩
 ·refine ⟨nv none, w, _, .inl ?_, h none h0, hi1.perm List.perm_middle.symm⟩
  simp only [execOp, hfr.eval hx]
  simp [he, nv]
 ·refine ⟨nv (some e), ChangeMaps.setBlock w1 r (itO m clk (seen.push e.born)), _, .inl ?_, h (some e) hm, ?_⟩
  ·simp only [execOp, hfr.eval hx]
   simp [he, nv, itO]
  ·have hlt : r < w.heap.size := (Array.getElem?_eq_some_iff.1 hr).1
   have hi2 : TH.Inv C.w0 C.M (pt r (itO m clk seen) :: (L ++ H')) w1 := by
    rcases hw with rfl | rfl
    ·exact hi1
    ·exact hi1.drawn
   have hlt1 : r < w1.heap.size := by rcases hw with rfl | rfl <;> exact hlt
   have hs := hi2.set (o' := itO m clk (seen.push e.born)) .head (w' := ChangeMaps.setBlock w1 r (itO m clk (seen.push e.born))) rfl rfl rfl (by simp [ChangeMaps.setBlock]) (by simp [ChangeMaps.setBlock, hlt1]) (fun k hk => by simp [ChangeMaps.setBlock, Array.getElem?_setIfInBounds_ne (Ne.symm hk)])
   exact hs.perm List.perm_middle.symm
theorem WO.extractN {o : Option MapEntry} (hx : ev E x = some (nv o)) (hN : Nat.blt d C.N = true) (h : WO C ops rest K ((d, .bool (bl (o.isSome = true))) :: E) H) : WO C ops (⟨some d, .extract x 0, ty, pos, af, none⟩ :: rest) K E H := by
 cases o with
 | none => exact WO.extract (vs := [.bool false]) hx (by simp [bl_eq]) hN h
 | some e => exact WO.extract (vs := [.bool true, e.key, e.val]) hx (by simp [bl_eq]) hN h
theorem WO.entryM {e : MapEntry} {k u : Value} (hx : ev E x = some (.pointer (some ⟨r, 0, none⟩))) (p : Pick (pt r (itO m clk (seen.push e.born))) H H') (q : Pick (pt m (.map es clk)) H H2) (hreg : Reg es.toList clk) (he : e ∈ es.toList) (hk : e.key = k) (hv : e.val = u) (hN : Nat.blt d C.N = true)
 (h : WO C ops rest K ((d, .tuple #[k, u]) :: E) H) : WO C ops (⟨some d, .entry x, ty, pos, af, none⟩ :: rest) K E H := by
 refine WO.pure _ (by simp) (fun L a w hfr hi => ?_) hN h
 have hl := (((hi.pickL q).perm List.perm_middle).look .head).1
 have hr0 := (((hi.pickL p).perm List.perm_middle).look .head).1
 have hr : w.heap[r]? = some (.mapIter (some m) clk (seen.push e.born) clk) := hr0
 have hrun := run_entry_at (P := Tryz.prog) w r m clk seen es clk e hr hl he hreg.1
 simp only [execOp, hfr.eval hx]
 simp [hrun, hk, hv]
end
theorem perm_out {e : MapEntry} : ∀ (L : List MapEntry), (L.map (·.born)).Nodup → e ∈ L → L.Perm (e :: L.filter fun x => x.born != e.born)
 | [], _, h => by cases h
 | x :: r, hn, h => by
  rw [List.map_cons, List.nodup_cons] at hn
  rcases Decidable.em (x.born = e.born) with hb | hb
  ·rcases List.mem_cons.1 h with rfl | h
   ·rw [List.filter_cons_of_neg (by simp), List.filter_eq_self.2 (fun y hy => by
     have : y.born ≠ e.born := fun q => hn.1 (q ▸ List.mem_map_of_mem hy)
     simpa using this)]
   ·exact absurd (hb ▸ List.mem_map_of_mem (f := (·.born)) h) hn.1
  ·rcases List.mem_cons.1 h with rfl | h
   ·exact absurd rfl hb
   ·rw [List.filter_cons_of_pos (by simpa using hb)]
    exact ((perm_out r hn.2 h).cons x).trans (List.Perm.swap e x _)
theorem left_list (es : Array MapEntry) (seen : Array Nat) : (leftOf es seen).toList = es.toList.filter fun e => !seen.contains e.born := by unfold leftOf; exact Array.toList_filter
def Hd (es : Array MapEntry) (seen : Array Nat) (os : List Int) : Prop := ∃ hs : List MapEntry, (hs ++ (leftOf es seen).toList).Perm es.toList ∧ hs.map (·.key) = os.map (Value.int .i64)
theorem Hd.none (es : Array MapEntry) : Hd es #[] [] := ⟨[], by
 rw [left_list, List.filter_eq_self.2 (fun x _ => by simp)]; exact List.Perm.refl _, rfl⟩
theorem left_push (es : Array MapEntry) (seen : Array Nat) (b : Nat) : (leftOf es (seen.push b)).toList = (leftOf es seen).toList.filter fun x => x.born != b := by
 rw [left_list, left_list, List.filter_filter]
 refine List.filter_congr fun x _ => ?_
 rw [contains_push]
 cases seen.contains x.born <;> cases h : (x.born == b) <;> simp [bne, h]
theorem Hd.step {es : Array MapEntry} {clk : Nat} {seen : Array Nat} {e : MapEntry} {os : List Int} {k : Int} (hr : Reg es.toList clk) (he : e ∈ (leftOf es seen).toList) (hk : e.key = .int .i64 k) (h : Hd es seen os) : Hd es (seen.push e.born) (os ++ [k]) := by
 obtain ⟨hs, h1, h2⟩ := h
 refine ⟨hs ++ [e], ?_, by rw [List.map_append, List.map_append, h2]; simp [hk]⟩
 refine List.Perm.trans ?_ h1
 rw [left_push, List.append_assoc]
 refine (perm_out _ ?_ he).symm.append_left hs
 rw [left_list]
 exact hr.1.sublist (List.Sublist.map _ List.filter_sublist)
def keyI : Value → Int
 | .int _ z => z
 | _ => 0
theorem Hd.all {es : Array MapEntry} {seen : Array Nat} {os : List Int} {ks : List Int} (h : Hd es seen os) (h0 : (leftOf es seen).size = 0) (hk : es.toList.map (·.key) = ks.map (Value.int .i64)) : os.Perm ks := by
 obtain ⟨hs, h1, h2⟩ := h
 rw [Array.eq_empty_of_size_eq_zero h0] at h1
 have h3 := h1.map (·.key)
 rw [List.append_nil, h2, hk] at h3
 have h4 := h3.map keyI
 simp only [List.map_map] at h4
 have e : ∀ l : List Int, l.map (keyI ∘ Value.int .i64) = l := fun l => by
  conv => rhs; rw [← List.map_id l]
  exact List.map_congr_left fun _ _ => rfl
 rwa [e, e] at h4
theorem tkL_reg (g ys : List Int) (n : Nat) : Reg (tkL g ys n) n := by
 unfold tkL
 refine ⟨?_, fun e he => ?_⟩
 ·rw [List.map_map, show ((fun x : MapEntry => x.born) ∘ tkE g ys) = id from rfl, List.map_id]
  exact List.nodup_range
 ·obtain ⟨i, hi, rfl⟩ := List.mem_map.1 he
  exact List.mem_range.1 hi
theorem tkL_keys {g ys : List Int} : (tkL g ys g.length).map (·.key) = g.map (Value.int .i64) := by
 unfold tkL
 rw [List.map_map]
 refine List.ext_getElem (by simp) fun i h1 h2 => ?_
 simp at h1 h2
 simp [tkE, h2]
theorem tkL_mem {g ys : List Int} {n : Nat} {e : MapEntry} (h : e ∈ tkL g ys n) : ∃ i, i < n ∧ e.key = .int .i64 (g.getD i 0) ∧ e.val = .int .i64 (ys.getD i 0) := by
 obtain ⟨i, hi, rfl⟩ := List.mem_map.1 h
 exact ⟨i, List.mem_range.1 hi, rfl, rfl⟩
theorem find_some {k : Int} {v : Value} : ∀ (es : List MapEntry) (i j : Nat), (∀ a e, es[a]? = some e → ∃ z, e.key = .int .i64 z ∧ (a < j → z ≠ k) ∧ (a = j → z = k ∧ e.val = v)) → j < es.length → Instr.findNow (.int .i64) (.int .i64 k) es i = some (some (i + j, v))
 | [], _, _, _, h => by simp at h
 | e :: r, i, 0, h, _ => by
  obtain ⟨z, hz, _, h2⟩ := h 0 e rfl
  obtain ⟨h3, h4⟩ := h2 rfl
  obtain ⟨kk, vv, bb⟩ := e
  simp only at hz h4
  subst hz h3 h4
  simp [Instr.findNow, Instr.sameNow]
 | e :: r, i, j + 1, h, hl => by
  obtain ⟨z, hz, h1, _⟩ := h 0 e rfl
  have hn := h1 (by omega)
  have e2 : (k == z) = false := by simp; omega
  have ih := find_some (k := k) (v := v) r (i + 1) j (fun a e' ha => by
   obtain ⟨z', hz', g1, g2⟩ := h (a + 1) e' (by simpa using ha)
   exact ⟨z', hz', fun q => g1 (by omega), fun q => g2 (by omega)⟩) (by simp at hl; omega)
  rw [show i + (j + 1) = i + 1 + j by omega, ← ih]
  obtain ⟨kk, vv, bb⟩ := e
  simp only at hz
  subst hz
  simp only [Instr.findNow, Instr.sameNow, if_true, e2]
theorem tkL_find {g ys : List Int} (hg : g.Nodup) {i : Nat} (h : i < g.length) : Instr.findNow (.int .i64) (.int .i64 (g.getD i 0)) (tkL g ys g.length).toArray.toList 0 = some (some (i, .int .i64 (ys.getD i 0))) := by
 have := find_some (k := g.getD i 0) (v := .int .i64 (ys.getD i 0)) (tkL g ys g.length) 0 i (fun a e ha => by
  obtain ⟨hl, he⟩ := List.getElem?_eq_some_iff.1 ha
  simp [tkL] at hl he
  refine ⟨g.getD a 0, by rw [← he]; rfl, fun q q2 => ?_, fun q => ?_⟩
  ·have h1 : g.getD a 0 = g[a] := by simp [hl]
   have h2 : g.getD i 0 = g[i] := by simp [h]
   rw [h1, h2] at q2
   have := (List.getElem_inj hg).1 q2
   omega
  ·subst q; exact ⟨rfl, by rw [← he]; rfl⟩) (by simp [tkL]; exact h)
 rw [Nat.zero_add] at this
 exact this
end Go.Proofs.YtncjabmlkgacdaaGreat.Sp
namespace Go.Proofs.YtncjabmlkgacdaaGreat.Sp
open Go Go.TH
attribute [local irreducible] W WO pt
set_option maxRecDepth 10000
set_option maxHeartbeats 1000000
section
variable {P : Program} {C : Cx P} {E : Env} {H : List HP}
variable {ops : Array Oper} {K : KP} {rest : List Oper} {d : Nat} {ty : TypeId} {pos : String} {af : Array Edge} {x y z : Operand} {T : TypeId}
theorem WO.indexS {s : ByteArray} {i m : Nat} {k : IntKind} (hT : P.underlying T = some .string) (hx : ev E x = some (.string s)) (hy : ev E y = some (.int k (i : Int))) (hs : s.size = m) (h1 : i < m) (hN : Nat.blt d C.N = true)
 (h : ∀ b : UInt8, WO C ops rest K ((d, .int .u8 (b.toNat : Int)) :: E) H) : WO C ops (⟨some d, .index T x y, ty, pos, af, none⟩ :: rest) K E H := by
 obtain ⟨b, hb⟩ : ∃ b, s[i]? = some b := ⟨s[i]'(by omega), getElem?_pos s i (by omega)⟩
 exact WO.pure _ (by simp) (fun L a w hf hi => by simp [execOp, hf.eval hx, hf.eval hy, Instr.index, run_underlying hT, asIntOf, hb]) hN (h b)
end
theorem u8_in {n : Int} (h : 0 ≤ n ∧ n < 256) : IntKind.u8.wrap n = n := by
 unfold IntKind.wrap
 simp [IntKind.signed, IntKind.bits]
 omega
theorem i64_in {n : Int} (h : 0 ≤ n ∧ n < 256) : IntKind.i64.wrap n = n := by
 unfold IntKind.wrap
 simp [IntKind.signed, IntKind.bits]
 omega
theorem swap_perm {xs : List Int} {i j : Nat} (hi : i < xs.length) (hj : j < xs.length) : ((xs.set i (xs.getD j 0)).set j (xs.getD i 0)).Perm xs := by
 have e1 : xs.getD j 0 = xs[j] := by simp [hj]
 have e2 : xs.getD i 0 = xs[i] := by simp [hi]
 rw [e1, e2]
 exact List.set_set_perm hi hj
theorem c_isNaN (w : World) (x : Int) : Ret Tryz.prog 304 [.int .i64 x].toArray w (.bool false) := by
 refine Ret.of mixed tyTab Tryz.func304 rfl rfl (W.sreg (WO.p rfl rfl (WO.nil (W.sreg (WO.p rfl rfl (WO.p rfl rfl (WO.p rfl rfl (WO.p rfl rfl (WO.nil (W.ret ?_))))))))))
 exact fin.ret (Res.one rfl (RV.tmp rfl)) (congrArg Value.bool (bl_f.2 (by omega)))
theorem c_Less (w : World) (x y : Int) : Ret Tryz.prog 251 [.int .i64 x, .int .i64 y].toArray w (.bool (bl (x < y))) := by
 refine Ret.of mixed tyTab Tryz.func251 rfl rfl (W.sreg (WO.p rfl rfl (WO.nil (W.sreg (WO.p rfl rfl (WO.callR rfl Tryz.call304 (fun L w hi => c_isNaN w _) rfl (WO.p rfl rfl (WO.no rfl rfl (WO.no rfl rfl (WO.no rfl rfl (WO.p rfl rfl (WO.p rfl rfl (WO.pg rfl rfl rfl (WO.pg rfl rfl rfl (WO.pg rfl rfl rfl (WO.p rfl rfl (WO.p rfl rfl (WO.nil (W.ret (fin.ret (Res.one rfl (RV.tmp rfl)) (congrArg Value.bool ?_)))))))))))))))))))))
 rfl
theorem c_Len64 (w : World) (n : Int) (h : 0 ≤ n ∧ n < 256) : RetE Tryz.prog 255 [.int .u64 n].toArray w (fun r => ∃ z : Int, r = .int .i64 z) := by
 refine RetE.of mixed tyTab Tryz.func255 rfl rfl ?_
 obtain ⟨k, rfl⟩ := Int.eq_ofNat_of_zero_le h.1
 refine W.sreg (WO.p rfl rfl (WO.nil (W.seq (W.sreg (WO.p rfl rfl (WO.p rfl rfl (WO.nil ?_)))))))
 refine W.cond_bl rfl (fun c1 => ?_) (fun c1 => ?_)
 ·exfalso; omega
 ·refine W.skip (W.seq (W.sreg (WO.p rfl rfl (WO.p rfl rfl (WO.nil ?_)))))
  refine W.cond_bl rfl (fun c5 => ?_) (fun c5 => ?_)
  ·exfalso; omega
  ·refine W.skip (W.seq (W.sreg (WO.p rfl rfl (WO.p rfl rfl (WO.nil ?_)))))
   refine W.cond_bl rfl (fun c7 => ?_) (fun c7 => ?_)
   ·exfalso; omega
   ·refine W.skip (W.sreg (WO.p rfl rfl (WO.p rfl rfl (WO.convI (b := (k : Int)) rfl rfl rfl (u8_in (by omega)) rfl (WO.indexS (i := k) (m := 256) rfl rfl rfl rfl (by omega) rfl (fun o => ?_))))))
    have ho := o.toNat_lt
    refine WO.convI (b := (o.toNat : Int)) rfl rfl rfl (i64_in (by omega)) rfl (WO.ar rfl rfl rfl (by unfold in64; omega) rfl (WO.p rfl rfl (WO.nil (W.ret ?_))))
    exact fin.ret (Res.one rfl (RV.tmp rfl)) ⟨_, rfl⟩
theorem c_Len (w : World) (n : Int) (h : 0 ≤ n ∧ n < 256) : RetE Tryz.prog 178 [.int .u64 n].toArray w (fun r => ∃ z : Int, r = .int .i64 z) := by
 refine RetE.of mixed tyTab Tryz.func178 rfl rfl (W.sreg (WO.p rfl rfl (WO.nil (W.seq (W.cond_f rfl (W.skip (W.sreg (WO.p rfl rfl (WO.callE rfl Tryz.call255 (fun L w hi => c_Len64 w n h) rfl ?_)))))))))
 rintro _ ⟨z, rfl⟩
 refine WO.p rfl rfl (WO.nil (W.ret ?_))
 exact fin.ret (Res.one rfl (RV.tmp rfl)) ⟨_, rfl⟩
theorem OwE.cellI {C : Cx Tryz.prog} {H : List HP} {e : Nat} {v : Value} {l : List Int} {i : Nat} (s : Sub H [OwE encI e 1 v l]) (hi : i < l.length) : Cell C H (elt v i 1) (.int .i64 (l.getD i 0)) := by
 cases s with
 | cons p _ => exact OwE.cell0 encI_ok p hi 0 rfl
theorem c_ins (B : Nat) (w : World) (v : Value) (xs : List Int) (hB : B ≤ w.heap.size) (hl : xs.length ≤ 12) :
 CtH Tryz.prog 245 [v, .int .i64 0, .int .i64 (xs.length : Int)] w [OwE encI 3 1 v xs] B (fun r Hq => ∃ ys : List Int, (r = .tuple #[] ∧ ys.Perm xs) ∧ Hq = [OwE encI 3 1 v ys]) := by
 refine CtH.ofI (X := List Int) (p := fun ys r => r = .tuple #[] ∧ ys.Perm xs) (Hx := fun ys => [OwE encI 3 1 v ys]) mixed tyTab hB Tryz.func245 rfl rfl (fun M hM => (W.fact (OwE.sl (enc := encI) (e := 3) (sz := 1) (v := v) (xs := xs) Pick.head) (fun hbs => (W.sreg (WO.p rfl rfl (WO.ar rfl rfl rfl (by unfold in64; omega) rfl (WO.p rfl rfl (WO.nil (W.block ?_)))))))))
 refine W.loop2 (fun (i : Nat) (ys : List Int) => 1 ≤ i ∧ i ≤ xs.length + 1 ∧ ys.Perm xs)
  (fun (i : Nat) (ys : List Int) => [(0, v), (1, .int .i64 0), (2, .int .i64 (xs.length : Int)), (6, .int .i64 (i : Int))])
  (fun (i : Nat) (ys : List Int) => [OwE encI 3 1 v ys])
  (fun (i : Nat) (ys : List Int) => xs.length + 1 - i) 1 xs
  (by exact ⟨by omega, by omega, List.Perm.refl _⟩) ⟨rfl, rfl, rfl, rfl, trivial⟩ (by repeat (first | exact Sub.nil | refine Sub.cons (by repeat exact .head) ?_)) ?_
 rintro i ys ⟨hi0, hi1, hyp⟩
 refine W.seq (W.sreg (WO.p rfl rfl (WO.p rfl rfl (WO.p rfl rfl (WO.nil ?_)))))
 refine W.cond_bl rfl (fun c1 => ?_) (fun c1 => ?_)
 ·refine W.skip (W.seq (W.block (W.sreg (WO.p rfl rfl (WO.p rfl rfl (WO.nil (W.block ?_)))))))
  refine W.loop2 (fun (j : Int) (zs : List Int) => 0 ≤ j ∧ j ≤ (i : Int) ∧ zs.Perm xs)
   (fun (j : Int) (zs : List Int) => [(0, v), (1, .int .i64 0), (2, .int .i64 (xs.length : Int)), (6, .int .i64 (i : Int)), (7, .int .i64 j)])
   (fun (j : Int) (zs : List Int) => [OwE encI 3 1 v zs])
   (fun (j : Int) (zs : List Int) => j.toNat) (i : Int) ys
   (by exact ⟨by omega, by omega, hyp⟩) ⟨rfl, rfl, rfl, rfl, rfl, trivial⟩ (by repeat (first | exact Sub.nil | refine Sub.cons (by repeat exact .head) ?_)) ?_
  rintro j zs ⟨hj0, hj1, hzp⟩
  refine W.seq (W.seq ?_)
  have hzl := hzp.length_eq
  refine W.drawD 13 [.r 0 [], .r 1 [], .r 2 [], .r 3 [], .r 4 [], .r 5 [], .r 6 [], .b 7 [], .r 8 [], .r 9 [], .r 10 [], .r 11 [], .b 12 []] [] (A0 := []) (Sub.refl _) (by kernel_rfl) ?_ ?_
  ·repeat constructor
  refine DT.r rfl rfl rfl (WO.p rfl rfl (WO.nil ⟨rfl, rfl⟩)) (DT.r rfl rfl rfl (WO.p rfl rfl (WO.nil ⟨rfl, rfl⟩)) (DT.r rfl rfl rfl (WO.p rfl rfl (WO.nil ⟨rfl, rfl⟩)) ?_))
  refine DT.rB rfl rfl rfl (WO.p rfl rfl (WO.nil ⟨rfl, rfl⟩)) (fun c2 => ?_) (fun c2 => ?_)
  ·refine DT.r rfl rfl rfl (WO.pg rfl rfl rfl (WO.nil ⟨rfl, rfl⟩)) (DT.r rfl rfl rfl (WO.pg rfl rfl rfl (WO.nil ⟨rfl, rfl⟩)) ?_)
   refine' DT.r rfl rfl rfl ?hq ?_
   case hq =>
    refine WO.go' rfl ?_
    refine' WO.indexAddrZ (n := _) rfl rfl rfl ?hs ?h00 ?h1 rfl ?_
    case hs => exact hbs
    case h00 => omega
    case h1 => (omega)
    exact WO.nil ⟨rfl, rfl⟩
   refine' DT.b rfl rfl rfl ?hq ?_
   case hq =>
    refine WO.go' rfl ?_
    refine' WO.load (v := _) rfl rfl ?hc rfl ?_
    case hc => (first | (refine OwE.cellI (e := 3) (l := zs) (i := j.toNat) ?_ (by omega); exact Sub.cons (by repeat exact .head) Sub.nil))
    exact WO.nil ⟨rfl, rfl⟩
   refine DT.r rfl rfl rfl (WO.pg rfl rfl rfl (WO.nil ⟨rfl, rfl⟩)) (DT.r rfl rfl rfl (WO.pg rfl rfl rfl (WO.nil ⟨rfl, rfl⟩)) (DT.r rfl rfl rfl (WO.go' rfl (WO.ar rfl rfl rfl (by unfold in64; omega) rfl (WO.nil ⟨rfl, rfl⟩))) ?_))
   refine' DT.r rfl rfl rfl ?hq ?_
   case hq =>
    refine WO.go' rfl ?_
    refine' WO.indexAddrZ (n := _) rfl rfl rfl ?hs ?h00 ?h1 rfl ?_
    case hs => exact hbs
    case h00 => omega
    case h1 => (omega)
    exact WO.nil ⟨rfl, rfl⟩
   refine' DT.b rfl rfl rfl ?hq ?_
   case hq =>
    refine WO.go' rfl ?_
    refine' WO.load (v := _) rfl rfl ?hc rfl ?_
    case hc => (first | (refine OwE.cellI (e := 3) (l := zs) (i := (j - 1).toNat) ?_ (by omega); exact Sub.cons (by repeat exact .head) Sub.nil))
    exact WO.nil ⟨rfl, rfl⟩
   refine DT.nil [_] rfl (WO.go' rfl (WO.callR rfl Tryz.call251 (fun L w hi => c_Less w _ _) rfl (WO.p rfl rfl (WO.nil ?_))))
   refine W.cond_bl rfl (fun c3 => ?_) (fun c3 => ?_)
   ·refine W.skip (W.seq (W.block ?_))
    have hzl := hzp.length_eq
    refine W.drawD 16 [.r 0 [], .r 1 [], .r 2 [], .r 3 [], .r 4 [], .r 5 [], .r 6 [], .r 7 [], .r 8 [], .f 9 [], .r 10 [], .r 11 [], .r 12 [], .f 13 [], .r 14 [], .s 15 []] [] (A0 := [_]) (H0 := []) (.cons .head .nil) (by kernel_rfl) ?_ ?_
    ·exact (ALok.r (ALok.r (ALok.r (ALok.r (ALok.r (ALok.r (ALok.r (ALok.r (ALok.r (ALok.f (ALok.r (ALok.r (ALok.r (ALok.f (ALok.r (ALok.s ALok.nil))))))))))))))))
    refine DT.r rfl rfl rfl (WO.p rfl rfl (WO.nil ⟨rfl, rfl⟩)) (DT.r rfl rfl rfl (WO.p rfl rfl (WO.nil ⟨rfl, rfl⟩)) (DT.r rfl rfl rfl (WO.p rfl rfl (WO.nil ⟨rfl, rfl⟩)) (DT.r rfl rfl rfl (WO.p rfl rfl (WO.nil ⟨rfl, rfl⟩)) (DT.r rfl rfl rfl (WO.ar rfl rfl rfl (by unfold in64; omega) rfl (WO.nil ⟨rfl, rfl⟩)) (DT.r rfl rfl rfl (WO.p rfl rfl (WO.nil ⟨rfl, rfl⟩)) (DT.r rfl rfl rfl (WO.p rfl rfl (WO.nil ⟨rfl, rfl⟩)) (DT.r rfl rfl rfl (WO.ar rfl rfl rfl (by unfold in64; omega) rfl (WO.nil ⟨rfl, rfl⟩)) ?_)))))))
    refine' DT.r rfl rfl rfl ?hq ?_
    case hq =>
     refine' WO.indexAddrZ (n := _) rfl rfl rfl ?hs ?h00 ?h1 rfl ?_
     case hs => exact hbs
     case h00 => omega
     case h1 => (omega)
     exact WO.nil ⟨rfl, rfl⟩
    refine' DT.f [_] rfl rfl rfl rfl ?hq ?_
    case hq =>
     refine' WO.load (v := _) rfl rfl ?hc rfl ?_
     case hc => (first | (refine OwE.cellI (e := 3) (l := zs) (i := (j - 1).toNat) ?_ (by omega); exact Sub.cons (by repeat exact .head) Sub.nil))
     exact WO.nil ⟨rfl, rfl⟩
    refine DT.r rfl rfl rfl (WO.p rfl rfl (WO.nil ⟨rfl, rfl⟩)) (DT.r rfl rfl rfl (WO.p rfl rfl (WO.nil ⟨rfl, rfl⟩)) ?_)
    refine' DT.r rfl rfl rfl ?hq ?_
    case hq =>
     refine' WO.indexAddrZ (n := _) rfl rfl rfl ?hs ?h00 ?h1 rfl ?_
     case hs => exact hbs
     case h00 => omega
     case h1 => (omega)
     exact WO.nil ⟨rfl, rfl⟩
    refine' DT.f [_] rfl rfl rfl rfl ?hq ?_
    case hq =>
     refine' WO.load (v := _) rfl rfl ?hc rfl ?_
     case hc => (first | (refine OwE.cellI (e := 3) (l := zs) (i := j.toNat) ?_ (by omega); exact Sub.cons (by repeat exact .head) Sub.nil))
     exact WO.nil ⟨rfl, rfl⟩
    refine' DT.r rfl rfl rfl ?hq ?_
    case hq =>
     refine' WO.indexAddrZ (n := _) rfl rfl rfl ?hs ?h00 ?h1 rfl ?_
     case hs => exact hbs
     case h00 => omega
     case h1 => (omega)
     exact WO.nil ⟨rfl, rfl⟩
    refine DT.s [_] rfl rfl rfl (WO.storeE (enc := encI) encI_ok rfl rfl rfl rfl (by repeat exact .head) (by omega) ?_)
    refine WO.nil ⟨[_], rfl, rfl, (Keep.r (Keep.f (Keep.r (Keep.r (Keep.r (Keep.f (Keep.r (Keep.r (Keep.r (Keep.r (Keep.r (Keep.r (Keep.r (Keep.r (Keep.r Keep.nil))))))))))))))), ?_⟩
    refine DT.nil [_] rfl ?_
    refine' WO.indexAddrZ (n := _) rfl rfl rfl ?hs ?h00 ?h1 rfl ?_
    case hs => exact hbs
    case h00 => omega
    case h1 => (omega)
    refine WO.storeE (enc := encI) encI_ok rfl rfl rfl rfl (by repeat exact .head) (by (simp only [List.length_set]; omega)) (WO.nil (W.region (WO.p rfl rfl (WO.ar rfl rfl rfl (by unfold in64; omega) rfl (WO.p rfl rfl (WO.nil ?_))))))
    refine' ⟨j - 1, _, ?hp, ?hmu, ⟨rfl, rfl, rfl, rfl, rfl, trivial⟩, ?hS⟩
    case hS => repeat (first | exact Sub.nil | refine Sub.cons (by repeat exact .head) ?_)
    case hp => exact ⟨by omega, by omega, (swap_perm (by omega) (by omega)).trans hzp⟩
    case hmu => omega
   ·refine W.exit (blk_same (W.region (WO.p rfl rfl (WO.ar rfl rfl rfl (by unfold in64; omega) rfl (WO.p rfl rfl (WO.nil ?_))))))
    refine' ⟨i + 1, zs, ?hp, ?hmu, ⟨rfl, rfl, rfl, rfl, trivial⟩, ?hS⟩
    case hS => repeat (first | exact Sub.nil | refine Sub.cons (by repeat exact .head) ?_)
    case hp => exact ⟨by omega, by omega, hzp⟩
    case hmu => omega
  ·refine DT.r rfl rfl rfl (WO.no rfl rfl (WO.nil ⟨rfl, rfl⟩)) (DT.r rfl rfl rfl (WO.no rfl rfl (WO.nil ⟨rfl, rfl⟩)) (DT.r rfl rfl rfl (WO.no rfl rfl (WO.nil ⟨rfl, rfl⟩)) (DT.b rfl rfl rfl (WO.no rfl rfl (WO.nil ⟨rfl, rfl⟩)) (DT.r rfl rfl rfl (WO.no rfl rfl (WO.nil ⟨rfl, rfl⟩)) (DT.r rfl rfl rfl (WO.no rfl rfl (WO.nil ⟨rfl, rfl⟩)) (DT.r rfl rfl rfl (WO.no rfl rfl (WO.nil ⟨rfl, rfl⟩)) (DT.r rfl rfl rfl (WO.no rfl rfl (WO.nil ⟨rfl, rfl⟩)) (DT.b rfl rfl rfl (WO.no rfl rfl (WO.nil ⟨rfl, rfl⟩)) (DT.nil [_] rfl (WO.no rfl rfl (WO.p rfl rfl (WO.nil (W.cond_f rfl (W.exit (blk_same (W.region (WO.p rfl rfl (WO.ar rfl rfl rfl (by unfold in64; omega) rfl (WO.p rfl rfl ?_)))))))))))))))))))
   refine WO.nil ?_
   refine' ⟨i + 1, zs, ?hp, ?hmu, ⟨rfl, rfl, rfl, rfl, trivial⟩, ?hS⟩
   case hS => repeat (first | exact Sub.nil | refine Sub.cons (by repeat exact .head) ?_)
   case hp => exact ⟨by omega, by omega, hzp⟩
   case hmu => omega
 ·refine W.exit (blk_same ?_)
  exact fin.normal (Res.none rfl) ⟨ys, ⟨rfl, hyp⟩, fun h hs => Sub.sat (by repeat (first | exact Sub.nil | refine Sub.cons (by repeat exact .head) ?_)) hs⟩
theorem c_pdq (B : Nat) (w : World) (v : Value) (xs : List Int) (lim : Int) (hB : B ≤ w.heap.size) (hl : xs.length ≤ 12) :
 CtH Tryz.prog 177 [v, .int .i64 0, .int .i64 (xs.length : Int), .int .i64 lim] w [OwE encI 3 1 v xs] B (fun r Hq => ∃ ys : List Int, (r = .tuple #[] ∧ ys.Perm xs) ∧ Hq = [OwE encI 3 1 v ys]) := by
 refine CtH.ofI (X := List Int) (p := fun ys r => r = .tuple #[] ∧ ys.Perm xs) (Hx := fun ys => [OwE encI 3 1 v ys]) mixed tyTab hB Tryz.func177 rfl rfl (fun M hM => (W.sreg (WO.p rfl rfl (WO.nil (W.sreg (WO.p rfl rfl (WO.nil (W.block ?_))))))))
 refine W.loop (fun (u : Unit) => True)
  (fun (u : Unit) => [(0, v), (1, .int .i64 0), (2, .int .i64 (xs.length : Int)), (3, .int .i64 lim)])
  (fun (u : Unit) => [OwE encI 3 1 v xs])
  (fun (u : Unit) => 0) ()
  (by trivial) ⟨rfl, rfl, rfl, rfl, trivial⟩ (by repeat (first | exact Sub.nil | refine Sub.cons (by repeat exact .head) ?_)) ?_
 rintro u -
 refine W.block (W.sreg (WO.p rfl rfl (WO.p rfl rfl (WO.ar rfl rfl rfl (by unfold in64; omega) rfl (WO.p rfl rfl (WO.nil (W.seq (W.sreg (WO.p rfl rfl (WO.leqT rfl rfl (by omega) rfl (WO.nil (W.cond_t rfl (W.sreg (WO.p rfl rfl (WO.p rfl rfl (WO.p rfl rfl (WO.callH1 (A := OwE encI 3 1 v xs) rfl Tryz.call245 (by repeat exact .head) (fun L w hi hB2 => c_ins _ w v xs hB2 hl) rfl ?_)))))))))))))))))
 rintro _ _ ⟨ys, ⟨rfl, hyp⟩, rfl⟩
 refine WO.nil (W.ret ?_)
 exact fin.ret (Res.none rfl) ⟨ys, ⟨rfl, hyp⟩, fun h hs => Sub.sat (by repeat (first | exact Sub.nil | refine Sub.cons (by repeat exact .head) ?_)) hs⟩
theorem c_Sort (B : Nat) (w : World) (v : Value) (xs : List Int) (hB : B ≤ w.heap.size) (hl : xs.length ≤ 12) :
 CtH Tryz.prog 101 [v] w [OwE encI 3 1 v xs] B (fun r Hq => ∃ ys : List Int, (r = .tuple #[] ∧ ys.Perm xs) ∧ Hq = [OwE encI 3 1 v ys]) := by
 refine CtH.ofI (X := List Int) (p := fun ys r => r = .tuple #[] ∧ ys.Perm xs) (Hx := fun ys => [OwE encI 3 1 v ys]) mixed tyTab hB Tryz.func101 rfl rfl (fun M hM => (W.fact (OwE.sl (enc := encI) (e := 3) (sz := 1) (v := v) (xs := xs) Pick.head) (fun hbs => (W.sreg (WO.p rfl rfl (WO.len rfl rfl hbs rfl (WO.p rfl rfl (WO.nil (W.region (WO.p rfl rfl (WO.p rfl rfl (WO.p rfl rfl (WO.convI (b := (xs.length : Int)) rfl rfl rfl (u64_in (by omega)) rfl (WO.callE rfl Tryz.call178 (fun L w hi => c_Len w (xs.length : Int) (by omega)) rfl ?_))))))))))))))
 rintro _ ⟨lim, rfl⟩
 refine WO.callH1 (A := OwE encI 3 1 v xs) rfl Tryz.call177 (by repeat exact .head) (fun L w hi hB2 => c_pdq _ w v xs lim hB2 hl) rfl ?_
 rintro _ _ ⟨ys, ⟨rfl, hyp⟩, rfl⟩
 refine WO.nil ?_
 exact fin.normal (Res.none rfl) ⟨ys, ⟨rfl, hyp⟩, fun h hs => Sub.sat (by repeat (first | exact Sub.nil | refine Sub.cons (by repeat exact .head) ?_)) hs⟩
end Go.Proofs.YtncjabmlkgacdaaGreat.Sp
namespace Go.Proofs.YtncjabmlkgacdaaGreat.Sp
open Go Go.TH
attribute [local irreducible] W WO pt
set_option maxRecDepth 10000
set_option maxHeartbeats 1000000
abbrev Ps := Int × Bool × Int
def encPs (x : Ps) : List Value := [.int .i64 x.1, .bool x.2.1, .int .i64 x.2.2]
theorem encPs_ok : EncOk encPs 3 := ⟨fun _ => rfl, fun x u hu => by simp [encPs] at hu; rcases hu with rfl | rfl | rfl <;> rfl, by omega⟩
def ps0 : Ps := (0, false, 0)
def psE (g ys : List Int) (x : Int) : Ps := (x.tdiv 2, bl (x.tmod 2 = 1), ys.getD (g.idxOf x) 0)
def pfL (g ys os : List Int) : List Ps := os.map (psE g ys)
theorem pf_step (g ys : List Int) {zs : List Int} {k : Nat} (h : k < zs.length) : pfL g ys (zs.take k) ++ [psE g ys (zs.getD k 0)] = pfL g ys (zs.take (k + 1)) := by
 unfold pfL; rw [take_succ_getD h 0, List.map_append]; rfl
theorem pf_len (g ys zs : List Int) : (pfL g ys zs).length = zs.length := by unfold pfL; rw [List.length_map]
theorem Hd.len {es : Array MapEntry} {seen : Array Nat} {os : List Int} (h : Hd es seen os) : os.length ≤ es.size := by
 obtain ⟨hs, h1, h2⟩ := h
 have e1 := h1.length_eq
 have e2 := congrArg List.length h2
 rw [List.length_append] at e1
 rw [List.length_map, List.length_map] at e2
 have : es.toList.length = es.size := rfl
 omega
theorem idx_of {g : List Int} {x : Int} (h : x ∈ g) : g.idxOf x < g.length ∧ g.getD (g.idxOf x) 0 = x := by
 have h1 : g.idxOf x < g.length := List.idxOf_lt_length_of_mem h
 exact ⟨h1, by rw [List.getD_eq_getElem?_getD, List.getElem?_eq_getElem h1]; exact List.getElem_idxOf h1⟩
theorem tkL_at {g ys : List Int} (hg : g.Nodup) {x : Int} (h : x ∈ g) : Instr.findNow (.int .i64) (.int .i64 x) (tkL g ys g.length).toArray.toList 0 = some (some (g.idxOf x, .int .i64 (ys.getD (g.idxOf x) 0))) := by
 obtain ⟨h1, h2⟩ := idx_of h
 have := tkL_find (ys := ys) hg h1
 rwa [h2] at this
theorem tk_size (g ys : List Int) : (tkL g ys g.length).toArray.size = g.length := by unfold tkL; simp
theorem all_oc {v : Value} {n : Int} (h : v.oneCell' = true) : [v, .int .i64 n].all (·.oneCell') = true := by rw [List.all_cons, h]; rfl
theorem c_proof (B : Nat) (w : World) (mb : Nat) (g ys : List Int) (s : Sd) (t : Int) (hB : B ≤ w.heap.size) (hg : ∀ x ∈ g, 0 ≤ x ∧ x < 100) (hnd : g.Nodup) (h3 : g.length ≤ 3) (hl : ys.length = g.length) (hp : ∀ y ∈ ys, y ≠ 0) :
 CtH Tryz.prog 39 [mdV (.map (some mb)) s t] w [pt mb (.map (tkL g ys g.length).toArray g.length)] B (fun r Hq => ∃ x : Value × List Int, (x.2.Perm g ∧ r = .agg #[x.1, .int .i64 t]) ∧ Hq = [OwE encPs 54 3 x.1 (pfL g ys x.2)]) := by
 refine CtH.ofI (X := Value × List Int) (p := fun x r => x.2.Perm g ∧ r = .agg #[x.1, .int .i64 t]) (Hx := fun x => [OwE encPs 54 3 x.1 (pfL g ys x.2)]) mixed tyTab hB Tryz.func39 rfl rfl (fun M hM => ?_)
 have hreg := tkL_reg g ys g.length
 have hsz := tk_size g ys
 refine W.sreg (WO.boxA rfl rfl (fun b1 hb1 => (WO.alloc rfl rfl rfl (fun b2 hb2 => (WO.nil (W.sreg (WO.fieldL rfl rfl rfl (WO.load rfl rfl (Cell.own (Pick.tail (Pick.head)) rfl) rfl (WO.build rfl rfl rfl rfl rfl (WO.alloc rfl rfl rfl (fun b3 hb3 => (WO.storeA rfl rfl rfl rfl Pick.head rfl rfl (WO.nil (W.seq (W.sreg (WO.field0 rfl rfl rfl (WO.load rfl rfl (Cell.own (Pick.tail (Pick.tail (Pick.head))) rfl) rfl (WO.rangeM Tryz.underlying94 rfl (by repeat first | exact .head | apply Pick.tail) rfl (fun r => (WO.nil (W.block ?_)))))))))))))))))))))
 refine W.loop (fun (seen : Array Nat) => True)
  (fun (seen : Array Nat) => [(1, .pointer (some ⟨b1, 0, none⟩)), (2, .pointer (some ⟨b2, 0, none⟩)), (3, .pointer (some ⟨b3, 0, none⟩)), (15, .pointer (some ⟨r, 0, none⟩))])
  (fun (seen : Array Nat) => [pt b1 (.cells #[.map (some mb), .int .i64 s.a, .int .i64 s.b, .int .i64 s.c, .int .i64 t] 98 (0, 0)), pt b2 (.cells #[.slice none 0 0, .int .i64 0] 46 (0, 0)), pt b3 (.cells #[.slice none 0 0, .int .i64 t] 46 (0, 0)), pt mb (.map (tkL g ys g.length).toArray g.length), pt r (itO mb g.length seen)])
  (fun (seen : Array Nat) => (leftOf (tkL g ys g.length).toArray seen).size) #[]
  (by trivial) ⟨rfl, rfl, rfl, rfl, trivial⟩ (by repeat (first | exact Sub.nil | refine Sub.cons (by repeat first | exact .head | apply Pick.tail) ?_)) ?_
 rintro seen -
 refine W.sreg (WO.nextM rfl (by repeat first | exact .head | apply Pick.tail) (by repeat first | exact .head | apply Pick.tail) hreg rfl (fun o hox => (WO.extractN rfl rfl (WO.nil (W.seq ?_)))))
 refine W.cond_bl rfl (fun c1 => ?_) (fun c1 => ?_)
 ·refine W.skip (W.block ?_)
  obtain ⟨e, rfl⟩ := Option.isSome_iff_exists.1 (show o.isSome = true by assumption)
  have he : e ∈ (leftOf (tkL g ys g.length).toArray seen).toList := hox
  obtain ⟨i, hi, hek, hev⟩ := tkL_mem (mem_left he).1
  have hy0 := hp _ (getD_mem (show i < ys.length by omega) 0)
  refine W.sreg (WO.entryM rfl (by repeat exact .head) (by repeat first | exact .head | apply Pick.tail) hreg (mem_left he).1 hek hev rfl (WO.p rfl rfl (WO.p rfl rfl (WO.p rfl rfl (WO.p rfl rfl (WO.nil (W.sreg (WO.p rfl rfl (WO.eqlF rfl rfl (by omega) rfl (WO.nil (W.cond_f rfl (W.skip ?_))))))))))))
  refine' ⟨seen.push e.born, ?hp, ?hmu, ⟨rfl, rfl, rfl, rfl, trivial⟩, ?hS⟩
  case hS => repeat (first | exact Sub.nil | refine Sub.cons (by repeat first | exact .head | apply Pick.tail) ?_)
  case hp => trivial
  case hmu => exact left_shrinks _ seen e he
 ·refine W.exit (blk_same (W.sreg (WO.p rfl rfl (WO.nil (W.seq (W.sreg (WO.field0 rfl rfl rfl (WO.load rfl rfl (Cell.own (Pick.tail (Pick.head)) rfl) rfl (WO.rangeM Tryz.underlying94 rfl (by repeat first | exact .head | apply Pick.tail) rfl (fun r => (WO.nil (W.block (W.chg (owNil (enc := encI) (e := 3) (sz := 1)) ?_)))))))))))))
  refine W.loop3 (fun (seen : Array Nat) (ov : Value) (os : List Int) => Hd (tkL g ys g.length).toArray seen os)
   (fun (seen : Array Nat) (ov : Value) (os : List Int) => [(1, .pointer (some ⟨b1, 0, none⟩)), (2, .pointer (some ⟨b2, 0, none⟩)), (3, .pointer (some ⟨b3, 0, none⟩)), (6, ov), (28, .pointer (some ⟨r, 0, none⟩))])
   (fun (seen : Array Nat) (ov : Value) (os : List Int) => [pt b1 (.cells #[.map (some mb), .int .i64 s.a, .int .i64 s.b, .int .i64 s.c, .int .i64 t] 98 (0, 0)), pt b2 (.cells #[.slice none 0 0, .int .i64 0] 46 (0, 0)), pt b3 (.cells #[.slice none 0 0, .int .i64 t] 46 (0, 0)), pt mb (.map (tkL g ys g.length).toArray g.length), pt r (itO mb g.length seen), OwE encI 3 1 ov os])
   (fun (seen : Array Nat) (ov : Value) (os : List Int) => (leftOf (tkL g ys g.length).toArray seen).size) #[] (.slice none 0 0) []
   (by exact Hd.none _) ⟨rfl, rfl, rfl, rfl, rfl, trivial⟩ (by repeat (first | exact Sub.nil | refine Sub.cons (by repeat first | exact .head | apply Pick.tail) ?_)) ?_
  rintro seen ov os hd
  refine W.sreg (WO.nextM rfl (by repeat first | exact .head | apply Pick.tail) (by repeat first | exact .head | apply Pick.tail) hreg rfl (fun o hox => (WO.extractN rfl rfl (WO.nil (W.seq ?_)))))
  refine W.cond_bl rfl (fun c2 => ?_) (fun c2 => ?_)
  ·refine W.skip (W.block ?_)
   obtain ⟨e, rfl⟩ := Option.isSome_iff_exists.1 (show o.isSome = true by assumption)
   have he : e ∈ (leftOf (tkL g ys g.length).toArray seen).toList := hox
   obtain ⟨i, hi, hek, hev⟩ := tkL_mem (mem_left he).1
   have hln := hd.len
   refine W.sreg (WO.entryM rfl (by repeat exact .head) (by repeat first | exact .head | apply Pick.tail) hreg (mem_left he).1 hek hev rfl (WO.p rfl rfl (WO.p rfl rfl (WO.nil (W.region (WO.p rfl rfl (WO.p rfl rfl (WO.buildSl rfl rfl rfl rfl rfl rfl rfl rfl rfl (fun v4 => ?_)))))))))
   refine' WO.appendE (enc := encI) (m := 1) (ys := [g.getD i 0]) encI_ok rfl rfl rfl rfl rfl (by repeat first | exact .head | apply Pick.tail) (isSl_lit (by omega) (fun _ => ⟨_, _, rfl⟩)) (by omega) rfl (OwC.cells .head) (by omega) (by omega) rfl (fun gb c => ?_)
   refine WO.p rfl rfl (WO.nil ?_)
   refine' ⟨seen.push e.born, _, _, ?hp, ?hmu, ⟨rfl, rfl, rfl, rfl, rfl, trivial⟩, ?hS⟩
   case hS => repeat (first | exact Sub.nil | refine Sub.cons (by repeat first | exact .head | apply Pick.tail) ?_)
   case hp => exact hd.step hreg he hek
   case hmu => exact left_shrinks _ seen e he
  ·refine W.exit (blk_same ?_)
   have h0 : (leftOf (tkL g ys g.length).toArray seen).size = 0 := by cases o with
   | none => exact hox
   | some e => exact absurd rfl (show ¬ (some e).isSome = true by assumption)
   have hop := hd.all h0 tkL_keys
   have hol := hop.length_eq
   refine W.sreg (WO.p rfl rfl (WO.callH1 (A := OwE encI 3 1 ov os) rfl Tryz.call101 (by repeat first | exact .head | apply Pick.tail) (fun L w hi hB2 => c_Sort _ w ov os hB2 (by omega)) rfl ?_))
   rintro _ _ ⟨zs, ⟨rfl, hzp⟩, rfl⟩
   refine WO.nil (W.seq (W.fact (OwE.sl (enc := encI) (e := 3) (sz := 1) (v := ov) (xs := zs) (by repeat exact .head)) (fun hos => ?_)))
   have hzg := hzp.trans hop
   have hzl := hzg.length_eq
   refine W.sreg (WO.p rfl rfl (WO.len rfl rfl hos rfl (WO.p rfl rfl (WO.nil (W.block (W.chg (owNil (enc := encPs) (e := 54) (sz := 3)) ?_))))))
   refine W.loop2 (fun (k : Nat) (sv : Value) => k ≤ zs.length)
    (fun (k : Nat) (sv : Value) => [(1, .pointer (some ⟨b1, 0, none⟩)), (2, .pointer (some ⟨b2, 0, none⟩)), (3, .pointer (some ⟨b3, 0, none⟩)), (39, ov), (40, .int .i64 (zs.length : Int)), (41, .int .i64 (k : Int))])
    (fun (k : Nat) (sv : Value) => [pt b1 (.cells #[.map (some mb), .int .i64 s.a, .int .i64 s.b, .int .i64 s.c, .int .i64 t] 98 (0, 0)), pt b2 (.cells #[.slice none 0 0, .int .i64 0] 46 (0, 0)), pt b3 (.cells #[sv, .int .i64 t] 46 (0, 0)), pt mb (.map (tkL g ys g.length).toArray g.length), OwE encI 3 1 ov zs, OwE encPs 54 3 sv (pfL g ys (zs.take k))])
    (fun (k : Nat) (sv : Value) => zs.length - k) 0 (.slice none 0 0)
    (by omega) ⟨rfl, rfl, rfl, rfl, rfl, rfl, trivial⟩ (by repeat (first | exact Sub.nil | refine Sub.cons (by repeat first | exact .head | apply Pick.tail) ?_)) ?_
   rintro k sv hk0
   refine W.sreg (WO.p rfl rfl (WO.nil (W.seq ?_)))
   refine W.cond_bl rfl (fun c3 => ?_) (fun c3 => ?_)
   ·refine W.skip (W.seq (W.block ?_))
    have hzm : zs.getD k 0 ∈ g := hzg.mem_iff.1 (getD_mem (show k < zs.length by omega) 0)
    have hz0 := hg _ hzm
    have hq2 : (zs.getD k 0).tdiv 2 = zs.getD k 0 / 2 := Int.tdiv_eq_ediv_of_nonneg hz0.1
    have hpl := pf_len g ys (zs.take k)
    rw [List.length_take] at hpl
    refine W.sreg (WO.indexAddr rfl rfl rfl hos (by omega) rfl ?_)
    refine' WO.load (v := _) rfl rfl ?hc rfl ?_
    case hc => (first | (refine OwE.cellI (e := 3) (l := zs) (i := k) ?_ (by omega); exact Sub.cons (by repeat first | exact .head | apply Pick.tail) Sub.nil))
    refine WO.p rfl rfl (WO.nil (W.region (WO.field0 rfl rfl rfl (WO.load rfl rfl (Cell.own (Pick.tail (Pick.tail (Pick.head))) rfl) rfl (WO.p rfl rfl (WO.quo rfl rfl (by omega) (by rw [hq2]; unfold in64; omega) rfl (WO.p rfl rfl (WO.rem rfl rfl (by omega) rfl (WO.p rfl rfl (WO.field0 rfl rfl rfl (WO.load rfl rfl (Cell.own Pick.head rfl) rfl (WO.p rfl rfl (WO.lookupI (i := g.idxOf (zs.getD k 0)) (u := .int .i64 (ys.getD (g.idxOf (zs.getD k 0)) 0)) Tryz.underlying94 Tryz.underlying3 rfl rfl (by repeat first | exact .head | apply Pick.tail) (tkL_at hnd hzm) rfl (WO.build rfl rfl rfl rfl rfl (WO.buildSl rfl rfl rfl rfl rfl rfl rfl rfl rfl (fun v5 => ?_))))))))))))))))
    refine' WO.appendE (enc := encPs) (m := 1) (ys := [psE g ys (zs.getD k 0)]) encPs_ok rfl rfl rfl rfl rfl (by repeat first | exact .head | apply Pick.tail) (isSl_lit (by omega) (fun _ => ⟨_, _, rfl⟩)) (by omega) rfl (OwC.cells .head) (by omega) (by omega) rfl (fun gb c => ?_)
    rw [pf_step g ys (by omega)]
    refine WO.field0 rfl rfl rfl (WO.store1 rfl rfl rfl (by rfl) (Pick.tail (Pick.tail (Pick.tail (Pick.tail (Pick.head))))) rfl (WO.nil (W.region (WO.ar rfl rfl rfl (by unfold in64; omega) rfl (WO.p rfl rfl (WO.nil ?_))))))
    refine' ⟨k + 1, _, ?hp, ?hmu, ⟨rfl, rfl, rfl, rfl, rfl, rfl, trivial⟩, ?hS⟩
    case hS => repeat (first | exact Sub.nil | refine Sub.cons (by repeat first | exact .head | apply Pick.tail) ?_)
    case hp => omega
    case hmu => omega
   ·refine W.exit (blk_same ?_)
    obtain rfl : k = zs.length := by omega
    rw [List.take_length]
    refine W.fact (OwE.sl (enc := encPs) (e := 54) (sz := 3) (v := sv) (xs := pfL g ys zs) (by repeat first | exact .head | apply Pick.tail)) (fun hss => ?_)
    have hsoc := hss.oc
    refine W.sreg (WO.loadA rfl rfl (Cells.own (Pick.tail (Pick.tail (Pick.head)))) rfl rfl (WO.storeA rfl rfl rfl rfl (Pick.tail (Pick.head)) rfl (all_oc hsoc) (WO.nil (W.ret ?_))))
    refine fin.ret (Res.one rfl (RV.cell rfl rfl rfl (Cells.own (by repeat exact .head)))) ⟨(sv, zs), ⟨hzg, rfl⟩, fun h hs => Sub.sat (by repeat (first | exact Sub.nil | refine Sub.cons (by repeat first | exact .head | apply Pick.tail) ?_)) hs⟩
end Go.Proofs.YtncjabmlkgacdaaGreat.Sp
namespace Go.Proofs.YtncjabmlkgacdaaGreat.Sp
open Go Go.TH
attribute [local irreducible] W WO pt
set_option maxRecDepth 10000
set_option maxHeartbeats 1000000
section
variable {S : List Sd} {H H' : List HP}
theorem dbP_open {mb : Nat} (hD : Dbt S) (p : Pick (dbP S mb) H H') : ∀ h, sat H h → ∃ ys : List Int, dbt S (hitG S) = some ys ∧ sat (pt mb (.map (tkL (hitG S) ys (hitG S).length).toArray (hitG S).length) :: H') h := fun h hs => by
 obtain ⟨h1, h2, s, hp, hr⟩ := p.sat hs
 obtain ⟨ys, e, hq⟩ := hp hD
 exact ⟨ys, e, h1, h2, s, hq, hr⟩
structure PfOk (S : List Sd) (g ys zs : List Int) : Prop where
 grp : Grp S.length g
 dbt : dbt S g = some ys
 prm : zs.Perm g
theorem zrY_pos (hn : ∀ s ∈ S, s.a ≠ 0 ∨ s.b ≠ 0) {g ys : List Int} (hg : Grp S.length g) (h : zrY S g = some ys) : ∀ y ∈ ys, 0 < y := by
 have hm : ∀ i, i < g.length → atS S g i ∈ S := fun i hi => getD_mem (show (g.getD i 0).toNat < S.length by have := hg.rng _ (getD_mem hi 0); omega) sd0
 unfold zrY at h
 split at h
 ·rename_i h2
  unfold zr2 at h
  split at h
  ·cases h
   have p0 := siz_pos (hn _ (hm 0 (by omega)))
   have p1 := siz_pos (hn _ (hm 1 (by omega)))
   intro y hy
   have : y = siz (atS S g 1) ∨ y = siz (atS S g 0) := by simpa using hy
   omega
  ·cases h
 ·split at h
  ·unfold zr3 at h
   dsimp only at h
   split at h
   ·split at h
    ·rename_i q
     cases h
     intro y hy
     have : y = -(crs (atS S g 1) (atS S g 2)) ∨ y = -(crs (atS S g 2) (atS S g 0)) ∨ y = -(crs (atS S g 0) (atS S g 1)) := by simpa using hy
     omega
    ·cases h
   ·split at h
    ·rename_i q
     cases h
     intro y hy
     have : y = crs (atS S g 1) (atS S g 2) ∨ y = crs (atS S g 2) (atS S g 0) ∨ y = crs (atS S g 0) (atS S g 1) := by simpa using hy
     omega
    ·cases h
  ·cases h
end
theorem c_Doubt (w : World) (v : Value) (l : List Rn) (hR : RdF encRn 4 w.heap.size w v l) (h0 : chkRs l = 0) (hD : Dbt (sds l)) :
 Ct Tryz.prog 13 [v].toArray w fun r w' => ∃ Hq, (∃ x : Value × List Int × List Int × List Int, (PfOk (sds l) x.2.1 x.2.2.1 x.2.2.2 ∧ r = .tuple #[.agg #[x.1, .int .i64 1], .int .i64 0]) ∧ Hq = [OwE encPs 54 3 x.1 (pfL x.2.1 x.2.2.1 x.2.2.2)]) ∧ Inv w [] Hq w' := by
 refine Ct.ofI mixed tyTab Tryz.func13 rfl rfl ?_
 replace hR : RdF encRn 4 (fnCx mixed tyTab Tryz.f13.ntmps w).B (fnCx mixed tyTab Tryz.f13.ntmps w).w0 v l := hR
 have hrs := chkRs0.1 h0
 have hsl := sds_len l
 have hgr := (grp_ok (m := 3) (by omega) hD.hit.1).1
 have hnz := sds_nz hrs.2
 refine W.sreg (WO.alloc rfl rfl rfl (fun b1 hb1 => (WO.p rfl rfl (WO.nil (W.seq (W.sreg (WO.p rfl rfl (WO.callR rfl Tryz.call36 (fun L w hi => c_CheckRuns w v l (hR.later hi)) rfl (WO.p rfl rfl (WO.nil (W.sreg (WO.p rfl rfl (WO.neqF rfl rfl (by omega) rfl (WO.nil (W.cond_f rfl (W.skip (W.seq (W.sreg (WO.p rfl rfl (WO.call (Post := fun u Hq => ∃ (b : Nat) (rv sv : Value), u = .pointer (some ⟨b, 0, none⟩) ∧ Hq = [pt b (.cells #[rv, sv] 179 (0, 0)), OwE encPr 181 10 rv l, OwE encSd 96 3 sv (sds l)]) rfl Tryz.call37 (fun L w hi => c_newTable w v l (hR.later hi) hrs.2 hrs.1) rfl ?_))))))))))))))))))))
 rintro _ _ ⟨tb, rv, sv, rfl, rfl⟩
 refine WO.call (Post := fun u Hq => ∃ mb : Nat, u = .tuple #[mdV (.map (some mb)) (dbS (sds l)) 1, .bool true] ∧ Hq = [dbP (sds l) mb]) rfl Tryz.call38 (fun L w hi => by have h := c_doubt w ⟨tb, 0, none⟩ rv sv l (Tbl.own (b := tb) (by repeat exact .head) (by repeat first | exact .head | apply Pick.tail) (by repeat first | exact .head | apply Pick.tail) hi) hrs.2 hrs.1; have e1 : ∀ mb, dbQ (sds l) mb = some mb := fun mb => if_pos hD; simp only [e1, show dbT (sds l) = 1 from if_pos hD, show bl (Dbt (sds l)) = true from bl_t.2 hD] at h; exact h) rfl ?_
 rintro _ _ ⟨mb, rfl, rfl⟩
 refine WO.p rfl rfl (WO.p rfl rfl (WO.extract (i := 1) rfl rfl rfl (WO.alloc rfl rfl rfl (fun b2 hb2 => (WO.storeA rfl rfl rfl rfl Pick.head rfl rfl (WO.p rfl rfl (WO.nil (W.sreg (WO.p rfl rfl (WO.nil (W.cond_t rfl (W.chgE (dbP_open hD (by repeat first | exact .head | apply Pick.tail)) ?_))))))))))))
 rintro ys hys
 have hzy := dbt_zrY hys
 have hyp := zrY_pos hnz hgr hzy
 refine W.sreg (WO.loadA rfl rfl (Cells.own (Pick.tail (Pick.head))) rfl rfl (WO.callH1 (A := pt mb (.map (tkL (hitG (sds l)) ys (hitG (sds l)).length).toArray (hitG (sds l)).length)) rfl Tryz.call39 (by repeat exact .head) (fun L w hi hB2 => c_proof _ w mb (hitG (sds l)) ys (dbS (sds l)) 1 hB2 (fun x hx => by have := hgr.rng x hx; omega) hgr.nd hgr.len.2 (zrY_len hzy) (fun y hy => by have := hyp y hy; omega)) rfl ?_))
 rintro _ _ ⟨⟨pv, zs⟩, ⟨hzp, rfl⟩, rfl⟩
 refine WO.fact (OwE.sl (enc := encPs) (e := 54) (sz := 3) (v := pv) (xs := pfL (hitG (sds l)) ys zs) (by repeat exact .head)) (fun hss => ?_)
 have hsoc := hss.oc
 refine WO.storeA rfl rfl rfl rfl (Pick.tail (Pick.tail (Pick.tail (Pick.tail (Pick.tail (Pick.head)))))) rfl (all_oc hsoc) (WO.p rfl rfl (WO.nil (W.ret ?_)))
 refine fin.ret (Res.two rfl (RV.cell rfl rfl rfl (Cells.own (by repeat exact .head))) (RV.tmp rfl)) ⟨(pv, hitG (sds l), ys, zs), ⟨⟨hgr, hys, hzp⟩, rfl⟩, fun h hs => Sub.sat (by repeat (first | exact Sub.nil | refine Sub.cons (by repeat first | exact .head | apply Pick.tail) ?_)) hs⟩
end Go.Proofs.YtncjabmlkgacdaaGreat.Sp
namespace Go.Proofs.YtncjabmlkgacdaaGreat.Sp
open Go Go.TH
set_option maxRecDepth 10000
def pSide (l : List Rn) (x : Ps) : Sd := if x.2.1 = true then hiS (l.getD x.1.toNat rn0) else loS (l.getD x.1.toNat rn0)
def pfS (l : List Rn) (xs : List Ps) : Sd := xs.foldl (fun s x => addS s (byS (pSide l x) x.2.2)) sd0
theorem fold_perm {α : Type} (f : Sd → α → Sd) (hc : ∀ z x y, f (f z x) y = f (f z y) x) {l l' : List α} (p : l.Perm l') : ∀ z, l.foldl f z = l'.foldl f z := by
 induction p with
 | nil => intro _; rfl
 | cons x _ ih => intro z; exact ih _
 | swap x y l => intro z; show List.foldl f (f (f z y) x) l = List.foldl f (f (f z x) y) l; rw [hc]
 | trans _ _ h1 h2 => intro z; rw [h1, h2]
theorem addS_comm (z x y : Sd) : addS (addS z x) y = addS (addS z y) x := by unfold addS; congr 1 <;> dsimp only <;> omega
theorem idx_nd {g : List Int} (hg : g.Nodup) {i : Nat} (h : i < g.length) : g.idxOf (g.getD i 0) = i := by
 obtain ⟨h1, h2⟩ := idx_of (getD_mem h (0 : Int))
 have e1 : g.getD (g.idxOf (g.getD i 0)) 0 = g[g.idxOf (g.getD i 0)] := by
  rw [List.getD_eq_getElem?_getD, List.getElem?_eq_getElem h1]; rfl
 have e2 : g.getD i 0 = g[i] := by simp [h]
 rw [e1] at h2
 exact (List.getElem_inj hg).1 (h2.trans e2)
theorem tkS_fold {S : List Sd} {g ys : List Int} (hg : g.Nodup) : ∀ {n : Nat}, n ≤ g.length → tkS S g ys n = (g.take n).foldl (fun s x => addS s (byS (S.getD x.toNat sd0) (ys.getD (g.idxOf x) 0))) sd0
 | 0, _ => rfl
 | n + 1, h => by
  rw [take_succ_getD (by omega) 0, List.foldl_append, ← tkS_fold hg (n := n) (by omega)]
  show _ = addS (tkS S g ys n) _
  rw [idx_nd hg (by omega)]
  rfl
theorem pSide_eq {l : List Rn} {g ys : List Int} {x : Int} (h : 0 ≤ x ∧ x < 2 * l.length) : pSide l (psE g ys x) = (sds l).getD x.toNat sd0 := by
 obtain ⟨k, rfl⟩ := Int.eq_ofNat_of_zero_le h.1
 have h2 := sds_get (l := l) (i := k) (by omega)
 have e : (sds l).getD (k : Int).toNat sd0 = sAt (sds l) k := rfl
 rw [e, h2]
 unfold pSide psE
 dsimp only
 have e1 : (k : Int).tdiv 2 = ((k / 2 : Nat) : Int) := (Int.ofNat_tdiv k 2).symm
 have e2 : (k : Int).tmod 2 = ((k % 2 : Nat) : Int) := (Int.ofNat_tmod k 2).symm
 rw [e1, e2, Int.toNat_natCast]
 rcases Nat.mod_two_eq_zero_or_one k with q | q
 ·rw [if_neg (show ¬ bl (((k % 2 : Nat) : Int) = 1) = true by rw [bl_t]; omega), if_pos q]
 ·rw [if_pos (show bl (((k % 2 : Nat) : Int) = 1) = true by rw [bl_t]; omega), if_neg (show ¬ k % 2 = 0 by omega)]
theorem pf_tk {l : List Rn} {g ys zs : List Int} (hg : Grp (sds l).length g) (hp : zs.Perm g) : pfS l (pfL g ys zs) = tkS (sds l) g ys g.length := by
 rw [tkS_fold hg.nd (Nat.le_refl _), List.take_length]
 unfold pfS pfL
 rw [List.foldl_map, fold_perm (fun s x => addS s (byS (pSide l (psE g ys x)) (psE g ys x).2.2)) (fun z x y => addS_comm _ _ _) hp]
 have hr := hg.rng
 rw [sds_len] at hr
 have key : ∀ (xs : List Int) (z : Sd), (∀ x ∈ xs, x ∈ g) → xs.foldl (fun s x => addS s (byS (pSide l (psE g ys x)) (psE g ys x).2.2)) z = xs.foldl (fun s x => addS s (byS ((sds l).getD x.toNat sd0) (ys.getD (g.idxOf x) 0))) z := by
  intro xs
  induction xs with
  | nil => intro _ _; rfl
  | cons x r ih =>
   intro z h
   have hx := hr x (h x List.mem_cons_self)
   rw [List.foldl_cons, List.foldl_cons, pSide_eq (by omega)]
   exact ih _ fun y hy => h y (List.mem_cons_of_mem _ hy)
 exact key g sd0 fun _ h => h
theorem dbt_spec {S : List Sd} {g ys : List Int} (h : dbt S g = some ys) : (tkS S g ys g.length).a = 0 ∧ (tkS S g ys g.length).b = 0 ∧ 0 < (tkS S g ys g.length).c := by
 have hz := dbt_zrY h
 unfold dbt at h
 rw [hz] at h
 dsimp only at h
 split at h
 ·rename_i q; exact q
 ·cases h
theorem zrY_le {S : List Sd} (hS : ∀ s ∈ S, OkS 20 100000 s) {g ys : List Int} (hg : Grp S.length g) (h : zrY S g = some ys) : ∀ y ∈ ys, y ≤ 1000 := by
 have hm : ∀ i, i < g.length → OkS 20 100000 (atS S g i) := fun i hi => hS _ (getD_mem (show (g.getD i 0).toNat < S.length by have := hg.rng _ (getD_mem hi 0); omega) sd0)
 unfold zrY at h
 split at h
 ·unfold zr2 at h
  split at h
  ·cases h
   have p0 := siz_bd (hm 0 (by omega))
   have p1 := siz_bd (hm 1 (by omega))
   intro y hy
   have : y = siz (atS S g 1) ∨ y = siz (atS S g 0) := by simpa using hy
   omega
  ·cases h
 ·split at h
  ·have c1 := (crs_bd (hm 1 (by omega)) (hm 2 (by omega))).2.2
   have c2 := (crs_bd (hm 2 (by omega)) (hm 0 (by omega))).2.2
   have c3 := (crs_bd (hm 0 (by omega)) (hm 1 (by omega))).2.2
   unfold zr3 at h
   dsimp only at h
   split at h
   ·split at h
    ·cases h
     intro y hy
     have : y = -(crs (atS S g 1) (atS S g 2)) ∨ y = -(crs (atS S g 2) (atS S g 0)) ∨ y = -(crs (atS S g 0) (atS S g 1)) := by simpa using hy
     omega
    ·cases h
   ·split at h
    ·cases h
     intro y hy
     have : y = crs (atS S g 1) (atS S g 2) ∨ y = crs (atS S g 2) (atS S g 0) ∨ y = crs (atS S g 0) (atS S g 1) := by simpa using hy
     omega
    ·cases h
  ·cases h
def OkPs (n : Nat) (x : Ps) : Prop := (0 ≤ x.1 ∧ x.1 < n) ∧ 1 ≤ x.2.2 ∧ x.2.2 ≤ 1000
theorem PfOk.ok {l : List Rn} (h0 : OkRs l) {g ys zs : List Int} (h : PfOk (sds l) g ys zs) : ∀ x ∈ pfL g ys zs, OkPs l.length x := fun x hx => by
 obtain ⟨z, hz, rfl⟩ := List.mem_map.1 hx
 have hzg := h.prm.mem_iff.1 hz
 have hr := h.grp.rng z hzg
 rw [sds_len] at hr
 have e : z.tdiv 2 = z / 2 := Int.tdiv_eq_ediv_of_nonneg hr.1
 have hy := dbt_zrY h.dbt
 have hi := (idx_of hzg).1
 have hm : ys.getD (g.idxOf z) 0 ∈ ys := getD_mem (by rw [zrY_len hy]; exact hi) 0
 have h1 := zrY_pos (sds_nz h0) h.grp hy _ hm
 have h2 := zrY_le (sds_ok h0) h.grp hy _ hm
 refine ⟨⟨?_, ?_⟩, h1, h2⟩
 ·show 0 ≤ z.tdiv 2; omega
 ·show z.tdiv 2 < _; omega
theorem PfOk.sum {l : List Rn} {g ys zs : List Int} (h : PfOk (sds l) g ys zs) : (pfS l (pfL g ys zs)).a = 0 ∧ (pfS l (pfL g ys zs)).b = 0 ∧ 0 < (pfS l (pfL g ys zs)).c := by
 rw [pf_tk h.grp h.prm]; exact dbt_spec h.dbt
theorem PfOk.len {l : List Rn} {g ys zs : List Int} (h : PfOk (sds l) g ys zs) : (pfL g ys zs).length ≤ 3 := by
 rw [pf_len, h.prm.length_eq]; exact h.grp.len.2
theorem pfS_step {l : List Rn} {xs : List Ps} {i : Nat} (h : i < xs.length) : pfS l (xs.take (i + 1)) = addS (pfS l (xs.take i)) (byS (pSide l (xs.getD i ps0)) (xs.getD i ps0).2.2) := by
 unfold pfS; rw [take_succ_getD h ps0, List.foldl_append]; rfl
theorem pfS_bd {l : List Rn} (h0 : OkRs l) {xs : List Ps} (hx : ∀ x ∈ xs, OkPs l.length x) : ∀ {i : Nat}, i ≤ xs.length → OkS (20000 * i) (100000000 * i) (pfS l (xs.take i))
 | 0, _ => ⟨by simp [pfS, sd0], by simp [pfS, sd0], by simp [pfS, sd0]⟩
 | i + 1, h => by
  have h1 := pfS_bd h0 hx (i := i) (by omega)
  obtain ⟨h2, h3, h4⟩ := hx _ (getD_mem (show i < xs.length by omega) ps0)
  have hr := h0 _ (getD_mem (show (xs.getD i ps0).1.toNat < l.length by omega) rn0)
  have h5 : OkS 20 100000 (pSide l (xs.getD i ps0)) := by
   unfold pSide
   split
   ·exact OkS.hi hr
   ·exact OkS.lo hr
  have h6 := h5.by_ (N := 1000) (n := (xs.getD i ps0).2.2) (by omega)
  rw [pfS_step (by omega)]
  obtain ⟨a1, a2, a3⟩ := h1
  obtain ⟨b1, b2, b3⟩ := h6
  have e1 : (20000 : Int) * ((i + 1 : Nat) : Int) = 20000 * i + 20000 := by omega
  have e2 : (100000000 : Int) * ((i + 1 : Nat) : Int) = 100000000 * i + 100000000 := by omega
  rw [e1, e2]
  exact ⟨by show _ ≤ _ + _ ∧ _ + _ ≤ _; omega, by show _ ≤ _ + _ ∧ _ + _ ≤ _; omega, by show _ ≤ _ + _ ∧ _ + _ ≤ _; omega⟩
theorem pf_up {l : List Rn} {x : Ps} {a b c : Int} (h : x.2.1 = true) : addS ⟨a, b, c⟩ (byS (pSide l x) x.2.2) = ⟨a - (l.getD x.1.toNat rn0).p * x.2.2, b - (l.getD x.1.toNat rn0).q * x.2.2, c - (l.getD x.1.toNat rn0).hi * x.2.2⟩ := by
 unfold pSide; rw [if_pos h]; unfold addS byS hiS; dsimp only; rw [Int.neg_mul, Int.neg_mul, Int.neg_mul]; rfl
theorem pf_lo {l : List Rn} {x : Ps} {a b c : Int} (h : ¬ x.2.1 = true) : addS ⟨a, b, c⟩ (byS (pSide l x) x.2.2) = ⟨a + (l.getD x.1.toNat rn0).p * x.2.2, b + (l.getD x.1.toNat rn0).q * x.2.2, c + (l.getD x.1.toNat rn0).lo * x.2.2⟩ := by
 unfold pSide; rw [if_neg h]; rfl
end Go.Proofs.YtncjabmlkgacdaaGreat.Sp
namespace Go.Proofs.YtncjabmlkgacdaaGreat.Sp
open Go Go.TH
attribute [local irreducible] W WO pt
set_option maxRecDepth 10000
set_option maxHeartbeats 1000000
theorem chkA_1 {l : List Rn} {p q : Int} (h : chkRs l ≠ 0) : chkA l p q = chkRs l := if_pos h
theorem chkA_0 {l : List Rn} {p q : Int} (h : chkRs l = 0) (hp : OkN p) (hq : OkN q) : chkA l p q = 0 := by unfold chkA; rw [if_neg (by omega), if_pos ⟨hp, hq⟩]
theorem chkA_3 {l : List Rn} {p q : Int} (h : chkRs l = 0) (hn : ¬ (OkN p ∧ OkN q)) : chkA l p q = 3 := by unfold chkA; rw [if_neg (by omega), if_neg hn]
theorem ref_asked (w : World) (v : Value) (l : List Rn) (p q : Int) (hR : RdF encRn 4 w.heap.size w v l) : Ret Tryz.prog 40 [v, .int .i64 p, .int .i64 q].toArray w (.int .i64 (chkA l p q)) := by
 refine Ret.of mixed tyTab Tryz.func40 rfl rfl ?_
 replace hR : RdF encRn 4 (fnCx mixed tyTab Tryz.f40.ntmps w).B (fnCx mixed tyTab Tryz.f40.ntmps w).w0 v l := hR
 refine W.sreg (WO.p rfl rfl (WO.nil (W.seq (W.sreg (WO.p rfl rfl (WO.callR rfl Tryz.call9 (fun L w hi => ref_CheckRuns w v l (hR.later hi)) rfl (WO.p rfl rfl (WO.nil ?_))))))))
 refine W.cond_bl rfl (fun c1 => ?_) (fun c1 => ?_)
 ·refine W.sreg (WO.p rfl rfl (WO.callR rfl Tryz.call9 (fun L w hi => ref_CheckRuns w v l (hR.later hi)) rfl (WO.p rfl rfl (WO.nil (W.ret (fin.ret (Res.one rfl (RV.tmp rfl)) (congrArg (Value.int .i64) ?_)))))))
  first | exact (chkA_1 (by assumption)).symm | exact (chkA_3 (by omega) (fun h => absurd h.1 (by assumption))).symm | exact (chkA_3 (by omega) (fun h => absurd h.2 (by assumption))).symm | exact (chkA_0 (by omega) (by first | assumption | exact Decidable.not_not.1 (by assumption)) (by first | assumption | exact Decidable.not_not.1 (by assumption))).symm
 ·refine W.skip (W.seq (W.sreg (WO.p rfl rfl (WO.callR rfl Tryz.call29 (fun L w hi => ref_factor w p) rfl (WO.p rfl rfl (WO.p rfl rfl ?_))))))
  refine WO.guard_nbl rfl rfl (fun c2 => ?_) (fun c2 => ?_)
  ·refine WO.no rfl rfl (WO.no rfl rfl (WO.no rfl rfl (WO.p rfl rfl (WO.nil (W.cond_t rfl (W.sreg (WO.p rfl rfl (WO.nil (W.ret (fin.ret (Res.one rfl (RV.tmp rfl)) (congrArg (Value.int .i64) ?_)))))))))))
   first | exact (chkA_1 (by assumption)).symm | exact (chkA_3 (by omega) (fun h => absurd h.1 (by assumption))).symm | exact (chkA_3 (by omega) (fun h => absurd h.2 (by assumption))).symm | exact (chkA_0 (by omega) (by first | assumption | exact Decidable.not_not.1 (by assumption)) (by first | assumption | exact Decidable.not_not.1 (by assumption))).symm
  ·refine WO.pg rfl rfl rfl (WO.go' rfl (WO.callR rfl Tryz.call29 (fun L w hi => ref_factor w q) rfl (WO.pg rfl rfl rfl (WO.p rfl rfl (WO.nil ?_)))))
   refine W.cond_nbl rfl (fun c3 => ?_) (fun c3 => ?_)
   ·refine W.sreg (WO.p rfl rfl (WO.nil (W.ret (fin.ret (Res.one rfl (RV.tmp rfl)) (congrArg (Value.int .i64) ?_)))))
    first | exact (chkA_1 (by assumption)).symm | exact (chkA_3 (by omega) (fun h => absurd h.1 (by assumption))).symm | exact (chkA_3 (by omega) (fun h => absurd h.2 (by assumption))).symm | exact (chkA_0 (by omega) (by first | assumption | exact Decidable.not_not.1 (by assumption)) (by first | assumption | exact Decidable.not_not.1 (by assumption))).symm
   ·refine W.skip (W.sreg (WO.p rfl rfl (WO.nil (W.ret (fin.ret (Res.one rfl (RV.tmp rfl)) (congrArg (Value.int .i64) ?_))))))
    first | exact (chkA_1 (by assumption)).symm | exact (chkA_3 (by omega) (fun h => absurd h.1 (by assumption))).symm | exact (chkA_3 (by omega) (fun h => absurd h.2 (by assumption))).symm | exact (chkA_0 (by omega) (by first | assumption | exact Decidable.not_not.1 (by assumption)) (by first | assumption | exact Decidable.not_not.1 (by assumption))).symm
end Go.Proofs.YtncjabmlkgacdaaGreat.Sp
namespace Go.Proofs.YtncjabmlkgacdaaGreat.Sp
open Go Go.TH
attribute [local irreducible] W WO pt
set_option maxRecDepth 10000
set_option maxHeartbeats 1000000
theorem bl_self (b : Bool) : bl (b = true) = b := by rw [bl_eq]; cases b <;> rfl
theorem RdF.cellsP {C : Cx Tryz.prog} {H : List HP} {o : Value} {xs : List Ps} (h : RdF encPs 3 C.B C.w0 o xs) {i : Nat} (h1 : i < xs.length) : Cells C H (elt o i 3) [.int .i64 (xs.getD i ps0).1, .bool (bl ((xs.getD i ps0).2.1 = true)), .int .i64 (xs.getD i ps0).2.2] := by
 rw [bl_self]
 exact RdF.cells h h1 ps0
theorem RdF.cellsZ {C : Cx Tryz.prog} {H : List HP} {o : Value} {l : List Rn} (h : RdF encRn 4 C.B C.w0 o l) {z : Int} (h0 : 0 ≤ z) (h1 : z < l.length) : Cells C H (elt o z.toNat 4) [.int .i64 (l.getD z.toNat rn0).p, .int .i64 (l.getD z.toNat rn0).q, .int .i64 (l.getD z.toNat rn0).lo, .int .i64 (l.getD z.toNat rn0).hi] := RdF.cells4 h (by omega)
theorem pf_all {l : List Rn} {xs : List Ps} {i : Nat} {s : Sd} (h : s = pfS l (xs.take i)) (hi : i = xs.length) : s = pfS l xs := by subst hi; rw [h, List.take_length]
theorem ref_CheckProof (w : World) (v : Value) (l : List Rn) (u : Value) (xs : List Ps) (hR : RdF encRn 4 w.heap.size w v l) (hX : RdF encPs 3 w.heap.size w u xs) (h0 : chkRs l = 0) (hx : ∀ x ∈ xs, OkPs l.length x) (hl : xs.length ≤ 24) (ha : (pfS l xs).a = 0) (hb : (pfS l xs).b = 0) :
 Ret Tryz.prog 14 [v, .int .i64 0, .int .i64 0, .agg #[u, .int .i64 1]].toArray w (.tuple #[raV (red (pfS l xs).c 1), .int .i64 0]) := by
 refine Ret.of mixed tyTab Tryz.func14 rfl rfl ?_
 replace hR : RdF encRn 4 (fnCx mixed tyTab Tryz.f14.ntmps w).B (fnCx mixed tyTab Tryz.f14.ntmps w).w0 v l := hR
 replace hX : RdF encPs 3 (fnCx mixed tyTab Tryz.f14.ntmps w).B (fnCx mixed tyTab Tryz.f14.ntmps w).w0 u xs := hX
 have hrs := chkRs0.1 h0
 have hA := chkA_0 (p := 0) (q := 0) h0 (by unfold OkN; omega) (by unfold OkN; omega)
 have huo := hX.sl.oc
 have hbd : OkS 1000000 10000000000 (pfS l xs) := by
  have h := pfS_bd hrs.2 hx (Nat.le_refl _)
  rw [List.take_length] at h
  exact h.up (by omega) (by omega)
 refine W.sreg (WO.boxA rfl rfl (fun b1 hb1 => (WO.alloc rfl rfl rfl (fun b2 hb2 => (WO.p rfl rfl (WO.nil (W.seq (W.sreg (WO.p rfl rfl (WO.p rfl rfl (WO.p rfl rfl (WO.callR rfl Tryz.call40 (fun L w hi => ref_asked w v l 0 0 (hR.later hi)) rfl (WO.neqF rfl rfl (by omega) rfl (WO.nil (W.cond_f rfl (W.skip (W.seq (W.sreg (WO.field0 rfl rfl rfl (WO.load rfl rfl (Cell.own (Pick.tail (Pick.head)) rfl) rfl (WO.len rfl rfl hX.sl rfl (WO.gtrF rfl rfl (by omega) rfl (WO.nil (W.cond_f rfl (W.skip (W.seq (W.sreg (WO.p rfl rfl (WO.nil (W.block ?_))))))))))))))))))))))))))))))
 refine W.loop (fun (i : Nat) => i ≤ xs.length)
  (fun (i : Nat) => [(0, v), (1, .int .i64 0), (2, .int .i64 0), (7, .pointer (some ⟨b1, 0, none⟩)), (8, .pointer (some ⟨b2, 0, none⟩)), (9, .int .i64 0), (10, .int .i64 (i : Int))])
  (fun (i : Nat) => [pt b1 (.cells #[u, .int .i64 1] 46 (0, 0)), pt b2 (.cells #[.int .i64 0, .int .i64 0] 50 (0, 0))])
  (fun (i : Nat) => xs.length - i) 0
  (by omega) ⟨rfl, rfl, rfl, rfl, rfl, rfl, rfl, trivial⟩ (by repeat (first | exact Sub.nil | refine Sub.cons (by repeat first | exact .head | apply Pick.tail) ?_)) ?_
 rintro i hi0
 refine W.seq (W.sreg (WO.p rfl rfl (WO.field0 rfl rfl rfl (WO.load rfl rfl (Cell.own Pick.head rfl) rfl (WO.len rfl rfl hX.sl rfl (WO.p rfl rfl (WO.nil ?_)))))))
 refine W.cond_bl rfl (fun c1 => ?_) (fun c1 => ?_)
 ·refine W.skip (W.seq (W.block ?_))
  obtain ⟨hx1, hx2⟩ := hx _ (getD_mem (show i < xs.length by omega) ps0)
  refine W.sreg (WO.field0 rfl rfl rfl (WO.load rfl rfl (Cell.own Pick.head rfl) rfl (WO.p rfl rfl (WO.indexAddr rfl rfl rfl hX.sl (by omega) rfl (WO.loadA rfl rfl (RdF.cellsP hX (i := i) (by omega)) rfl rfl (WO.alloc rfl rfl rfl (fun b3 hb3 => (WO.storeA rfl rfl rfl rfl Pick.head rfl rfl (WO.nil (W.sreg (WO.field0 rfl rfl rfl (WO.load rfl rfl (Cell.own Pick.head rfl) rfl (WO.p rfl rfl (WO.p rfl rfl ?_))))))))))))))
  refine WO.guard_bl rfl rfl (fun c2 => ?_) (fun c2 => ?_)
  ·exfalso; omega
  ·refine WO.go' rfl (WO.field0 rfl rfl rfl (WO.go' rfl (WO.load rfl rfl (Cell.own Pick.head rfl) rfl (WO.pg rfl rfl rfl (WO.go' rfl (WO.len rfl rfl hR.sl rfl (WO.pg rfl rfl rfl (WO.p rfl rfl (WO.p rfl rfl ?_)))))))))
   refine WO.guard_bl rfl rfl (fun c3 => ?_) (fun c3 => ?_)
   ·exfalso; omega
   ·refine WO.go' rfl (WO.fieldL rfl rfl rfl (WO.go' rfl (WO.load rfl rfl (Cell.own Pick.head rfl) rfl (WO.pg rfl rfl rfl (WO.p rfl rfl (WO.p rfl rfl ?_))))))
    refine WO.guard_bl rfl rfl (fun c4 => ?_) (fun c4 => ?_)
    ·exfalso; omega
    ·refine WO.go' rfl (WO.fieldL rfl rfl rfl (WO.go' rfl (WO.load rfl rfl (Cell.own Pick.head rfl) rfl (WO.pg rfl rfl rfl (WO.p rfl rfl (WO.nil ?_))))))
     refine W.cond_bl rfl (fun c5 => ?_) (fun c5 => ?_)
     ·exfalso; omega
     ·refine W.skip (W.region (WO.p rfl rfl (WO.ar rfl rfl rfl (by unfold in64; omega) rfl (WO.p rfl rfl (WO.nil ?_)))))
      refine' ⟨i + 1, ?hp, ?hmu, ⟨rfl, rfl, rfl, rfl, rfl, rfl, rfl, trivial⟩, ?hS⟩
      case hS => repeat (first | exact Sub.nil | refine Sub.cons (by repeat first | exact .head | apply Pick.tail) ?_)
      case hp => omega
      case hmu => omega
 ·refine W.exit (blk_same (W.seq (W.sreg (WO.fieldL rfl rfl rfl (WO.load rfl rfl (Cell.own Pick.head rfl) rfl (WO.p rfl rfl (WO.p rfl rfl ?_)))))))
  refine WO.guard_bl rfl rfl (fun c6 => ?_) (fun c6 => ?_)
  ·exfalso; omega
  ·refine WO.go' rfl (WO.fieldL rfl rfl rfl (WO.go' rfl (WO.load rfl rfl (Cell.own Pick.head rfl) rfl (WO.go' rfl (WO.gtrF rfl rfl (by omega) rfl (WO.p rfl rfl (WO.nil (W.cond_f rfl (W.skip (W.sreg (WO.p rfl rfl (WO.p rfl rfl (WO.p rfl rfl (WO.nil (W.seq (W.sreg (WO.p rfl rfl (WO.nil (W.block ?_)))))))))))))))))))
   refine W.loop4 (fun (i : Nat) (a : Int) (b : Int) (c : Int) => i ≤ xs.length ∧ (⟨a, b, c⟩ : Sd) = pfS l (xs.take i))
    (fun (i : Nat) (a : Int) (b : Int) (c : Int) => [(0, v), (1, .int .i64 0), (2, .int .i64 0), (7, .pointer (some ⟨b1, 0, none⟩)), (8, .pointer (some ⟨b2, 0, none⟩)), (9, .int .i64 0), (12, .int .i64 a), (13, .int .i64 b), (14, .int .i64 c), (15, .int .i64 (i : Int))])
    (fun (i : Nat) (a : Int) (b : Int) (c : Int) => [pt b1 (.cells #[u, .int .i64 1] 46 (0, 0)), pt b2 (.cells #[.int .i64 0, .int .i64 0] 50 (0, 0))])
    (fun (i : Nat) (a : Int) (b : Int) (c : Int) => xs.length - i) 0 0 0 0
    (by exact ⟨by omega, rfl⟩) ⟨rfl, rfl, rfl, rfl, rfl, rfl, rfl, rfl, rfl, rfl, trivial⟩ (by repeat (first | exact Sub.nil | refine Sub.cons (by repeat exact .head) ?_)) ?_
   rintro i a b c ⟨hi0, he⟩
   refine W.seq (W.sreg (WO.p rfl rfl (WO.field0 rfl rfl rfl (WO.load rfl rfl (Cell.own Pick.head rfl) rfl (WO.len rfl rfl hX.sl rfl (WO.p rfl rfl (WO.nil ?_)))))))
   refine W.cond_bl rfl (fun c7 => ?_) (fun c7 => ?_)
   ·refine W.skip (W.seq (W.block ?_))
    obtain ⟨hx1, hx2⟩ := hx _ (getD_mem (show i < xs.length by omega) ps0)
    have hb1 := (pfS_bd hrs.2 hx (i := i) (by omega)).up (A' := 1000000) (B' := 10000000000) (by omega) (by omega)
    rw [← he] at hb1
    obtain ⟨hba, hbb, hbc⟩ := hb1
    dsimp only at hba hbb hbc
    have hrn := hrs.2 _ (getD_mem (show (xs.getD i ps0).1.toNat < l.length by omega) rn0)
    have m1 := mul_bd (A := 20) (B := 1000) hrn.1 (show -1000 ≤ (xs.getD i ps0).2.2 ∧ (xs.getD i ps0).2.2 ≤ 1000 by omega)
    have m2 := mul_bd (A := 20) (B := 1000) hrn.2.1 (show -1000 ≤ (xs.getD i ps0).2.2 ∧ (xs.getD i ps0).2.2 ≤ 1000 by omega)
    obtain ⟨_, _, _, q1, q2, q3⟩ := hrn
    have m3 := mul_bd (A := 100000) (B := 1000) (show -100000 ≤ (l.getD (xs.getD i ps0).1.toNat rn0).lo ∧ (l.getD (xs.getD i ps0).1.toNat rn0).lo ≤ 100000 by omega) (show -1000 ≤ (xs.getD i ps0).2.2 ∧ (xs.getD i ps0).2.2 ≤ 1000 by omega)
    have m4 := mul_bd (A := 100000) (B := 1000) (show -100000 ≤ (l.getD (xs.getD i ps0).1.toNat rn0).hi ∧ (l.getD (xs.getD i ps0).1.toNat rn0).hi ≤ 100000 by omega) (show -1000 ≤ (xs.getD i ps0).2.2 ∧ (xs.getD i ps0).2.2 ≤ 1000 by omega)
    refine W.sreg (WO.field0 rfl rfl rfl (WO.load rfl rfl (Cell.own Pick.head rfl) rfl (WO.p rfl rfl (WO.indexAddr rfl rfl rfl hX.sl (by omega) rfl (WO.loadA rfl rfl (RdF.cellsP hX (i := i) (by omega)) rfl rfl (WO.alloc rfl rfl rfl (fun b4 hb4 => (WO.storeA rfl rfl rfl rfl Pick.head rfl rfl (WO.nil (W.sreg (WO.p rfl rfl (WO.field0 rfl rfl rfl (WO.load rfl rfl (Cell.own Pick.head rfl) rfl ?_)))))))))))))
    refine' WO.indexAddrZ (n := _) rfl rfl rfl ?hs ?h00 ?h1 rfl ?_
    case hs => exact hR.sl
    case h00 => omega
    case h1 => (omega)
    refine WO.loadA rfl rfl (RdF.cellsZ hR hx1.1 hx1.2) rfl rfl (WO.alloc rfl rfl rfl (fun b5 hb5 => (WO.storeA rfl rfl rfl rfl Pick.head rfl rfl (WO.nil (W.sreg (WO.fieldL rfl rfl rfl (WO.load rfl rfl (Cell.own (Pick.tail (Pick.head)) rfl) rfl (WO.nil ?_))))))))
    refine W.cond_bl rfl (fun c8 => ?_) (fun c8 => ?_)
    ·refine W.sreg (WO.p rfl rfl (WO.field0 rfl rfl rfl (WO.load rfl rfl (Cell.own Pick.head rfl) rfl (WO.fieldL rfl rfl rfl (WO.load rfl rfl (Cell.own (Pick.tail (Pick.head)) rfl) rfl (WO.ar rfl rfl rfl (by unfold in64; omega) rfl (WO.ar rfl rfl rfl (by unfold in64; omega) rfl (WO.p rfl rfl (WO.nil (W.sreg (WO.p rfl rfl (WO.fieldL rfl rfl rfl (WO.load rfl rfl (Cell.own Pick.head rfl) rfl (WO.fieldL rfl rfl rfl (WO.load rfl rfl (Cell.own (Pick.tail (Pick.head)) rfl) rfl (WO.ar rfl rfl rfl (by unfold in64; omega) rfl (WO.ar rfl rfl rfl (by unfold in64; omega) rfl (WO.p rfl rfl (WO.nil (W.region ?_))))))))))))))))))))
     refine WO.p rfl rfl (WO.fieldL rfl rfl rfl (WO.fieldL rfl rfl rfl (WO.load rfl rfl (Cell.own Pick.head rfl) rfl (WO.fieldL rfl rfl rfl (WO.load rfl rfl (Cell.own (Pick.tail (Pick.head)) rfl) rfl (WO.ar rfl rfl rfl (by unfold in64; omega) rfl (WO.ar rfl rfl rfl (by unfold in64; omega) rfl (WO.p rfl rfl (WO.nil (W.region (WO.p rfl rfl (WO.ar rfl rfl rfl (by unfold in64; omega) rfl (WO.p rfl rfl (WO.nil ?_))))))))))))))
     refine' ⟨i + 1, _, _, _, ?hp, ?hmu, ⟨rfl, rfl, rfl, rfl, rfl, rfl, rfl, rfl, rfl, rfl, trivial⟩, ?hS⟩
     case hS => repeat (first | exact Sub.nil | refine Sub.cons (by repeat first | exact .head | apply Pick.tail) ?_)
     case hp => exact ⟨by omega, by rw [pfS_step (by omega), ← he]; exact (pf_up (by assumption)).symm⟩
     case hmu => omega
    ·refine W.sreg (WO.p rfl rfl (WO.field0 rfl rfl rfl (WO.load rfl rfl (Cell.own Pick.head rfl) rfl (WO.fieldL rfl rfl rfl (WO.load rfl rfl (Cell.own (Pick.tail (Pick.head)) rfl) rfl (WO.ar rfl rfl rfl (by unfold in64; omega) rfl (WO.ar rfl rfl rfl (by unfold in64; omega) rfl (WO.p rfl rfl (WO.nil (W.sreg (WO.p rfl rfl (WO.fieldL rfl rfl rfl (WO.load rfl rfl (Cell.own Pick.head rfl) rfl (WO.fieldL rfl rfl rfl (WO.load rfl rfl (Cell.own (Pick.tail (Pick.head)) rfl) rfl (WO.ar rfl rfl rfl (by unfold in64; omega) rfl (WO.ar rfl rfl rfl (by unfold in64; omega) rfl (WO.p rfl rfl (WO.nil (W.region ?_))))))))))))))))))))
     refine WO.p rfl rfl (WO.fieldL rfl rfl rfl (WO.field0 rfl rfl rfl (WO.load rfl rfl (Cell.own Pick.head rfl) rfl (WO.fieldL rfl rfl rfl (WO.load rfl rfl (Cell.own (Pick.tail (Pick.head)) rfl) rfl (WO.ar rfl rfl rfl (by unfold in64; omega) rfl (WO.ar rfl rfl rfl (by unfold in64; omega) rfl (WO.p rfl rfl (WO.nil (W.region (WO.p rfl rfl (WO.ar rfl rfl rfl (by unfold in64; omega) rfl (WO.p rfl rfl (WO.nil ?_))))))))))))))
     refine' ⟨i + 1, _, _, _, ?hp, ?hmu, ⟨rfl, rfl, rfl, rfl, rfl, rfl, rfl, rfl, rfl, rfl, trivial⟩, ?hS⟩
     case hS => repeat (first | exact Sub.nil | refine Sub.cons (by repeat first | exact .head | apply Pick.tail) ?_)
     case hp => exact ⟨by omega, by rw [pfS_step (by omega), ← he]; exact (pf_lo (by assumption)).symm⟩
     case hmu => omega
   ·refine W.exit (blk_same (W.seq ?_))
    have hee := pf_all he (by omega)
    rw [← hee] at ha hb hbd
    obtain ⟨_, _, hbc⟩ := hbd
    dsimp only at ha hb hbc
    refine W.sreg (WO.p rfl rfl (WO.p rfl rfl (WO.fieldL rfl rfl rfl (WO.load rfl rfl (Cell.own Pick.head rfl) rfl (WO.ar rfl rfl rfl (by unfold in64; omega) rfl (WO.neqF rfl rfl (by omega) rfl (WO.p rfl rfl (WO.pg rfl rfl rfl (WO.pg rfl rfl rfl (WO.go' rfl (WO.fieldL rfl rfl rfl (WO.go' rfl (WO.load rfl rfl (Cell.own Pick.head rfl) rfl (WO.go' rfl (WO.ar rfl rfl rfl (by unfold in64; omega) rfl (WO.go' rfl (WO.neqF rfl rfl (by omega) rfl (WO.p rfl rfl (WO.nil (W.cond_f rfl (W.skip (W.sreg (WO.p rfl rfl (WO.fieldL rfl rfl rfl (WO.load rfl rfl (Cell.own Pick.head rfl) rfl ?_)))))))))))))))))))))))))
    refine WO.callR rfl Tryz.call41 (fun L w hi => ref_Reduced w c 1 (by omega) (by omega)) rfl (WO.storeA rfl rfl rfl rfl (Pick.tail (Pick.head)) rfl rfl (WO.p rfl rfl (WO.nil (W.ret (fin.ret (Res.two rfl (RV.cell rfl rfl rfl (Cells.own (by repeat exact .head))) (RV.tmp rfl)) ?_)))))
    rw [← hee]
end Go.Proofs.YtncjabmlkgacdaaGreat.Sp
namespace Go.Proofs.YtncjabmlkgacdaaGreat
open Go Go.TH Sp
set_option maxRecDepth 10000
theorem mst_sum (ds : List Int) : ∀ k, k ≤ ds.length → 0 ≤ (Fa.mst 0 (ds.take k)).2.2 ∧ ((Fa.mst 0 (ds.take k)).2.2 = 0 → ∀ i, i < k → ds.getD i 0 = 0)
 | 0, _ => ⟨by simp [Fa.mst], fun _ i hi => by omega⟩
 | k + 1, hk => by
  obtain ⟨h1, h2⟩ := mst_sum ds k (by omega)
  rw [Fa.mst_succ (by omega)]
  have ha : 0 ≤ Fa.ab (ds.getD k 0) ∧ (Fa.ab (ds.getD k 0) = 0 → ds.getD k 0 = 0) := by unfold Fa.ab; omega
  unfold Fa.nxt
  dsimp only
  refine ⟨by omega, fun h i hi => ?_⟩
  rcases Nat.lt_or_ge i k with g | g
  ·exact h2 (by omega) i g
  ·obtain rfl : i = k := by omega
   exact ha.2 (by omega)
theorem be_zero {xs : List Int} (h : Fa.beL xs = 0) {i : Nat} (hi : i + 2 < xs.length) : xs.getD i 0 - 2 * xs.getD (i + 1) 0 + xs.getD (i + 2) 0 = 0 := by
 have hs := (mst_sum (Fa.bds xs) (Fa.bds xs).length (Nat.le_refl _)).2
 rw [List.take_length] at hs
 rw [← Fa.bds_get hi]
 exact hs h i (by rw [Fa.bds_len]; omega)
theorem be_nn (xs : List Int) : 0 ≤ Fa.beL xs := by
 have hs := (mst_sum (Fa.bds xs) (Fa.bds xs).length (Nat.le_refl _)).1
 rw [List.take_length] at hs
 exact hs
theorem be_prog {xs : List Int} (h : Fa.beL xs = 0) : ∀ i, i + 1 < xs.length → xs.getD i 0 = xs.getD 0 0 + (i : Int) * (xs.getD 1 0 - xs.getD 0 0) ∧ xs.getD (i + 1) 0 = xs.getD 0 0 + ((i : Int) + 1) * (xs.getD 1 0 - xs.getD 0 0)
 | 0, _ => ⟨by grind, by grind⟩
 | i + 1, hi => by
  obtain ⟨h1, h2⟩ := be_prog h i (by omega)
  have h3 := be_zero h (i := i) (by omega)
  refine ⟨by rw [h2]; grind, ?_⟩
  have e : xs.getD (i + 1 + 1) 0 = 2 * xs.getD (i + 1) 0 - xs.getD i 0 := by
   have : xs.getD (i + 1 + 1) 0 = xs.getD (i + 2) 0 := rfl
   omega
  rw [e, h2, h1]; grind
def slp (x : List Int) : Int := if 1 < x.length then x.getD 1 0 - x.getD 0 0 else 0
theorem be_at {xs : List Int} (h : Fa.beL xs = 0) {i : Nat} (hi : i < xs.length) : xs.getD i 0 = xs.getD 0 0 + (i : Int) * slp xs := by
 unfold slp
 match i, hi with
 | 0, _ => simp
 | i + 1, hi => rw [if_pos (by omega)]; exact (be_prog h i hi).2
abbrev Rng := List (Int × Int)
def spR (X : Rng) (i : Nat) : Rn := ⟨1, (i : Int), (X.getD i (0, 0)).1, (X.getD i (0, 0)).2⟩
def spL (X : Rng) (n : Nat) : List Rn := (List.range n).map (spR X)
theorem spL_succ (X : Rng) (n : Nat) : spL X n ++ [spR X n] = spL X (n + 1) := by unfold spL; rw [List.range_succ, List.map_append]; rfl
theorem spL_len (X : Rng) (n : Nat) : (spL X n).length = n := by unfold spL; simp
theorem spL_mem {X : Rng} {n : Nat} {r : Rn} (h : r ∈ spL X n) : ∃ i, i < n ∧ r = spR X i := by
 obtain ⟨i, hi, rfl⟩ := List.mem_map.1 h
 exact ⟨i, List.mem_range.1 hi, rfl⟩
def linT (x : List Int) : Tru := ⟨x.getD 0 0, slp x, 1⟩
theorem fa_in {l : Rng} {t : Int} (hc : Fa.chkF l t = 0) : Fa.InS l (Fa.faL l t) := by
 have hcf := Fa.chkF0.1 hc
 have h := Fa.best_fm (B := 1) (T := t) hcf.2.2 hcf.1.1
 have e1 : Fa.faL l t = Fa.bestL 1 t l := if_pos hc
 rw [e1]
 exact Fa.mem_lin.1 h.1.mem
theorem fa_cost {l : Rng} {t : Int} (hc : Fa.chkF l t = 0) : Fa.faC l t = Fa.costL t (Fa.faL l t) := by
 have hcf := Fa.chkF0.1 hc
 have h := (Fa.best_fm (B := 1) (T := t) hcf.2.2 hcf.1.1).2
 have e1 : Fa.faL l t = Fa.bestL 1 t l := if_pos hc
 have e2 : Fa.faC l t = Fa.bestC 1 t l := if_pos hc
 rw [e1, e2, ← h, Fa.costG_1]
theorem fa_check {l : Rng} {t : Int} (hc : Fa.chkF l t = 0) : Fa.ckV l t (Fa.faL l t) = .tuple #[.int .i64 (Fa.faC l t), .int .i64 0] := by
 rw [fa_cost hc]; exact if_pos (Fa.ckE0.2 ⟨hc, fa_in hc⟩)
theorem fa_nn {l : Rng} {t : Int} (hc : Fa.chkF l t = 0) : 0 ≤ Fa.faC l t ∧ (Fa.faC l t = 0 → Fa.beL (Fa.faL l t) = 0) := by
 rw [fa_cost hc]
 unfold Fa.costL
 have h1 := be_nn (Fa.faL l t)
 have h2 := Int.mul_nonneg (Fa.chkF0.1 hc).2.1.1 (show 0 ≤ ((Fa.chL (Fa.faL l t) : Nat) : Int) by omega)
 exact ⟨by omega, fun h => by omega⟩
section
variable {X : Rng} {t : Int}
theorem line_fit0 (hc : Fa.chkF X t = 0) (h0 : Fa.faC X t = 0) : fitL (spL X X.length) (linT (Fa.faL X t)) := fun r hr => by
 obtain ⟨i, hi, rfl⟩ := spL_mem hr
 have hin := fa_in hc
 have h1 := hin.2 i hi
 have h2 := be_at ((fa_nn hc).2 h0) (i := i) (by rw [hin.1]; exact hi)
 unfold fitR spR linT
 dsimp only
 rw [Int.mul_one, Int.mul_one, Int.one_mul, ← h2]
 exact h1
theorem line_ok (hc : Fa.chkF X t = 0) : OkT (linT (Fa.faL X t)) := by
 have hin := fa_in hc
 have hcf := Fa.chkF0.1 hc
 have b : ∀ i, i < X.length → -1000000 ≤ (Fa.faL X t).getD i 0 ∧ (Fa.faL X t).getD i 0 ≤ 1000000 := fun i hi => by
  have h1 := hin.2 i hi
  have h2 := hcf.2.2 _ (getD_mem hi (0, 0))
  unfold Fa.OkG at h2
  omega
 have b0 := b 0 (by omega)
 have hs : -2000000 ≤ slp (Fa.faL X t) ∧ slp (Fa.faL X t) ≤ 2000000 := by
  unfold slp
  split
  ·have b1 := b 1 (by have := hin.1; omega)
   omega
  ·omega
 exact ⟨by unfold linT; dsimp only; omega, by unfold linT; dsimp only; omega, by unfold linT; dsimp only; omega⟩
theorem line_no (hc : Fa.chkF X t = 0) (h0 : Fa.faC X t = 0) : ¬ Dbt (sds (spL X X.length)) := fun hD =>
 hD.no (show 0 < (linT (Fa.faL X t)).d by unfold linT; dsimp only; omega) (fitL_iff.1 (line_fit0 hc h0))
end
theorem same_sum (l : List Rn) (R : Rn) : ∀ (xs : List Ps) (s : Sd), (∀ x ∈ xs, l.getD x.1.toNat rn0 = R ∧ 1 ≤ x.2.2) → (∃ L U : Int, 0 ≤ L ∧ 0 ≤ U ∧ s = ⟨R.p * (L - U), R.q * (L - U), R.lo * L - R.hi * U⟩) → ∃ L U : Int, 0 ≤ L ∧ 0 ≤ U ∧ xs.foldl (fun s x => addS s (byS (pSide l x) x.2.2)) s = ⟨R.p * (L - U), R.q * (L - U), R.lo * L - R.hi * U⟩
 | [], _, _, h => h
 | x :: xs, s, hx, ⟨L, U, h1, h2, h3⟩ => by
  obtain ⟨e, ht⟩ := hx x List.mem_cons_self
  refine same_sum l R xs _ (fun y hy => hx y (List.mem_cons_of_mem _ hy)) ?_
  subst h3
  rcases Decidable.em (x.2.1 = true) with g | g
  ·refine ⟨L, U + x.2.2, h1, by omega, ?_⟩
   show addS _ _ = _
   rw [pf_up g, e]
   congr 1 <;> grind
  ·refine ⟨L + x.2.2, U, by omega, h2, ?_⟩
   show addS _ _ = _
   rw [pf_lo g, e]
   congr 1 <;> grind
theorem not_same {l : List Rn} (h0 : OkRs l) {xs : List Ps} (hx : ∀ x ∈ xs, OkPs l.length x) (ha : (pfS l xs).a = 0) (hb : (pfS l xs).b = 0) (hc : 0 < (pfS l xs).c) : ¬ ∀ k, k < xs.length → (xs.getD k ps0).1 = (xs.getD 0 ps0).1 := fun hs => by
 rcases Nat.eq_zero_or_pos xs.length with hn | hn
 ·rw [List.length_eq_zero_iff.1 hn] at hc
  simp [pfS, sd0] at hc
 have hr := hx _ (getD_mem hn ps0)
 have hR := h0 _ (getD_mem (show (xs.getD 0 ps0).1.toNat < l.length by have := hr.1; omega) rn0)
 obtain ⟨L, U, h1, h2, h3⟩ := same_sum l (l.getD (xs.getD 0 ps0).1.toNat rn0) xs sd0 (fun x hxm => by
  obtain ⟨k, hk, rfl⟩ := List.getElem_of_mem hxm
  have e := hs k hk
  have e2 : xs.getD k ps0 = xs[k] := by simp [hk]
  rw [e2] at e
  exact ⟨by rw [e], (hx _ hxm).2.1⟩) ⟨0, 0, by omega, by omega, by simp [sd0]⟩
 have h4 : pfS l xs = _ := h3
 rw [h4] at ha hb hc
 dsimp only at ha hb hc
 generalize l.getD (xs.getD 0 ps0).1.toNat rn0 = R at *
 have hLU : L = U := by
  rcases hR.2.2.1 with g | g
  ·rcases Int.mul_eq_zero.1 ha with q | q
   ·exact absurd q g
   ·omega
  ·rcases Int.mul_eq_zero.1 hb with q | q
   ·exact absurd q g
   ·omega
 subst hLU
 have hlo := hR.2.2.2.1
 have := Int.mul_le_mul_of_nonneg_right hlo h1
 omega
end Go.Proofs.YtncjabmlkgacdaaGreat
namespace Go.Proofs.YtncjabmlkgacdaaGreat.Sp
open Go Go.TH
attribute [local irreducible] W WO pt
set_option maxRecDepth 10000
set_option maxHeartbeats 4000000
theorem c_most0 (w : World) (p : Addr) (S : List Sd) :
 RetE Tryz.prog 109 [.pointer (some p), .int .i64 0, .int .i64 0].toArray w (fun r => ∃ (q : Option Nat) (s : Sd) (t : Int), r = .tuple #[mdV (.map q) s t, .bool (bl (Bnd S 0 0))] ∧ (Bnd S 0 0 → MostI S 0 0 (s, t))) := by
 refine RetE.of mixed tyTab Tryz.func109 rfl rfl (W.sreg (WO.box1 rfl (by rfl) rfl (fun b1 hb1 => (WO.alloc rfl rfl rfl (fun b2 hb2 => (WO.p rfl rfl (WO.nil (W.sreg (WO.p rfl rfl (WO.p rfl rfl (WO.build rfl rfl rfl rfl rfl (WO.alloc rfl rfl rfl (fun b3 hb3 => (WO.storeA rfl rfl rfl rfl Pick.head rfl rfl (WO.nil (W.seq (W.sreg (WO.loadA rfl rfl (Cells.own Pick.head) rfl rfl (WO.build rfl rfl rfl rfl rfl (WO.eqT rfl rfl (eq124z 0 0) rfl ?_))))))))))))))))))))
 rw [show bl ((0 : Int) = 0 ∧ (0 : Int) = 0) = true from bl_t.2 ⟨rfl, rfl⟩]
 refine WO.nil (W.cond_t rfl (W.sreg (WO.makeMap rfl (fun mb => (WO.build rfl rfl rfl rfl rfl (WO.build rfl rfl rfl rfl rfl (WO.storeA rfl rfl rfl rfl (Pick.tail (Pick.tail (Pick.head))) rfl rfl (WO.p rfl rfl (WO.nil (W.ret ?_))))))))))
 exact fin.ret (Res.two rfl (RV.cell rfl rfl rfl (Cells.own (by repeat exact .head))) (RV.tmp rfl)) ⟨some mb, sd0, 1, by rw [bl_t.2 (show Bnd S 0 0 from .inl ⟨rfl, rfl⟩)] <;> rfl, fun _ => ⟨.inl ⟨rfl, rfl, rfl⟩, fun y _ h0 => absurd ⟨rfl, rfl⟩ h0⟩⟩
theorem c_best0 (w : World) (v : Value) (l : List Rn) (hR : RdF encRn 4 w.heap.size w v l) : RetE Tryz.prog 51 [v, .int .i64 0, .int .i64 0].toArray w (BestR l 0 0) := by
 refine RetE.of mixed tyTab Tryz.func51 rfl rfl ?_
 replace hR : RdF encRn 4 (fnCx mixed tyTab Tryz.f51.ntmps w).B (fnCx mixed tyTab Tryz.f51.ntmps w).w0 v l := hR
 refine W.sreg (WO.alloc rfl rfl rfl (fun b1 hb1 => (WO.p rfl rfl (WO.nil (W.seq (W.sreg (WO.p rfl rfl (WO.p rfl rfl (WO.p rfl rfl (WO.callR rfl Tryz.call108 (fun L w hi => c_check w v l 0 0 (hR.later hi)) rfl (WO.p rfl rfl (WO.nil (W.sreg (WO.p rfl rfl (WO.p rfl rfl (WO.nil ?_))))))))))))))))
 refine W.cond_bl rfl (fun c1 => ?_) (fun c1 => ?_)
 ·refine W.sreg (WO.build rfl rfl rfl rfl rfl (WO.p rfl rfl (WO.storeA rfl rfl rfl rfl Pick.head rfl rfl (WO.p rfl rfl (WO.nil (W.ret ?_))))))
  first
  | exact fin.ret (Res.two rfl (RV.cell rfl rfl rfl (Cells.own (by repeat exact .head))) (RV.tmp rfl)) ⟨none, sd0, 0, by rw [leE_1 (by assumption)] <;> rfl, fun e => by rw [leE_1 (by assumption)] at e; omega⟩
  | exact fin.ret (Res.two rfl (RV.cell rfl rfl rfl (Cells.own (by repeat first | exact .head | apply Pick.tail))) (RV.tmp rfl)) ⟨none, sd0, 0, by rw [leE_20 (by assumption) (by assumption)] <;> rfl, fun e => by rw [leE_20 (by assumption) (by assumption)] at e; omega⟩
  | exact fin.ret (Res.two rfl (RV.cell rfl rfl rfl (Cells.own (by repeat first | exact .head | apply Pick.tail))) (RV.tmp rfl)) ⟨none, sd0, 0, by rw [leE_5 (by assumption) (by assumption) (by assumption)] <;> rfl, fun e => by rw [leE_5 (by assumption) (by assumption) (by assumption)] at e; omega⟩
  | exact fin.ret (Res.two rfl (RV.cell rfl rfl rfl (Cells.own (by repeat first | exact .head | apply Pick.tail))) (RV.tmp rfl)) ⟨mq, ms, mt, by rw [leE_0 (by assumption) (by assumption) (by assumption)], fun _ => hms (by assumption)⟩
 ·refine W.skip (W.sreg (WO.p rfl rfl ?_))
  have hrs := chkRs0.1 (chkA0.1 (show chkA l 0 0 = 0 by omega)).1
  have hpq := (chkA0.1 (show chkA l 0 0 = 0 by omega)).2
  refine WO.call (Post := fun u Hq => ∃ (b : Nat) (rv sv : Value), u = .pointer (some ⟨b, 0, none⟩) ∧ Hq = [pt b (.cells #[rv, sv] 179 (0, 0)), OwE encPr 181 10 rv l, OwE encSd 96 3 sv (sds l)]) rfl Tryz.call37 (fun L w hi => c_newTable w v l (hR.later hi) hrs.2 hrs.1) rfl ?_
  rintro _ _ ⟨tb, rv, sv, rfl, rfl⟩
  refine WO.p rfl rfl (WO.nil (W.seq (W.sreg (WO.p rfl rfl (WO.call (Post := fun u Hq => ∃ mb : Nat, u = .tuple #[mdV (.map (dbQ (sds l) mb)) (dbS (sds l)) (dbT (sds l)), .bool (bl (Dbt (sds l)))] ∧ Hq = [dbP (sds l) mb]) rfl Tryz.call38 (fun L w hi => c_doubt w ⟨tb, 0, none⟩ rv sv l (Tbl.own (b := tb) (by repeat exact .head) (by repeat first | exact .head | apply Pick.tail) (by repeat first | exact .head | apply Pick.tail) hi) hrs.2 hrs.1) rfl ?_)))))
  rintro _ _ ⟨mb, rfl, rfl⟩
  refine WO.p rfl rfl (WO.p rfl rfl (WO.extract (i := 1) rfl rfl rfl (WO.alloc rfl rfl rfl (fun b2 hb2 => (WO.storeA rfl rfl rfl rfl Pick.head rfl rfl (WO.p rfl rfl (WO.nil (W.sreg (WO.p rfl rfl (WO.nil ?_))))))))))
  refine W.cond_bl rfl (fun c2 => ?_) (fun c2 => ?_)
  ·refine W.sreg (WO.build rfl rfl rfl rfl rfl (WO.storeA rfl rfl rfl rfl (Pick.tail (Pick.tail (Pick.tail (Pick.tail (Pick.tail (Pick.head)))))) rfl rfl (WO.p rfl rfl (WO.nil (W.ret ?_)))))
   first
   | exact fin.ret (Res.two rfl (RV.cell rfl rfl rfl (Cells.own (by repeat exact .head))) (RV.tmp rfl)) ⟨none, sd0, 0, by rw [leE_1 (by assumption)] <;> rfl, fun e => by rw [leE_1 (by assumption)] at e; omega⟩
   | exact fin.ret (Res.two rfl (RV.cell rfl rfl rfl (Cells.own (by repeat exact .head))) (RV.tmp rfl)) ⟨none, sd0, 0, by rw [leE_20 (by assumption) (by assumption)] <;> rfl, fun e => by rw [leE_20 (by assumption) (by assumption)] at e; omega⟩
   | exact fin.ret (Res.two rfl (RV.cell rfl rfl rfl (Cells.own (by repeat first | exact .head | apply Pick.tail))) (RV.tmp rfl)) ⟨none, sd0, 0, by rw [leE_5 (by assumption) (by assumption) (by assumption)] <;> rfl, fun e => by rw [leE_5 (by assumption) (by assumption) (by assumption)] at e; omega⟩
   | exact fin.ret (Res.two rfl (RV.cell rfl rfl rfl (Cells.own (by repeat first | exact .head | apply Pick.tail))) (RV.tmp rfl)) ⟨mq, ms, mt, by rw [leE_0 (by assumption) (by assumption) (by assumption)], fun _ => hms (by assumption)⟩
  ·refine W.skip (W.sreg (WO.p rfl rfl (WO.p rfl rfl (WO.p rfl rfl (WO.callE rfl Tryz.call109 (fun L w hi => c_most0 w ⟨tb, 0, none⟩ (sds l)) rfl ?_)))))
   rintro _ ⟨mq, ms, mt, rfl, hms⟩
   refine WO.p rfl rfl (WO.p rfl rfl (WO.extract (i := 1) rfl rfl rfl (WO.alloc rfl rfl rfl (fun b3 hb3 => (WO.storeA rfl rfl rfl rfl Pick.head rfl rfl (WO.p rfl rfl (WO.nil (W.seq (W.sreg (WO.p rfl rfl (WO.p rfl rfl (WO.nil ?_))))))))))))
   refine W.cond_nbl rfl (fun c3 => ?_) (fun c3 => ?_)
   ·refine W.sreg (WO.build rfl rfl rfl rfl rfl (WO.storeA rfl rfl rfl rfl (Pick.tail (Pick.tail (Pick.tail (Pick.tail (Pick.tail (Pick.tail (Pick.head))))))) rfl rfl (WO.p rfl rfl (WO.nil (W.ret ?_)))))
    first
    | exact fin.ret (Res.two rfl (RV.cell rfl rfl rfl (Cells.own (by repeat exact .head))) (RV.tmp rfl)) ⟨none, sd0, 0, by rw [leE_1 (by assumption)] <;> rfl, fun e => by rw [leE_1 (by assumption)] at e; omega⟩
    | exact fin.ret (Res.two rfl (RV.cell rfl rfl rfl (Cells.own (by repeat exact .head))) (RV.tmp rfl)) ⟨none, sd0, 0, by rw [leE_20 (by assumption) (by assumption)] <;> rfl, fun e => by rw [leE_20 (by assumption) (by assumption)] at e; omega⟩
    | exact fin.ret (Res.two rfl (RV.cell rfl rfl rfl (Cells.own (by repeat exact .head))) (RV.tmp rfl)) ⟨none, sd0, 0, by rw [leE_5 (by assumption) (by assumption) (by assumption)] <;> rfl, fun e => by rw [leE_5 (by assumption) (by assumption) (by assumption)] at e; omega⟩
    | exact fin.ret (Res.two rfl (RV.cell rfl rfl rfl (Cells.own (by repeat first | exact .head | apply Pick.tail))) (RV.tmp rfl)) ⟨mq, ms, mt, by rw [leE_0 (by assumption) (by assumption) (by assumption)], fun _ => hms (by assumption)⟩
   ·refine W.skip (W.sreg (WO.loadA rfl rfl (Cells.own Pick.head) rfl rfl (WO.storeA rfl rfl rfl rfl (Pick.tail (Pick.tail (Pick.tail (Pick.tail (Pick.tail (Pick.tail (Pick.head))))))) rfl rfl (WO.p rfl rfl (WO.nil (W.ret ?_))))))
    first
    | exact fin.ret (Res.two rfl (RV.cell rfl rfl rfl (Cells.own (by repeat exact .head))) (RV.tmp rfl)) ⟨none, sd0, 0, by rw [leE_1 (by assumption)] <;> rfl, fun e => by rw [leE_1 (by assumption)] at e; omega⟩
    | exact fin.ret (Res.two rfl (RV.cell rfl rfl rfl (Cells.own (by repeat exact .head))) (RV.tmp rfl)) ⟨none, sd0, 0, by rw [leE_20 (by assumption) (by assumption)] <;> rfl, fun e => by rw [leE_20 (by assumption) (by assumption)] at e; omega⟩
    | exact fin.ret (Res.two rfl (RV.cell rfl rfl rfl (Cells.own (by repeat exact .head))) (RV.tmp rfl)) ⟨none, sd0, 0, by rw [leE_5 (by assumption) (by assumption) (by assumption)] <;> rfl, fun e => by rw [leE_5 (by assumption) (by assumption) (by assumption)] at e; omega⟩
    | exact fin.ret (Res.two rfl (RV.cell rfl rfl rfl (Cells.own (by repeat exact .head))) (RV.tmp rfl)) ⟨mq, ms, mt, by rw [leE_0 (by assumption) (by assumption) (by assumption)], fun _ => hms (by assumption)⟩
theorem c_Attain0 (w : World) (v : Value) (l : List Rn) (h0 : l ≠ []) (hR : RdF encRn 4 w.heap.size w v l) : RetE Tryz.prog 34 [v, .int .i64 0, .int .i64 0].toArray w (AttR l 0 0) := by
 refine RetE.of mixed tyTab Tryz.func34 rfl rfl ?_
 replace hR : RdF encRn 4 (fnCx mixed tyTab Tryz.f34.ntmps w).B (fnCx mixed tyTab Tryz.f34.ntmps w).w0 v l := hR
 have hoc := hR.sl.oc
 refine W.sreg (WO.box1 rfl (by assumption) rfl (fun b1 hb1 => (WO.box1 rfl (by rfl) rfl (fun b2 hb2 => (WO.box1 rfl (by rfl) rfl (fun b3 hb3 => (WO.alloc rfl rfl rfl (fun b4 hb4 => (WO.alloc rfl rfl rfl (fun b5 hb5 => (WO.nil (W.sreg (WO.load rfl rfl (Cell.own (Pick.tail (Pick.tail (Pick.tail (Pick.tail (Pick.head))))) rfl) rfl (WO.load rfl rfl (Cell.own (Pick.tail (Pick.tail (Pick.tail (Pick.head)))) rfl) rfl (WO.load rfl rfl (Cell.own (Pick.tail (Pick.tail (Pick.head))) rfl) rfl (WO.callE rfl Tryz.call51 (fun L w hi => c_best0 w v l (hR.later hi)) rfl ?_))))))))))))))))
 rintro _ ⟨mq, ms, mt, rfl, hms⟩
 refine WO.p rfl rfl (WO.p rfl rfl (WO.p rfl rfl (WO.alloc rfl rfl rfl (fun b6 hb6 => (WO.storeA rfl rfl rfl rfl Pick.head rfl rfl (WO.p rfl rfl (WO.nil (W.seq (W.sreg (WO.p rfl rfl (WO.p rfl rfl (WO.nil ?_))))))))))))
 refine W.cond_bl rfl (fun c1 => ?_) (fun c1 => ?_)
 ·refine W.sreg (WO.build rfl rfl rfl rfl rfl (WO.p rfl rfl (WO.storeA rfl rfl rfl rfl (Pick.tail (Pick.tail (Pick.head))) rfl rfl (WO.store1 rfl rfl rfl (by rfl) (Pick.tail (Pick.tail (Pick.head))) rfl (WO.nil (W.ret ?_))))))
  exact fin.ret (Res.two rfl (RV.cell rfl rfl rfl (Cells.own (by repeat first | exact .head | apply Pick.tail))) (RV.cell1 rfl rfl (Cell.own (by repeat exact .head) rfl))) ⟨tr0, rfl, fun e => by omega⟩
 ·refine W.skip ?_
  have hle0 : leE l 0 0 = 0 := by omega
  have hls := leE_ok hle0
  have hm := hms hle0
  have hmo := hm.ok hls.1 hls.2.2.1 hls.2.2.2.1
  have hlt := att_hit hle0 h0 hm
  refine W.sreg (WO.loadA rfl rfl (Cells.own Pick.head) rfl rfl (WO.callR rfl Tryz.call52 (fun L w hi => c_boundQ w mq ms mt hmo) rfl (WO.alloc rfl rfl rfl (fun b7 hb7 => (WO.storeA rfl rfl rfl rfl Pick.head rfl rfl (WO.nil (W.seq (W.sreg (WO.load rfl rfl (Cell.own (Pick.tail (Pick.tail (Pick.tail (Pick.tail (Pick.tail (Pick.tail (Pick.head))))))) rfl) rfl (WO.call (Post := fun u Hq => ∃ (b : Nat) (rv sv : Value), u = .pointer (some ⟨b, 0, none⟩) ∧ Hq = [pt b (.cells #[rv, sv] 179 (0, 0)), OwE encPr 181 10 rv l, OwE encSd 96 3 sv (sds l)]) rfl Tryz.call37 (fun L w hi => c_newTable w v l (hR.later hi) hls.1 hls.2.1) rfl ?_))))))))))
  rintro _ _ ⟨tb, rv, sv, rfl, rfl⟩
  refine WO.call (Post := fun u Hq => ∃ b1, u = .func (.func 167) #[] #[.pointer (some ⟨b1, 0, none⟩)] ∧ Hq = [pt b1 (.cells #[.pointer (some ⟨tb, 0, none⟩)] 100 (0, 0))]) rfl Tryz.call91 (fun L w hi => c_corners w ⟨tb, 0, none⟩) rfl ?_
  rintro _ _ ⟨cb, rfl, rfl⟩
  refine WO.nil (W.block ?_)
  refine W.rangeFuncB (Jmp.ret) [pt cb (.cells #[.pointer (some ⟨tb, 0, none⟩)] 100 (0, 0)), pt tb (.cells #[rv, sv] 179 (0, 0)), OwE encPr 181 10 rv l, OwE encSd 96 3 sv (sds l)] (fun t => [pt b4 (.cells #[.int .i64 (oT (t ≤ (attH l 0 0 (red ms.c mt))) ((crnS (sds l)).getD (attH l 0 0 (red ms.c mt)) tr0)).a, .int .i64 (oT (t ≤ (attH l 0 0 (red ms.c mt))) ((crnS (sds l)).getD (attH l 0 0 (red ms.c mt)) tr0)).b, .int .i64 (oT (t ≤ (attH l 0 0 (red ms.c mt))) ((crnS (sds l)).getD (attH l 0 0 (red ms.c mt)) tr0)).d] 39 (0, 0)), pt b5 (.cells #[.int .i64 0] 26 (0, 0)), pt b7 (.cells #[.int .i64 (red ms.c mt).1, .int .i64 (red ms.c mt).2] 50 (0, 0)), pt b3 (.cells #[.int .i64 0] 2 (0, 0)), pt b2 (.cells #[.int .i64 0] 2 (0, 0)), pt b1 (.cells #[v] 29 (0, 0))]) (crnS (sds l)) (fun x1 v1 => gT x1 v1) ((attH l 0 0 (red ms.c mt))) rfl rfl rfl Tryz.call167 (by repeat (first | exact Sub.nil | refine Sub.cons (by repeat first | exact .head | apply Pick.tail) ?_)) ?_ ?_ ?_ ?_
  ·intro ll Hc hy w1 M1 hB1 hk1 hM1 hi1
   exact c_corners1h _ _ tb rv sv l hls.1 (List.length_pos_iff.2 h0) hls.2.1 _ ll Hc hy cb w1 M1 hB1 hk1 hM1 hi1
  ·intro ll w1 M1 hB1 hM1 hk1 t x1 v1 hx hle1
   have hxo := crn_ok hls.1 (List.mem_of_getElem? hx)
   have m1 := mul_bd (A := 20) (B := 1099511627776) hls.2.2.1 hxo.a
   have m2 := mul_bd (A := 20) (B := 1099511627776) hls.2.2.2.1 hxo.b
   have m3 := hxo.d
   replace hR := hR.agree hk1
   rw [oT_t hle1]
   refine W.fact (gT_val (x := x1) (v := v1) (Sub.cons (by repeat exact .head) Sub.nil)) (fun hvv => ?_)
   subst hvv
   refine W.region (WO.alloc rfl rfl rfl (fun b8 hb8 => (WO.storeA rfl rfl rfl rfl Pick.head rfl rfl (WO.nil (W.block (W.seq ?_))))))
   refine W.drawD 18 [.b 0 [], .b 1 [], .b 2 [], .r 3 [], .r 4 [], .b 5 [], .r 6 [], .b 7 [], .r 8 [], .b 9 [], .r 10 [], .b 11 [], .r 12 [], .r 13 [], .r 14 [], .b 15 [], .b 16 [], .b 17 []] [] (A0 := []) (Sub.refl _) (by kernel_rfl) ?_ ?_
   ·repeat constructor
   refine DT.b rfl rfl rfl (WO.load rfl rfl (Cell.own (Pick.tail (Pick.tail (Pick.tail (Pick.tail (Pick.tail (Pick.tail (Pick.tail (Pick.head)))))))) rfl) rfl (WO.nil ⟨rfl, rfl⟩)) (DT.b rfl rfl rfl (WO.loadA rfl rfl (Cells.own Pick.head) rfl rfl (WO.nil ⟨rfl, rfl⟩)) (DT.b rfl rfl rfl (WO.callR rfl Tryz.call16 (fun L w hi => c_Fits w v l x1 (hR.later hi)) rfl (WO.nil ⟨rfl, rfl⟩)) (DT.r rfl rfl rfl (WO.p rfl rfl (WO.nil ⟨rfl, rfl⟩)) ?_)))
   refine DT.rB rfl rfl rfl (WO.p rfl rfl (WO.nil ⟨rfl, rfl⟩)) (fun c2 => ?_) (fun c2 => ?_)
   ·refine DT.b rfl rfl rfl (WO.go' rfl (WO.load rfl rfl (Cell.own (Pick.tail (Pick.tail (Pick.tail (Pick.tail (Pick.tail (Pick.tail (Pick.head))))))) rfl) rfl (WO.nil ⟨rfl, rfl⟩))) (DT.r rfl rfl rfl (WO.go' rfl (WO.field0 rfl rfl rfl (WO.nil ⟨rfl, rfl⟩))) (DT.b rfl rfl rfl (WO.go' rfl (WO.load rfl rfl (Cell.own Pick.head rfl) rfl (WO.nil ⟨rfl, rfl⟩))) (DT.r rfl rfl rfl (WO.go' rfl (WO.ar rfl rfl rfl (by unfold in64; omega) rfl (WO.nil ⟨rfl, rfl⟩))) (DT.b rfl rfl rfl (WO.go' rfl (WO.load rfl rfl (Cell.own (Pick.tail (Pick.tail (Pick.tail (Pick.tail (Pick.tail (Pick.head)))))) rfl) rfl (WO.nil ⟨rfl, rfl⟩))) ?_))))
    refine DT.r rfl rfl rfl (WO.go' rfl (WO.fieldL rfl rfl rfl (WO.nil ⟨rfl, rfl⟩))) (DT.b rfl rfl rfl (WO.go' rfl (WO.load rfl rfl (Cell.own Pick.head rfl) rfl (WO.nil ⟨rfl, rfl⟩))) (DT.r rfl rfl rfl (WO.go' rfl (WO.ar rfl rfl rfl (by unfold in64; omega) rfl (WO.nil ⟨rfl, rfl⟩))) (DT.r rfl rfl rfl (WO.go' rfl (WO.ar rfl rfl rfl (by unfold in64; omega) rfl (WO.nil ⟨rfl, rfl⟩))) (DT.r rfl rfl rfl (WO.go' rfl (WO.fieldL rfl rfl rfl (WO.nil ⟨rfl, rfl⟩))) (DT.b rfl rfl rfl (WO.go' rfl (WO.load rfl rfl (Cell.own Pick.head rfl) rfl (WO.nil ⟨rfl, rfl⟩))) ?_)))))
    refine DT.b rfl rfl rfl (WO.go' rfl (WO.callR rfl Tryz.call92 (fun L w hi => c_ratio w (0 * x1.a + 0 * x1.b) x1.d (by omega) (by omega)) rfl (WO.nil ⟨rfl, rfl⟩))) (DT.b rfl rfl rfl (WO.go' rfl (WO.loadA rfl rfl (Cells.own (Pick.tail (Pick.tail (Pick.tail (Pick.tail (Pick.head)))))) rfl rfl (WO.nil ⟨rfl, rfl⟩))) (DT.nil [_, _, _, _, _, _, _, _] rfl (WO.go' rfl (WO.eqT rfl rfl (eq36 (red (0 * x1.a + 0 * x1.b) x1.d) (red ms.c mt)) rfl (WO.p rfl rfl (WO.nil ?_))))))
    refine W.cond_bl rfl (fun c3 => ?_) (fun c3 => ?_)
    ·refine W.sreg (WO.loadA rfl rfl (Cells.own Pick.head) rfl rfl (WO.storeA rfl rfl rfl rfl (Pick.tail (Pick.tail (Pick.head))) rfl rfl (WO.store1 rfl rfl rfl (by rfl) (Pick.tail (Pick.tail (Pick.tail (Pick.head)))) rfl (WO.nil (W.ret ?_)))))
     have htt := fi_eq (p := attP l 0 0 (red ms.c mt)) hx hle1 (decide_eq_true ⟨(fit0 hls.1 hls.2.1 hxo).1 (by assumption), by assumption⟩)
     refine endR.stop (bl_f.2 (by have : t = attH l 0 0 (red ms.c mt) := htt; omega)) rfl ?_
     rw [oT_f (show ¬ t + 1 ≤ attH l 0 0 (red ms.c mt) by have : t = attH l 0 0 (red ms.c mt) := htt; omega), show (crnS (sds l)).getD (attH l 0 0 (red ms.c mt)) tr0 = x1 by rw [← (show t = attH l 0 0 (red ms.c mt) from htt), List.getD_eq_getElem?_getD, hx]; rfl]
     exact fun h hs => Sub.sat (by repeat (first | exact Sub.nil | refine Sub.cons (by repeat first | exact .head | apply Pick.tail) ?_)) hs
    ·refine W.skip ?_
     have hlt2 := fi_ne (p := attP l 0 0 (red ms.c mt)) hx hle1 (fun hq => by have hq2 := of_decide_eq_true hq; exact absurd hq2.2 (by assumption))
     refine endR.go (bl_t.2 hlt2) ?_
     rw [oT_t (show t + 1 ≤ (attH l 0 0 (red ms.c mt)) from hlt2)]
     exact fun h hs => Sub.sat (by repeat (first | exact Sub.nil | refine Sub.cons (by repeat first | exact .head | apply Pick.tail) ?_)) hs
   ·refine DT.b rfl rfl rfl (WO.no rfl rfl (WO.nil ⟨rfl, rfl⟩)) (DT.r rfl rfl rfl (WO.no rfl rfl (WO.nil ⟨rfl, rfl⟩)) (DT.b rfl rfl rfl (WO.no rfl rfl (WO.nil ⟨rfl, rfl⟩)) (DT.r rfl rfl rfl (WO.no rfl rfl (WO.nil ⟨rfl, rfl⟩)) (DT.b rfl rfl rfl (WO.no rfl rfl (WO.nil ⟨rfl, rfl⟩)) (DT.r rfl rfl rfl (WO.no rfl rfl (WO.nil ⟨rfl, rfl⟩)) (DT.b rfl rfl rfl (WO.no rfl rfl (WO.nil ⟨rfl, rfl⟩)) (DT.r rfl rfl rfl (WO.no rfl rfl (WO.nil ⟨rfl, rfl⟩)) (DT.r rfl rfl rfl (WO.no rfl rfl (WO.nil ⟨rfl, rfl⟩)) (DT.r rfl rfl rfl (WO.no rfl rfl (WO.nil ⟨rfl, rfl⟩)) (DT.b rfl rfl rfl (WO.no rfl rfl (WO.nil ⟨rfl, rfl⟩)) (DT.b rfl rfl rfl (WO.no rfl rfl (WO.nil ⟨rfl, rfl⟩)) ?_)))))))))))
    refine DT.b rfl rfl rfl (WO.no rfl rfl (WO.nil ⟨rfl, rfl⟩)) (DT.nil [_, _, _, _, _, _, _, _] rfl (WO.no rfl rfl (WO.p rfl rfl (WO.nil (W.cond_f rfl (W.skip ?_))))))
    have hlt2 := fi_ne (p := attP l 0 0 (red ms.c mt)) hx hle1 (fun hq => by have hq2 := of_decide_eq_true hq; exact absurd ((fit0 hls.1 hls.2.1 hxo).2 hq2.1) (by assumption))
    refine endR.go (bl_t.2 hlt2) ?_
    rw [oT_t (show t + 1 ≤ (attH l 0 0 (red ms.c mt)) from hlt2)]
    exact fun h hs => Sub.sat (by repeat (first | exact Sub.nil | refine Sub.cons (by repeat first | exact .head | apply Pick.tail) ?_)) hs
  ·intro hAll
   exfalso
   exact absurd hlt (by show ¬ (attH l 0 0 (red ms.c mt)) < _; omega)
  ·intro hStop
   rw [oT_f (show ¬ attH l 0 0 (red ms.c mt) + 1 ≤ attH l 0 0 (red ms.c mt) by omega)]
   have hat := att_at hlt
   refine W.ret (fin.ret (Res.two rfl (RV.cell rfl rfl rfl (Cells.own (by repeat first | exact .head | apply Pick.tail))) (RV.cell1 rfl rfl (Cell.own (by repeat first | exact .head | apply Pick.tail) rfl))) ?_)
   exact ⟨_, by rw [hle0], fun _ => ⟨crn_ok hls.1 hat.1, hat.2.1, (ms, mt), hm, red_inj (by have := (crn_ok hls.1 hat.1).d; omega) hmo.t.1 hat.2.2⟩⟩
end Go.Proofs.YtncjabmlkgacdaaGreat.Sp
namespace Go.Proofs.YtncjabmlkgacdaaGreat.Sp
open Go Go.TH
attribute [local irreducible] W WO pt
set_option maxRecDepth 10000
set_option maxHeartbeats 1000000
theorem c_Truth0 (w : World) (v : Value) (l : List Rn) (h0 : l ≠ []) (hR : RdF encRn 4 w.heap.size w v l) : RetE Tryz.prog 11 [v].toArray w (AttR l 0 0) := by
 refine RetE.of mixed tyTab Tryz.func11 rfl rfl ?_
 replace hR : RdF encRn 4 (fnCx mixed tyTab Tryz.f11.ntmps w).B (fnCx mixed tyTab Tryz.f11.ntmps w).w0 v l := hR
 refine W.sreg (WO.alloc rfl rfl rfl (fun b1 hb1 => (WO.p rfl rfl (WO.nil (W.sreg (WO.p rfl rfl (WO.callE rfl Tryz.call34 (fun L w hi => c_Attain0 w v l h0 (hR.later hi)) rfl ?_)))))))
 rintro _ ⟨t, rfl, ht⟩
 refine WO.p rfl rfl (WO.p rfl rfl (WO.storeA rfl rfl rfl rfl Pick.head rfl rfl (WO.p rfl rfl (WO.nil (W.ret ?_)))))
 exact fin.ret (Res.two rfl (RV.cell rfl rfl rfl (Cells.own (by repeat first | exact .head | apply Pick.tail))) (RV.tmp rfl)) ⟨t, rfl, ht⟩
end Go.Proofs.YtncjabmlkgacdaaGreat.Sp
namespace Go.TX
open Go Go.TH
noncomputable section
variable {ρ : Ren} {N : Nat} {env : Tr SV} {a : Act} {P : Program} {D : Nat → Prop} {st st' : St} {w : World}
def ptS (P : Program) (T : TypeId) (l : List SV) (o : Nat) : Option SV := match isAggB P T with
 | some true => match szv P T with
  | some n => subK l o n fun vs => some (.agg vs)
  | none => none
 | some false => nth l o
 | none => none
theorem ptS_ok {T : Nat} {l : List SV} {us : List Value} {o : Nat} {v : SV} (hl : RelL ρ l us) (h : ptS P T l o = some v) : ∃ u, (part T us.toArray o).run P w = .ok u w ∧ Rel ρ v u := by
 unfold ptS at h
 split at h
 ·rename_i hagg
  split at h
  ·rename_i n hn
   obtain ⟨h1, h2⟩ := subK_some h
   simp only [Option.some.injEq] at h2
   subst h2
   refine ⟨.agg ((us.drop o).take n).toArray, ?_, by rw [Rel]; exact ⟨_, (hl.drop o).take n, rfl⟩⟩
   simp only [part, Sem.run_bind, run_isAgg hagg, Result.andThen_ok, if_true, TH.run_sizeOf hn]
   simp [List.extract_eq_take_drop]
  ·cases h
 ·rename_i hagg
  rw [nth_eq] at h
  obtain ⟨u, hu, hr⟩ := hl.at h
  refine ⟨u, ?_, hr⟩
  simp only [part, Sem.run_bind, run_isAgg hagg, Result.andThen_ok]
  simp [hu]
 ·cases h
def fdS (P : Program) (T f : Nat) (x : SV) : Option SV := match x with
 | .agg l => match P.underlying T with
  | some (.struct fs) => match fs[f]? with
   | some fd => ptS P fd.type l fd.offset
   | none => none
  | _ => none
 | _ => none
theorem fdS_ok {T f : Nat} {x v : SV} {u : Value} (hx : Rel ρ x u) (h : fdS P T f x = some v) : ∃ z, (Instr.field T u f).run P w = .ok z w ∧ Rel ρ v z := by
 cases x <;> simp only [fdS] at h <;> try (cases h; done)
 rename_i l
 rw [Rel] at hx
 obtain ⟨us, hl, rfl⟩ := hx
 split at h
 ·rename_i fs hu
  split at h
  ·rename_i fd hf
   obtain ⟨z, h1, h2⟩ := ptS_ok (w := w) hl h
   refine ⟨z, ?_, h2⟩
   simp [Instr.field, run_underlying hu, hf, asAgg, h1]
  ·cases h
 ·cases h
def ixS (P : Program) (T : Nat) (x i : SV) : Option SV := match x with
 | .agg l => match i with
  | .raw (.int _ (.ofNat i)) => match arT P T with
   | some (len, e, sz) => bif Nat.blt i len then ptS P e l (i * sz) else none
   | none => none
  | _ => none
 | .raw u => match i with
  | .raw z => match pv P (Instr.index T u z) with
   | some (.int k n) => some (.raw (.int k n))
   | _ => none
  | _ => none
 | _ => none
theorem ixS_ok {T : Nat} {x i v : SV} {u z : Value} (hx : Rel ρ x u) (hi : Rel ρ i z) (h : ixS P T x i = some v) : ∃ q, (Instr.index T u z).run P w = .ok q w ∧ Rel ρ v q := by
 unfold ixS at h
 split at h
 ·rename_i l
  rw [Rel] at hx
  obtain ⟨us, hl, rfl⟩ := hx
  split at h
  ·rename_i k i'
   rw [Rel] at hi
   subst hi
   split at h
   ·rename_i len e sz har
    have hA := arT_ok har
    cases h1 : Nat.blt i' len with
    | false => rw [h1] at h; cases h
    | true =>
     rw [h1, cond_true] at h
     have h1 := Nat.blt_eq.mp h1
     obtain ⟨q, h2, h3⟩ := ptS_ok (w := w) hl h
     refine ⟨q, ?_, h3⟩
     have g1 : (i' : Int) < (len : Int) := by omega
     simp [Instr.index, asIntOf, run_underlying hA.u, g1, h1, TH.run_sizeOf hA.size, h2]
   ·cases h
  ·cases h
 ·rename_i u0
  rw [Rel] at hx
  subst hx
  split at h
  ·rename_i z0
   rw [Rel] at hi
   subst hi
   split at h
   ·rename_i k n hp
    simp only [Option.some.injEq] at h
    exact ⟨_, pv_run hp w, by rw [← h, Rel]⟩
   ·cases h
  ·cases h
 ·cases h
def exS (x : SV) (i : Nat) : Option SV := match x with
 | .tup l => nth l i
 | _ => none
theorem exS_ok {x v : SV} {i : Nat} {u : Value} (hx : Rel ρ x u) (h : exS x i = some v) : ∃ z, (Instr.extract u i).run P w = .ok z w ∧ Rel ρ v z := by
 cases x <;> simp only [exS] at h <;> try (cases h; done)
 rename_i l
 rw [Rel] at hx
 obtain ⟨us, hl, rfl⟩ := hx
 rw [nth_eq] at h
 obtain ⟨z, hz, hr⟩ := hl.at h
 exact ⟨z, by simp [Instr.extract, hz], hr⟩
def lnS (P : Program) (T : Nat) (x : SV) (st : St) : Option (SV × St) := match P.underlying T with
 | some (.slice _) => match x with
  | .sl _ _ n _ => some (.raw (.int .i64 (.ofNat n)), st)
  | .sl0 => some (.raw (.int .i64 0), st)
  | .raw (.slice _ n _) => some (.raw (.int .i64 (.ofNat n)), st)
  | _ => none
 | some (.map _ _) => match x with
  | .raw (.map none) => some (.raw (.int .i64 0), st)
  | .map b => match st with
   | ⟨h, nx, bs, R, W⟩ => match h.get b with
    | some (.map es _) => insK bs b R fun R' => natK (llen es) fun n => some (.raw (.int .i64 (.ofNat n)), ⟨h, nx, bs, R', W⟩)
    | _ => none
  | _ => none
 | _ => none
theorem MRel.len {es : List SEnt} : ∀ {ms : List MapEntry}, MRel ρ es ms → ms.length = es.length := by
 induction es with
 | nil => intro ms h; rw [MRel] at h; rw [h]; rfl
 | cons e es ih => intro ms h; rw [MRel] at h; obtain ⟨m, r, rfl, _, _, _, h5⟩ := h; simp [ih h5]
theorem lnS_ok {T ty : Nat} {x v : SV} {u : Value} (hx : Rel ρ x u) (h : lnS P T x st = some (v, st')) (hs : Sim ρ D st w) (hD : ∀ x, x ∈ st'.R ∨ st.base ≤ x → D x) : Did P ρ D st st' w v (Builtin.len_ #[T] ty #[u]) := by
 unfold lnS at h
 split at h
 ·rename_i e hu
  split at h <;> try (cases h; done)
  ·simp only [Option.some.injEq, Prod.mk.injEq] at h
   obtain ⟨e1, e2⟩ := h
   subst e2
   rw [Rel] at hx
   obtain ⟨_, _, _, _, _, rfl⟩ := hx
   exact Did.pure hs (by simp [Builtin.len_, run_underlying hu, goInt]; rfl) (by rw [← e1, Rel]; first | done | rfl)
  ·simp only [Option.some.injEq, Prod.mk.injEq] at h
   obtain ⟨e1, e2⟩ := h
   subst e2
   rw [Rel] at hx
   obtain ⟨_, _, rfl⟩ := hx
   exact Did.pure hs (by simp [Builtin.len_, run_underlying hu, goInt]; rfl) (by rw [← e1, Rel]; first | done | rfl)
  ·simp only [Option.some.injEq, Prod.mk.injEq] at h
   obtain ⟨e1, e2⟩ := h
   subst e2
   rw [Rel] at hx
   subst hx
   exact Did.pure hs (by simp [Builtin.len_, run_underlying hu, goInt]; rfl) (by rw [← e1, Rel]; first | done | rfl)
 ·rename_i kt et hu
  split at h <;> try (cases h; done)
  ·simp only [Option.some.injEq, Prod.mk.injEq] at h
   obtain ⟨e1, e2⟩ := h
   subst e2
   rw [Rel] at hx
   subst hx
   exact Did.pure hs (by simp [Builtin.len_, run_underlying hu, goInt]; rfl) (by rw [← e1, Rel]; first | done | rfl)
  ·rename_i b
   cases st with
   | mk hh nx bs R W =>
    simp only at h
    split at h
    ·rename_i es c hg
     rw [insK_eq, natK_eq] at h
     simp only [Option.some.injEq, Prod.mk.injEq] at h
     obtain ⟨e1, e2⟩ := h
     rw [Rel] at hx
     obtain ⟨B, s, hb, rfl⟩ := hx
     have hd : D b := hD b (by rw [← e2]; exact ins_has _ _ _)
     obtain ⟨b', s', ob, q1, q2, ms, rfl, q4⟩ := hs.live b _ hd hg
     rw [hb] at q1; cases q1
     refine ⟨.int .i64 (ms.length : Int), w, ρ, ?_, ?_, by rw [← e2]; exact Step.touch hs (ins_sub _ _ _) fun _ h => h⟩
     ·simp [Builtin.len_, run_underlying hu, goInt, getObj, Sem.run, q2]
     ·rw [← e1, Rel, q4.len, llen_eq]; rfl
    ·cases h
 ·cases h
def kEq : IntKind → IntKind → Bool
 | .i8, .i8 => true | .i16, .i16 => true | .i32, .i32 => true | .i64, .i64 => true
 | .u8, .u8 => true | .u16, .u16 => true | .u32, .u32 => true | .u64, .u64 => true
 | _, _ => false
theorem kEq_eq {k k' : IntKind} (h : kEq k k' = true) : k = k' := by cases k <;> cases k' <;> first | rfl | cases h
def kmax : IntKind → Nat
 | .i8 => 127 | .i16 => 32767 | .i32 => 2147483647 | .i64 => 9223372036854775807
 | .u8 => 255 | .u16 => 65535 | .u32 => 4294967295 | .u64 => 18446744073709551615
def ksg : IntKind → Bool
 | .i8 => true | .i16 => true | .i32 => true | .i64 => true
 | _ => false
def wrapF (k : IntKind) (n : Int) : Int := match n with
 | .ofNat m => bif Nat.ble m (kmax k) then .ofNat m else k.wrap n
 | .negSucc m => bif ksg k && Nat.ble m (kmax k) then .negSucc m else k.wrap n
theorem fits_of {k : IntKind} {m : Nat} (h : m ≤ kmax k) : Fits k m := by
 cases k <;> simp only [kmax] at h <;> simp [Fits, room, IntKind.bits, IntKind.signed] <;> omega
theorem wrap_pos {k : IntKind} {m : Nat} (h : m ≤ kmax k) : k.wrap (m : Int) = m := wrap_nat (fits_of h)
theorem kbits (k : IntKind) (hk : ksg k = true) : k.signed = true ∧ (2 ^ k.bits : Int) = 2 * 2 ^ (k.bits - 1) ∧ ((kmax k : Nat) : Int) + 1 = 2 ^ (k.bits - 1) := by
 cases k <;> first | (cases hk; done) | exact ⟨rfl, rfl, rfl⟩
theorem wrap_neg {k : IntKind} {m : Nat} (hk : ksg k = true) (h : m ≤ kmax k) : k.wrap (Int.negSucc m) = Int.negSucc m := by
 obtain ⟨h1, h2, h3⟩ := kbits k hk
 unfold IntKind.wrap
 rw [h2]
 generalize (2 ^ (k.bits - 1) : Int) = H at *
 have e : Int.negSucc m % (2 * H) = Int.negSucc m + 2 * H := by
  rw [← Int.add_emod_right]
  exact Int.emod_eq_of_lt (by rw [Int.negSucc_eq]; omega) (by rw [Int.negSucc_eq]; omega)
 simp only [e, h1, Bool.true_and]
 rw [if_pos (by rw [decide_eq_true_eq, Int.negSucc_eq]; omega)]
 omega
theorem wrapF_eq (k : IntKind) (n : Int) : wrapF k n = k.wrap n := by
 cases n with
 | ofNat m =>
  simp only [wrapF]
  cases h : Nat.ble m (kmax k) with
  | false => rfl
  | true => exact (wrap_pos (Nat.ble_eq.mp h)).symm
 | negSucc m =>
  simp only [wrapF]
  cases h : ksg k && Nat.ble m (kmax k) with
  | false => rfl
  | true =>
   rw [Bool.and_eq_true] at h
   exact (wrap_neg h.1 (Nat.ble_eq.mp h.2)).symm
def ilt : Int → Int → Bool
 | .ofNat m, .ofNat n => Nat.blt m n
 | .ofNat _, .negSucc _ => false
 | .negSucc _, .ofNat _ => true
 | .negSucc m, .negSucc n => Nat.blt n m
theorem ilt_eq (x y : Int) : ilt x y = decide (x < y) := by
 rw [Bool.eq_iff_iff, decide_eq_true_eq]
 cases x <;> cases y <;> simp only [ilt, Nat.blt_eq, Bool.false_eq_true, true_iff, false_iff, Int.ofNat_eq_natCast, Int.negSucc_eq] <;> omega
def ieq : Int → Int → Bool
 | .ofNat m, .ofNat n => Nat.beq m n
 | .negSucc m, .negSucc n => Nat.beq m n
 | _, _ => false
theorem ieq_eq (x y : Int) : ieq x y = decide (x = y) := by
 rw [Bool.eq_iff_iff, decide_eq_true_eq]
 cases x <;> cases y <;> simp [ieq]
 omega
def intV (k : IntKind) (n : Int) : Option SV := intK n fun n' => some (.raw (.int k n'))
theorem intV_eq (k : IntKind) (n : Int) : intV k n = some (.raw (.int k n)) := by simp only [intV, intK_eq]
def boolV (b : Bool) : Option SV := match b with
 | true => some (.raw (.bool true))
 | false => some (.raw (.bool false))
theorem boolV_eq (b : Bool) : boolV b = some (.raw (.bool b)) := by cases b <;> rfl
def isZ : Int → Bool
 | .ofNat 0 => true
 | _ => false
theorem isZ_eq {n : Int} (h : isZ n = false) : n ≠ 0 := by
 rintro rfl; cases h
def ibS (op : BinOp) (k : IntKind) (x : Int) (k' : IntKind) (y : Int) : Option SV := match op with
 | .add => bif kEq k k' then intV k (wrapF k (Int.add x y)) else none
 | .sub => bif kEq k k' then intV k (wrapF k (Int.sub x y)) else none
 | .mul => bif kEq k k' then intV k (wrapF k (Int.mul x y)) else none
 | .quo => bif kEq k k' then (bif isZ y then none else intV k (wrapF k (Int.tdiv x y))) else none
 | .rem => bif kEq k k' then (bif isZ y then none else intV k (Int.tmod x y)) else none
 | .lss => bif kEq k k' then boolV (ilt x y) else none
 | .gtr => bif kEq k k' then boolV (ilt y x) else none
 | .leq => bif kEq k k' then boolV (!ilt y x) else none
 | .geq => bif kEq k k' then boolV (!ilt x y) else none
 | .eql => bif kEq k k' then boolV (ieq x y) else none
 | .neq => bif kEq k k' then boolV (!ieq x y) else none
 | .and => bif kEq k k' then (match x with
  | .ofNat m => match y with
   | .ofNat n => bif Nat.ble m (kmax k) && Nat.ble n (kmax k) then intV k (.ofNat (Nat.land m n)) else none
   | _ => none
  | _ => none) else none
 | .or => bif kEq k k' then (match x with
  | .ofNat m => match y with
   | .ofNat n => bif Nat.ble m (kmax k) && Nat.ble n (kmax k) then intV k (.ofNat (Nat.lor m n)) else none
   | _ => none
  | _ => none) else none
 | .xor => bif kEq k k' then (match x with
  | .ofNat m => match y with
   | .ofNat n => bif Nat.ble m (kmax k) && Nat.ble n (kmax k) then intV k (.ofNat (Nat.xor m n)) else none
   | _ => none
  | _ => none) else none
 | .andNot => bif kEq k k' then (match x with
  | .ofNat m => match y with
   | .ofNat n => bif Nat.ble m (kmax k) && Nat.ble n (kmax k) then intV k (.ofNat (Nat.xor m (Nat.land m n))) else none
   | _ => none
  | _ => none) else none
 | .shl => match x with
  | .ofNat m => match y with
   | .ofNat s => bif Nat.ble s k.bits then intV k (wrapF k (.ofNat (Nat.shiftLeft m s))) else none
   | _ => none
  | _ => none
 | .shr => match x with
  | .ofNat m => match y with
   | .ofNat s => bif Nat.ble s k.bits then intV k (.ofNat (Nat.shiftRight m s)) else none
   | _ => none
  | _ => none
end
end Go.TX
namespace Go.TH
open Go
section
variable {P : Program} {C : Cx P} {E : Env} {H : List HP}
variable {ops : Array Oper} {K : KP} {rest : List Oper} {d : Nat} {ty : TypeId} {pos : String} {af : Array Edge} {x y : Operand} {T T' : TypeId} {k : IntKind} {a b : Nat}
theorem bv_andNot {n : Nat} (x y : BitVec n) : x &&& ~~~y = x ^^^ (x &&& y) := by
 apply BitVec.eq_of_getLsbD_eq
 intro i hi
 simp [hi]
 cases x[i] <;> cases y[i] <;> rfl
end
end Go.TH
namespace Go.TX
open Go Go.TH
noncomputable section
variable {ρ : Ren} {N : Nat} {env : Tr SV} {a : Act} {P : Program} {D : Nat → Prop} {st st' : St} {w : World}
def opT (op : BinOp) (T : TypeId) (xo yo : Operand) (u z : Value) : Sem Value := do eqGuard op T xo yo u z; binOp op T u z
theorem ble2 {m n k : Nat} (h : (Nat.ble m k && Nat.ble n k) = true) : m ≤ k ∧ n ≤ k := by
 rw [Bool.and_eq_true] at h
 exact ⟨Nat.ble_eq.mp h.1, Nat.ble_eq.mp h.2⟩
def arF (op : BinOp) (x y : Int) : Option Int := match op with | .add => some (x + y) | .sub => some (x - y) | .mul => some (x * y) | _ => none
def cmF (op : BinOp) (x y : Int) : Option Bool := match op with | .lss => some (ilt x y) | .gtr => some (ilt y x) | .leq => some (!ilt y x) | .geq => some (!ilt x y) | .eql => some (ieq x y) | .neq => some (!ieq x y) | _ => none
def dvF (op : BinOp) (k : IntKind) (x y : Int) : Option Int := match op with | .quo => some (k.wrap (x.tdiv y)) | .rem => some (x.tmod y) | _ => none
def btF (op : BinOp) (m n : Nat) : Option Nat := match op with | .and => some (m &&& n) | .or => some (m ||| n) | .xor => some (m ^^^ n) | .andNot => some (m ^^^ (m &&& n)) | _ => none
def shF (op : BinOp) (k : IntKind) (m s : Nat) : Option Int := match op with | .shl => some (k.wrap ((m <<< s : Nat) : Int)) | .shr => some ((m >>> s : Nat) : Int) | _ => none
theorem op_arith {op : BinOp} {k : IntKind} {x y n : Int} (h : arF op x y = some n) (T : TypeId) (xo yo : Operand) : (opT op T xo yo (.int k x) (.int k y)).run P w = .ok (.int k (k.wrap n)) w := by
 cases op <;> simp only [arF, Option.some.injEq, reduceCtorEq] at h <;> subst h <;> simp [opT, eqGuard, binOp, Op.intArith]
theorem op_cmp {op : BinOp} {k : IntKind} {x y : Int} {b : Bool} (h : cmF op x y = some b) (T : TypeId) (xo yo : Operand) :
 (opT op T xo yo (.int k x) (.int k y)).run P w = .ok (.bool b) w := by
 cases op <;> simp only [cmF, Option.some.injEq, reduceCtorEq] at h <;> subst h <;> simp [opT, eqGuard, binOp, Op.intCmp, ilt_eq, ieq_eq]
 ·by_cases q : x = y <;> simp [q]
 ·by_cases q : x = y <;> simp [q]
 ·rw [Bool.eq_iff_iff]; simp
 ·rw [Bool.eq_iff_iff]; simp
theorem op_div {op : BinOp} {k : IntKind} {x y n : Int} (hy : y ≠ 0) (h : dvF op k x y = some n) (T : TypeId) (xo yo : Operand) : (opT op T xo yo (.int k x) (.int k y)).run P w = .ok (.int k n) w := by
 cases op <;> simp only [dvF, Option.some.injEq, reduceCtorEq] at h <;> subst h <;> simp [opT, eqGuard, binOp, Op.intDiv, hy]
theorem op_bits {op : BinOp} {k : IntKind} {m n r : Nat} (hm : m ≤ kmax k) (hn : n ≤ kmax k) (h : btF op m n = some r) (T : TypeId) (xo yo : Operand) :
 (opT op T xo yo (.int k (m : Int)) (.int k (n : Int))).run P w = .ok (.int k (r : Int)) w := by
 have ha := fits_of hm
 have hb := fits_of hn
 cases op <;> simp only [btF, Option.some.injEq, reduceCtorEq] at h <;> subst h
 ·simp [opT, eqGuard, binOp, Op.intBits, mod_fits ha, mod_fits hb]
  exact_mod_cast wrap_nat (k := k) (a := m &&& n) ha.and
 ·simp [opT, eqGuard, binOp, Op.intBits, mod_fits ha, mod_fits hb]
  exact_mod_cast wrap_nat (k := k) (a := m ||| n) (ha.or hb)
 ·simp [opT, eqGuard, binOp, Op.intBits, mod_fits ha, mod_fits hb]
  exact_mod_cast wrap_nat (k := k) (a := m ^^^ n) (ha.xor hb)
 ·simp [opT, eqGuard, binOp, Op.intBits, bv_andNot, mod_fits ha, mod_fits hb]
  exact_mod_cast wrap_nat (k := k) (a := m ^^^ (m &&& n)) (ha.xor ha.and)
theorem op_shift {op : BinOp} {k k' : IntKind} {m s : Nat} {r : Int} (hs : s ≤ k.bits) (h : shF op k m s = some r) (T : TypeId) (xo yo : Operand) :
 (opT op T xo yo (.int k (m : Int)) (.int k' (s : Int))).run P w = .ok (.int k r) w := by
 have h0 : ¬ ((s : Int) < 0) := by omega
 cases op <;> simp only [shF, Option.some.injEq, reduceCtorEq] at h <;> subst h
 ·simp [opT, eqGuard, binOp, Op.shift, h0, Nat.min_eq_left hs, Nat.shiftLeft_eq]
 ·simp [opT, eqGuard, binOp, Op.shift, h0, Nat.min_eq_left hs, Nat.shiftRight_eq_div_pow]
  rw [Int.fdiv_eq_ediv_of_nonneg _ (by exact_mod_cast Nat.zero_le (2 ^ s))]
theorem kEq_of {α : Type} {k k' : IntKind} {x : Option α} {v : α} (h : (bif kEq k k' then x else none) = some v) : k = k' ∧ x = some v := by
 cases hk : kEq k k' with
 | false => rw [hk] at h; cases h
 | true => rw [hk] at h; exact ⟨kEq_eq hk, h⟩
theorem bif_of {α : Type} {b : Bool} {x : Option α} {v : α} (h : (bif b then x else none) = some v) : b = true ∧ x = some v := by
 cases b with
 | false => cases h
 | true => exact ⟨rfl, h⟩
theorem bif_no {α : Type} {b : Bool} {x : Option α} {v : α} (h : (bif b then none else x) = some v) : b = false ∧ x = some v := by
 cases b with
 | true => cases h
 | false => exact ⟨rfl, h⟩
theorem two_of {α : Type} {x y : Int} {f : Nat → Nat → Option α} {v : α} (h : (match x with | .ofNat m => (match y with | .ofNat n => f m n | _ => none) | _ => none) = some v) : ∃ m n : Nat, x = (m : Int) ∧ y = (n : Int) ∧ f m n = some v := by
 cases x <;> cases y <;> simp only [reduceCtorEq] at h
 exact ⟨_, _, rfl, rfl, h⟩
theorem ibS_ok {op : BinOp} {k k' : IntKind} {x y : Int} {v : SV} (h : ibS op k x k' y = some v) (T : TypeId) (xo yo : Operand) : ∃ u, (opT op T xo yo (.int k x) (.int k' y)).run P w = .ok u w ∧ v = .raw u := by
 have arith : ∀ {n : Int}, k = k' ∧ intV k (wrapF k n) = some v → arF op x y = some n → ∃ u, (opT op T xo yo (.int k x) (.int k' y)).run P w = .ok u w ∧ v = .raw u := by
  rintro n ⟨rfl, g⟩ hn
  rw [intV_eq, wrapF_eq, Option.some.injEq] at g
  exact ⟨_, op_arith hn T xo yo, g.symm⟩
 have cmp : ∀ {b : Bool}, k = k' ∧ boolV b = some v → cmF op x y = some b → ∃ u, (opT op T xo yo (.int k x) (.int k' y)).run P w = .ok u w ∧ v = .raw u := by
  rintro b ⟨rfl, g⟩ hb
  rw [boolV_eq, Option.some.injEq] at g
  exact ⟨_, op_cmp hb T xo yo, g.symm⟩
 have bits : ∀ {f : Nat → Nat → Nat}, (k = k' ∧ ∃ m n : Nat, x = (m : Int) ∧ y = (n : Int) ∧ (bif Nat.ble m (kmax k) && Nat.ble n (kmax k) then intV k (.ofNat (f m n)) else none) = some v) → (∀ m n, btF op m n = some (f m n)) →
  ∃ u, (opT op T xo yo (.int k x) (.int k' y)).run P w = .ok u w ∧ v = .raw u := by
  rintro f ⟨rfl, m, n, rfl, rfl, g⟩ hf
  obtain ⟨hb, g⟩ := bif_of g
  obtain ⟨hm, hn⟩ := ble2 hb
  rw [intV_eq, Option.some.injEq] at g
  exact ⟨_, op_bits hm hn (hf m n) T xo yo, g.symm⟩
 cases op <;> simp only [ibS] at h
 ·exact arith (kEq_of h) rfl
 ·exact arith (kEq_of h) rfl
 ·exact arith (kEq_of h) rfl
 ·obtain ⟨rfl, g⟩ := kEq_of h
  obtain ⟨hz, g⟩ := bif_no g
  rw [intV_eq, wrapF_eq, Option.some.injEq] at g
  exact ⟨_, op_div (isZ_eq hz) rfl T xo yo, g.symm⟩
 ·obtain ⟨rfl, g⟩ := kEq_of h
  obtain ⟨hz, g⟩ := bif_no g
  rw [intV_eq, Option.some.injEq] at g
  exact ⟨_, op_div (isZ_eq hz) rfl T xo yo, g.symm⟩
 ·exact bits ⟨(kEq_of h).1, two_of (kEq_of h).2⟩ fun _ _ => rfl
 ·exact bits ⟨(kEq_of h).1, two_of (kEq_of h).2⟩ fun _ _ => rfl
 ·exact bits ⟨(kEq_of h).1, two_of (kEq_of h).2⟩ fun _ _ => rfl
 ·obtain ⟨m, s, rfl, rfl, g⟩ := two_of h
  obtain ⟨hb, g⟩ := bif_of g
  rw [intV_eq, wrapF_eq, Option.some.injEq] at g
  exact ⟨_, op_shift (Nat.ble_eq.mp hb) rfl T xo yo, g.symm⟩
 ·obtain ⟨m, s, rfl, rfl, g⟩ := two_of h
  obtain ⟨hb, g⟩ := bif_of g
  rw [intV_eq, Option.some.injEq] at g
  exact ⟨_, op_shift (Nat.ble_eq.mp hb) rfl T xo yo, g.symm⟩
 ·exact bits ⟨(kEq_of h).1, two_of (kEq_of h).2⟩ fun _ _ => rfl
 all_goals exact cmp (kEq_of h) rfl
end
end Go.TX
namespace Go.TX
open Go Go.TH
noncomputable section
variable {ρ : Ren} {N : Nat} {env : Tr SV} {a : Act} {P : Program} {D : Nat → Prop} {st st' : St} {w : World}
def raws : List SV → Option (List Value)
 | [] => some []
 | .raw v :: r => match raws r with
  | some l => some (v :: l)
  | none => none
 | _ :: _ => none
def toV : SV → Option Value
 | .raw v => some v
 | .agg l => match raws l with
  | some vs => some (.agg vs.toArray)
  | none => none
 | _ => none
theorem raws_rel : ∀ {l : List SV} {vs us : List Value}, raws l = some vs → RelL ρ l us → us = vs
 | [], vs, us, h, hr => by
  simp only [raws, Option.some.injEq] at h
  rw [RelL] at hr
  rw [hr, h]
 | s :: l, vs, us, h, hr => by
  rw [RelL] at hr
  obtain ⟨v, r, rfl, h1, h2⟩ := hr
  cases s <;> simp only [raws] at h <;> try (cases h; done)
  rw [Rel] at h1
  subst h1
  split at h
  ·rename_i l' hl
   simp only [Option.some.injEq] at h
   subst h
   rw [raws_rel hl h2]
  ·cases h
theorem toV_rel {s : SV} {v u : Value} (h : toV s = some v) (hr : Rel ρ s u) : u = v := by
 cases s <;> simp only [toV] at h <;> try (cases h; done)
 ·rw [Rel] at hr
  simp only [Option.some.injEq] at h
  rw [hr, h]
 ·rw [Rel] at hr
  obtain ⟨us, h1, rfl⟩ := hr
  split at h
  ·rename_i vs hv
   simp only [Option.some.injEq] at h
   subst h
   rw [raws_rel hv h1]
  ·cases h
def valV (v : Value) : Option SV := match v with
 | .int k n => intV k n
 | .bool b => boolV b
 | .agg cs => some (.agg (cs.toList.map .raw))
 | v => some (.raw v)
theorem valV_rel {v : Value} {s : SV} (h : valV v = some s) : Rel ρ s v := by
 cases v <;> simp only [valV, intV_eq, boolV_eq, Option.some.injEq] at h <;> subst h <;> rw [Rel]
 exact ⟨_, RelL.raws _, by simp⟩
def isNil : SV → Bool
 | .raw (.pointer none) => true
 | .raw (.slice none 0 0) => true
 | .raw (.map none) => true
 | .raw .nilFunc => true
 | _ => false
def eqNil (P : Program) (T : TypeId) (x : SV) : Option Bool := match x with
 | .ptr _ _ => match P.underlying T with
  | some (.pointer _) => some false
  | _ => none
 | .sl _ _ _ _ => match P.underlying T with
  | some (.slice _) => some false
  | _ => none
 | .map _ => match P.underlying T with
  | some (.map _ _) => some false
  | _ => none
 | .fn _ _ _ => match P.underlying T with
  | some (.func _ _ _) => some false
  | _ => none
 | _ => none
def nilT (P : Program) (T : TypeId) (x : SV) : Bool := match x with
 | .raw (.pointer none) => match P.underlying T with
  | some (.pointer _) => true
  | _ => false
 | .raw (.slice none 0 0) => match P.underlying T with
  | some (.slice _) => true
  | _ => false
 | .raw (.map none) => match P.underlying T with
  | some (.map _ _) => true
  | _ => false
 | .raw .nilFunc => match P.underlying T with
  | some (.func _ _ _) => true
  | _ => false
 | _ => false
theorem eqNil_ok {T : TypeId} {x y : SV} {u z : Value} {b : Bool} (hx : Rel ρ x u) (hy : Rel ρ y z) (h : eqNil P T x = some b) (hn : nilT P T y = true) :
 (Op.equal T u z).run P w = .ok b w ∧ (Op.equal T z u).run P w = .ok b w := by
 cases x <;> simp only [eqNil] at h <;> try (cases h; done)
 all_goals
  split at h <;> try (cases h; done)
  rename_i hu
  simp only [Option.some.injEq] at h
  subst h
  unfold nilT at hn
  split at hn <;> try (cases hn; done)
  all_goals
   split at hn <;> try (cases hn; done)
   rename_i hu'
   rw [hu] at hu'
   first
    |(cases hu'; done)
    |(simp only [Rel] at hx hy
      subst hy
      first
       |(obtain ⟨_, _, _, rfl⟩ := hx
         constructor <;> (unfold Op.equal; rw [show Op.maxDepth = 9999 + 1 from rfl, Op.equalIn]; simp [run_underlying hu]))
       |(obtain ⟨_, _, _, _, _, rfl⟩ := hx
         constructor <;> (unfold Op.equal; rw [show Op.maxDepth = 9999 + 1 from rfl, Op.equalIn]; simp [run_underlying hu]))
       |(obtain ⟨_, _, _, _, rfl⟩ := hx
         constructor <;> (unfold Op.equal; rw [show Op.maxDepth = 9999 + 1 from rfl, Op.equalIn]; simp [run_underlying hu])))
def boS (P : Program) (op : BinOp) (T : TypeId) (xo yo : Operand) (x y : SV) : Option SV := match x with
 | .raw (.int k m) => match y with
  | .raw (.int k' n) => ibS op k m k' n
  | _ => none
 | x => match toV x with
  | some u => match toV y with
   | some z => match pv P (opT op T xo yo u z) with
    | some v => valV v
    | none => none
   | none => bif isNil x && nilT P T x then (match eqNil P T y with
    | some b => match op with
     | .eql => boolV b
     | .neq => boolV (!b)
     | _ => none
    | none => none) else none
  | none => bif nilT P T y then (match eqNil P T x with
   | some b => match op with
    | .eql => boolV b
    | .neq => boolV (!b)
    | _ => none
   | none => none) else none
theorem opT_eq {op : BinOp} {T : TypeId} {xo yo : Operand} {u z : Value} {b : Bool} {v : SV} (hq : (Op.equal T u z).run P w = .ok b w)  (hg : ∀ op, (eqGuard op T xo yo u z).run P w = .ok () w) (hop : ∀ op, op = .eql ∨ op = .neq → binOp op T u z = (if op = .eql then (do pure (.bool (← Op.equal T u z))) else (do pure (.bool (!(← Op.equal T u z)))))) (h : (match op with | .eql => boolV b | .neq => boolV (!b) | _ => none) = some v) : ∃ r, (opT op T xo yo u z).run P w = .ok r w ∧ Rel ρ v r := by
 cases op <;> simp only [reduceCtorEq] at h
 ·rw [boolV_eq, Option.some.injEq] at h
  refine ⟨.bool b, ?_, by rw [← h, Rel]⟩
  simp only [opT, Sem.run_bind, hg, Result.andThen_ok, hop .eql (.inl rfl), if_true]
  simp [hq]
 ·rw [boolV_eq, Option.some.injEq] at h
  refine ⟨.bool !b, ?_, by rw [← h, Rel]⟩
  simp only [opT, Sem.run_bind, hg, Result.andThen_ok, hop .neq (.inr rfl)]
  simp [hq]
theorem guard_nil {op : BinOp} {T : TypeId} {xo yo : Operand} {x y : SV} {u z : Value} {b : Bool} (hx : Rel ρ x u) (hy : Rel ρ y z) (h : eqNil P T x = some b) (hn : nilT P T y = true) :
 (eqGuard op T xo yo u z).run P w = .ok () w ∧ (eqGuard op T yo xo z u).run P w = .ok () w ∧ (∀ op, op = .eql ∨ op = .neq → binOp op T u z = (if op = .eql then (do pure (.bool (← Op.equal T u z))) else (do pure (.bool (!(← Op.equal T u z)))))) ∧
   (∀ op, op = .eql ∨ op = .neq → binOp op T z u = (if op = .eql then (do pure (.bool (← Op.equal T z u))) else (do pure (.bool (!(← Op.equal T z u)))))) := by
 cases x <;> simp only [eqNil] at h <;> try (cases h; done)
 all_goals
  split at h <;> try (cases h; done)
  unfold nilT at hn
  split at hn <;> try (cases hn; done)
  all_goals
   simp only [Rel] at hx hy
   subst hy
   first
    |(obtain ⟨_, _, _, rfl⟩ := hx
      refine ⟨by cases op <;> simp [eqGuard], by cases op <;> simp [eqGuard], ?_, ?_⟩ <;> (rintro op (rfl | rfl) <;> rfl))
    |(obtain ⟨_, _, _, _, _, rfl⟩ := hx
      refine ⟨by cases op <;> simp [eqGuard], by cases op <;> simp [eqGuard], ?_, ?_⟩ <;> (rintro op (rfl | rfl) <;> rfl))
    |(obtain ⟨_, _, _, _, rfl⟩ := hx
      refine ⟨by cases op <;> simp [eqGuard], by cases op <;> simp [eqGuard], ?_, ?_⟩ <;> (rintro op (rfl | rfl) <;> rfl))
theorem boS_ok {op : BinOp} {T : TypeId} {xo yo : Operand} {x y v : SV} {u z : Value} (hx : Rel ρ x u) (hy : Rel ρ y z) (h : boS P op T xo yo x y = some v) : ∃ r, (opT op T xo yo u z).run P w = .ok r w ∧ Rel ρ v r := by
 unfold boS at h
 split at h
 ·rename_i k m
  split at h
  ·rename_i k' n
   rw [Rel] at hx hy
   subst hx; subst hy
   obtain ⟨r, h1, h2⟩ := ibS_ok (P := P) (w := w) h T xo yo
   exact ⟨r, h1, by rw [h2, Rel]⟩
  ·cases h
 ·split at h
  ·rename_i u' hu
   have eu := toV_rel hu hx
   split at h
   ·rename_i z' hz
    have ez := toV_rel hz hy
    subst eu; subst ez
    split at h
    ·rename_i r hp
     exact ⟨r, pv_run hp w, valV_rel h⟩
    ·cases h
   ·obtain ⟨hb, h⟩ := bif_of h
    rw [Bool.and_eq_true] at hb
    split at h
    ·rename_i b hq
     have h1 := eqNil_ok (w := w) hy hx hq hb.2
     have h2 := fun op => guard_nil (w := w) (op := op) (xo := yo) (yo := xo) hy hx hq hb.2
     exact opT_eq h1.2 (fun op => (h2 op).2.1) (h2 .eql).2.2.2 h
    ·cases h
  ·obtain ⟨hb, h⟩ := bif_of h
   split at h
   ·rename_i b hq
    have h1 := eqNil_ok (w := w) hx hy hq hb
    have h2 := fun op => guard_nil (w := w) (op := op) (xo := xo) (yo := yo) hx hy hq hb
    exact opT_eq h1.1 (fun op => (h2 op).1) (h2 .eql).2.2.1 h
   ·cases h
end
end Go.TX
