/-
  What is proved here: the rim of a track. Conditions: none; each contract states its own.
  What is proved here: the reference: all rims. Conditions: none; each contract states its own.
  What is proved here: the reference: the rim of a track. Conditions: none; each contract states its own.
  What is proved here: how the smallest circle grows. Conditions: none; each contract states its own.
  What is proved here: how the arguments of the laws read. Conditions: none.
-/
import Derived.Test.YtkhplcncfogolaaM6
import Derived.Test.YtkhplcncfogolaaM2
import Derived.Deep.Strs
import Derived.OpenShut
namespace Go.Proofs.Ytkhplcncfogolaa
open Go Go.TH Go.TH.Dsc
attribute [local irreducible] W WO pt
set_option maxRecDepth 10000
set_option maxHeartbeats 1000000
theorem Cir.ext' {a b : Cir} (h : a.x = b.x ∧ a.y = b.y ∧ a.den = b.den ∧ a.n = b.n ∧ a.d = b.d) : a = b := by
  obtain ⟨x, y, z, n, d⟩ := a
  obtain ⟨x', y', z', n', d'⟩ := b
  obtain ⟨h1, h2, h3, h4, h5⟩ := h
  simp only at h1 h2 h3 h4 h5
  subst h1; subst h2; subst h3; subst h4; subst h5; rfl
instance : DecidableEq Cir := fun a b => decidable_of_iff (a.x = b.x ∧ a.y = b.y ∧ a.den = b.den ∧ a.n = b.n ∧ a.d = b.d) ⟨Cir.ext', fun h => by subst h; exact ⟨rfl, rfl, rfl, rfl, rfl⟩⟩
theorem eq27 (a b : Cir) : EqT Try.prog .eql 27 (cirV a) (cirV b) (.bool (bl (a = b))) := by
  intro x y w
  have e : bl (a = b) = bl (a.x = b.x ∧ a.y = b.y ∧ a.den = b.den ∧ a.n = b.n ∧ a.d = b.d) := by
    rw [bl_eq, bl_eq, decide_eq_decide]; exact ⟨fun h => by subst h; exact ⟨rfl, rfl, rfl, rfl, rfl⟩, Cir.ext'⟩
  rw [e]
  simp [go_sem, Try.eqGuardType27, Try.underlying27, Try.underlying25, Try.eqGuardType25]
  by_cases h1 : a.x = b.x <;> by_cases h2 : a.y = b.y <;> by_cases h3 : a.den = b.den <;> by_cases h4 : a.n = b.n <;> by_cases h5 : a.d = b.d <;> simp [h1, h2, h3, h4, h5, bl_eq]
/-- whether a rim proves the circle -/
def hit (l : Pts) (rim : List Int) : Bool := decide (lst (ofL l rim) = lst l)
def allRims (n : Nat) : List (List Int) := rimsL 1 n [] ++ rimsL 2 n [] ++ rimsL 3 n []
def rimOf (l : Pts) : List Int := ((allRims l.length).find? (hit l)).getD []
theorem hit_t {l : Pts} {r : List Int} : hit l r = true ↔ lst (ofL l r) = lst l := by unfold hit; simp
theorem rim_of3 {n : Nat} {i k m : Nat} (hi : i < n) (hk : k < n) (hm : m < n) : ∃ r ∈ allRims n, (i : Int) ∈ r ∧ (k : Int) ∈ r ∧ (m : Int) ∈ r := by
  have one : ∀ a, a < n → [(a : Int)] ∈ allRims n := fun a ha => by
    unfold allRims; rw [rimsT1]; exact List.mem_append.2 (.inl (List.mem_append.2 (.inl (mem_seg.2 ⟨a, by omega, ha, by simp⟩))))
  have two : ∀ a b, a < b → b < n → [(a : Int), (b : Int)] ∈ allRims n := fun a b h1 h2 => by
    unfold allRims; exact List.mem_append.2 (.inl (List.mem_append.2 (.inr (mem_rims2.2 ⟨a, b, h1, h2, rfl⟩))))
  have thr : ∀ a b c, a < b → b < c → c < n → [(a : Int), (b : Int), (c : Int)] ∈ allRims n := fun a b c h1 h2 h3 => by
    unfold allRims; exact List.mem_append.2 (.inr (mem_rims3.2 ⟨a, b, c, h1, h2, h3, rfl⟩))
  rcases Nat.lt_trichotomy i k with g1 | g1 | g1 <;> rcases Nat.lt_trichotomy k m with g2 | g2 | g2 <;> rcases Nat.lt_trichotomy i m with g3 | g3 | g3 <;> first
    | (exfalso; omega)
    | exact ⟨_, thr i k m g1 g2 hm, by simp, by simp, by simp⟩
    | exact ⟨_, thr i m k g3 g2 hk, by simp, by simp, by simp⟩
    | exact ⟨_, thr m i k g3 g1 hk, by simp, by simp, by simp⟩
    | exact ⟨_, thr k i m g1 g3 hm, by simp, by simp, by simp⟩
    | exact ⟨_, thr k m i g2 g3 hi, by simp, by simp, by simp⟩
    | exact ⟨_, thr m k i g2 g1 hi, by simp, by simp, by simp⟩
    | (subst g1; first | exact ⟨_, two i m g2 hm, by simp, by simp, by simp⟩ | exact ⟨_, two m i g2 hi, by simp, by simp, by simp⟩ | (subst g2; exact ⟨_, one i hi, by simp, by simp, by simp⟩))
    | (subst g2; first | exact ⟨_, two i k g1 hk, by simp, by simp, by simp⟩ | exact ⟨_, two k i g1 hi, by simp, by simp, by simp⟩)
    | (subst g3; first | exact ⟨_, two i k g1 hk, by simp, by simp, by simp⟩ | exact ⟨_, two k i g1 hi, by simp, by simp, by simp⟩)
theorem allRims_rm {n : Nat} {r : List Int} (h : r ∈ allRims n) : Rm n r := by
  unfold allRims at h
  rcases List.mem_append.1 h with h | h
  · rcases List.mem_append.1 h with h | h
    · exact (rims_rm (m := 0) (by omega) h).1
    · exact (rims_rm (m := 1) (by omega) h).1
  · exact (rims_rm (m := 2) (by omega) h).1
theorem ofL_sub {l : Pts} {rim : List Int} (hr : ∀ x ∈ rim, 0 ≤ x ∧ x < l.length) : ∀ p ∈ ofL l rim, p ∈ l := fun p hp => by
  obtain ⟨x, hx, rfl⟩ := List.mem_map.1 hp
  exact getD_mem (by have := hr x hx; omega) _
/-- at most three points have the same smallest circle -/
theorem rim_ex {l : Pts} (hl : OkL l) (h0 : l ≠ []) : ∃ r ∈ allRims l.length, hit l r = true := by
  obtain ⟨D, r, s, t, u, v, w, hb, hp⟩ := prove_ex h0
  have hs := lst_sm hl h0
  have hD : toD (lst l) = D := (hb.uniq hs.best.hold hs.best.on (hs.best.min _ hb.hold hb.on))
  obtain ⟨i, hi, ei⟩ := mem_at hp.hr
  obtain ⟨k, hk, ek⟩ := mem_at hp.hs
  obtain ⟨m, hm, em⟩ := mem_at hp.ht
  obtain ⟨rim, hr, h1, h2, h3⟩ := rim_of3 hi hk hm
  have hrm := allRims_rm hr
  refine ⟨rim, hr, hit_t.2 ?_⟩
  have hsub := ofL_sub hrm.rng
  have hne : ofL l rim ≠ [] := List.length_pos_iff.1 (by rw [ofL_len]; exact hrm.len.1)
  have m1 : r ∈ ofL l rim := by rw [← ei]; exact List.mem_map.2 ⟨_, h1, by rw [Int.toNat_natCast]⟩
  have m2 : s ∈ ofL l rim := by rw [← ek]; exact List.mem_map.2 ⟨_, h2, by rw [Int.toNat_natCast]⟩
  have m3 : t ∈ ofL l rim := by rw [← em]; exact List.mem_map.2 ⟨_, h3, by rw [Int.toNat_natCast]⟩
  have hbb := hp.mid.best hp.hu hp.hv hp.hw
  refine (Sm.lst (ofL_ok hl hrm.rng) hne ⟨hs.can, hs.ok, ?_⟩).symm
  rw [hD]
  refine hbb.sub (fun p hp' => ?_) (fun p hp' => ?_)
  · have : p = toQ r ∨ p = toQ s ∨ p = toQ t := by simpa using hp'
    rcases this with rfl | rfl | rfl
    · exact List.mem_map_of_mem m1
    · exact List.mem_map_of_mem m2
    · exact List.mem_map_of_mem m3
  · obtain ⟨q, hq, rfl⟩ := List.mem_map.1 hp'
    exact hb.hold _ (List.mem_map_of_mem (hsub q hq))
theorem rimOf_mem {l : Pts} (hl : OkL l) (h0 : l ≠ []) : rimOf l ∈ allRims l.length ∧ hit l (rimOf l) = true := by
  obtain ⟨r, hr, hh⟩ := rim_ex hl h0
  unfold rimOf
  cases e : (allRims l.length).find? (hit l) with
  | none => rw [List.find?_eq_none] at e; exact absurd hh (e r hr)
  | some x => exact ⟨List.mem_of_find?_eq_some e, List.find?_some e⟩
/-- no rim of fewer points -/
def noHit (l : Pts) (m : Nat) : Prop := ∀ j, j < m → ∀ r ∈ rimsL (j + 1) l.length [], hit l r = false
theorem noHit_3 {l : Pts} (hl : OkL l) (h0 : l ≠ []) : ¬ noHit l 3 := fun h => by
  obtain ⟨r, hr, hh⟩ := rim_ex hl h0
  unfold allRims at hr
  have : hit l r = false := by
    rcases List.mem_append.1 hr with g | g
    · rcases List.mem_append.1 g with g | g
      · exact h 0 (by omega) r g
      · exact h 1 (by omega) r g
    · exact h 2 (by omega) r g
  rw [this] at hh; cases hh
/-- where the first rim is that proves the circle -/
def hitAt (l : Pts) (m : Nat) : Nat := (rimsL (m + 1) l.length []).findIdx (hit l)
theorem hit_lt {l : Pts} {m t : Nat} {r : List Int} (hx : (rimsL (m + 1) l.length [])[t]? = some r) (h : t < hitAt l m) : hit l r = false := by
  have := List.not_of_lt_findIdx (xs := rimsL (m + 1) l.length []) (p := hit l) (i := t) h
  obtain ⟨h1, h2⟩ := List.getElem?_eq_some_iff.1 hx
  rw [h2] at this; simpa using this
theorem hit_eq {l : Pts} {m t : Nat} {r : List Int} (hx : (rimsL (m + 1) l.length [])[t]? = some r) (hle : t ≤ hitAt l m) (h : hit l r = true) : t = hitAt l m := by
  rcases Nat.lt_or_ge t (hitAt l m) with g | g
  · rw [hit_lt hx g] at h; cases h
  · omega
theorem hit_ne {l : Pts} {m t : Nat} {r : List Int} (hx : (rimsL (m + 1) l.length [])[t]? = some r) (hle : t ≤ hitAt l m) (h : ¬ hit l r = true) : t < hitAt l m := by
  rcases Nat.lt_or_ge t (hitAt l m) with g | g
  · exact g
  · obtain rfl : t = hitAt l m := by omega
    obtain ⟨h1, h2⟩ := List.getElem?_eq_some_iff.1 hx
    have := List.findIdx_getElem (xs := rimsL (m + 1) l.length []) (p := hit l) (w := h1)
    exact absurd ((congrArg (hit l) h2).symm.trans this) h
theorem noHit_succ {l : Pts} {m : Nat} (h : noHit l m) (hl : (rimsL (m + 1) l.length []).length ≤ hitAt l m) : noHit l (m + 1) := fun j hj r hr => by
  rcases Nat.lt_or_ge j m with g | g
  · exact h j g r hr
  · obtain rfl : j = m := by omega
    obtain ⟨t, ht, e⟩ := List.getElem_of_mem hr
    exact hit_lt (t := t) (by rw [List.getElem?_eq_getElem ht, e]) (by omega)
theorem find_app {α : Type} {p : α → Bool} {xs ys : List α} (h : ∀ x ∈ xs, p x = false) : (xs ++ ys).find? p = ys.find? p := by
  rw [List.find?_append, List.find?_eq_none.2 (fun x hx => by rw [h x hx]; simp)]; rfl
theorem find_at {α : Type} {p : α → Bool} {xs ys : List α} {x : α} (h : xs[xs.findIdx p]? = some x) : (xs ++ ys).find? p = some x := by
  obtain ⟨h1, h2⟩ := List.getElem?_eq_some_iff.1 h
  have hp : p x = true := by rw [← h2]; exact List.findIdx_getElem
  rw [List.find?_append]
  have : xs.find? p = some x := by
    rw [List.find?_eq_some_iff_getElem]
    refine ⟨hp, xs.findIdx p, h1, h2, fun j hj => ?_⟩
    have := List.not_of_lt_findIdx hj
    simpa using this
  rw [this]; rfl
/-- the first one is the rim -/
theorem rimOf_eq {l : Pts} {m : Nat} {r : List Int} (hm : m < 3) (h : noHit l m) (hx : (rimsL (m + 1) l.length [])[hitAt l m]? = some r) : rimOf l = r := by
  unfold rimOf allRims
  match m, hm, h, hx with
  | 0, _, h, hx => rw [List.append_assoc, find_at hx]; rfl
  | 1, _, h, hx => rw [List.append_assoc, find_app (h 0 (by omega)), find_at hx]; rfl
  | 2, _, h, hx =>
    have e := find_at (ys := []) hx
    rw [List.append_nil] at e
    rw [List.append_assoc, find_app (h 0 (by omega)), find_app (h 1 (by omega)), e]; rfl
/-- what Rim answers -/
def rimV (l : Pts) : List Int := if chkL l = 0 then rimOf l else []
theorem rimV_0 {l : Pts} (h : chkL l = 0) : rimV l = rimOf l := by unfold rimV; rw [if_pos h]
theorem rimV_1 {l : Pts} (h : chkL l ≠ 0) : rimV l = [] := by unfold rimV; rw [if_neg h]
/-- the results of a function, while it has not returned, or with a rim -/
def ResP (b1 b2 : Nat) : Option (List Int) → HP
  | none => sat [pt b1 (.cells #[.slice none 0 0] 45 (0, 0)), pt b2 (.cells #[.int .i64 0] 28 (0, 0))]
  | some rim => fun h => ∃ v, sat [pt b1 (.cells #[v] 45 (0, 0)), pt b2 (.cells #[.int .i64 0] 28 (0, 0)), OwE encI 3 1 v rim] h
theorem res_none {b1 b2 : Nat} {H H' : List HP} (p : Pick (pt b1 (.cells #[.slice none 0 0] 45 (0, 0))) H H') {H2 : List HP} (q : Pick (pt b2 (.cells #[.int .i64 0] 28 (0, 0))) H' H2) : ∀ h, sat H h → sat (ResP b1 b2 none :: H2) h := fun h hs =>
  sat_one (Hs := [_, _]) h (Sub.sat (.cons p (.cons q (Sub.refl _))) hs)
theorem res_open {b1 b2 : Nat} {H H' : List HP} (p : Pick (ResP b1 b2 none) H H') : ∀ h, sat H h → sat (pt b1 (.cells #[.slice none 0 0] 45 (0, 0)) :: pt b2 (.cells #[.int .i64 0] 28 (0, 0)) :: H') h := fun h hs =>
  sat_many (Hs := [_, _]) h (p.sat hs)
theorem res_some {b1 b2 : Nat} {rim : List Int} {H H' : List HP} (p : Pick (ResP b1 b2 (some rim)) H H') : ∀ h, sat H h → ∃ v, True ∧ sat (pt b1 (.cells #[v] 45 (0, 0)) :: pt b2 (.cells #[.int .i64 0] 28 (0, 0)) :: OwE encI 3 1 v rim :: H') h := fun h hs => by
  obtain ⟨h1, h2, s, ⟨v, hp⟩, hr⟩ := p.sat hs
  exact ⟨v, trivial, sat_join (H1 := [_, _, _]) s hp hr⟩
theorem res_pack {b1 b2 : Nat} {rim : List Int} {v : Value} {H Hr : List HP} (s : Sub H (pt b1 (.cells #[v] 45 (0, 0)) :: pt b2 (.cells #[.int .i64 0] 28 (0, 0)) :: OwE encI 3 1 v rim :: Hr)) : ∀ h, sat H h → sat (ResP b1 b2 (some rim) :: Hr) h := fun h hs => by
  obtain ⟨h1, h2, s2, hp, hr⟩ := sat_app (H1 := [_, _, _]) (s.sat hs)
  exact ⟨h1, h2, s2, ⟨v, hp⟩, hr⟩
theorem c_Rim (w : World) (v : Value) (l : Pts) (hR : RdF encP 2 w.heap.size w v l) :
    Ct Try.prog 26 [v].toArray w fun r w' => ∃ Hq, (∃ x : Value, r = .tuple #[x, .int .i64 (chkL l)] ∧ Hq = [OwE encI 3 1 x (rimV l)]) ∧ Inv w [] Hq w' := by
  refine Ct.ofI mixed tyTab Try.func26 rfl rfl ?_
  replace hR : RdF encP 2 (fnCx mixed tyTab Try.f26.ntmps w).B (fnCx mixed tyTab Try.f26.ntmps w).w0 v l := hR
  have hle := hR.sl.le
  refine W.sreg ?_
  refine WO.alloc rfl rfl rfl (fun b1 hb1 => ?_)
  refine WO.alloc rfl rfl rfl (fun b2 hb2 => ?_)
  refine WO.nil ?_
  refine W.seq ?_
  refine W.sreg ?_
  refine WO.p rfl rfl ?_
  refine WO.callR rfl Try.call34 (fun L w hi => c_CheckTrack w v l (hR.later hi)) rfl ?_
  refine WO.p rfl rfl ?_
  refine WO.nil ?_
  refine W.sreg ?_
  refine WO.p rfl rfl (WO.p rfl rfl ?_)
  refine WO.nil ?_
  refine W.cond_bl rfl (fun c1 => ?_) (fun c1 => ?_)
  · first
    | (exfalso; omega)
    | (refine W.sreg ?_
       refine WO.p rfl rfl (WO.store1 rfl rfl rfl (by first | rfl | assumption) (Pick.tail (Pick.head)) rfl (WO.store1 rfl rfl rfl (by first | rfl | assumption) (Pick.tail (Pick.head)) rfl ?_))
       refine WO.nil ?_
       refine W.ret ?_
       refine fin.ret (Res.two rfl (RV.cell1 rfl rfl (Cell.own (by repeat (first | exact Pick.head | apply Pick.tail)) rfl)) (RV.cell1 rfl rfl (Cell.own (by repeat (first | exact Pick.head | apply Pick.tail)) rfl))) ?_
       first | (refine ⟨.slice none 0 0, rfl, ?_⟩; rw [rimV_1 (by assumption)]; exact fun h hs => Sub.sat (.cons .head .nil) (owNil (enc := encI) (e := 3) (sz := 1) h hs)))
  · first
    | (exfalso; omega)
    | (refine W.skip ?_
       refine W.sreg ?_
       refine WO.p rfl rfl ?_
       have hok := chkL0.1 (show chkL l = 0 by omega)
       have hne : l ≠ [] := List.length_pos_iff.1 (by omega)
       refine WO.call (Post := fun r Hq => Hq = [OwE encP 74 2 r l]) rfl Try.call46 (fun L w hi => c_points w v l (hR.later hi) (by omega)) rfl ?_
       rintro pv _ rfl
       refine WO.fact (OwE.sl (enc := encP) (e := 74) (sz := 2) (v := pv) (xs := l) (by repeat (first | exact Pick.head | apply Pick.tail))) (fun hps => ?_)
       have hpo := hps.oc
       refine WO.alloc rfl rfl rfl (fun b3 hb3 => ?_)
       refine WO.store1 rfl rfl rfl (by first | rfl | assumption) Pick.head rfl ?_
       refine WO.nil ?_
       refine W.sreg ?_
       refine WO.load rfl rfl (Cell.own Pick.head rfl) rfl ?_
       refine WO.callE rfl Try.call45 (fun L w hi => c_grown w pv l (RdF.of_ow (e := 74) encP_ok (by repeat (first | exact Pick.head | apply Pick.tail)) hi) hok.2 (by omega) (by omega)) rfl ?_
       rintro _ ⟨a, n, k, rfl⟩
       refine WO.fieldN rfl rfl rfl rfl rfl ?_
       refine WO.alloc rfl rfl rfl (fun b4 hb4 => ?_)
       refine WO.storeA rfl rfl rfl rfl Pick.head rfl rfl ?_
       refine WO.nil ?_
       refine W.seq ?_
       refine W.sreg ?_
       refine WO.p rfl rfl ?_
       refine WO.nil ?_
       refine W.block ?_
       refine W.chg (res_none (b1 := b1) (b2 := b2) (by repeat (first | exact Pick.head | apply Pick.tail)) (by repeat (first | exact Pick.head | apply Pick.tail))) ?_
       refine W.loop (fun (m : Nat) => m ≤ 3 ∧ noHit l m)
         (fun (m : Nat) => [(7, .int .i64 ((m : Int) + 1)), (6, .pointer (some ⟨b4, 0, none⟩)), (5, .pointer (some ⟨b3, 0, none⟩)), (3, .pointer (some ⟨b2, 0, none⟩)), (2, .pointer (some ⟨b1, 0, none⟩))])
         (fun (m : Nat) => [ResP b1 b2 none, pt b4 (.cells #[.int .i64 (lst l).x, .int .i64 (lst l).y, .int .i64 (lst l).den, .int .i64 (lst l).n, .int .i64 (lst l).d] 27 (0, 0)), pt b3 (.cells #[pv] 64 (0, 0)), OwE encP 74 2 pv l])
         (fun (m : Nat) => 3 - m) 0
         (by exact ⟨by omega, fun j hj => by omega⟩) ⟨rfl, rfl, rfl, rfl, rfl, trivial⟩ (by repeat (first | exact Sub.nil | refine Sub.cons (by repeat (first | exact Pick.head | apply Pick.tail)) ?_)) ?_
       rintro m ⟨hm0, hno⟩
       refine W.seq ?_
       refine W.sreg ?_
       refine WO.p rfl rfl (WO.p rfl rfl ?_)
       refine WO.nil ?_
       refine W.cond_bl rfl (fun c2 => ?_) (fun c2 => ?_)
       · first
         | (exfalso; omega)
         | (refine W.skip ?_
            refine W.seq ?_
            refine W.block ?_
            refine W.sreg ?_
            refine WO.load rfl rfl (Cell.own (Pick.tail (Pick.tail (Pick.head))) rfl) rfl ?_
            refine' WO.len (n := _) rfl rfl ?hs rfl ?_
            case hs => (first | exact hps)
            refine WO.p rfl rfl ?_
            refine WO.call (Post := fun v Hq => ∃ b1 b2, v = .func (.func 70) #[] #[.pointer (some ⟨b1, 0, none⟩), .pointer (some ⟨b2, 0, none⟩)] ∧ Hq = [pt b2 (.cells #[.int .i64 ((m : Int) + 1)] 3 (0, 0)), pt b1 (.cells #[.int .i64 (l.length : Int)] 3 (0, 0))]) rfl Try.call52 (fun L w hi => c_rims w _ _) rfl ?_
            rintro _ _ ⟨b5, b6, rfl, rfl⟩
            refine WO.nil ?_
            refine W.block ?_
            refine W.rangeFuncB (Jmp.ret) [pt b6 (.cells #[.int .i64 ((m + 1 : Nat) : Int)] 3 (0, 0)), pt b5 (.cells #[.int .i64 (l.length : Int)] 3 (0, 0))] (fun t => [ResP b1 b2 (if t ≤ hitAt l m then none else some ((rimsL (m + 1) l.length []).getD (hitAt l m) [])), pt b4 (.cells #[.int .i64 (lst l).x, .int .i64 (lst l).y, .int .i64 (lst l).den, .int .i64 (lst l).n, .int .i64 (lst l).d] 27 (0, 0)), pt b3 (.cells #[pv] 64 (0, 0)), OwE encP 74 2 pv l]) (rimsL (m + 1) l.length []) (fun rim1 v1 => OwE encI 3 1 v1 rim1) (hitAt l m) rfl rfl rfl Try.call70 (by repeat (first | exact Sub.nil | refine Sub.cons (by repeat (first | exact Pick.head | apply Pick.tail)) ?_)) ?_ ?_ ?_ ?_
            · intro ll Hc hy w1 M1 hB1 hk1 hM1 hi1
              exact c_rims1 (m + 1) (by omega) _ _ l.length (by omega) _ ll Hc hy b5 b6 w1 M1 hB1 hk1 hM1 hi1
            · intro ll w1 M1 hB1 hM1 hk1 t rim1 v1 hx hle1
              have hrm := (rims_rm (m := m) (by omega) (List.mem_of_getElem? hx)).1
              rw [if_pos hle1]
              refine W.region ?_
              refine WO.p rfl rfl ?_
              refine WO.nil ?_
              refine W.block ?_
              refine W.seq ?_
              refine W.drawD 5 [.b 0 [], .r 1 [], .b 4 [], .c 2 [], .r 3 []] [] (A0 := []) (Sub.refl _) (by kernel_rfl) ?_ ?_
              · exact (ALok.b (ALok.r (ALok.b (ALok.c (ALok.r ALok.nil)))))
              refine' DT.b rfl rfl rfl ?hq ?_
              case hq =>
                refine WO.load rfl rfl (Cell.own (Pick.tail (Pick.tail (Pick.tail (Pick.head)))) rfl) rfl ?_
                exact WO.nil ⟨rfl, rfl⟩
              refine' DT.r rfl rfl rfl ?hq ?_
              case hq =>
                refine WO.p rfl rfl ?_
                exact WO.nil ⟨rfl, rfl⟩
              refine' DT.b rfl rfl rfl ?hq ?_
              case hq =>
                refine WO.loadA rfl rfl (Cells.own (Pick.tail (Pick.tail (Pick.head)))) rfl rfl ?_
                exact WO.nil ⟨rfl, rfl⟩
              refine DT.c [_, _, _, _, _] rfl rfl rfl rfl ?_
              refine WO.callE rfl Try.call53 (fun L w hi => c_proved w pv v1 l rim1 (RdF.of_ow (e := 74) encP_ok (by repeat (first | exact Pick.head | apply Pick.tail)) hi) (RdF.of_ow (e := 3) encI_ok (by repeat (first | exact Pick.head | apply Pick.tail)) hi) hok.2 hrm) rfl ?_
              rintro _ ⟨xa, xn, xk, rfl⟩
              refine WO.nil ⟨_, [], rfl, rfl, (Keep.b (Keep.r (Keep.b Keep.nil))), ?_⟩
              refine' DT.r rfl rfl rfl ?hq ?_
              case hq =>
                refine WO.fieldN rfl rfl rfl rfl rfl ?_
                exact WO.nil ⟨rfl, rfl⟩
              refine DT.nil [_, _, _, _, _] rfl ?_
              refine WO.eqT rfl rfl (eq27 (lst (ofL l rim1)) (lst l)) rfl ?_
              refine WO.nil ?_
              refine W.cond_bl rfl (fun c3 => ?_) (fun c3 => ?_)
              · first
                | (exfalso; omega)
                | (refine W.fact (OwE.form (enc := encI) (e := 3) (sz := 1) (v := v1) (xs := rim1) (by repeat (first | exact Pick.head | apply Pick.tail))) (fun hvf => ?_)
                   obtain ⟨va, vc, rfl⟩ := hvf
                   refine W.chg (res_open (b1 := b1) (b2 := b2) (by repeat (first | exact Pick.head | apply Pick.tail))) ?_
                   refine W.sreg ?_
                   refine WO.p rfl rfl (WO.store1 rfl rfl rfl (by first | rfl | assumption) Pick.head rfl (WO.store1 rfl rfl rfl (by first | rfl | assumption) (Pick.tail (Pick.head)) rfl ?_))
                   refine WO.nil ?_
                   refine W.ret ?_
                   have htt := hit_eq hx hle1 (hit_t.2 (by assumption))
                   refine endR.stop (bl_f.2 (by omega)) rfl ?_
                   rw [if_neg (show ¬ t + 1 ≤ hitAt l m by omega), ← htt, show (rimsL (m + 1) l.length []).getD t [] = rim1 by rw [List.getD_eq_getElem?_getD, hx]; rfl]
                   exact res_pack (v := .slice va rim1.length vc) (by repeat (first | exact Sub.nil | refine Sub.cons (by repeat (first | exact Pick.head | apply Pick.tail)) ?_)))
              · first
                | (exfalso; omega)
                | (refine W.skip ?_
                   have hlt := hit_ne hx hle1 (fun q => absurd (hit_t.1 q) (by assumption))
                   refine endR.go (bl_t.2 hlt) ?_
                   rw [if_pos (show t + 1 ≤ hitAt l m from hlt)]
                   exact fun h hs => Sub.sat (by repeat (first | exact Sub.nil | refine Sub.cons (by repeat (first | exact Pick.head | apply Pick.tail)) ?_)) hs)
            · intro hAll
              rw [if_pos hAll]
              refine W.region ?_
              refine WO.p rfl rfl (WO.ar rfl rfl rfl (by (first | (unfold in64; omega) | (unfold in64; omega))) rfl (WO.p rfl rfl ?_))
              refine WO.nil ?_
              refine' ⟨m + 1, ?hp, ?hmu, ⟨rfl, rfl, rfl, rfl, rfl, trivial⟩, ?hS⟩
              case hS => repeat (first | exact Sub.nil | refine Sub.cons (by repeat (first | exact Pick.head | apply Pick.tail)) ?_)
              case hp => exact ⟨by omega, noHit_succ hno hAll⟩
              case hmu => omega
            · intro hStop
              rw [if_neg (show ¬ hitAt l m + 1 ≤ hitAt l m by omega)]
              have hxx : (rimsL (m + 1) l.length [])[hitAt l m]? = some ((rimsL (m + 1) l.length []).getD (hitAt l m) []) := getD_some hStop []
              have hre := rimOf_eq (by omega) hno hxx
              refine W.chgE (res_some (b1 := b1) (b2 := b2) (rim := (rimsL (m + 1) l.length []).getD (hitAt l m) []) (by repeat (first | exact Pick.head | apply Pick.tail))) ?_
              rintro rv -
              refine W.ret ?_
              refine fin.ret (Res.two rfl (RV.cell1 rfl rfl (Cell.own (by repeat (first | exact Pick.head | apply Pick.tail)) rfl)) (RV.cell1 rfl rfl (Cell.own (by repeat (first | exact Pick.head | apply Pick.tail)) rfl))) ?_
              refine ⟨rv, by rw [show chkL l = 0 by omega], ?_⟩
              rw [rimV_0 (by omega), hre]
              exact fun h hs => Sub.sat (by repeat (first | exact Sub.nil | refine Sub.cons (by repeat (first | exact Pick.head | apply Pick.tail)) ?_)) hs)
       · first
         | (exfalso; omega)
         | (refine W.exit (blk_same ?_)
            exfalso
            obtain rfl : m = 3 := by omega
            exact noHit_3 hok.2 hne hno))
end Go.Proofs.Ytkhplcncfogolaa
namespace Go.Proofs.Ytkhplcncfogolaa
open Go Go.TH
attribute [local irreducible] W WO pt
set_option maxRecDepth 10000
set_option maxHeartbeats 1000000
theorem seg_len {β : Type} {lo K : Nat} {g : Nat → List β} (h : ∀ i, (g i).length ≤ K) : ∀ {hi : Nat}, (seg lo hi g).length ≤ (hi - lo) * K
  | 0 => by unfold seg; simp
  | hi + 1 => by
    rcases Nat.lt_or_ge hi lo with g1 | g1
    · unfold seg; rw [show hi + 1 - lo = 0 by omega]; simp
    · have := seg_len (lo := lo) h (hi := hi)
      have h2 := h hi
      rw [seg_succ g1, List.length_append, show hi + 1 - lo = (hi - lo) + 1 by omega, Nat.add_mul]
      omega
theorem rimsL_len {n : Nat} (hn : n ≤ 24) : ∀ (m : Nat) (bs : List Int), (rimsL m n bs).length ≤ 24 ^ m
  | 0, _ => by simp [rimsL]
  | m + 1, bs => by
    have h := seg_len (lo := nxt bs) (hi := n) (g := fun i => rimsL m n (bs ++ [(i : Int)])) (fun i => rimsL_len hn m _)
    have h2 : (n - nxt bs) * 24 ^ m ≤ 24 * 24 ^ m := Nat.mul_le_mul_right _ (by omega)
    unfold rimsL
    rw [Nat.pow_succ]; omega
theorem seg_mono {β : Type} {lo i hi : Nat} {g : Nat → List β} (h : i ≤ hi) : (seg lo i g).length ≤ (seg lo hi g).length := by
  induction hi with
  | zero => obtain rfl : i = 0 := by omega
            exact Nat.le_refl _
  | succ hi ih =>
    rcases Nat.lt_or_ge hi i with g1 | g1
    · obtain rfl : i = hi + 1 := by omega
      exact Nat.le_refl _
    · have := ih g1
      rcases Nat.lt_or_ge hi lo with g2 | g2
      · unfold seg; rw [show hi + 1 - lo = 0 by omega, show i - lo = 0 by omega]; exact Nat.le_refl _
      · rw [seg_succ g2, List.length_append]; omega
theorem nxt_eq {bs : List Int} (h : 0 < bs.length) (hb : ∀ x ∈ bs, 0 ≤ x ∧ x < 24) : ((nxt bs : Nat) : Int) = bs.getD ((bs.length : Int) - 1).toNat 0 + 1 := by
  have e : bs.getLast?.getD (-1) = bs.getD ((bs.length : Int) - 1).toNat 0 := by
    rw [List.getLast?_eq_getElem?, show ((bs.length : Int) - 1).toNat = bs.length - 1 by omega, List.getD_eq_getElem?_getD, List.getElem?_eq_getElem (by omega)]
    rfl
  have hm := hb _ (getD_mem (l := bs) (i := ((bs.length : Int) - 1).toNat) (by omega) 0)
  unfold nxt; rw [e]; omega
theorem seg_end {β : Type} {lo i n : Nat} {g : Nat → List β} (h1 : lo ≤ i) (h2 : i ≤ n ∨ i = lo) (h3 : n ≤ i) : seg lo i g = seg lo n g := by
  rcases h2 with h2 | rfl
  · rw [show i = n by omega]
  · unfold seg; rw [show i - i = 0 by omega, show n - i = 0 by omega]
theorem OwE.cellI {C : Cx Try.prog} {H : List HP} {e : Nat} {v : Value} {l : List Int} {i : Nat} (s : Sub H [OwE encI e 1 v l]) (hi : i < l.length) : Cell C H (elt v i 1) (.int .i64 (l.getD i 0)) := by
  cases s with
  | cons p _ => exact OwE.cell0 encI_ok p hi 0 rfl
def RimsP (m n : Nat) (bs : List Int) (x : Value × List Value) : List HP := [OwC 45 1 x.1 (rimsL m n bs).length x.2, RowsE encI 3 1 x.2 (rimsL m n bs)]
def RimsC (m : Nat) : Prop := ∀ (n : Nat) (bs : List Int) (v : Value) (w : World) (B : Nat), B ≤ w.heap.size → n ≤ 24 → bs.length + m ≤ 10 → (∀ x ∈ bs, 0 ≤ x ∧ x < 24) →
  CtH Try.prog 64 [v, .int .i64 (m : Int), .int .i64 (n : Int)] w [OwE encI 3 1 v bs] B (fun r Hq => ∃ x : Value × List Value, r = x.1 ∧ Hq = RimsP m n bs x)
theorem ref_rims_0 : RimsC 0 := by
  intro n bs v w B hB hn hl hb
  refine CtH.ofI (X := Value × List Value) (p := fun x r => r = x.1) (Hx := RimsP 0 n bs) mixed tyTab hB Try.func64 rfl rfl (fun M hM => ?_)
  refine W.fact (OwE.form (enc := encI) (e := 3) (sz := 1) (v := v) (xs := bs) Pick.head) (fun hf => ?_)
  obtain ⟨a, c, rfl⟩ := hf
  refine W.sreg ?_
  refine WO.p rfl rfl ?_
  refine WO.nil ?_
  refine W.seq ?_
  refine W.sreg ?_
  refine WO.p rfl rfl (WO.p rfl rfl ?_)
  refine WO.nil ?_
  refine W.cond_bl rfl (fun c1 => ?_) (fun c1 => ?_)
  · first
    | (exfalso; omega)
    | (refine W.sreg ?_
       refine WO.p rfl rfl ?_
       refine' WO.buildSl (cs := _) rfl rfl rfl rfl ?hf rfl rfl ?hl rfl (fun v1 => ?_)
       case hf => (conv => lhs; simp [-List.getD_eq_getElem?_getD, fillL, vcl, wrl, TTab.pl?.lget']) <;> rfl
       case hl => rfl
       refine WO.p rfl rfl ?_
       refine WO.nil ?_
       refine W.ret ?_
       refine fin.ret (Res.one rfl (RV.tmp rfl)) ⟨(_, [.slice a bs.length c]), rfl, fun h hs => ?_⟩
       have h2 := rowsSnoc (enc := encI) (e := 3) (sz := 1) (rv := []) (xss := []) (r := .slice a bs.length c) (xs := bs) Pick.head (by repeat (first | exact Pick.head | apply Pick.tail)) h (rowsNil (enc := encI) (e := 3) (sz := 1) h hs)
       exact Sub.sat (.cons (by repeat (first | exact Pick.head | apply Pick.tail)) (.cons .head .nil)) h2)
  · first
    | (exfalso; omega)
    | (refine W.skip ?_
       refine W.sreg ?_
       refine WO.p rfl rfl ?_
       refine WO.nil ?_
       refine W.seq ?_
       refine W.sreg ?_
       refine WO.p rfl rfl ?_
       refine' WO.len (n := _) rfl rfl ?hs rfl ?_
       case hs => skip
       refine WO.p rfl rfl ?_
       refine WO.nil ?_
       refine W.cond_bl rfl (fun c2 => ?_) (fun c2 => ?_)
       · first
         | (exfalso; omega)
         | (refine W.region ?_
            refine WO.p rfl rfl (WO.p rfl rfl ?_)
            refine' WO.len (n := _) rfl rfl ?hs rfl ?_
            case hs => skip
            refine WO.ar rfl rfl rfl (by (first | (unfold in64; omega))) rfl ?_
            refine' WO.indexAddr (n := _) (i := _) rfl rfl rfl ?hs ?h1 rfl ?_
            case hs => skip
            case h1 => (first | omega | (simp; omega))
            refine' WO.load (v := _) rfl rfl ?hc rfl ?_
            case hc => skip
            refine WO.ar rfl rfl rfl (by (first | (unfold in64; omega))) rfl (WO.p rfl rfl ?_)
            refine WO.nil ?_
            refine W.sreg ?_
            refine WO.p rfl rfl ?_
            refine WO.nil ?_
            refine W.seq ?_
            refine W.sreg ?_
            refine WO.p rfl rfl (WO.p rfl rfl ?_)
            refine WO.nil ?_
            refine W.block ?_
            (exfalso; omega))
       · first
         | (exfalso; omega)
         | (refine W.skip ?_
            refine W.sreg ?_
            refine WO.p rfl rfl ?_
            refine WO.nil ?_
            refine W.seq ?_
            refine W.sreg ?_
            refine WO.p rfl rfl (WO.p rfl rfl ?_)
            refine WO.nil ?_
            refine W.block ?_
            (exfalso; omega)))
theorem ref_rims_step {m : Nat} (hm : m ≤ 2) (ih : RimsC m) : RimsC (m + 1) := by
  intro n bs v w B hB hn hl hb
  refine CtH.ofI (X := Value × List Value) (p := fun x r => r = x.1) (Hx := RimsP (m + 1) n bs) mixed tyTab hB Try.func64 rfl rfl (fun M hM => ?_)
  refine W.fact (OwE.sl (enc := encI) (e := 3) (sz := 1) (v := v) (xs := bs) Pick.head) (fun hbs => ?_)
  have hpow : 24 ^ m ≤ 24 ^ 2 := Nat.pow_le_pow_right (by omega) hm
  have hLT := rimsL_len hn (m + 1) bs
  have hpow2 : 24 ^ (m + 1) ≤ 24 ^ 3 := Nat.pow_le_pow_right (by omega) (by omega)
  refine W.sreg ?_
  refine WO.p rfl rfl ?_
  refine WO.nil ?_
  refine W.seq ?_
  refine W.sreg ?_
  refine WO.p rfl rfl (WO.p rfl rfl ?_)
  refine WO.nil ?_
  refine W.cond_bl rfl (fun c1 => ?_) (fun c1 => ?_)
  · first
    | (exfalso; omega)
    | (refine W.sreg ?_
       refine WO.p rfl rfl ?_
       refine' WO.buildSl (cs := _) rfl rfl rfl rfl ?hf rfl rfl ?hl rfl (fun v1 => ?_)
       case hf => (conv => lhs; simp [-List.getD_eq_getElem?_getD, fillL, vcl, wrl, TTab.pl?.lget']) <;> rfl
       case hl => rfl
       refine WO.p rfl rfl ?_
       refine WO.nil ?_
       refine W.ret ?_
       refine fin.ret (Res.one rfl (RV.tmp rfl)) ⟨(x, rv), rfl, fun h hs => ?_⟩
       unfold RimsP; rw [← hye]; exact Sub.sat (by repeat (first | exact Sub.nil | refine Sub.cons (by repeat (first | exact Pick.head | apply Pick.tail)) ?_)) hs)
  · first
    | (exfalso; omega)
    | (refine W.skip ?_
       refine W.sreg ?_
       refine WO.p rfl rfl ?_
       refine WO.nil ?_
       refine W.seq ?_
       refine W.sreg ?_
       refine WO.p rfl rfl ?_
       refine' WO.len (n := _) rfl rfl ?hs rfl ?_
       case hs => (first | exact hbs)
       refine WO.p rfl rfl ?_
       refine WO.nil ?_
       refine W.cond_bl rfl (fun c2 => ?_) (fun c2 => ?_)
       · first
         | (exfalso; omega)
         | (refine W.region ?_
            refine WO.p rfl rfl (WO.p rfl rfl ?_)
            refine' WO.len (n := _) rfl rfl ?hs rfl ?_
            case hs => (first | exact hbs)
            refine WO.ar rfl rfl rfl (by (first | (unfold in64; omega) | have hx := hb _ (getD_mem (l := bs) (i := ((bs.length : Int) - 1).toNat) (by omega) 0); (unfold in64; omega) | (unfold in64; omega))) rfl ?_
            refine' WO.indexAddrZ (n := _) rfl rfl rfl ?hs ?h00 ?h1 rfl ?_
            case hs => (first | exact hbs)
            case h00 => omega
            case h1 => (first | omega | (simp; omega))
            refine' WO.load (v := _) rfl rfl ?hc rfl ?_
            case hc => (first | (refine OwE.cellI (e := 3) (l := bs) (i := ((bs.length : Int) - 1).toNat) ?_ (by omega); repeat (first | exact Sub.nil | refine Sub.cons (by repeat (first | exact Pick.head | apply Pick.tail)) ?_)))
            refine WO.ar rfl rfl rfl (by (first | (unfold in64; omega) | have hx := hb _ (getD_mem (l := bs) (i := ((bs.length : Int) - 1).toNat) (by omega) 0); (unfold in64; omega) | (unfold in64; omega))) rfl (WO.p rfl rfl ?_)
            refine WO.nil ?_
            refine W.sreg ?_
            refine WO.p rfl rfl ?_
            refine WO.nil ?_
            refine W.seq ?_
            refine W.sreg ?_
            refine WO.p rfl rfl (WO.p rfl rfl ?_)
            refine WO.nil ?_
            refine W.block ?_
            refine W.chg (rowsNil (enc := encI) (e := 3) (sz := 1)) ?_
            refine W.chg (owcNil (e := 45) (sz := 1)) ?_
            refine W.loop4 (fun (z : Int) (x : Value) (rv : List Value) (yss : List (List Int)) => ((nxt bs : Nat) : Int) ≤ z ∧ (z ≤ n ∨ z = ((nxt bs : Nat) : Int)) ∧ yss = seg (nxt bs) z.toNat (fun i => rimsL m n (bs ++ [(i : Int)])))
              (fun (z : Int) (x : Value) (rv : List Value) (yss : List (List Int)) => [(9, .int .i64 z), (8, x), (0, v), (1, .int .i64 ((m + 1 : Nat) : Int)), (2, .int .i64 (n : Int))])
              (fun (z : Int) (x : Value) (rv : List Value) (yss : List (List Int)) => [OwC 45 1 x yss.length rv, RowsE encI 3 1 rv yss, OwE encI 3 1 v bs])
              (fun (z : Int) (x : Value) (rv : List Value) (yss : List (List Int)) => ((n : Int) - z).toNat) _ (.slice none 0 0) [] []
              (by first | (have e := nxt_eq (by omega) hb; exact ⟨by omega, .inr (by omega), by rw [← e, Int.toNat_natCast, seg_none]⟩) | (have e : nxt bs = 0 := (by rw [List.eq_nil_of_length_eq_zero (show bs.length = 0 by omega)]; rfl); exact ⟨by omega, .inr (by omega), by rw [e]; rfl⟩)) ⟨rfl, rfl, rfl, rfl, rfl, trivial⟩ (by repeat (first | exact Sub.nil | refine Sub.cons (by repeat (first | exact Pick.head | apply Pick.tail)) ?_)) ?_
            rintro z x rv yss ⟨hz1, hz2, hys⟩
            refine W.seq ?_
            refine W.sreg ?_
            refine WO.p rfl rfl (WO.p rfl rfl (WO.p rfl rfl ?_))
            refine WO.nil ?_
            refine W.cond_bl rfl (fun c3 => ?_) (fun c3 => ?_)
            · first
              | (exfalso; omega)
              | (refine W.skip ?_
                 refine W.seq ?_
                 refine W.block ?_
                 obtain ⟨i, rfl⟩ := Int.eq_ofNat_of_zero_le (show 0 ≤ z by omega)
                 have hyl : yss.length ≤ 24 ^ (m + 1) := by rw [hys]; exact Nat.le_trans (seg_mono (by omega)) hLT
                 refine W.region ?_
                 refine WO.p rfl rfl ?_
                 refine WO.buildSl0 rfl rfl (fun b0 => ?_)
                 refine WO.p rfl rfl ?_
                 refine WO.appendEZ (enc := encI) (m := bs.length) (xs := []) (ys := bs) encI_ok rfl rfl rfl rfl rfl Pick.head hbs rfl (OwC.cells (by repeat (first | exact Pick.head | apply Pick.tail))) (by simp only [List.length_nil]; omega) (by simp only [List.length_nil]; omega) rfl (fun v1 => ?_)
                 refine WO.p rfl rfl ?_
                 refine' WO.buildSl (cs := _) rfl rfl rfl rfl ?hf rfl rfl ?hl rfl (fun v2 => ?_)
                 case hf => (conv => lhs; simp [-List.getD_eq_getElem?_getD, fillL, vcl, wrl, TTab.pl?.lget']) <;> rfl
                 case hl => rfl
                 refine' WO.appendE (enc := encI) (m := 1) (xs := [] ++ bs) (ys := [(i : Int)]) encI_ok rfl rfl rfl rfl rfl (by repeat (first | exact Pick.head | apply Pick.tail)) (isSl_lit (by omega) (fun _ => ⟨_, _, rfl⟩)) (by omega) rfl (OwC.cells .head) (by rw [List.nil_append]; omega) (by rw [List.nil_append]; omega) rfl (fun g c => ?_)
                 refine WO.p rfl rfl (WO.ar rfl rfl rfl (by (first | (unfold in64; omega) | have hx := hb _ (getD_mem (l := bs) (i := ((bs.length : Int) - 1).toNat) (by omega) 0); (unfold in64; omega) | (unfold in64; omega))) rfl (WO.p rfl rfl ?_))
                 have hLm := rimsL_len hn m (bs ++ [(i : Int)])
                 refine WO.callH1 (A := OwE encI 3 1 (.slice (some ⟨g, 0, none⟩) (([] ++ bs).length + 1) c) (bs ++ [(i : Int)])) rfl Try.call64 Pick.head (fun L w hi hB2 => by have e : (((m + 1 : Nat) : Int) - 1) = (m : Int) := (by omega); rw [e]; exact ih n (bs ++ [(i : Int)]) _ w _ hB2 hn (by simp; omega) (by intro x hx; rcases List.mem_append.1 hx with h | h; exact hb x h; obtain rfl : x = (i : Int) := (by simpa using h); omega)) rfl ?_
                 rintro r2 _ ⟨⟨x2, rv2⟩, rfl, rfl⟩
                 refine WO.fact (OwC.sl (e := 45) (sz := 1) (n := (rimsL m n (bs ++ [(i : Int)])).length) (v := r2) (cs := rv2) Pick.head) (fun h2s => ?_)
                 refine WO.fact (RowsE.ocF (enc := encI) (e := 3) (sz := 1) (rv := rv2) (xss := rimsL m n (bs ++ [(i : Int)])) (Pick.tail Pick.head)) (fun h2o => ?_)
                 refine WO.appendN (m := (rimsL m n (bs ++ [(i : Int)])).length) (news := rv2) rfl rfl rfl rfl rfl (p := by repeat (first | exact Pick.head | apply Pick.tail)) h2s (OwC.cells Pick.head) (by rw [h2o.1]; omega) h2o.2 (by omega) (by omega) rfl (fun x' => ?_)
                 refine WO.p rfl rfl ?_
                 refine WO.nil ?_
                 refine W.chg (rowsApp (enc := encI) (e := 3) (sz := 1) (rv := rv) (xss := yss) (rv' := rv2) (xss' := rimsL m n (bs ++ [(i : Int)])) (by repeat (first | exact Pick.head | apply Pick.tail)) (by repeat (first | exact Pick.head | apply Pick.tail))) ?_
                 rw [← List.length_append]
                 refine W.region ?_
                 refine WO.p rfl rfl (WO.ar rfl rfl rfl (by (first | (unfold in64; omega) | have hx := hb _ (getD_mem (l := bs) (i := ((bs.length : Int) - 1).toNat) (by omega) 0); (unfold in64; omega) | (unfold in64; omega))) rfl (WO.p rfl rfl ?_))
                 refine WO.nil ?_
                 refine' ⟨_, _, _, _, ?hp, ?hmu, ⟨rfl, rfl, rfl, rfl, rfl, trivial⟩, ?hS⟩
                 case hS => repeat (first | exact Sub.nil | refine Sub.cons (by repeat (first | exact Pick.head | apply Pick.tail)) ?_)
                 case hp => exact ⟨by omega, .inl (by omega), by rw [hys, show ((i : Int) + 1).toNat = i + 1 by omega, Int.toNat_natCast, seg_succ (by omega)]⟩
                 case hmu => omega)
            · first
              | (exfalso; omega)
              | (refine W.exit (blk_same ?_)
                 have hye : yss = rimsL (m + 1) n bs := by rw [hys]; exact seg_end (by omega) (by omega) (by omega)
                 refine W.sreg ?_
                 refine WO.p rfl rfl (WO.p rfl rfl ?_)
                 refine WO.nil ?_
                 refine W.ret ?_
                 refine fin.ret (Res.one rfl (RV.tmp rfl)) ⟨(x, rv), rfl, fun h hs => ?_⟩
                 unfold RimsP; rw [← hye]; exact Sub.sat (by repeat (first | exact Sub.nil | refine Sub.cons (by repeat (first | exact Pick.head | apply Pick.tail)) ?_)) hs))
       · first
         | (exfalso; omega)
         | (refine W.skip ?_
            refine W.sreg ?_
            refine WO.p rfl rfl ?_
            refine WO.nil ?_
            refine W.seq ?_
            refine W.sreg ?_
            refine WO.p rfl rfl (WO.p rfl rfl ?_)
            refine WO.nil ?_
            refine W.block ?_
            refine W.chg (rowsNil (enc := encI) (e := 3) (sz := 1)) ?_
            refine W.chg (owcNil (e := 45) (sz := 1)) ?_
            refine W.loop4 (fun (z : Int) (x : Value) (rv : List Value) (yss : List (List Int)) => ((nxt bs : Nat) : Int) ≤ z ∧ (z ≤ n ∨ z = ((nxt bs : Nat) : Int)) ∧ yss = seg (nxt bs) z.toNat (fun i => rimsL m n (bs ++ [(i : Int)])))
              (fun (z : Int) (x : Value) (rv : List Value) (yss : List (List Int)) => [(9, .int .i64 z), (8, x), (0, v), (1, .int .i64 ((m + 1 : Nat) : Int)), (2, .int .i64 (n : Int))])
              (fun (z : Int) (x : Value) (rv : List Value) (yss : List (List Int)) => [OwC 45 1 x yss.length rv, RowsE encI 3 1 rv yss, OwE encI 3 1 v bs])
              (fun (z : Int) (x : Value) (rv : List Value) (yss : List (List Int)) => ((n : Int) - z).toNat) _ (.slice none 0 0) [] []
              (by first | (have e := nxt_eq (by omega) hb; exact ⟨by omega, .inr (by omega), by rw [← e, Int.toNat_natCast, seg_none]⟩) | (have e : nxt bs = 0 := (by rw [List.eq_nil_of_length_eq_zero (show bs.length = 0 by omega)]; rfl); exact ⟨by omega, .inr (by omega), by rw [e]; rfl⟩)) ⟨rfl, rfl, rfl, rfl, rfl, trivial⟩ (by repeat (first | exact Sub.nil | refine Sub.cons (by repeat (first | exact Pick.head | apply Pick.tail)) ?_)) ?_
            rintro z x rv yss ⟨hz1, hz2, hys⟩
            refine W.seq ?_
            refine W.sreg ?_
            refine WO.p rfl rfl (WO.p rfl rfl (WO.p rfl rfl ?_))
            refine WO.nil ?_
            refine W.cond_bl rfl (fun c4 => ?_) (fun c4 => ?_)
            · first
              | (exfalso; omega)
              | (refine W.skip ?_
                 refine W.seq ?_
                 refine W.block ?_
                 obtain ⟨i, rfl⟩ := Int.eq_ofNat_of_zero_le (show 0 ≤ z by omega)
                 have hyl : yss.length ≤ 24 ^ (m + 1) := by rw [hys]; exact Nat.le_trans (seg_mono (by omega)) hLT
                 refine W.region ?_
                 refine WO.p rfl rfl ?_
                 refine WO.buildSl0 rfl rfl (fun b0 => ?_)
                 refine WO.p rfl rfl ?_
                 refine WO.appendEZ (enc := encI) (m := bs.length) (xs := []) (ys := bs) encI_ok rfl rfl rfl rfl rfl Pick.head hbs rfl (OwC.cells (by repeat (first | exact Pick.head | apply Pick.tail))) (by simp only [List.length_nil]; omega) (by simp only [List.length_nil]; omega) rfl (fun v1 => ?_)
                 refine WO.p rfl rfl ?_
                 refine' WO.buildSl (cs := _) rfl rfl rfl rfl ?hf rfl rfl ?hl rfl (fun v3 => ?_)
                 case hf => (conv => lhs; simp [-List.getD_eq_getElem?_getD, fillL, vcl, wrl, TTab.pl?.lget']) <;> rfl
                 case hl => rfl
                 refine' WO.appendE (enc := encI) (m := 1) (xs := [] ++ bs) (ys := [(i : Int)]) encI_ok rfl rfl rfl rfl rfl (by repeat (first | exact Pick.head | apply Pick.tail)) (isSl_lit (by omega) (fun _ => ⟨_, _, rfl⟩)) (by omega) rfl (OwC.cells .head) (by rw [List.nil_append]; omega) (by rw [List.nil_append]; omega) rfl (fun g c => ?_)
                 refine WO.p rfl rfl (WO.ar rfl rfl rfl (by (first | (unfold in64; omega) | have hx := hb _ (getD_mem (l := bs) (i := ((bs.length : Int) - 1).toNat) (by omega) 0); (unfold in64; omega) | (unfold in64; omega))) rfl (WO.p rfl rfl ?_))
                 have hLm := rimsL_len hn m (bs ++ [(i : Int)])
                 refine WO.callH1 (A := OwE encI 3 1 (.slice (some ⟨g, 0, none⟩) (([] ++ bs).length + 1) c) (bs ++ [(i : Int)])) rfl Try.call64 Pick.head (fun L w hi hB2 => by have e : (((m + 1 : Nat) : Int) - 1) = (m : Int) := (by omega); rw [e]; exact ih n (bs ++ [(i : Int)]) _ w _ hB2 hn (by simp; omega) (by intro x hx; rcases List.mem_append.1 hx with h | h; exact hb x h; obtain rfl : x = (i : Int) := (by simpa using h); omega)) rfl ?_
                 rintro r2 _ ⟨⟨x2, rv2⟩, rfl, rfl⟩
                 refine WO.fact (OwC.sl (e := 45) (sz := 1) (n := (rimsL m n (bs ++ [(i : Int)])).length) (v := r2) (cs := rv2) Pick.head) (fun h2s => ?_)
                 refine WO.fact (RowsE.ocF (enc := encI) (e := 3) (sz := 1) (rv := rv2) (xss := rimsL m n (bs ++ [(i : Int)])) (Pick.tail Pick.head)) (fun h2o => ?_)
                 refine WO.appendN (m := (rimsL m n (bs ++ [(i : Int)])).length) (news := rv2) rfl rfl rfl rfl rfl (p := by repeat (first | exact Pick.head | apply Pick.tail)) h2s (OwC.cells Pick.head) (by rw [h2o.1]; omega) h2o.2 (by omega) (by omega) rfl (fun x' => ?_)
                 refine WO.p rfl rfl ?_
                 refine WO.nil ?_
                 refine W.chg (rowsApp (enc := encI) (e := 3) (sz := 1) (rv := rv) (xss := yss) (rv' := rv2) (xss' := rimsL m n (bs ++ [(i : Int)])) (by repeat (first | exact Pick.head | apply Pick.tail)) (by repeat (first | exact Pick.head | apply Pick.tail))) ?_
                 rw [← List.length_append]
                 refine W.region ?_
                 refine WO.p rfl rfl (WO.ar rfl rfl rfl (by (first | (unfold in64; omega) | have hx := hb _ (getD_mem (l := bs) (i := ((bs.length : Int) - 1).toNat) (by omega) 0); (unfold in64; omega) | (unfold in64; omega))) rfl (WO.p rfl rfl ?_))
                 refine WO.nil ?_
                 refine' ⟨_, _, _, _, ?hp, ?hmu, ⟨rfl, rfl, rfl, rfl, rfl, trivial⟩, ?hS⟩
                 case hS => repeat (first | exact Sub.nil | refine Sub.cons (by repeat (first | exact Pick.head | apply Pick.tail)) ?_)
                 case hp => exact ⟨by omega, .inl (by omega), by rw [hys, show ((i : Int) + 1).toNat = i + 1 by omega, Int.toNat_natCast, seg_succ (by omega)]⟩
                 case hmu => omega)
            · first
              | (exfalso; omega)
              | (refine W.exit (blk_same ?_)
                 have hye : yss = rimsL (m + 1) n bs := by rw [hys]; exact seg_end (by omega) (by omega) (by omega)
                 refine W.sreg ?_
                 refine WO.p rfl rfl (WO.p rfl rfl ?_)
                 refine WO.nil ?_
                 refine W.ret ?_
                 refine fin.ret (Res.one rfl (RV.tmp rfl)) ⟨(x, rv), rfl, fun h hs => ?_⟩
                 unfold RimsP; rw [← hye]; exact Sub.sat (by repeat (first | exact Sub.nil | refine Sub.cons (by repeat (first | exact Pick.head | apply Pick.tail)) ?_)) hs)))
theorem ref_rims {m : Nat} (hm : m ≤ 3) : RimsC m := by
  match m, hm with
  | 0, _ => exact ref_rims_0
  | 1, _ => exact ref_rims_step (by omega) ref_rims_0
  | 2, _ => exact ref_rims_step (by omega) (ref_rims_step (by omega) ref_rims_0)
  | 3, _ => exact ref_rims_step (by omega) (ref_rims_step (by omega) (ref_rims_step (by omega) ref_rims_0))
end Go.Proofs.Ytkhplcncfogolaa
namespace Go.Proofs.Ytkhplcncfogolaa
open Go Go.TH
attribute [local irreducible] W WO pt
set_option maxRecDepth 10000
set_option maxHeartbeats 1000000
theorem rimOf_at {l : Pts} {m i : Nat} (hm : m < 3) (h : noHit l m) (hi : i < (rimsL (m + 1) l.length []).length) (hb : ∀ j, j < i → hit l ((rimsL (m + 1) l.length []).getD j []) = false) (hh : hit l ((rimsL (m + 1) l.length []).getD i []) = true) : rimOf l = (rimsL (m + 1) l.length []).getD i [] := by
  have g : ∀ j (hj : j < (rimsL (m + 1) l.length []).length), (rimsL (m + 1) l.length []).getD j [] = (rimsL (m + 1) l.length [])[j] := fun j hj => by simp [hj]
  have e : hitAt l m = i := by
    unfold hitAt
    rw [List.findIdx_eq hi]
    exact ⟨by rw [← g i hi]; exact hh, fun j hj => by rw [← g j (by omega)]; exact hb j hj⟩
  exact rimOf_eq hm h (by rw [e]; exact getD_some hi [])
theorem noHit_at {l : Pts} {m i : Nat} (h : noHit l m) (hi : (rimsL (m + 1) l.length []).length ≤ i) (hb : ∀ j, j < i → hit l ((rimsL (m + 1) l.length []).getD j []) = false) : noHit l (m + 1) := by
  refine noHit_succ h ?_
  unfold hitAt
  rcases Nat.lt_or_ge ((rimsL (m + 1) l.length []).findIdx (hit l)) (rimsL (m + 1) l.length []).length with g | g
  · have h1 := List.findIdx_getElem (xs := rimsL (m + 1) l.length []) (p := hit l) (w := g)
    have h2 := hb _ (by omega : (rimsL (m + 1) l.length []).findIdx (hit l) < i)
    rw [show (rimsL (m + 1) l.length []).getD ((rimsL (m + 1) l.length []).findIdx (hit l)) [] = (rimsL (m + 1) l.length [])[(rimsL (m + 1) l.length []).findIdx (hit l)] by simp [g]] at h2
    rw [h2] at h1; cases h1
  · exact g
theorem hit_lt1 {l : Pts} {xss : List (List Int)} {i : Nat} (h : ∀ j, j < i → hit l (xss.getD j []) = false) (hn : ¬ lst (ofL l (xss.getD i [])) = lst l) : ∀ j, j < i + 1 → hit l (xss.getD j []) = false := fun j hj => by
  rcases Nat.lt_or_ge j i with g | g
  · exact h j g
  · obtain rfl : j = i := by omega
    unfold hit; simpa using hn
theorem ref_Rim (w : World) (v : Value) (l : Pts) (hR : RdF encP 2 w.heap.size w v l) :
    Ct Try.prog 39 [v].toArray w fun r w' => ∃ Hq, (∃ x : Value, r = .tuple #[x, .int .i64 (chkL l)] ∧ Hq = [OwE encI 3 1 x (rimV l)]) ∧ Inv w [] Hq w' := by
  refine Ct.ofI mixed tyTab Try.func39 rfl rfl ?_
  replace hR : RdF encP 2 (fnCx mixed tyTab Try.f39.ntmps w).B (fnCx mixed tyTab Try.f39.ntmps w).w0 v l := hR
  have hle := hR.sl.le
  refine W.sreg ?_
  refine WO.p rfl rfl (WO.p rfl rfl ?_)
  refine WO.nil ?_
  refine W.seq ?_
  refine W.sreg ?_
  refine WO.p rfl rfl ?_
  refine WO.callR rfl Try.call35 (fun L w hi => ref_CheckTrack w v l (hR.later hi)) rfl ?_
  refine WO.p rfl rfl ?_
  refine WO.nil ?_
  refine W.cond_bl rfl (fun c1 => ?_) (fun c1 => ?_)
  · first
    | (exfalso; omega)
    | (refine W.sreg ?_
       refine WO.p rfl rfl ?_
       refine WO.callR rfl Try.call35 (fun L w hi => ref_CheckTrack w v l (hR.later hi)) rfl ?_
       refine WO.p rfl rfl (WO.p rfl rfl ?_)
       refine WO.nil ?_
       refine W.ret ?_
       refine fin.ret (Res.two rfl (RV.tmp rfl) (RV.tmp rfl)) ?_
       first | (refine ⟨.slice none 0 0, rfl, ?_⟩; rw [rimV_1 (by assumption)]; exact fun h hs => Sub.sat (.cons .head .nil) (owNil (enc := encI) (e := 3) (sz := 1) h hs)) | (refine ⟨rv.getD i undef, by rw [show chkL l = 0 by omega], ?_⟩; rw [rimV_0 (by omega), hre]; exact fun h hs => Sub.sat (.cons .head .nil) (Pick.rowIn (enc := encI) (e := 3) (sz := 1) (rv := rv) (i := i) (by repeat (first | exact Pick.head | apply Pick.tail)) (by omega) h hs)))
  · first
    | (exfalso; omega)
    | (refine W.skip ?_
       have hok := chkL0.1 (show chkL l = 0 by omega)
       have hne : l ≠ [] := List.length_pos_iff.1 (by omega)
       refine W.sreg ?_
       refine WO.p rfl rfl ?_
       refine WO.callR rfl Try.call47 (fun L w hi => ref_Least w v l (hR.later hi) hok.2 (by omega) (by omega)) rfl ?_
       refine WO.alloc rfl rfl rfl (fun b1 hb1 => ?_)
       refine WO.storeA rfl rfl rfl rfl Pick.head rfl rfl ?_
       refine WO.nil ?_
       refine W.seq ?_
       refine W.sreg ?_
       refine WO.p rfl rfl ?_
       refine WO.nil ?_
       refine W.block ?_
       refine W.loop (fun (m : Nat) => m ≤ 2 ∧ noHit l m)
         (fun (m : Nat) => [(5, .int .i64 ((m : Int) + 1)), (4, .pointer (some ⟨b1, 0, none⟩)), (0, v)])
         (fun (m : Nat) => [pt b1 (.cells #[.int .i64 (lst l).x, .int .i64 (lst l).y, .int .i64 (lst l).den, .int .i64 (lst l).n, .int .i64 (lst l).d] 27 (0, 0))])
         (fun (m : Nat) => 2 - m) 0
         (by exact ⟨by omega, fun j hj => by omega⟩) ⟨rfl, rfl, rfl, trivial⟩ (by repeat (first | exact Sub.nil | refine Sub.cons (by repeat (first | exact Pick.head | apply Pick.tail)) ?_)) ?_
       rintro m ⟨hm0, hno⟩
       refine W.seq ?_
       refine W.sreg ?_
       refine WO.p rfl rfl (WO.p rfl rfl ?_)
       refine WO.nil ?_
       refine W.cond_bl rfl (fun c2 => ?_) (fun c2 => ?_)
       · first
         | (exfalso; omega)
         | (refine W.skip ?_
            refine W.seq ?_
            refine W.block ?_
            refine W.sreg ?_
            refine WO.p rfl rfl (WO.p rfl rfl ?_)
            refine' WO.len (n := _) rfl rfl ?hs rfl ?_
            case hs => (first | exact hR.sl)
            refine WO.chg (owNil (enc := encI) (e := 3) (sz := 1)) ?_
            refine WO.callH1 (A := OwE encI 3 1 (.slice none 0 0) []) rfl Try.call64 Pick.head (fun L w hi hB2 => ref_rims (m := m + 1) (by omega) l.length [] _ w _ hB2 (by omega) (by show 0 + _ ≤ 10; omega) (fun x hx => by simp at hx)) rfl ?_
            rintro r2 _ ⟨⟨x2, rv⟩, rfl, rfl⟩
            refine WO.fact (OwC.sl (e := 45) (sz := 1) (n := (rimsL (m + 1) l.length []).length) (v := r2) (cs := rv) Pick.head) (fun h2s => ?_)
            refine WO.fact (RowsE.ocF (enc := encI) (e := 3) (sz := 1) (rv := rv) (xss := rimsL (m + 1) l.length []) (Pick.tail Pick.head)) (fun h2o => ?_)
            have h2l := h2o.1
            refine WO.p rfl rfl ?_
            refine WO.nil ?_
            refine W.sreg ?_
            refine WO.p rfl rfl ?_
            refine WO.nil ?_
            refine W.block ?_
            refine W.loop (fun (i : Nat) => i ≤ (rimsL (m + 1) l.length []).length ∧ ∀ j, j < i → hit l ((rimsL (m + 1) l.length []).getD j []) = false)
              (fun (i : Nat) => [(7, .int .i64 (i : Int)), (6, r2), (5, .int .i64 ((m : Int) + 1)), (4, .pointer (some ⟨b1, 0, none⟩)), (0, v)])
              (fun (i : Nat) => [OwC 45 1 r2 (rimsL (m + 1) l.length []).length rv, RowsE encI 3 1 rv (rimsL (m + 1) l.length []), pt b1 (.cells #[.int .i64 (lst l).x, .int .i64 (lst l).y, .int .i64 (lst l).den, .int .i64 (lst l).n, .int .i64 (lst l).d] 27 (0, 0))])
              (fun (i : Nat) => (rimsL (m + 1) l.length []).length - i) 0
              (by exact ⟨by omega, fun j hj => by omega⟩) ⟨rfl, rfl, rfl, rfl, rfl, trivial⟩ (by repeat (first | exact Sub.nil | refine Sub.cons (by repeat (first | exact Pick.head | apply Pick.tail)) ?_)) ?_
            rintro i ⟨hi0, hal⟩
            have hLm := rimsL_len (n := l.length) (by omega) (m + 1) []
            have hpow : 24 ^ (m + 1) ≤ 24 ^ 3 := Nat.pow_le_pow_right (by omega) (by omega)
            refine W.seq ?_
            refine W.sreg ?_
            refine WO.p rfl rfl (WO.p rfl rfl ?_)
            refine' WO.len (n := _) rfl rfl ?hs rfl ?_
            case hs => (first | exact h2s)
            refine WO.p rfl rfl ?_
            refine WO.nil ?_
            refine W.cond_bl rfl (fun c3 => ?_) (fun c3 => ?_)
            · first
              | (exfalso; omega)
              | (refine W.skip ?_
                 refine W.seq ?_
                 refine W.block ?_
                 refine W.seq ?_
                 refine W.drawD 8 [.r 0 [], .r 1 [], .r 2 [], .r 3 [], .b 4 [], .b 7 [], .c 5 [], .f 6 []] [] (A0 := []) (Sub.refl _) (by kernel_rfl) ?_ ?_
                 · exact (ALok.r (ALok.r (ALok.r (ALok.r (ALok.b (ALok.b (ALok.c (ALok.f ALok.nil))))))))
                 refine' DT.r rfl rfl rfl ?hq ?_
                 case hq =>
                   refine WO.p rfl rfl ?_
                   exact WO.nil ⟨rfl, rfl⟩
                 refine' DT.r rfl rfl rfl ?hq ?_
                 case hq =>
                   refine WO.p rfl rfl ?_
                   exact WO.nil ⟨rfl, rfl⟩
                 refine' DT.r rfl rfl rfl ?hq ?_
                 case hq =>
                   refine WO.p rfl rfl ?_
                   exact WO.nil ⟨rfl, rfl⟩
                 refine' DT.r rfl rfl rfl ?hq ?_
                 case hq =>
                   refine' WO.indexAddr (n := _) (i := _) rfl rfl rfl ?hs ?h1 rfl ?_
                   case hs => (first | exact h2s)
                   case h1 => (first | omega | (simp; omega))
                   exact WO.nil ⟨rfl, rfl⟩
                 refine' DT.b rfl rfl rfl ?hq ?_
                 case hq =>
                   refine' WO.load (v := _) rfl rfl ?hc rfl ?_
                   case hc => (first | (refine OwC.cell1s (e := 45) (n := (rimsL (m + 1) l.length []).length) (cs := rv) (i := i) ?_ (by omega); repeat (first | exact Sub.nil | refine Sub.cons (by repeat (first | exact Pick.head | apply Pick.tail)) ?_)))
                   exact WO.nil ⟨rfl, rfl⟩
                 refine' DT.b rfl rfl rfl ?hq ?_
                 case hq =>
                   refine WO.loadA rfl rfl (Cells.own (Pick.tail (Pick.tail (Pick.head)))) rfl rfl ?_
                   exact WO.nil ⟨rfl, rfl⟩
                 refine DT.c [_, _, _] rfl rfl rfl rfl ?_
                 have hrm := (rims_rm (n := l.length) (m := m) (by omega) (getD_mem (l := rimsL (m + 1) l.length []) (i := i) (by omega) [])).1
                 refine WO.call (Post := fun r Hq => Hq = [OwE encP 39 2 r (ofL l ((rimsL (m + 1) l.length []).getD i []))]) rfl Try.call56 (fun L w hi => ref_Of w v (rv.getD i undef) l ((rimsL (m + 1) l.length []).getD i []) (hR.later hi) ((RdR.of_ow (e' := 45) (n := (rimsL (m + 1) l.length []).length) (rv := rv) (xss := rimsL (m + 1) l.length []) (e := 3) encI_ok (by repeat (first | exact Pick.head | apply Pick.tail)) (by repeat (first | exact Pick.head | apply Pick.tail)) hi).row i (by omega)) hrm.rng (by have := hrm.len; omega)) rfl ?_
                 rintro ov _ rfl
                 refine WO.nil ⟨_, [_], rfl, rfl, (Keep.b (Keep.b (Keep.r (Keep.r (Keep.r (Keep.r Keep.nil)))))), ?_⟩
                 refine' DT.f [_, _, _, _] rfl rfl rfl rfl ?hq ?_
                 case hq =>
                   refine WO.callR rfl Try.call47 (fun L w hi => ref_Least w ov (ofL l ((rimsL (m + 1) l.length []).getD i [])) (RdF.of_ow (e := 39) encP_ok (by repeat (first | exact Pick.head | apply Pick.tail)) hi) (ofL_ok hok.2 hrm.rng) (by rw [ofL_len]; exact hrm.len.1) (by rw [ofL_len]; have := hrm.len; omega)) rfl ?_
                   exact WO.nil ⟨rfl, rfl⟩
                 refine DT.nil [_, _, _, _] rfl ?_
                 refine WO.eqT rfl rfl (eq27 (lst (ofL l ((rimsL (m + 1) l.length []).getD i []))) (lst l)) rfl ?_
                 refine WO.nil ?_
                 refine W.cond_bl rfl (fun c4 => ?_) (fun c4 => ?_)
                 · first
                   | (exfalso; omega)
                   | (have hre := rimOf_at (by omega) hno (by omega) hal (hit_t.2 (by assumption))
                      refine W.sreg ?_
                      refine WO.p rfl rfl (WO.p rfl rfl ?_)
                      refine' WO.indexAddr (n := _) (i := _) rfl rfl rfl ?hs ?h1 rfl ?_
                      case hs => (first | exact h2s)
                      case h1 => (first | omega | (simp; omega))
                      refine' WO.load (v := _) rfl rfl ?hc rfl ?_
                      case hc => (first | (refine OwC.cell1s (e := 45) (n := (rimsL (m + 1) l.length []).length) (cs := rv) (i := i) ?_ (by omega); repeat (first | exact Sub.nil | refine Sub.cons (by repeat (first | exact Pick.head | apply Pick.tail)) ?_)))
                      refine WO.p rfl rfl (WO.p rfl rfl ?_)
                      refine WO.nil ?_
                      refine W.ret ?_
                      refine fin.ret (Res.two rfl (RV.tmp rfl) (RV.tmp rfl)) ?_
                      first | (refine ⟨.slice none 0 0, rfl, ?_⟩; rw [rimV_1 (by assumption)]; exact fun h hs => Sub.sat (.cons .head .nil) (owNil (enc := encI) (e := 3) (sz := 1) h hs)) | (refine ⟨rv.getD i undef, by rw [show chkL l = 0 by omega], ?_⟩; rw [rimV_0 (by omega), hre]; exact fun h hs => Sub.sat (.cons .head .nil) (Pick.rowIn (enc := encI) (e := 3) (sz := 1) (rv := rv) (i := i) (by repeat (first | exact Pick.head | apply Pick.tail)) (by omega) h hs)))
                 · first
                   | (exfalso; omega)
                   | (refine W.skip ?_
                      refine W.region ?_
                      refine WO.p rfl rfl (WO.ar rfl rfl rfl (by (first | (unfold in64; omega) | (unfold in64; omega))) rfl (WO.p rfl rfl ?_))
                      refine WO.nil ?_
                      refine' ⟨i + 1, ?hp, ?hmu, ⟨rfl, rfl, rfl, rfl, rfl, trivial⟩, ?hS⟩
                      case hS => repeat (first | exact Sub.nil | refine Sub.cons (by repeat (first | exact Pick.head | apply Pick.tail)) ?_)
                      case hp => exact ⟨by omega, hit_lt1 hal (by assumption)⟩
                      case hmu => omega))
            · first
              | (exfalso; omega)
              | (refine W.exit (blk_same ?_)
                 refine W.region ?_
                 refine WO.p rfl rfl (WO.ar rfl rfl rfl (by (first | (unfold in64; omega) | (unfold in64; omega))) rfl (WO.p rfl rfl ?_))
                 refine WO.nil ?_
                 refine' ⟨m + 1, ?hp, ?hmu, ⟨rfl, rfl, rfl, trivial⟩, ?hS⟩
                 case hS => repeat (first | exact Sub.nil | refine Sub.cons (by repeat (first | exact Pick.head | apply Pick.tail)) ?_)
                 case hp => exact ⟨by omega, noHit_at hno (by omega) hal⟩
                 case hmu => omega))
       · first
         | (exfalso; omega)
         | (refine W.exit (blk_same ?_)
            obtain rfl : m = 2 := by omega
            refine W.sreg ?_
            refine WO.p rfl rfl ?_
            refine' WO.len (n := _) rfl rfl ?hs rfl ?_
            case hs => (first | exact hR.sl)
            refine WO.chg (owNil (enc := encI) (e := 3) (sz := 1)) ?_
            refine WO.callH1 (A := OwE encI 3 1 (.slice none 0 0) []) rfl Try.call64 Pick.head (fun L w hi hB2 => ref_rims (m := 3) (by omega) l.length [] _ w _ hB2 (by omega) (by show 0 + _ ≤ 10; omega) (fun x hx => by simp at hx)) rfl ?_
            rintro r2 _ ⟨⟨x2, rv⟩, rfl, rfl⟩
            refine WO.fact (OwC.sl (e := 45) (sz := 1) (n := (rimsL (3) l.length []).length) (v := r2) (cs := rv) Pick.head) (fun h2s => ?_)
            refine WO.fact (RowsE.ocF (enc := encI) (e := 3) (sz := 1) (rv := rv) (xss := rimsL (3) l.length []) (Pick.tail Pick.head)) (fun h2o => ?_)
            have h2l := h2o.1
            refine WO.p rfl rfl ?_
            refine WO.nil ?_
            refine W.seq ?_
            refine W.sreg ?_
            refine WO.p rfl rfl ?_
            refine WO.nil ?_
            refine W.block ?_
            refine W.loop (fun (i : Nat) => i ≤ (rimsL (3) l.length []).length ∧ ∀ j, j < i → hit l ((rimsL (3) l.length []).getD j []) = false)
              (fun (i : Nat) => [(9, .int .i64 (i : Int)), (8, r2), (4, .pointer (some ⟨b1, 0, none⟩)), (0, v)])
              (fun (i : Nat) => [OwC 45 1 r2 (rimsL (3) l.length []).length rv, RowsE encI 3 1 rv (rimsL (3) l.length []), pt b1 (.cells #[.int .i64 (lst l).x, .int .i64 (lst l).y, .int .i64 (lst l).den, .int .i64 (lst l).n, .int .i64 (lst l).d] 27 (0, 0))])
              (fun (i : Nat) => (rimsL (3) l.length []).length - i) 0
              (by exact ⟨by omega, fun j hj => by omega⟩) ⟨rfl, rfl, rfl, rfl, trivial⟩ (by repeat (first | exact Sub.nil | refine Sub.cons (by repeat (first | exact Pick.head | apply Pick.tail)) ?_)) ?_
            rintro i ⟨hi0, hal⟩
            have hLm := rimsL_len (n := l.length) (by omega) (3) []
            have hpow : 24 ^ (3) ≤ 24 ^ 3 := Nat.pow_le_pow_right (by omega) (by omega)
            refine W.seq ?_
            refine W.sreg ?_
            refine WO.p rfl rfl (WO.p rfl rfl ?_)
            refine' WO.len (n := _) rfl rfl ?hs rfl ?_
            case hs => (first | exact h2s)
            refine WO.p rfl rfl ?_
            refine WO.nil ?_
            refine W.cond_bl rfl (fun c5 => ?_) (fun c5 => ?_)
            · first
              | (exfalso; omega)
              | (refine W.skip ?_
                 refine W.seq ?_
                 refine W.block ?_
                 refine W.seq ?_
                 refine W.drawD 8 [.r 0 [], .r 1 [], .r 2 [], .r 3 [], .b 4 [], .b 7 [], .c 5 [], .f 6 []] [] (A0 := []) (Sub.refl _) (by kernel_rfl) ?_ ?_
                 · exact (ALok.r (ALok.r (ALok.r (ALok.r (ALok.b (ALok.b (ALok.c (ALok.f ALok.nil))))))))
                 refine' DT.r rfl rfl rfl ?hq ?_
                 case hq =>
                   refine WO.p rfl rfl ?_
                   exact WO.nil ⟨rfl, rfl⟩
                 refine' DT.r rfl rfl rfl ?hq ?_
                 case hq =>
                   refine WO.p rfl rfl ?_
                   exact WO.nil ⟨rfl, rfl⟩
                 refine' DT.r rfl rfl rfl ?hq ?_
                 case hq =>
                   refine WO.p rfl rfl ?_
                   exact WO.nil ⟨rfl, rfl⟩
                 refine' DT.r rfl rfl rfl ?hq ?_
                 case hq =>
                   refine' WO.indexAddr (n := _) (i := _) rfl rfl rfl ?hs ?h1 rfl ?_
                   case hs => (first | exact h2s)
                   case h1 => (first | omega | (simp; omega))
                   exact WO.nil ⟨rfl, rfl⟩
                 refine' DT.b rfl rfl rfl ?hq ?_
                 case hq =>
                   refine' WO.load (v := _) rfl rfl ?hc rfl ?_
                   case hc => (first | (refine OwC.cell1s (e := 45) (n := (rimsL 3 l.length []).length) (cs := rv) (i := i) ?_ (by omega); repeat (first | exact Sub.nil | refine Sub.cons (by repeat (first | exact Pick.head | apply Pick.tail)) ?_)))
                   exact WO.nil ⟨rfl, rfl⟩
                 refine' DT.b rfl rfl rfl ?hq ?_
                 case hq =>
                   refine WO.loadA rfl rfl (Cells.own (Pick.tail (Pick.tail (Pick.head)))) rfl rfl ?_
                   exact WO.nil ⟨rfl, rfl⟩
                 refine DT.c [_, _, _] rfl rfl rfl rfl ?_
                 have hrm := (rims_rm (n := l.length) (m := 2) (by omega) (getD_mem (l := rimsL (3) l.length []) (i := i) (by omega) [])).1
                 refine WO.call (Post := fun r Hq => Hq = [OwE encP 39 2 r (ofL l ((rimsL (3) l.length []).getD i []))]) rfl Try.call56 (fun L w hi => ref_Of w v (rv.getD i undef) l ((rimsL (3) l.length []).getD i []) (hR.later hi) ((RdR.of_ow (e' := 45) (n := (rimsL (3) l.length []).length) (rv := rv) (xss := rimsL (3) l.length []) (e := 3) encI_ok (by repeat (first | exact Pick.head | apply Pick.tail)) (by repeat (first | exact Pick.head | apply Pick.tail)) hi).row i (by omega)) hrm.rng (by have := hrm.len; omega)) rfl ?_
                 rintro ov _ rfl
                 refine WO.nil ⟨_, [_], rfl, rfl, (Keep.b (Keep.b (Keep.r (Keep.r (Keep.r (Keep.r Keep.nil)))))), ?_⟩
                 refine' DT.f [_, _, _, _] rfl rfl rfl rfl ?hq ?_
                 case hq =>
                   refine WO.callR rfl Try.call47 (fun L w hi => ref_Least w ov (ofL l ((rimsL (3) l.length []).getD i [])) (RdF.of_ow (e := 39) encP_ok (by repeat (first | exact Pick.head | apply Pick.tail)) hi) (ofL_ok hok.2 hrm.rng) (by rw [ofL_len]; exact hrm.len.1) (by rw [ofL_len]; have := hrm.len; omega)) rfl ?_
                   exact WO.nil ⟨rfl, rfl⟩
                 refine DT.nil [_, _, _, _] rfl ?_
                 refine WO.eqT rfl rfl (eq27 (lst (ofL l ((rimsL 3 l.length []).getD i []))) (lst l)) rfl ?_
                 refine WO.nil ?_
                 refine W.cond_bl rfl (fun c6 => ?_) (fun c6 => ?_)
                 · first
                   | (exfalso; omega)
                   | (have hre : rimOf l = (rimsL 3 l.length []).getD i [] := rimOf_at (m := 2) (by omega) hno (show i < (rimsL 3 l.length []).length by omega) hal (hit_t.2 (by assumption))
                      refine W.sreg ?_
                      refine WO.p rfl rfl (WO.p rfl rfl ?_)
                      refine' WO.indexAddr (n := _) (i := _) rfl rfl rfl ?hs ?h1 rfl ?_
                      case hs => (first | exact h2s)
                      case h1 => (first | omega | (simp; omega))
                      refine' WO.load (v := _) rfl rfl ?hc rfl ?_
                      case hc => (first | (refine OwC.cell1s (e := 45) (n := (rimsL 3 l.length []).length) (cs := rv) (i := i) ?_ (by omega); repeat (first | exact Sub.nil | refine Sub.cons (by repeat (first | exact Pick.head | apply Pick.tail)) ?_)))
                      refine WO.p rfl rfl (WO.p rfl rfl ?_)
                      refine WO.nil ?_
                      refine W.ret ?_
                      refine fin.ret (Res.two rfl (RV.tmp rfl) (RV.tmp rfl)) ?_
                      first | (refine ⟨.slice none 0 0, rfl, ?_⟩; rw [rimV_1 (by assumption)]; exact fun h hs => Sub.sat (.cons .head .nil) (owNil (enc := encI) (e := 3) (sz := 1) h hs)) | (refine ⟨rv.getD i undef, by rw [show chkL l = 0 by omega], ?_⟩; rw [rimV_0 (by omega), hre]; exact fun h hs => Sub.sat (.cons .head .nil) (Pick.rowIn (enc := encI) (e := 3) (sz := 1) (rv := rv) (i := i) (by repeat (first | exact Pick.head | apply Pick.tail)) (by omega) h hs)))
                 · first
                   | (exfalso; omega)
                   | (refine W.skip ?_
                      refine W.region ?_
                      refine WO.p rfl rfl (WO.ar rfl rfl rfl (by (first | (unfold in64; omega) | (unfold in64; omega))) rfl (WO.p rfl rfl ?_))
                      refine WO.nil ?_
                      refine' ⟨i + 1, ?hp, ?hmu, ⟨rfl, rfl, rfl, rfl, trivial⟩, ?hS⟩
                      case hS => repeat (first | exact Sub.nil | refine Sub.cons (by repeat (first | exact Pick.head | apply Pick.tail)) ?_)
                      case hp => exact ⟨by omega, hit_lt1 hal (by assumption)⟩
                      case hmu => omega))
            · first
              | (exfalso; omega)
              | (refine W.exit (blk_same ?_)
                 exfalso
                 exact noHit_3 hok.2 hne (noHit_at (m := 2) (i := i) hno (show (rimsL 3 l.length []).length ≤ i by omega) hal))))
end Go.Proofs.Ytkhplcncfogolaa
namespace Go.Proofs.Ytkhplcncfogolaa
open Go Go.TH
attribute [local irreducible] W WO pt
set_option maxRecDepth 10000
set_option maxHeartbeats 1000000
/-- how the smallest circle grows -/
def growL (l : Pts) (k : Nat) : List (Int × Int) := (List.range k).map fun i => ((lst (l.take (i + 1))).n, (lst (l.take (i + 1))).d)
theorem growL_succ (l : Pts) (k : Nat) : growL l (k + 1) = growL l k ++ [((lst (l.take (k + 1))).n, (lst (l.take (k + 1))).d)] := by
  unfold growL; rw [List.range_succ, List.map_append]; rfl
theorem growL_len (l : Pts) (k : Nat) : (growL l k).length = k := by unfold growL; simp
/-- what Growth answers -/
def growV (l : Pts) : List (Int × Int) := if chkL l = 0 then growL l l.length else []
theorem growV_0 {l : Pts} (h : chkL l = 0) : growV l = growL l l.length := by unfold growV; rw [if_pos h]
theorem growV_1 {l : Pts} (h : chkL l ≠ 0) : growV l = [] := by unfold growV; rw [if_neg h]
theorem take_ok {l : Pts} (h : OkL l) (k : Nat) : OkL (l.take k) := fun p hp => h p (mem_take p hp)
/-- a slice that has at least as much room as it is long -/
def HasCap (v : Value) (n : Nat) : Prop := ∃ a c, v = .slice a n c ∧ n ≤ c
theorem ref_Growth (w : World) (v : Value) (l : Pts) (hR : RdF encP 2 w.heap.size w v l) (hv : HasCap v l.length) :
    Ct Try.prog 19 [v].toArray w fun r w' => ∃ Hq, (∃ x : Value, r = .tuple #[x, .int .i64 (chkL l)] ∧ Hq = [OwE encP 25 2 x (growV l)]) ∧ Inv w [] Hq w' := by
  refine Ct.ofI mixed tyTab Try.func19 rfl rfl ?_
  obtain ⟨va, vc, rfl, hcap⟩ := hv
  replace hR : RdF encP 2 (fnCx mixed tyTab Try.f19.ntmps w).B (fnCx mixed tyTab Try.f19.ntmps w).w0 (.slice va l.length vc) l := hR
  have hle := hR.sl.le
  refine W.sreg ?_
  refine WO.p rfl rfl (WO.p rfl rfl ?_)
  refine WO.nil ?_
  refine W.seq ?_
  refine W.sreg ?_
  refine WO.p rfl rfl ?_
  refine WO.callR rfl Try.call35 (fun L w hi => ref_CheckTrack w _ l (hR.later hi)) rfl ?_
  refine WO.p rfl rfl ?_
  refine WO.nil ?_
  refine W.cond_bl rfl (fun c1 => ?_) (fun c1 => ?_)
  · first
    | (exfalso; omega)
    | (refine W.sreg ?_
       refine WO.p rfl rfl ?_
       refine WO.callR rfl Try.call35 (fun L w hi => ref_CheckTrack w _ l (hR.later hi)) rfl ?_
       refine WO.p rfl rfl (WO.p rfl rfl ?_)
       refine WO.nil ?_
       refine W.ret ?_
       refine fin.ret (Res.two rfl (RV.tmp rfl) (RV.tmp rfl)) ?_
       first | (refine ⟨.slice none 0 0, rfl, ?_⟩; rw [growV_1 (by assumption)]; exact fun h hs => Sub.sat (.cons .head .nil) (owNil (enc := encP) (e := 25) (sz := 2) h hs)) | (refine ⟨x, by rw [show chkL l = 0 by omega], ?_⟩; rw [growV_0 (by omega)]; exact fun h hs => hs))
  · first
    | (exfalso; omega)
    | (refine W.skip ?_
       have hok := chkL0.1 (show chkL l = 0 by omega)
       refine W.sreg ?_
       refine WO.p rfl rfl ?_
       refine WO.nil ?_
       refine W.seq ?_
       refine W.sreg ?_
       refine WO.p rfl rfl ?_
       refine WO.nil ?_
       refine W.block ?_
       refine W.chg (owNil (enc := encP) (e := 25) (sz := 2)) ?_
       refine W.loop2 (fun (k : Nat) (x : Value) => k ≤ l.length)
         (fun (k : Nat) (x : Value) => [(5, .int .i64 ((k : Int) + 1)), (4, x), (0, .slice va l.length vc)])
         (fun (k : Nat) (x : Value) => [OwE encP 25 2 x (growL l k)])
         (fun (k : Nat) (x : Value) => l.length - k) 0 (.slice none 0 0)
         (by omega) ⟨rfl, rfl, rfl, trivial⟩ (by repeat (first | exact Sub.nil | refine Sub.cons (by repeat (first | exact Pick.head | apply Pick.tail)) ?_)) ?_
       rintro k x hk0
       refine W.seq ?_
       refine W.sreg ?_
       refine WO.p rfl rfl (WO.p rfl rfl ?_)
       refine' WO.len (n := _) rfl rfl ?hs rfl ?_
       case hs => (first | exact hR.sl)
       refine WO.p rfl rfl ?_
       refine WO.nil ?_
       refine W.cond_bl rfl (fun c2 => ?_) (fun c2 => ?_)
       · first
         | (exfalso; omega)
         | (refine W.skip ?_
            refine W.seq ?_
            refine W.block ?_
            refine W.region ?_
            refine WO.p rfl rfl (WO.p rfl rfl (WO.p rfl rfl ?_))
            refine WO.slSl (lo := 0) (hi := k + 1) (mx := vc) rfl rfl bnd.no (bnd.at (n := k + 1) rfl) bnd.no (fun h => (by cases h)) (by omega) (by omega) (by omega) rfl ?_
            refine WO.callR rfl Try.call47 (fun L w hi => ref_Least w _ (l.take (k + 1)) ((hR.later hi).sub (lo := 0) (hi := k + 1) (mx := vc) (by omega) (by omega) (by omega)) (take_ok hok.2 _) (by rw [List.length_take]; omega) (by rw [List.length_take]; omega)) rfl ?_
            refine WO.fieldN rfl rfl rfl rfl rfl ?_
            refine' WO.buildSl (cs := _) rfl rfl rfl rfl ?hf rfl rfl ?hl rfl (fun v1 => ?_)
            case hf => (conv => lhs; simp [-List.getD_eq_getElem?_getD, fillL, vcl, wrl, TTab.pl?.lget']) <;> rfl
            case hl => rfl
            refine' WO.appendE (enc := encP) (m := 1) (ys := [((lst (l.take (k + 1))).n, (lst (l.take (k + 1))).d)]) encP_ok rfl rfl rfl rfl rfl (by repeat (first | exact Pick.head | apply Pick.tail)) (isSl_lit (by omega) (fun _ => ⟨_, _, rfl⟩)) (by omega) rfl (OwC.cells .head) (by rw [growL_len]; omega) (by rw [growL_len]; omega) rfl (fun g c => ?_)
            rw [← growL_succ]
            refine WO.p rfl rfl ?_
            refine WO.nil ?_
            refine W.region ?_
            refine WO.p rfl rfl (WO.ar rfl rfl rfl (by (first | (unfold in64; omega) | (unfold in64; omega))) rfl (WO.p rfl rfl ?_))
            refine WO.nil ?_
            refine' ⟨k + 1, _, ?hp, ?hmu, ⟨rfl, rfl, rfl, trivial⟩, ?hS⟩
            case hS => repeat (first | exact Sub.nil | refine Sub.cons (by repeat (first | exact Pick.head | apply Pick.tail)) ?_)
            case hp => omega
            case hmu => omega)
       · first
         | (exfalso; omega)
         | (refine W.exit (blk_same ?_)
            obtain rfl : l.length = k := by omega
            refine W.sreg ?_
            refine WO.p rfl rfl (WO.p rfl rfl (WO.p rfl rfl ?_))
            refine WO.nil ?_
            refine W.ret ?_
            refine fin.ret (Res.two rfl (RV.tmp rfl) (RV.tmp rfl)) ?_
            first | (refine ⟨.slice none 0 0, rfl, ?_⟩; rw [growV_1 (by assumption)]; exact fun h hs => Sub.sat (.cons .head .nil) (owNil (enc := encP) (e := 25) (sz := 2) h hs)) | (refine ⟨x, by rw [show chkL l = 0 by omega], ?_⟩; rw [growV_0 (by omega)]; exact fun h hs => hs)))
/-- what the table of circles knows -/
def Known (l : Pts) (k : Nat) (es : Array MapEntry) : Prop := (k = 0 ∧ es = #[]) ∨ (0 < k ∧ ∃ (a : Option Addr) (n c : Nat) (born : Nat), es = #[{ key := .int .i64 (k : Int), val := ringV (lst (l.take k)) (.slice a n c), born := born }])
theorem known_look {l : Pts} {k : Nat} {es : Array MapEntry} (h : Known l k es) : ∃ (c' : Cir) (a : Option Addr) (n c : Nat), (0 < k → c' = lst (l.take k)) ∧ ((∃ i, Instr.findNow (.int .i64) (.int .i64 ((k : Int) + 1 - 1)) es.toList 0 = some (some (i, ringV c' (.slice a n c))) ∧ bl (0 < k) = true) ∨
    (Instr.findNow (.int .i64) (.int .i64 ((k : Int) + 1 - 1)) es.toList 0 = some none ∧ ringV c' (.slice a n c) = ringV c00 (.slice none 0 0) ∧ bl (0 < k) = false)) := by
  rcases h with ⟨rfl, rfl⟩ | ⟨h0, a, n, c, born, rfl⟩
  · exact ⟨c00, none, 0, 0, fun h => by omega, .inr ⟨rfl, rfl, bl_f.2 (by omega)⟩⟩
  · refine ⟨_, a, n, c, fun _ => rfl, .inl ⟨0, ?_, bl_t.2 h0⟩⟩
    rw [show (k : Int) + 1 - 1 = k by omega]
    simp [Instr.findNow, Instr.sameNow]
theorem known_ins {l : Pts} {k : Nat} {es : Array MapEntry} (h : Known l k es) : Instr.findNow (.int .i64) (.int .i64 ((k : Int) + 1)) es.toList 0 = some none := by
  rcases h with ⟨rfl, rfl⟩ | ⟨h0, a, n, c, born, rfl⟩
  · rfl
  · have e : (((k : Int) + 1) == (k : Int)) = false := by rw [beq_eq_false_iff_ne]; omega
    simp [Instr.findNow, Instr.sameNow, e]
theorem known_del {l : Pts} {k : Nat} {es : Array MapEntry} {v : Value} {clk : Nat} (h : Known l k es) : (∃ i u, Instr.findNow (.int .i64) (.int .i64 ((k : Int) + 1 - 1)) (es.push { key := .int .i64 ((k : Int) + 1), val := v, born := clk }).toList 0 = some (some (i, u)) ∧ #[{ key := .int .i64 ((k : Int) + 1), val := v, born := clk }] = (es.push { key := .int .i64 ((k : Int) + 1), val := v, born := clk }).eraseIdxIfInBounds i) ∨
    (Instr.findNow (.int .i64) (.int .i64 ((k : Int) + 1 - 1)) (es.push { key := .int .i64 ((k : Int) + 1), val := v, born := clk }).toList 0 = some none ∧ #[{ key := .int .i64 ((k : Int) + 1), val := v, born := clk }] = es.push { key := .int .i64 ((k : Int) + 1), val := v, born := clk }) := by
  rcases h with ⟨rfl, rfl⟩ | ⟨h0, a, n, c, born, rfl⟩
  · exact .inr ⟨by simp [Instr.findNow, Instr.sameNow], rfl⟩
  · refine .inl ⟨0, ringV (lst (l.take k)) (.slice a n c), ?_, ?_⟩
    · rw [show (k : Int) + 1 - 1 = k by omega]
      simp [Instr.findNow, Instr.sameNow]
    · apply Array.ext'; simp [Array.eraseIdxIfInBounds]
theorem keep_lst {l : Pts} {k : Nat} (hl : OkL l) (h0 : 0 < k) (hk : k < l.length) (hw : ¬ 0 < whr (lst (l.take k)) (l.at k)) : lst (l.take k) = lst (l.take (k + 1)) := by
  have hs := lst_sm (take_ok hl k) (List.length_pos_iff.1 (by rw [List.length_take]; omega))
  refine Sm.lst (take_ok hl (k + 1)) (List.length_pos_iff.1 (by rw [List.length_take]; omega)) (hs.more (fun p hp => ?_) (fun p hp => ?_))
  · rw [take_at hk]; exact List.mem_append.2 (.inl hp)
  · rw [take_at hk] at hp
    rcases List.mem_append.1 hp with h | h
    · exact hs.hold p h
    · obtain rfl : p = l.at k := by simpa using h
      omega
theorem keep2 {l : Pts} {k : Nat} {c' : Cir} (hl : OkL l) (hc : 0 < k → c' = lst (l.take k)) (h0 : 0 < k) (hk : k < l.length) (hw : ¬ 0 < whr c' (l.at k)) : c' = lst (l.take (k + 1)) := by
  rw [hc h0] at hw ⊢
  exact keep_lst hl h0 hk hw
theorem OwE.formS {α : Type} {P : Program} {C : Cx P} {H H' : List HP} {enc : α → List Value} {e sz : Nat} {v : Value} {xs : List α} (p : Pick (OwE enc e sz v xs) H H') : ∀ (L : List HP) w, Inv C.w0 C.M (L ++ H) w → ∃ a c, v = .slice a xs.length c ∧ xs.length ≤ c ∧ (0 < xs.length → ∃ b o, a = some ⟨b, o, none⟩) := fun L w hi => by
  obtain ⟨_, hcase⟩ := OwC.open (hi.pickL p)
  rcases hcase with ⟨h1, h2, _⟩ | ⟨g, cap, cur, rfl, q1, _⟩
  · exact ⟨none, 0, by rw [h1, h2], by omega, fun h => by omega⟩
  · exact ⟨_, _, rfl, q1, fun _ => ⟨_, _, rfl⟩⟩
theorem c_Growth (w : World) (v : Value) (l : Pts) (hR : RdF encP 2 w.heap.size w v l) :
    Ct Try.prog 18 [v].toArray w fun r w' => ∃ Hq, (∃ x : Value, r = .tuple #[x, .int .i64 (chkL l)] ∧ Hq = [OwE encP 25 2 x (growV l)]) ∧ Inv w [] Hq w' := by
  refine Ct.ofI mixed tyTab Try.func18 rfl rfl ?_
  replace hR : RdF encP 2 (fnCx mixed tyTab Try.f18.ntmps w).B (fnCx mixed tyTab Try.f18.ntmps w).w0 v l := hR
  have hle := hR.sl.le
  refine W.sreg ?_
  refine WO.p rfl rfl (WO.p rfl rfl ?_)
  refine WO.nil ?_
  refine W.seq ?_
  refine W.sreg ?_
  refine WO.p rfl rfl ?_
  refine WO.callR rfl Try.call34 (fun L w hi => c_CheckTrack w v l (hR.later hi)) rfl ?_
  refine WO.p rfl rfl ?_
  refine WO.nil ?_
  refine W.sreg ?_
  refine WO.p rfl rfl (WO.p rfl rfl ?_)
  refine WO.nil ?_
  refine W.cond_bl rfl (fun c1 => ?_) (fun c1 => ?_)
  · first
    | (exfalso; omega)
    | (refine W.sreg ?_
       refine WO.p rfl rfl (WO.p rfl rfl (WO.p rfl rfl ?_))
       refine WO.nil ?_
       refine W.ret ?_
       refine fin.ret (Res.two rfl (RV.tmp rfl) (RV.tmp rfl)) ?_
       first | (refine ⟨.slice none 0 0, rfl, ?_⟩; rw [growV_1 (by assumption)]; exact fun h hs => Sub.sat (.cons .head .nil) (owNil (enc := encP) (e := 25) (sz := 2) h hs)) | (refine ⟨x, by rw [show chkL l = 0 by omega], ?_⟩; rw [growV_0 (by omega)]; exact fun h hs => Sub.sat (.cons .head .nil) hs))
  · first
    | (exfalso; omega)
    | (refine W.skip ?_
       refine W.sreg ?_
       refine WO.p rfl rfl ?_
       have hok := chkL0.1 (show chkL l = 0 by omega)
       refine WO.call (Post := fun r Hq => Hq = [OwE encP 74 2 r l]) rfl Try.call46 (fun L w hi => c_points w v l (hR.later hi) (by omega)) rfl ?_
       rintro pv _ rfl
       refine WO.fact (OwE.formS (enc := encP) (e := 74) (sz := 2) (v := pv) (xs := l) (by repeat (first | exact Pick.head | apply Pick.tail))) (fun hfc => ?_)
       obtain ⟨pa, pc, rfl, hps⟩ := hfc
       refine WO.p rfl rfl ?_
       refine WO.nil ?_
       refine W.sreg ?_
       refine WO.p rfl rfl ?_
       refine WO.nil ?_
       refine W.sreg ?_
       refine WO.makeMap rfl (fun mb => ?_)
       refine WO.p rfl rfl ?_
       refine WO.nil ?_
       refine W.seq ?_
       refine W.sreg ?_
       refine WO.p rfl rfl ?_
       refine WO.nil ?_
       refine W.block ?_
       refine W.chg (owNil (enc := encP) (e := 25) (sz := 2)) ?_
       refine W.loop4 (fun (k : Nat) (x : Value) (es : Array MapEntry) (clk : Nat) => k ≤ l.length ∧ Known l k es)
         (fun (k : Nat) (x : Value) (es : Array MapEntry) (clk : Nat) => [(8, .int .i64 ((k : Int) + 1)), (7, .map (some mb)), (6, x), (5, .slice pa l.length pc)])
         (fun (k : Nat) (x : Value) (es : Array MapEntry) (clk : Nat) => [OwE encP 25 2 x (growL l k), pt mb (.map es clk), OwE encP 74 2 (.slice pa l.length pc) l])
         (fun (k : Nat) (x : Value) (es : Array MapEntry) (clk : Nat) => l.length - k) 0 (.slice none 0 0) #[] 0
         (by exact ⟨by omega, .inl ⟨rfl, rfl⟩⟩) ⟨rfl, rfl, rfl, rfl, trivial⟩ (by repeat (first | exact Sub.nil | refine Sub.cons (by repeat (first | exact Pick.head | apply Pick.tail)) ?_)) ?_
       rintro k x es clk ⟨hk0, hkn⟩
       refine W.seq ?_
       refine W.sreg ?_
       refine WO.p rfl rfl (WO.p rfl rfl ?_)
       refine' WO.len (n := _) rfl rfl ?hs rfl ?_
       case hs => (first | exact isSl_lit (by omega) (fun h => hps.2 h))
       refine WO.p rfl rfl ?_
       refine WO.nil ?_
       refine W.cond_bl rfl (fun c2 => ?_) (fun c2 => ?_)
       · first
         | (exfalso; omega)
         | (refine W.skip ?_
            refine W.seq ?_
            refine W.block ?_
            obtain ⟨c', xa, xn, xk, hcl, hlook⟩ := known_look hkn
            have hkn2 := known_ins hkn
            refine W.sreg ?_
            refine WO.p rfl rfl (WO.p rfl rfl (WO.ar rfl rfl rfl (by (first | (unfold in64; omega) | (unfold in64; omega))) rfl ?_))
            refine WO.lookupC (q := .i64) (v := ringV c' (.slice xa xn xk)) (ok := bl (0 < k)) rfl rfl rfl rfl (by repeat (first | exact Pick.head | apply Pick.tail)) (hlook.imp id (fun h => ⟨h.1, by rw [h.2.1]; rfl, h.2.2⟩)) rfl ?_
            refine WO.p rfl rfl (WO.p rfl rfl (WO.p rfl rfl ?_))
            refine WO.alloc rfl rfl rfl (fun b1 hb1 => ?_)
            refine WO.storeA rfl rfl rfl rfl Pick.head rfl rfl (WO.p rfl rfl ?_)
            refine WO.nil ?_
            refine W.seq ?_
            refine W.seq ?_
            refine W.drawD 9 [.r 0 [], .r 1 [], .r 2 [], .b 3 [], .r 4 [], .r 5 [], .r 6 [], .r 7 [], .b 8 []] [] (A0 := []) (Sub.refl _) (by kernel_rfl) ?_ ?_
            · exact (ALok.r (ALok.r (ALok.r (ALok.b (ALok.r (ALok.r (ALok.r (ALok.r (ALok.b ALok.nil)))))))))
            refine' DT.r rfl rfl rfl ?hq ?_
            case hq =>
              refine WO.p rfl rfl ?_
              exact WO.nil ⟨rfl, rfl⟩
            refine' DT.r rfl rfl rfl ?hq ?_
            case hq =>
              refine WO.p rfl rfl ?_
              exact WO.nil ⟨rfl, rfl⟩
            refine' DT.rNB rfl rfl rfl ?hq (fun c3 => ?_) (fun c3 => ?_)
            case hq =>
              refine WO.p rfl rfl ?_
              exact WO.nil ⟨rfl, rfl⟩
            · first
              | (exfalso; omega)
              | (refine' DT.b rfl rfl rfl ?hq ?_
                 case hq =>
                   refine WO.no rfl rfl ?_
                   exact WO.nil ⟨rfl, rfl⟩
                 refine' DT.r rfl rfl rfl ?hq ?_
                 case hq =>
                   refine WO.no rfl rfl ?_
                   exact WO.nil ⟨rfl, rfl⟩
                 refine' DT.r rfl rfl rfl ?hq ?_
                 case hq =>
                   refine WO.no rfl rfl ?_
                   exact WO.nil ⟨rfl, rfl⟩
                 refine' DT.r rfl rfl rfl ?hq ?_
                 case hq =>
                   refine WO.no rfl rfl ?_
                   exact WO.nil ⟨rfl, rfl⟩
                 refine' DT.r rfl rfl rfl ?hq ?_
                 case hq =>
                   refine WO.no rfl rfl ?_
                   exact WO.nil ⟨rfl, rfl⟩
                 refine' DT.b rfl rfl rfl ?hq ?_
                 case hq =>
                   refine WO.no rfl rfl ?_
                   exact WO.nil ⟨rfl, rfl⟩
                 refine DT.nil [_, _, _, _] rfl ?_
                 refine WO.no rfl rfl (WO.no rfl rfl (WO.p rfl rfl ?_))
                 refine WO.nil ?_
                 refine W.cond_t rfl ?_
                 refine W.region ?_
                 refine WO.p rfl rfl (WO.p rfl rfl (WO.p rfl rfl ?_))
                 refine WO.slSl (lo := 0) (hi := k + 1) (mx := k + 1) rfl rfl bnd.no (bnd.at (n := k + 1) rfl) (bnd.at (n := k + 1) rfl) (fun _ => rfl) (by omega) (by omega) (by omega) rfl ?_
                 refine WO.callE rfl Try.call45 (fun L w hi => c_grown w _ (l.take (k + 1)) ((RdF.of_ow (e := 74) (xs := l) encP_ok (by repeat (first | exact Pick.head | apply Pick.tail)) hi).sub (lo := 0) (hi := k + 1) (mx := k + 1) (by omega) (by omega) (by omega)) (take_ok hok.2 _) (by rw [List.length_take]; omega) (by rw [List.length_take]; omega)) rfl ?_
                 rintro _ ⟨ga, gn, gk, rfl⟩
                 refine WO.storeA rfl rfl rfl rfl Pick.head rfl rfl ?_
                 refine WO.nil ?_
                 first
                 | (have hcc : c' = lst (l.take (k + 1)) := keep2 hok.2 hcl (by assumption) (by omega) (by assumption); subst hcc)
                 | skip
                 refine W.sreg ?_
                 refine WO.p rfl rfl (WO.p rfl rfl (WO.loadA rfl rfl (Cells.own Pick.head) rfl rfl ?_))
                 refine WO.updateI (q := .i64) (k := .int .i64 ((k : Int) + 1)) rfl rfl rfl rfl rfl (by repeat (first | exact Pick.head | apply Pick.tail)) hkn2 ?_
                 refine WO.nil ?_
                 refine W.sreg ?_
                 refine WO.p rfl rfl (WO.p rfl rfl (WO.ar rfl rfl rfl (by (first | (unfold in64; omega) | (unfold in64; omega))) rfl ?_))
                 refine WO.deleteI (q := .i64) (k := .int .i64 ((k : Int) + 1 - 1)) rfl rfl rfl rfl rfl (by repeat (first | exact Pick.head | apply Pick.tail)) (known_del hkn) ?_
                 refine WO.nil ?_
                 refine W.region ?_
                 refine WO.p rfl rfl (WO.field0 rfl rfl rfl (WO.fieldL rfl rfl rfl (WO.loadA rfl rfl (Cells.ownAt (n := 2) (Pick.tail (Pick.head)) rfl) rfl rfl ?_)))
                 refine' WO.buildSl (cs := _) rfl rfl rfl rfl ?hf rfl rfl ?hl rfl (fun v2 => ?_)
                 case hf => (conv => lhs; simp [-List.getD_eq_getElem?_getD, fillL, vcl, wrl, TTab.pl?.lget']) <;> rfl
                 case hl => rfl
                 refine' WO.appendE (enc := encP) (m := 1) (ys := [((lst (l.take (k + 1))).n, (lst (l.take (k + 1))).d)]) encP_ok rfl rfl rfl rfl rfl (by repeat (first | exact Pick.head | apply Pick.tail)) (isSl_lit (by omega) (fun _ => ⟨_, _, rfl⟩)) (by omega) rfl (OwC.cells .head) (by rw [growL_len]; omega) (by rw [growL_len]; omega) rfl (fun g c => ?_)
                 rw [← growL_succ]
                 refine WO.p rfl rfl ?_
                 refine WO.nil ?_
                 refine W.region ?_
                 refine WO.p rfl rfl (WO.ar rfl rfl rfl (by (first | (unfold in64; omega) | (unfold in64; omega))) rfl (WO.p rfl rfl ?_))
                 refine WO.nil ?_
                 refine' ⟨k + 1, _, _, _, ?hp, ?hmu, ⟨rfl, rfl, rfl, rfl, trivial⟩, ?hS⟩
                 case hS => repeat (first | exact Sub.nil | refine Sub.cons (by repeat (first | exact Pick.head | apply Pick.tail)) ?_)
                 case hp => exact ⟨by omega, .inr ⟨by omega, _, _, _, _, rfl⟩⟩
                 case hmu => omega)
            · first
              | (exfalso; omega)
              | (refine' DT.b rfl rfl rfl ?hq ?_
                 case hq =>
                   refine WO.go' rfl (WO.loadA rfl rfl (Cells.own Pick.head) rfl rfl ?_)
                   exact WO.nil ⟨rfl, rfl⟩
                 refine' DT.r rfl rfl rfl ?hq ?_
                 case hq =>
                   refine WO.pg rfl rfl rfl ?_
                   exact WO.nil ⟨rfl, rfl⟩
                 refine' DT.r rfl rfl rfl ?hq ?_
                 case hq =>
                   refine WO.pg rfl rfl rfl ?_
                   exact WO.nil ⟨rfl, rfl⟩
                 refine' DT.r rfl rfl rfl ?hq ?_
                 case hq =>
                   refine WO.go' rfl (WO.ar rfl rfl rfl (by (first | (unfold in64; omega) | (unfold in64; omega))) rfl ?_)
                   exact WO.nil ⟨rfl, rfl⟩
                 refine' DT.r rfl rfl rfl ?hq ?_
                 case hq =>
                   refine WO.go' rfl ?_
                   refine' WO.indexAddrZ (n := _) rfl rfl rfl ?hs ?h00 ?h1 rfl ?_
                   case hs => (first | exact isSl_lit (by omega) (fun h => hps.2 h))
                   case h00 => omega
                   case h1 => (first | omega | (simp; omega))
                   exact WO.nil ⟨rfl, rfl⟩
                 refine' DT.b rfl rfl rfl ?hq ?_
                 case hq =>
                   refine WO.go' rfl ?_
                   refine' WO.loadA (vs := _) rfl rfl ?hc ?hl rfl ?_
                   case hc => (first | (refine OwE.cellsP (e := 74) (l := l) (i := ((k : Int) + 1 - 1).toNat) ?_ (by omega); repeat (first | exact Sub.nil | refine Sub.cons (by repeat (first | exact Pick.head | apply Pick.tail)) ?_)))
                   case hl => rfl
                   exact WO.nil ⟨rfl, rfl⟩
                 refine DT.nil [_, _, _, _] rfl ?_
                 refine WO.go' rfl ?_
                 refine WO.callR (r := .int .i64 (whr c' (l.at k))) rfl Try.call48 (fun L w hi => by have hk0' : 0 < k := (by assumption); have hs := lst_sm (take_ok hok.2 k) (List.length_pos_iff.1 (by rw [List.length_take]; omega)); rw [show ((k : Int) + 1 - 1).toNat = k by omega]; exact c_where w c' _ rfl (l.at k) (by rw [hcl hk0']; exact hs.ok) (at_ok hok.2 (by omega))) rfl ?_
                 refine WO.pg rfl rfl rfl (WO.p rfl rfl ?_)
                 refine WO.nil ?_
                 refine W.cond_bl rfl (fun c4 => ?_) (fun c4 => ?_)
                 · first
                   | (exfalso; omega)
                   | (refine W.region ?_
                      refine WO.p rfl rfl (WO.p rfl rfl (WO.p rfl rfl ?_))
                      refine WO.slSl (lo := 0) (hi := k + 1) (mx := k + 1) rfl rfl bnd.no (bnd.at (n := k + 1) rfl) (bnd.at (n := k + 1) rfl) (fun _ => rfl) (by omega) (by omega) (by omega) rfl ?_
                      refine WO.callE rfl Try.call45 (fun L w hi => c_grown w _ (l.take (k + 1)) ((RdF.of_ow (e := 74) (xs := l) encP_ok (by repeat (first | exact Pick.head | apply Pick.tail)) hi).sub (lo := 0) (hi := k + 1) (mx := k + 1) (by omega) (by omega) (by omega)) (take_ok hok.2 _) (by rw [List.length_take]; omega) (by rw [List.length_take]; omega)) rfl ?_
                      rintro _ ⟨ga, gn, gk, rfl⟩
                      refine WO.storeA rfl rfl rfl rfl Pick.head rfl rfl ?_
                      refine WO.nil ?_
                      first
                      | (have hcc : c' = lst (l.take (k + 1)) := keep2 hok.2 hcl (by assumption) (by omega) (by assumption); subst hcc)
                      | skip
                      refine W.sreg ?_
                      refine WO.p rfl rfl (WO.p rfl rfl (WO.loadA rfl rfl (Cells.own Pick.head) rfl rfl ?_))
                      refine WO.updateI (q := .i64) (k := .int .i64 ((k : Int) + 1)) rfl rfl rfl rfl rfl (by repeat (first | exact Pick.head | apply Pick.tail)) hkn2 ?_
                      refine WO.nil ?_
                      refine W.sreg ?_
                      refine WO.p rfl rfl (WO.p rfl rfl (WO.ar rfl rfl rfl (by (first | (unfold in64; omega) | (unfold in64; omega))) rfl ?_))
                      refine WO.deleteI (q := .i64) (k := .int .i64 ((k : Int) + 1 - 1)) rfl rfl rfl rfl rfl (by repeat (first | exact Pick.head | apply Pick.tail)) (known_del hkn) ?_
                      refine WO.nil ?_
                      refine W.region ?_
                      refine WO.p rfl rfl (WO.field0 rfl rfl rfl (WO.fieldL rfl rfl rfl (WO.loadA rfl rfl (Cells.ownAt (n := 2) (Pick.tail (Pick.head)) rfl) rfl rfl ?_)))
                      refine' WO.buildSl (cs := _) rfl rfl rfl rfl ?hf rfl rfl ?hl rfl (fun v3 => ?_)
                      case hf => (conv => lhs; simp [-List.getD_eq_getElem?_getD, fillL, vcl, wrl, TTab.pl?.lget']) <;> rfl
                      case hl => rfl
                      refine' WO.appendE (enc := encP) (m := 1) (ys := [((lst (l.take (k + 1))).n, (lst (l.take (k + 1))).d)]) encP_ok rfl rfl rfl rfl rfl (by repeat (first | exact Pick.head | apply Pick.tail)) (isSl_lit (by omega) (fun _ => ⟨_, _, rfl⟩)) (by omega) rfl (OwC.cells .head) (by rw [growL_len]; omega) (by rw [growL_len]; omega) rfl (fun g c => ?_)
                      rw [← growL_succ]
                      refine WO.p rfl rfl ?_
                      refine WO.nil ?_
                      refine W.region ?_
                      refine WO.p rfl rfl (WO.ar rfl rfl rfl (by (first | (unfold in64; omega) | (unfold in64; omega))) rfl (WO.p rfl rfl ?_))
                      refine WO.nil ?_
                      refine' ⟨k + 1, _, _, _, ?hp, ?hmu, ⟨rfl, rfl, rfl, rfl, trivial⟩, ?hS⟩
                      case hS => repeat (first | exact Sub.nil | refine Sub.cons (by repeat (first | exact Pick.head | apply Pick.tail)) ?_)
                      case hp => exact ⟨by omega, .inr ⟨by omega, _, _, _, _, rfl⟩⟩
                      case hmu => omega)
                 · first
                   | (exfalso; omega)
                   | (refine W.skip ?_
                      first
                      | (have hcc : c' = lst (l.take (k + 1)) := keep2 hok.2 hcl (by assumption) (by omega) (by assumption); subst hcc)
                      | skip
                      refine W.sreg ?_
                      refine WO.p rfl rfl (WO.p rfl rfl (WO.loadA rfl rfl (Cells.own Pick.head) rfl rfl ?_))
                      refine WO.updateI (q := .i64) (k := .int .i64 ((k : Int) + 1)) rfl rfl rfl rfl rfl (by repeat (first | exact Pick.head | apply Pick.tail)) hkn2 ?_
                      refine WO.nil ?_
                      refine W.sreg ?_
                      refine WO.p rfl rfl (WO.p rfl rfl (WO.ar rfl rfl rfl (by (first | (unfold in64; omega) | (unfold in64; omega))) rfl ?_))
                      refine WO.deleteI (q := .i64) (k := .int .i64 ((k : Int) + 1 - 1)) rfl rfl rfl rfl rfl (by repeat (first | exact Pick.head | apply Pick.tail)) (known_del hkn) ?_
                      refine WO.nil ?_
                      refine W.region ?_
                      refine WO.p rfl rfl (WO.field0 rfl rfl rfl (WO.fieldL rfl rfl rfl (WO.loadA rfl rfl (Cells.ownAt (n := 2) (Pick.tail (Pick.head)) rfl) rfl rfl ?_)))
                      refine' WO.buildSl (cs := _) rfl rfl rfl rfl ?hf rfl rfl ?hl rfl (fun v4 => ?_)
                      case hf => (conv => lhs; simp [-List.getD_eq_getElem?_getD, fillL, vcl, wrl, TTab.pl?.lget']) <;> rfl
                      case hl => rfl
                      refine' WO.appendE (enc := encP) (m := 1) (ys := [((lst (l.take (k + 1))).n, (lst (l.take (k + 1))).d)]) encP_ok rfl rfl rfl rfl rfl (by repeat (first | exact Pick.head | apply Pick.tail)) (isSl_lit (by omega) (fun _ => ⟨_, _, rfl⟩)) (by omega) rfl (OwC.cells .head) (by rw [growL_len]; omega) (by rw [growL_len]; omega) rfl (fun g c => ?_)
                      rw [← growL_succ]
                      refine WO.p rfl rfl ?_
                      refine WO.nil ?_
                      refine W.region ?_
                      refine WO.p rfl rfl (WO.ar rfl rfl rfl (by (first | (unfold in64; omega) | (unfold in64; omega))) rfl (WO.p rfl rfl ?_))
                      refine WO.nil ?_
                      refine' ⟨k + 1, _, _, _, ?hp, ?hmu, ⟨rfl, rfl, rfl, rfl, trivial⟩, ?hS⟩
                      case hS => repeat (first | exact Sub.nil | refine Sub.cons (by repeat (first | exact Pick.head | apply Pick.tail)) ?_)
                      case hp => exact ⟨by omega, .inr ⟨by omega, _, _, _, _, rfl⟩⟩
                      case hmu => omega)))
       · first
         | (exfalso; omega)
         | (refine W.exit (blk_same ?_)
            obtain rfl : l.length = k := by omega
            refine W.sreg ?_
            refine WO.p rfl rfl (WO.p rfl rfl (WO.p rfl rfl ?_))
            refine WO.nil ?_
            refine W.ret ?_
            refine fin.ret (Res.two rfl (RV.tmp rfl) (RV.tmp rfl)) ?_
            first | (refine ⟨.slice none 0 0, rfl, ?_⟩; rw [growV_1 (by assumption)]; exact fun h hs => Sub.sat (.cons .head .nil) (owNil (enc := encP) (e := 25) (sz := 2) h hs)) | (refine ⟨x, by rw [show chkL l = 0 by omega], ?_⟩; rw [growV_0 (by omega)]; exact fun h hs => Sub.sat (.cons .head .nil) hs)))
end Go.Proofs.Ytkhplcncfogolaa
namespace Go.Proofs.Ytkhplcncfogolaa
open Go Go.TH Go.ChangeShapes Go.WideShapes Go.ChangeAt Go.RowKit
set_option maxRecDepth 100000
section
variable {H : Type} {enc : TypeId × Value → H} {w : World}
theorem cells2 : Try.prog.cellsOf 2 = 1 := by kernel_rfl
theorem cells3 : Try.prog.cellsOf 3 = 1 := by kernel_rfl
theorem cells39 : Try.prog.cellsOf 39 = 2 := by kernel_rfl
theorem cells25 : Try.prog.cellsOf 25 = 2 := by kernel_rfl
theorem cells27 : Try.prog.cellsOf 27 = 5 := by kernel_rfl
theorem wf64 {z : Int} (h : (Lit.int .i64 z).wf = true) : in64 z := by
  simp [Lit.wf, IntKind.min, IntKind.max, IntKind.signed, IntKind.bits] at h
  unfold in64; omega
theorem rd_int {n : Nat} {c : List Value} {y : DataW H × List MemPlace} (h : DataW.trod enc Try.prog w 0 (fun _ => true) true n 2 c = some y) : ∃ z : Int, c = encI z ∧ in64 z := by
  obtain ⟨z, rfl, _, hw⟩ := DataW.trod_int Try.underlying2 h
  exact ⟨z, rfl, wf64 hw⟩
theorem rd_int3 {n : Nat} {c : List Value} {y : DataW H × List MemPlace} (h : DataW.trod enc Try.prog w 0 (fun _ => true) true n 3 c = some y) : ∃ z : Int, c = encI z ∧ in64 z := by
  obtain ⟨z, rfl, _, hw⟩ := DataW.trod_int Try.underlying3 h
  exact ⟨z, rfl, wf64 hw⟩
def InP (p : Int × Int) : Prop := in64 p.1 ∧ in64 p.2
theorem rd_pt {n : Nat} {c : List Value} {y : DataW H × List MemPlace} (hl : c.length = 2) (h : DataW.trod enc Try.prog w 0 (fun _ => true) true n 39 c = some y) : ∃ z : Int × Int, c = encP z ∧ InP z := by
  obtain ⟨y0, y1, m, _, _, h0, h1⟩ := trod_struct2 Try.underlying39 h
  rw [cells2] at h0 h1
  match c, hl with
  | [a, b], _ =>
    simp at h0 h1
    obtain ⟨u, hu, i1⟩ := rd_int h0
    obtain ⟨v, hv, i2⟩ := rd_int h1
    simp [encI] at hu hv
    subst hu; subst hv
    exact ⟨(u, v), rfl, i1, i2⟩
theorem rd_ratio {n : Nat} {c : List Value} {y : DataW H × List MemPlace} (hl : c.length = 2) (h : DataW.trod enc Try.prog w 0 (fun _ => true) true n 25 c = some y) : ∃ z : Int × Int, c = encP z := by
  obtain ⟨y0, y1, m, _, _, h0, h1⟩ := trod_struct2 Try.underlying25 h
  rw [cells2] at h0 h1
  match c, hl with
  | [a, b], _ =>
    simp at h0 h1
    obtain ⟨u, hu, _⟩ := rd_int h0
    obtain ⟨v, hv, _⟩ := rd_int h1
    simp [encI] at hu hv
    subst hu; subst hv
    exact ⟨(u, v), rfl⟩
theorem open_pts {base : Nat} {v : Value} {d : DataW H} {ps : List MemPlace} (hv : Value.okWide Try.prog w .any base 22 v) (h : DataW.Trod enc Try.prog w 0 (fun _ => true) true 22 v d ps) :
    ∃ xs : List (Int × Int), RdF encP 2 w.heap.size w v xs ∧ HasCap v xs.length ∧ ∀ p ∈ xs, InP p := by
  obtain ⟨a0, len, cap, rfl⟩ := okWide_slice Try.underlying22 hv
  obtain ⟨fuel, hf⟩ := h
  obtain ⟨o, xs, ho, hr, hq⟩ := open_rd (en := encP) (Q := InP) Try.underlying22 cells39 (by omega) (fun n c y hl hy => rd_pt hl hy) hf
  simp [Value.cells] at ho
  subst ho
  have hlc : len ≤ cap := by
    rcases Deep.open_slice Try.underlying22 hf with ⟨e, _⟩ | ⟨a, l', c', m, n, D, Pl, e, _, hl, _⟩
    · simp [Value.cells] at e; omega
    · simp [Value.cells] at e; omega
  obtain ⟨_, a', c', e, _⟩ := hr.sl
  refine ⟨xs, hr, ⟨a0, cap, ?_, ?_⟩, hq⟩
  · injection e with e1 e2 e3; rw [e2]
  · injection e with e1 e2 e3; omega
theorem open_ints {base : Nat} {v : Value} {d : DataW H} {ps : List MemPlace} (hv : Value.okWide Try.prog w .any base 45 v) (h : DataW.Trod enc Try.prog w 0 (fun _ => true) true 45 v d ps) :
    ∃ xs : List Int, RdF encI 1 w.heap.size w v xs ∧ ∀ x ∈ xs, in64 x := by
  obtain ⟨a0, len, cap, rfl⟩ := okWide_slice Try.underlying45 hv
  obtain ⟨fuel, hf⟩ := h
  obtain ⟨o, xs, ho, hr, hq⟩ := open_rd (en := encI) (Q := in64) Try.underlying45 cells3 (by omega) (fun n c y hl hy => rd_int3 hy) hf
  simp [Value.cells] at ho
  subst ho
  exact ⟨xs, hr, hq⟩
theorem open_pt {base : Nat} {v : Value} {d : DataW H} {ps : List MemPlace} (hv : Value.okWide Try.prog w .any base 39 v) (h : DataW.Trod enc Try.prog w 0 (fun _ => true) true 39 v d ps) :
    ∃ p : Int × Int, v = .agg #[.int .i64 p.1, .int .i64 p.2] ∧ InP p := by
  unfold Value.okWide at hv
  rw [Try.underlying39] at hv
  obtain ⟨cs, rfl, hs, _⟩ := hv
  obtain ⟨fuel, hf⟩ := h
  obtain ⟨y0, y1, n, _, hl, _, _⟩ := trod_struct2 Try.underlying39 hf
  rw [cells39] at hl
  obtain ⟨l, hcs⟩ : ∃ l, cs = List.toArray l := ⟨cs.toList, by simp⟩
  subst hcs
  obtain ⟨p, hp, hi⟩ := rd_pt (by simpa [Value.cells] using hl) (by simpa [Value.cells] using hf)
  subst hp
  exact ⟨p, rfl, hi⟩
theorem open_cir {base : Nat} {v : Value} {d : DataW H} {ps : List MemPlace} (hv : Value.okWide Try.prog w .any base 27 v) (h : DataW.Trod enc Try.prog w 0 (fun _ => true) true 27 v d ps) :
    ∃ c : Cir, v = cirV c := by
  unfold Value.okWide at hv
  rw [Try.underlying27] at hv
  obtain ⟨cs, rfl, hs, _⟩ := hv
  obtain ⟨fuel, hf⟩ := h
  obtain ⟨xs, n, _, _, hl, hx, he⟩ := DataW.trod_struct Try.underlying27 hf
  rw [cells27] at hl
  obtain ⟨l, hcs⟩ : ∃ l, cs = List.toArray l := ⟨cs.toList, by simp⟩
  subst hcs
  simp only [Value.cells] at hl he
  match l, hl with
  | [a0, a1, a2, a3, a4], _ =>
    have g0 : ∀ (i : Nat), i < 4 → ∃ y, xs[i]? = some y := fun i hi => ⟨xs[i]'(by rw [hx]; exact hi), by simp [hx, hi]⟩
    have g : ∀ (i : Nat) (a : Value), i < 4 → (DataW.trod enc Try.prog w 0 (fun _ => true) true n 2 [a] = xs[i]?) → ∃ z : Int, a = .int .i64 z := fun i a hi h3 => by
      obtain ⟨y, hy⟩ := g0 i hi
      rw [hy] at h3
      obtain ⟨u, hu, _⟩ := rd_int h3
      simp [encI] at hu
      exact ⟨u, hu⟩
    have e0 := he 0 _ rfl
    have e1 := he 1 _ rfl
    have e2 := he 2 _ rfl
    have e3 := he 3 _ rfl
    simp [cells2, cells25] at e0 e1 e2 e3
    obtain ⟨z0, rfl⟩ := g 0 a0 (by omega) (by simpa using e0)
    obtain ⟨z1, rfl⟩ := g 1 a1 (by omega) (by simpa using e1)
    obtain ⟨z2, rfl⟩ := g 2 a2 (by omega) (by simpa using e2)
    obtain ⟨y3, hy3⟩ := g0 3 (by omega)
    obtain ⟨q, hq⟩ := rd_ratio rfl (e3.trans hy3)
    simp [encP] at hq
    obtain ⟨rfl, rfl⟩ := hq
    exact ⟨⟨z0, z1, z2, q.1, q.2⟩, rfl⟩
theorem open_kind {k : IntKind} {T base : Nat} (hT : Try.prog.underlying T = some (.int k)) {v : Value} {d : DataW H} {ps : List MemPlace} (hv : Value.okWide Try.prog w .any base T v) (h : DataW.Trod enc Try.prog w 0 (fun _ => true) true T v d ps) : ∃ z : Int, v = .int k z ∧ k.min ≤ z ∧ z ≤ k.max := by
  obtain ⟨z, rfl, _, _, hw⟩ := open_int hT hv h
  simp [Lit.wf] at hw
  exact ⟨z, rfl, by omega, by omega⟩
theorem open_u8 {base : Nat} {v : Value} {d : DataW H} {ps : List MemPlace} (hv : Value.okWide Try.prog w .any base 5 v) (h : DataW.Trod enc Try.prog w 0 (fun _ => true) true 5 v d ps) : ∃ z : Int, v = .int .u8 z ∧ 0 ≤ z ∧ z ≤ 255 := by
  obtain ⟨z, rfl, h1, h2⟩ := open_kind Try.underlying5 hv h
  simp [IntKind.min, IntKind.max, IntKind.signed, IntKind.bits] at h1 h2
  exact ⟨z, rfl, by omega, by omega⟩
theorem open_i8 {base : Nat} {v : Value} {d : DataW H} {ps : List MemPlace} (hv : Value.okWide Try.prog w .any base 36 v) (h : DataW.Trod enc Try.prog w 0 (fun _ => true) true 36 v d ps) : ∃ z : Int, v = .int .i8 z ∧ -128 ≤ z ∧ z ≤ 127 := by
  obtain ⟨z, rfl, h1, h2⟩ := open_kind Try.underlying36 hv h
  simp [IntKind.min, IntKind.max, IntKind.signed, IntKind.bits] at h1 h2
  exact ⟨z, rfl, by omega, by omega⟩
end
end Go.Proofs.Ytkhplcncfogolaa
