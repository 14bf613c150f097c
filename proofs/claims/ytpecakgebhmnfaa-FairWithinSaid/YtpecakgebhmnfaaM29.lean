/-
  What is proved here: comparisons whose answer is known. Conditions: each rule states its own.
  What is proved here: plain law: what is told of where lines can go. Conditions: none; each theorem states its own.
  What is proved here: plain law: where lines with few changes can go. Conditions: none; each theorem states its own.
  What is proved here: the law of where lines can go. Conditions: none; each contract states its own.
  What is proved here: the law of where lines can go. Conditions: none; each contract states its own.
-/
import Derived.Test.YtpecakgebhmnfaaM2
import Derived.Test.YtpecakgebhmnfaaM28
set_option linter.unusedVariables false
set_option linter.unusedSimpArgs false
namespace Go.TH
open Go
section
variable {P : Program} {C : Cx P} {E : Env} {H : List HP} {ops : Array Oper} {K : KP} {rest : List Oper} {d : Nat} {ty : TypeId} {pos : String} {af : Array Edge} {x y : Operand} {T T' : TypeId} {k : IntKind} {a b : Int}
theorem WO.lssT (hx : ev E x = some (.int k a)) (hy : ev E y = some (.int k b)) (hp : a < b) (hN : Nat.blt d C.N = true) (h : WO C ops rest K ((d, .bool true) :: E) H) : WO C ops (⟨some d, .binOp .lss T x y T', ty, pos, af, none⟩ :: rest) K E H :=
  WO.lss hx hy hN (by rw [bl_t.2 hp]; exact h)
theorem WO.lssF (hx : ev E x = some (.int k a)) (hy : ev E y = some (.int k b)) (hp : ¬ (a < b)) (hN : Nat.blt d C.N = true) (h : WO C ops rest K ((d, .bool false) :: E) H) : WO C ops (⟨some d, .binOp .lss T x y T', ty, pos, af, none⟩ :: rest) K E H :=
  WO.lss hx hy hN (by rw [bl_f.2 hp]; exact h)
theorem WO.leqT (hx : ev E x = some (.int k a)) (hy : ev E y = some (.int k b)) (hp : a ≤ b) (hN : Nat.blt d C.N = true) (h : WO C ops rest K ((d, .bool true) :: E) H) : WO C ops (⟨some d, .binOp .leq T x y T', ty, pos, af, none⟩ :: rest) K E H :=
  WO.leq hx hy hN (by rw [bl_t.2 hp]; exact h)
theorem WO.leqF (hx : ev E x = some (.int k a)) (hy : ev E y = some (.int k b)) (hp : ¬ (a ≤ b)) (hN : Nat.blt d C.N = true) (h : WO C ops rest K ((d, .bool false) :: E) H) : WO C ops (⟨some d, .binOp .leq T x y T', ty, pos, af, none⟩ :: rest) K E H :=
  WO.leq hx hy hN (by rw [bl_f.2 hp]; exact h)
theorem WO.gtrT (hx : ev E x = some (.int k a)) (hy : ev E y = some (.int k b)) (hp : b < a) (hN : Nat.blt d C.N = true) (h : WO C ops rest K ((d, .bool true) :: E) H) : WO C ops (⟨some d, .binOp .gtr T x y T', ty, pos, af, none⟩ :: rest) K E H :=
  WO.gtr hx hy hN (by rw [bl_t.2 hp]; exact h)
theorem WO.gtrF (hx : ev E x = some (.int k a)) (hy : ev E y = some (.int k b)) (hp : ¬ (b < a)) (hN : Nat.blt d C.N = true) (h : WO C ops rest K ((d, .bool false) :: E) H) : WO C ops (⟨some d, .binOp .gtr T x y T', ty, pos, af, none⟩ :: rest) K E H :=
  WO.gtr hx hy hN (by rw [bl_f.2 hp]; exact h)
theorem WO.geqT (hx : ev E x = some (.int k a)) (hy : ev E y = some (.int k b)) (hp : b ≤ a) (hN : Nat.blt d C.N = true) (h : WO C ops rest K ((d, .bool true) :: E) H) : WO C ops (⟨some d, .binOp .geq T x y T', ty, pos, af, none⟩ :: rest) K E H :=
  WO.geq hx hy hN (by rw [bl_t.2 hp]; exact h)
theorem WO.geqF (hx : ev E x = some (.int k a)) (hy : ev E y = some (.int k b)) (hp : ¬ (b ≤ a)) (hN : Nat.blt d C.N = true) (h : WO C ops rest K ((d, .bool false) :: E) H) : WO C ops (⟨some d, .binOp .geq T x y T', ty, pos, af, none⟩ :: rest) K E H :=
  WO.geq hx hy hN (by rw [bl_f.2 hp]; exact h)
theorem WO.eqlT (hx : ev E x = some (.int k a)) (hy : ev E y = some (.int k b)) (hp : a = b) (hN : Nat.blt d C.N = true) (h : WO C ops rest K ((d, .bool true) :: E) H) : WO C ops (⟨some d, .binOp .eql T x y T', ty, pos, af, none⟩ :: rest) K E H :=
  WO.eql hx hy hN (by rw [bl_t.2 hp]; exact h)
theorem WO.eqlF (hx : ev E x = some (.int k a)) (hy : ev E y = some (.int k b)) (hp : ¬ (a = b)) (hN : Nat.blt d C.N = true) (h : WO C ops rest K ((d, .bool false) :: E) H) : WO C ops (⟨some d, .binOp .eql T x y T', ty, pos, af, none⟩ :: rest) K E H :=
  WO.eql hx hy hN (by rw [bl_f.2 hp]; exact h)
theorem WO.neqT (hx : ev E x = some (.int k a)) (hy : ev E y = some (.int k b)) (hp : a ≠ b) (hN : Nat.blt d C.N = true) (h : WO C ops rest K ((d, .bool true) :: E) H) : WO C ops (⟨some d, .binOp .neq T x y T', ty, pos, af, none⟩ :: rest) K E H :=
  WO.neq hx hy hN (by rw [bl_t.2 hp]; exact h)
theorem WO.neqF (hx : ev E x = some (.int k a)) (hy : ev E y = some (.int k b)) (hp : ¬ (a ≠ b)) (hN : Nat.blt d C.N = true) (h : WO C ops rest K ((d, .bool false) :: E) H) : WO C ops (⟨some d, .binOp .neq T x y T', ty, pos, af, none⟩ :: rest) K E H :=
  WO.neq hx hy hN (by rw [bl_f.2 hp]; exact h)
theorem w8_in {z : Int} (h : 0 ≤ z ∧ z ≤ 255) : IntKind.u8.wrap z = z := by
  simp [IntKind.wrap, IntKind.bits, IntKind.signed]; omega
theorem WO.quo8 {a b : Nat} (hx : ev E x = some (.int .u8 (a : Int))) (hy : ev E y = some (.int .u8 (b : Int))) (hb : 0 < b) (ha : a ≤ 255) (hN : Nat.blt d C.N = true) (h : WO C ops rest K ((d, .int .u8 ((a / b : Nat) : Int)) :: E) H) : WO C ops (⟨some d, .binOp .quo T x y T', ty, pos, af, none⟩ :: rest) K E H := by
  have e : ((a / b : Nat) : Int) = (a : Int).tdiv (b : Int) := Int.ofNat_tdiv a b
  have e2 : a / b ≤ a := Nat.div_le_self a b
  have e3 : (b : Int) ≠ 0 := by omega
  have e4 : 0 ≤ (a : Int).tdiv (b : Int) ∧ (a : Int).tdiv (b : Int) ≤ 255 := by rw [← e]; generalize a / b = q at e2; omega
  rw [e] at h
  generalize (a : Int) = A at hx e4 h
  generalize (b : Int) = B at hy e4 h e3
  exact WO.pure _ (by simp) (fun L c w hf _ => by simp only [execOp, hf.eval hx, hf.eval hy]; simp [binOp_quo, eqGuard_quo, Op.intDiv, e3]; exact w8_in e4) hN h
end
end Go.TH
namespace Go.Proofs.Ytpecakgebhmnfaa
open Go Go.TH
set_option maxRecDepth 10000
set_option maxHeartbeats 1000000
abbrev Prs := List (Int × Int)
theorem ext_getD {α : Type} {a b : List α} (z : α) (hl : a.length = b.length) (h : ∀ i, i < a.length → a.getD i z = b.getD i z) : a = b := by
  refine List.ext_getElem hl fun i h1 h2 => ?_
  have := h i h1
  rwa [List.getD_eq_getElem?_getD, List.getD_eq_getElem?_getD, List.getElem?_eq_getElem h1, List.getElem?_eq_getElem h2] at this
theorem getD_setP {xs : List (Int × Int)} {k j : Nat} {y : Int × Int} (h : j < xs.length) : (xs.set k y).getD j (0, 0) = if k = j then y else xs.getD j (0, 0) := by
  rw [List.getD_eq_getElem?_getD, List.getElem?_set]
  by_cases e : k = j
  · subst e; rw [if_pos rfl, if_pos rfl, if_pos h]; rfl
  · rw [if_neg e, if_neg e, List.getD_eq_getElem?_getD]
/-- the span of what lines have at a spot -/
def Spn (S : List Int → Prop) (i : Nat) (p : Int × Int) : Prop := (∀ x, S x → p.1 ≤ x.getD i 0 ∧ x.getD i 0 ≤ p.2) ∧ (∃ x, S x ∧ x.getD i 0 = p.1) ∧ ∃ x, S x ∧ x.getD i 0 = p.2
theorem Spn.unique {S : List Int → Prop} {i : Nat} {p q : Int × Int} (h : Spn S i p) (g : Spn S i q) : p = q := by
  obtain ⟨h1, ⟨a, ha, ea⟩, b, hb, eb⟩ := h
  obtain ⟨g1, ⟨c, hc, ec⟩, d, hd, ed⟩ := g
  have a1 := g1 a ha
  have b1 := g1 b hb
  have c1 := h1 c hc
  have d1 := h1 d hd
  exact Prod.ext (by omega) (by omega)
theorem Spn.congr {S S' : List Int → Prop} {i : Nat} {p : Int × Int} (h : Spn S i p) (e : ∀ x, S x ↔ S' x) : Spn S' i p :=
  ⟨fun x hx => h.1 x ((e x).2 hx), by obtain ⟨x, hx, g⟩ := h.2.1; exact ⟨x, (e x).1 hx, g⟩, by obtain ⟨x, hx, g⟩ := h.2.2; exact ⟨x, (e x).1 hx, g⟩⟩
/-- the lines within spots with few changes -/
def Few (l : Prs) (ch : Int) (x : List Int) : Prop := InS l x ∧ (chL x : Int) ≤ ch
theorem fl_spec (ok : Nat → Prop) [DecidablePred ok] : ∀ n, ((∀ k, k < n → ¬ ok k) ∧ fl ok n = (-1, -1)) ∨ ∃ a b : Nat, fl ok n = ((a : Int), (b : Int)) ∧ ok a ∧ ok b ∧ a < n ∧ b < n ∧ ∀ k, k < n → ok k → a ≤ k ∧ k ≤ b
  | 0 => .inl ⟨fun k h => by omega, rfl⟩
  | n + 1 => by
    by_cases h : ok n
    · rcases fl_spec ok n with ⟨h1, h2⟩ | ⟨a, b, h2, h3, h4, h5, h6, h7⟩
      · refine .inr ⟨n, n, fl_yes1 h (by rw [h2]; decide), h, h, by omega, by omega, fun k hk hok => ?_⟩
        rcases Nat.lt_or_ge k n with g | g
        · exact absurd hok (h1 k g)
        · omega
      · refine .inr ⟨a, n, by rw [fl_yes2 h (by rw [h2]; simp only; omega), h2], h3, h, by omega, by omega, fun k hk hok => ?_⟩
        rcases Nat.lt_or_ge k n with g | g
        · have := h7 k g hok; omega
        · omega
    · rw [fl_no h]
      rcases fl_spec ok n with ⟨h1, h2⟩ | ⟨a, b, h2, h3, h4, h5, h6, h7⟩
      · refine .inl ⟨fun k hk => ?_, h2⟩
        rcases Nat.lt_or_ge k n with g | g
        · exact h1 k g
        · rw [show k = n by omega]; exact h
      · refine .inr ⟨a, b, h2, h3, h4, by omega, by omega, fun k hk hok => ?_⟩
        rcases Nat.lt_or_ge k n with g | g
        · exact h7 k g hok
        · rw [show k = n by omega] at hok; exact absurd hok h
theorem costG_ch (x : List Int) : costG 0 1 x = (chL x : Int) := by unfold costG; omega
theorem bestC_le {l : Prs} {ch : Int} (hg : OkS l) (hn : 1 ≤ l.length) : bestC 0 1 l ≤ ch ↔ ∃ x, Few l ch x := by
  have h := best_fm (B := 0) (T := 1) hg hn
  rw [← h.2, costG_ch]
  constructor
  · intro g; exact ⟨_, mem_lin.1 h.1.mem, g⟩
  · rintro ⟨x, hx, g⟩
    have := h.1.le x (mem_lin.2 hx)
    rw [costG_ch, costG_ch] at this
    omega
theorem InS_set {l : Prs} {x : List Int} {i : Nat} {y : Int} (hi : i < l.length) (hy : (l.getD i (0, 0)).1 ≤ y ∧ y ≤ (l.getD i (0, 0)).2) : InS (l.set i (y, y)) x ↔ InS l x ∧ x.getD i 0 = y := by
  constructor
  · rintro ⟨h1, h2⟩
    rw [List.length_set] at h1 h2
    have e := h2 i hi
    rw [getD_setP hi, if_pos rfl] at e
    refine ⟨⟨h1, fun j hj => ?_⟩, by simp only at e; omega⟩
    have := h2 j hj
    rw [getD_setP hj] at this
    by_cases g : i = j
    · subst g; rw [if_pos rfl] at this; simp only at this; omega
    · rw [if_neg g] at this; exact this
  · rintro ⟨⟨h1, h2⟩, h3⟩
    refine ⟨by rw [List.length_set]; exact h1, fun j hj => ?_⟩
    rw [List.length_set] at hj
    rw [getD_setP hj]
    by_cases g : i = j
    · subst g; rw [if_pos rfl]; simp only; omega
    · rw [if_neg g]; exact h2 j hj
theorem okK_iff {l : Prs} {ch : Int} (hg : OkS l) {i k : Nat} (hi : i < l.length) (hk : k < wid (l.getD i (0, 0))) : okK l ch i k ↔ ∃ x, Few l ch x ∧ x.getD i 0 = (l.getD i (0, 0)).1 + (k : Int) := by
  have hgi := hg _ (getD_mem hi (0, 0))
  have hw := wid_ok hgi
  unfold OkG at hgi
  unfold okK
  rw [bestC_le (OkS.set hg (by omega)) (by rw [List.length_set]; omega)]
  unfold Few
  constructor
  · rintro ⟨x, h1, h2⟩
    rw [InS_set hi (by omega)] at h1
    exact ⟨x, ⟨h1.1, h2⟩, h1.2⟩
  · rintro ⟨x, ⟨h1, h2⟩, h3⟩
    exact ⟨x, (InS_set hi (by omega)).2 ⟨h1, h3⟩, h2⟩
theorem Few.ix {l : Prs} {ch : Int} (hg : OkS l) {x : List Int} (h : Few l ch x) {i : Nat} (hi : i < l.length) : ∃ k : Nat, k < wid (l.getD i (0, 0)) ∧ x.getD i 0 = (l.getD i (0, 0)).1 + (k : Int) ∧ okK l ch i k := by
  have hgi := hg _ (getD_mem hi (0, 0))
  have hw := wid_ok hgi
  have hx := h.1.2 i hi
  refine ⟨(x.getD i 0 - (l.getD i (0, 0)).1).toNat, by omega, by omega, ?_⟩
  rw [okK_iff hg hi (by omega)]
  exact ⟨x, h, by omega⟩
theorem flI_spec {l : Prs} {ch : Int} (hg : OkS l) {i : Nat} (hi : i < l.length) : ((¬ ∃ x, Few l ch x) ∧ (flI l ch i).1 < 0) ∨ (0 ≤ (flI l ch i).1 ∧ Spn (Few l ch) i ((l.getD i (0, 0)).1 + (flI l ch i).1, (l.getD i (0, 0)).1 + (flI l ch i).2)) := by
  rcases fl_spec (okK l ch i) (wid (l.getD i (0, 0))) with ⟨h1, h2⟩ | ⟨a, b, h2, h3, h4, h5, h6, h7⟩
  · refine .inl ⟨fun ⟨x, hx⟩ => ?_, by unfold flI; rw [h2]; decide⟩
    obtain ⟨k, hk, _, ho⟩ := hx.ix hg hi
    exact h1 k hk ho
  · refine .inr ⟨by unfold flI; rw [h2]; simp only; omega, ?_⟩
    unfold flI
    rw [h2]
    refine ⟨fun x hx => ?_, ?_, ?_⟩
    · obtain ⟨k, hk, e, ho⟩ := hx.ix hg hi
      have := h7 k hk ho
      simp only; omega
    · exact (okK_iff hg hi h5).1 h3
    · exact (okK_iff hg hi h6).1 h4
theorem AllF_iff {l : Prs} {ch : Int} (hg : OkS l) (hn : 1 ≤ l.length) : AllF l ch l.length ↔ ∃ x, Few l ch x := by
  constructor
  · intro h
    have h0 := h 0 (by omega)
    rcases flI_spec (ch := ch) hg (show 0 < l.length by omega) with ⟨_, g⟩ | ⟨_, g⟩
    · omega
    · obtain ⟨x, hx, _⟩ := g.2.1; exact ⟨x, hx⟩
  · intro h i hi
    rcases flI_spec (ch := ch) hg hi with ⟨g, _⟩ | ⟨g, _⟩
    · exact absurd h g
    · exact g
end Go.Proofs.Ytpecakgebhmnfaa
namespace Go.Proofs.Ytpecakgebhmnfaa
open Go Go.TH
set_option maxRecDepth 10000
set_option maxHeartbeats 1000000
theorem sp_yes {l : Prs} {t ch : Int} (hc : chkF l t = 0) (h0 : 0 ≤ ch) (hx : ∃ x, Few l ch x) : spE l t ch = 0 ∧ (spL l t ch).length = l.length ∧ ∀ i, i < l.length → Spn (Few l ch) i ((spL l t ch).getD i (0, 0)) := by
  have hcf := chkF0.1 hc
  have e1 := spE_0 hc (show ¬ ch < 0 by omega) ((AllF_iff hcf.2.2 hcf.1.1).2 hx)
  refine ⟨e1, by rw [spL_0 e1, outL_len], fun i hi => ?_⟩
  rw [spL_0 e1]
  have e : (outL l ch l.length).getD i (0, 0) = ((l.getD i (0, 0)).1 + (flI l ch i).1, (l.getD i (0, 0)).1 + (flI l ch i).2) := by
    unfold outL
    rw [List.getD_eq_getElem?_getD, List.getElem?_map, List.getElem?_range hi]; rfl
  rw [e]
  rcases flI_spec (ch := ch) hcf.2.2 hi with ⟨g, _⟩ | ⟨_, g⟩
  · exact absurd hx g
  · exact g
theorem sp_no {l : Prs} {t ch : Int} (hc : chkF l t = 0) (h0 : 0 ≤ ch) (hx : ¬ ∃ x, Few l ch x) : spE l t ch = 17 ∧ spL l t ch = [] := by
  have hcf := chkF0.1 hc
  have e1 := spE_17 hc (show ¬ ch < 0 by omega) (fun q => hx ((AllF_iff hcf.2.2 hcf.1.1).1 q))
  exact ⟨e1, spL_ne (by omega)⟩
theorem Few.mono {l : Prs} {a b : Int} {x : List Int} (h : Few l a x) (g : a ≤ b) : Few l b x := ⟨h.1, by have := h.2; omega⟩
theorem few_all {l : Prs} (hg : OkS l) {x : List Int} (h : InS l x) : Few l (l.length : Int) x := ⟨h, by have := (mea_bd (InS.ok h hg)).1; rw [h.1] at this; omega⟩
theorem map_getD {l : Prs} (f : Int × Int → Int) {i : Nat} (h : i < l.length) : (l.map f).getD i 0 = f (l.getD i (0, 0)) := by
  simp [List.getD_eq_getElem?_getD, List.getElem?_map, List.getElem?_eq_getElem h]
theorem in_lo {l : Prs} (hg : OkS l) : InS l (l.map Prod.fst) := ⟨by simp, fun i hi => by
  have := hg _ (getD_mem hi (0, 0))
  unfold OkG at this
  rw [map_getD _ hi]; omega⟩
theorem in_hi {l : Prs} (hg : OkS l) : InS l (l.map Prod.snd) := ⟨by simp, fun i hi => by
  have := hg _ (getD_mem hi (0, 0))
  unfold OkG at this
  rw [map_getD _ hi]; omega⟩
theorem sp_all {l : Prs} {t : Int} (hc : chkF l t = 0) : spE l t (l.length : Int) = 0 ∧ spL l t (l.length : Int) = l := by
  have hcf := chkF0.1 hc
  have h := sp_yes hc (ch := (l.length : Int)) (by omega) ⟨_, few_all hcf.2.2 (in_lo hcf.2.2)⟩
  refine ⟨h.1, ext_getD (0, 0) h.2.1 fun i hi => ?_⟩
  rw [h.2.1] at hi
  refine (h.2.2 i hi).unique ⟨fun x hx => hx.1.2 i hi, ⟨_, few_all hcf.2.2 (in_lo hcf.2.2), map_getD _ hi⟩, ⟨_, few_all hcf.2.2 (in_hi hcf.2.2), map_getD _ hi⟩⟩
/-- what is told of a spot -/
theorem within_i {l : Prs} {t ch : Int} (hc : chkF l t = 0) (h0 : 0 ≤ ch) (hx : ∃ x, Few l ch x) {i : Nat} (hi : i < l.length) :
    (l.getD i (0, 0)).1 ≤ ((spL l t ch).getD i (0, 0)).1 ∧ ((spL l t ch).getD i (0, 0)).2 ≤ (l.getD i (0, 0)).2 ∧ ((spL l t ch).getD i (0, 0)).1 ≤ ((spL l t ch).getD i (0, 0)).2 ∧
    ((spL l t (ch + 1)).getD i (0, 0)).1 ≤ ((spL l t ch).getD i (0, 0)).1 ∧ ((spL l t ch).getD i (0, 0)).2 ≤ ((spL l t (ch + 1)).getD i (0, 0)).2 ∧
    ∀ x, Few l ch x → ((spL l t ch).getD i (0, 0)).1 ≤ x.getD i 0 ∧ x.getD i 0 ≤ ((spL l t ch).getD i (0, 0)).2 := by
  have h1 := (sp_yes hc h0 hx).2.2 i hi
  have h2 := (sp_yes hc (ch := ch + 1) (by omega) (by obtain ⟨x, hx⟩ := hx; exact ⟨x, hx.mono (by omega)⟩)).2.2 i hi
  obtain ⟨p, hp⟩ : ∃ p, p = (spL l t ch).getD i (0, 0) := ⟨_, rfl⟩
  obtain ⟨q, hq⟩ : ∃ q, q = (spL l t (ch + 1)).getD i (0, 0) := ⟨_, rfl⟩
  rw [← hp] at h1 ⊢
  rw [← hq] at h2 ⊢
  obtain ⟨a1, ⟨x, hx1, hx2⟩, y, hy1, hy2⟩ := h1
  have b1 := hx1.1.2 i hi
  have b2 := hy1.1.2 i hi
  have b3 := a1 x hx1
  have b4 := h2.1 x (hx1.mono (by omega))
  have b5 := h2.1 y (hy1.mono (by omega))
  exact ⟨by omega, by omega, by omega, by omega, by omega, a1⟩
theorem within_set {l : Prs} {t ch : Int} (hc : chkF l t = 0) (h0 : 0 ≤ ch) (hx : ∃ x, Few l ch x) {i : Nat} (hi : i < l.length) {e : Int} (he : e = ((spL l t ch).getD i (0, 0)).1 ∨ e = ((spL l t ch).getD i (0, 0)).2) :
    chkF (l.set i (e, e)) t = 0 ∧ spE (l.set i (e, e)) t ch = 0 ∧ (spL (l.set i (e, e)) t ch).length = l.length ∧ (spL (l.set i (e, e)) t ch).getD i (0, 0) = (e, e) := by
  have hcf := chkF0.1 hc
  have hgi := hcf.2.2 _ (getD_mem hi (0, 0))
  unfold OkG at hgi
  have hw := within_i hc h0 hx hi
  have hb : (l.getD i (0, 0)).1 ≤ e ∧ e ≤ (l.getD i (0, 0)).2 := by rcases he with rfl | rfl <;> omega
  have hc2 : chkF (l.set i (e, e)) t = 0 := chkF0.2 ⟨by rw [List.length_set]; exact hcf.1, hcf.2.1, OkS.set hcf.2.2 (by omega)⟩
  obtain ⟨_, ⟨x, hx1, hx2⟩, y, hy1, hy2⟩ := (sp_yes hc h0 hx).2.2 i hi
  have hex : ∃ z, Few l ch z ∧ z.getD i 0 = e := by
    rcases he with rfl | rfl
    · exact ⟨x, hx1, hx2⟩
    · exact ⟨y, hy1, hy2⟩
  obtain ⟨z, hz1, hz2⟩ := hex
  have hz : Few (l.set i (e, e)) ch z := ⟨(InS_set hi hb).2 ⟨hz1.1, hz2⟩, hz1.2⟩
  have h := sp_yes hc2 h0 ⟨z, hz⟩
  refine ⟨hc2, h.1, by rw [h.2.1, List.length_set], ?_⟩
  have h3 := h.2.2 i (by rw [List.length_set]; exact hi)
  refine h3.unique ⟨fun u hu => ?_, ⟨z, hz, hz2⟩, ⟨z, hz, hz2⟩⟩
  have := ((InS_set hi hb).1 hu.1).2
  simp only; omega
end Go.Proofs.Ytpecakgebhmnfaa
namespace Go.Proofs.Ytpecakgebhmnfaa
open Go Go.TH
attribute [local irreducible] W WO pt
set_option maxRecDepth 10000
set_option maxHeartbeats 1000000
theorem within_e {l : Prs} {t ch : Int} {x : List Int} (hc : chkF l t = 0) (h0 : 0 ≤ ch) (hx : InS l x) :
    (spE l t ch = 0 ∨ spE l t ch = 17) ∧ (spE l t (ch + 1) = 0 ∨ spE l t (ch + 1) = 17) ∧ (spE l t ch = 0 → spE l t (ch + 1) = 0 ∧ (spL l t ch).length = l.length ∧ (spL l t (ch + 1)).length = l.length) ∧ (spE l t ch = 17 → ch < (chL x : Int) ∧ (spL l t ch).length = 0) := by
  by_cases g : ∃ y, Few l ch y
  · have h1 := sp_yes hc h0 g
    have h2 := sp_yes hc (ch := ch + 1) (by omega) (by obtain ⟨y, hy⟩ := g; exact ⟨y, hy.mono (by omega)⟩)
    exact ⟨.inl h1.1, .inl h2.1, fun _ => ⟨h2.1, h1.2.1, h2.2.1⟩, fun h => by omega⟩
  · have h1 := sp_no hc h0 g
    have h2 : ch < (chL x : Int) := by
      rcases Int.lt_or_le ch (chL x : Int) with q | q
      · exact q
      · exact absurd ⟨x, hx, q⟩ g
    refine ⟨.inr h1.1, ?_, fun h => by omega, fun _ => ⟨h2, by rw [h1.2]; rfl⟩⟩
    by_cases g2 : ∃ y, Few l (ch + 1) y
    · exact .inl (sp_yes hc (by omega) g2).1
    · exact .inr (sp_no hc (by omega) g2).1
theorem few_of {l : Prs} {t ch : Int} (hc : chkF l t = 0) (h0 : 0 ≤ ch) (h : spE l t ch = 0) : ∃ y, Few l ch y := by
  by_cases g : ∃ y, Few l ch y
  · exact g
  · have := (sp_no hc h0 g).1; omega
theorem ownAll {C : Cx Try.prog} {H : List HP} {e : Nat} {v : Value} {xs : List (Int × Int)} {i j : Nat} {p : Int × Int} (s : Sub H [OwE encP e 2 v xs]) (hi : i < xs.length) (hx : xs.getD i (0, 0) = p) (hj : j = i) : Cells C H (elt v j 2) [.int .i64 p.1, .int .i64 p.2] := by
  subst hj; subst hx
  cases s with
  | cons p _ => exact OwE.cells encP_ok p hi (0, 0)
theorem within_yes (w : World) (o u : Value) (l : List (Int × Int)) (t : Int) (many : Nat) (bs : List Int) (wh : Nat) (hR : RdF encP 2 w.heap.size w o l) (hv : CapS o l.length) (hB : RdF encU 1 w.heap.size w u bs) (hb : ∀ x ∈ bs, 0 ≤ x ∧ x ≤ 255) (hmy : many ≤ 255) (hwh : wh ≤ 255) (hyes : spE l t ((many % (l.length + 1) : Nat) : Int) = 0) : Ret Try.prog 11 [.agg #[o, .int .i64 t], .int .u8 (many : Int), u, .int .u8 (wh : Int)].toArray w (.bool true) := by
  refine Ret.of mixed tyTab Try.func11 rfl rfl ?_
  obtain ⟨va, vc, rfl, hcap⟩ := hv
  replace hR : RdF encP 2 (fnCx mixed tyTab Try.f11.ntmps w).B (fnCx mixed tyTab Try.f11.ntmps w).w0 (.slice va l.length vc) l := hR
  replace hB : RdF encU 1 (fnCx mixed tyTab Try.f11.ntmps w).B (fnCx mixed tyTab Try.f11.ntmps w).w0 u bs := hB
  have hoc := hR.sl.oc
  refine W.sreg ?_
  refine WO.boxA rfl rfl (fun b1 hb1 => ?_)
  refine WO.p rfl rfl ?_
  refine WO.nil ?_
  refine W.seq ?_
  refine W.sreg ?_
  refine WO.loadA rfl rfl (Cells.own Pick.head) rfl rfl ?_
  refine WO.callR rfl Try.call32 (fun L w hi => law_fine w _ l t (hR.later hi)) rfl ?_
  refine WO.p rfl rfl (WO.p rfl rfl ?_)
  refine WO.guard_nbl rfl rfl (fun c1 => ?_) (fun c1 => ?_)
  · first
    | (exfalso; omega)
    | (refine WO.no rfl rfl (WO.no rfl rfl (WO.no rfl rfl (WO.p rfl rfl ?_)))
       refine WO.nil ?_
       refine W.cond_t rfl ?_
       refine W.sreg ?_
       refine WO.callR rfl Try.call13 (fun L w hi => l_Works w) rfl ?_
       refine WO.p rfl rfl ?_
       refine WO.nil ?_
       refine W.ret ?_
       first | exact fin.ret (Res.one rfl (RV.tmp rfl)) rfl | (exfalso; omega))
  · first
    | (exfalso; omega)
    | (refine WO.pg rfl rfl rfl (WO.go' rfl ?_)
       refine' WO.len (n := _) rfl rfl ?hs rfl ?_
       case hs => (first | exact hB.sl)
       refine WO.pg rfl rfl rfl (WO.p rfl rfl ?_)
       refine WO.nil ?_
       refine W.cond_bl rfl (fun c2 => ?_) (fun c2 => ?_)
       · first
         | (exfalso; omega)
         | (refine W.sreg ?_
            refine WO.callR rfl Try.call13 (fun L w hi => l_Works w) rfl ?_
            refine WO.p rfl rfl ?_
            refine WO.nil ?_
            refine W.ret ?_
            first | exact fin.ret (Res.one rfl (RV.tmp rfl)) rfl | (exfalso; omega))
       · first
         | (exfalso; omega)
         | (refine W.skip ?_
            have hc0 : chkF l t = 0 := by omega
            have hcf := chkF0.1 hc0
            obtain ⟨n1, hn1⟩ : ∃ n1, n1 = l.length + 1 := ⟨_, rfl⟩
            obtain ⟨k, hk⟩ : ∃ k, k = many % n1 := ⟨_, rfl⟩
            have hkl : k < n1 := by rw [hk]; exact Nat.mod_lt _ (by omega)
            have hin := liL_in hcf.2.2 hb
            have hm1 := meaV_in hc0 hin
            refine W.sreg ?_
            refine WO.field0 rfl rfl rfl (WO.load rfl rfl (Cell.own Pick.head rfl) rfl ?_)
            refine' WO.len (n := _) rfl rfl ?hs rfl ?_
            case hs => (first | exact hR.sl)
            refine WO.p rfl rfl ?_
            refine WO.nil ?_
            refine W.sreg ?_
            refine WO.p rfl rfl (WO.conv64 rfl rfl rfl (by (first | (unfold in64; omega) | (unfold in64; omega))) rfl (WO.p rfl rfl ?_))
            refine WO.add rfl rfl (by unfold in64; omega) rfl ?_
            rw [show (l.length : Int) + 1 = (n1 : Int) by omega]
            refine WO.remN rfl rfl (by omega) rfl ?_
            rw [← hk]
            refine WO.p rfl rfl ?_
            refine WO.nil ?_
            refine W.sreg ?_
            refine WO.loadA rfl rfl (Cells.own Pick.head) rfl rfl (WO.p rfl rfl ?_)
            refine WO.call rfl Try.call33 (fun L w hi => law_Line w _ u l t bs (hR.later hi) (hB.later hi) hb hcf.2.2 hcf.1.2) rfl ?_
            rintro r3 _ ⟨_, rfl, rfl⟩
            refine WO.fact (OwE.sl (enc := encI) (e := 2) (sz := 1) (xs := liL l bs) (v := r3) Pick.head) (fun hls => ?_)
            have hll := liL_len l bs
            refine WO.p rfl rfl ?_
            refine WO.nil ?_
            refine W.sreg ?_
            refine WO.p rfl rfl ?_
            refine WO.callR (r := .tuple #[.int .i64 (chL (liL l bs) : Int), .int .i64 (beL (liL l bs)), .int .i64 0]) rfl Try.call14 (fun L w hi => by rw [← hm1]; exact c_Measure w _ (liL l bs) (RdF.of_ow (e := 2) encI_ok (by repeat (first | exact Pick.head | apply Pick.tail)) hi)) rfl ?_
            refine WO.p rfl rfl (WO.p rfl rfl (WO.p rfl rfl (WO.p rfl rfl (WO.p rfl rfl (WO.p rfl rfl (WO.p rfl rfl ?_))))))
            refine WO.nil ?_
            have hwe := within_e hc0 (show (0 : Int) ≤ (k : Int) by omega) hin
            have he1 : (0 : Int) = spE l t (k : Int) := by rw [hk, hn1]; exact hyes.symm
            have he2 : (0 : Int) = spE l t ((k : Int) + 1) := (hwe.2.2.1 he1.symm).1.symm
            have hal := sp_all hc0
            rw [← he1, ← he2] at hwe
            refine W.sreg ?_
            refine WO.loadA rfl rfl (Cells.own (Pick.tail (Pick.head))) rfl rfl (WO.p rfl rfl ?_)
            refine WO.call (Post := fun r Hq => ∃ x : Value, r = .tuple #[x, .int .i64 0] ∧ Hq = [OwE encP 51 2 x (spL l t (k : Int))]) rfl Try.call29 (fun L w hi => by have h := c_Spread w _ l t (k : Int) (hR.later hi) ⟨va, vc, rfl, hcap⟩; rw [← he1] at h; exact h) rfl ?_
            rintro _ _ ⟨s1, rfl, rfl⟩
            refine WO.fact (OwE.sl (enc := encP) (e := 51) (sz := 2) (xs := spL l t (k : Int)) (v := s1) Pick.head) (fun hs1 => ?_)
            refine WO.p rfl rfl (WO.p rfl rfl (WO.p rfl rfl (WO.p rfl rfl (WO.p rfl rfl ?_))))
            refine WO.nil ?_
            refine W.sreg ?_
            refine WO.loadA rfl rfl (Cells.own (Pick.tail (Pick.tail (Pick.head)))) rfl rfl (WO.p rfl rfl (WO.ar rfl rfl rfl (by (first | (unfold in64; omega) | (unfold in64; omega))) rfl ?_))
            refine WO.call (Post := fun r Hq => ∃ x : Value, r = .tuple #[x, .int .i64 0] ∧ Hq = [OwE encP 51 2 x (spL l t ((k : Int) + 1))]) rfl Try.call29 (fun L w hi => by have h := c_Spread w _ l t ((k : Int) + 1) (hR.later hi) ⟨va, vc, rfl, hcap⟩; rw [← he2] at h; exact h) rfl ?_
            rintro _ _ ⟨s2, rfl, rfl⟩
            refine WO.fact (OwE.sl (enc := encP) (e := 51) (sz := 2) (xs := spL l t ((k : Int) + 1)) (v := s2) Pick.head) (fun hs2 => ?_)
            refine WO.p rfl rfl (WO.p rfl rfl (WO.p rfl rfl (WO.p rfl rfl (WO.p rfl rfl ?_))))
            refine WO.nil ?_
            refine W.sreg ?_
            refine WO.loadA rfl rfl (Cells.own (Pick.tail (Pick.tail (Pick.tail (Pick.head))))) rfl rfl (WO.p rfl rfl ?_)
            refine WO.call (Post := fun r Hq => ∃ x : Value, r = .tuple #[x, .int .i64 0] ∧ Hq = [OwE encP 51 2 x l]) rfl Try.call29 (fun L w hi => by have h := c_Spread w _ l t (l.length : Int) (hR.later hi) ⟨va, vc, rfl, hcap⟩; rw [hal.1, hal.2] at h; exact h) rfl ?_
            rintro _ _ ⟨s3, rfl, rfl⟩
            refine WO.p rfl rfl (WO.p rfl rfl (WO.p rfl rfl (WO.p rfl rfl (WO.p rfl rfl ?_))))
            refine WO.nil ?_
            refine W.seq ?_
            refine W.sreg ?_
            refine WO.p rfl rfl ?_
            refine WO.neqF rfl rfl (by omega) rfl ?_
            refine WO.p rfl rfl (WO.pg rfl rfl rfl (WO.go' rfl ?_))
            refine WO.neqF rfl rfl (by omega) rfl ?_
            refine WO.pg rfl rfl rfl (WO.no rfl rfl (WO.no rfl rfl (WO.pg rfl rfl rfl (WO.p rfl rfl (WO.p rfl rfl (WO.pg rfl rfl rfl (WO.go' rfl ?_)))))))
            refine WO.neqF rfl rfl (by omega) rfl ?_
            refine WO.pg rfl rfl rfl (WO.no rfl rfl (WO.no rfl rfl (WO.no rfl rfl (WO.no rfl rfl (WO.no rfl rfl (WO.no rfl rfl (WO.pg rfl rfl rfl (WO.p rfl rfl (WO.p rfl rfl (WO.pg rfl rfl rfl (WO.go' rfl ?_)))))))))))
            refine WO.neqF rfl rfl (by omega) rfl ?_
            refine WO.p rfl rfl (WO.p rfl rfl (WO.pg rfl rfl rfl (WO.go' rfl (WO.field0 rfl rfl rfl (WO.go' rfl (WO.load rfl rfl (Cell.own (Pick.tail (Pick.tail (Pick.tail (Pick.tail (Pick.head))))) rfl) rfl (WO.go' rfl ?_)))))))
            refine WO.callR (r := .bool true) rfl Try.call31 (fun L w hi => ranges_t (law_ranges w _ _ l l (RdF.of_ow (e := 51) encP_ok (by repeat (first | exact Pick.head | apply Pick.tail)) hi) (hR.later hi)) rfl) rfl ?_
            refine WO.pg rfl rfl rfl (WO.p rfl rfl ?_)
            refine WO.nil ?_
            refine W.cond_f rfl ?_
            refine W.skip ?_
            refine W.seq ?_
            refine W.sreg ?_
            refine WO.p rfl rfl ?_
            refine WO.neqF rfl rfl (by omega) rfl ?_
            refine WO.nil ?_
            refine W.cond_f rfl ?_
            refine W.skip ?_
            refine W.seq ?_
            have hex := few_of hc0 (show (0 : Int) ≤ (k : Int) by omega) he1.symm
            have hlen := hwe.2.2.1 rfl
            refine W.sreg ?_
            refine WO.p rfl rfl ?_
            refine' WO.len (n := _) rfl rfl ?hs rfl ?_
            case hs => (first | exact hs1)
            refine WO.p rfl rfl ?_
            refine WO.neqF rfl rfl (by omega) rfl ?_
            refine WO.p rfl rfl (WO.pg rfl rfl rfl (WO.go' rfl ?_))
            refine' WO.len (n := _) rfl rfl ?hs rfl ?_
            case hs => (first | exact hs2)
            refine WO.pg rfl rfl rfl (WO.go' rfl ?_)
            refine WO.neqF rfl rfl (by omega) rfl ?_
            refine WO.p rfl rfl ?_
            refine WO.nil ?_
            refine W.cond_f rfl ?_
            refine W.skip ?_
            refine W.seq ?_
            refine W.sreg ?_
            refine WO.p rfl rfl ?_
            refine WO.nil ?_
            refine W.block ?_
            refine W.loop (fun (i : Nat) => i ≤ l.length)
              (fun (i : Nat) => [(3, .int .u8 (wh : Int)), (4, .pointer (some ⟨b1, 0, none⟩)), (9, .int .i64 (l.length : Int)), (10, .int .i64 (k : Int)), (11, r3), (12, .int .i64 (chL (liL l bs) : Int)), (15, s1), (17, s2), (21, .int .i64 (i : Int))])
              (fun (i : Nat) => [pt b1 (.cells #[.slice va l.length vc, .int .i64 t] 24 (0, 0)), OwE encI 2 1 r3 (liL l bs), OwE encP 51 2 s1 (spL l t (k : Int)), OwE encP 51 2 s2 (spL l t ((k : Int) + 1))])
              (fun (i : Nat) => l.length - i) 0
              (by exact Nat.zero_le _) ⟨rfl, rfl, rfl, rfl, rfl, rfl, rfl, rfl, rfl, trivial⟩ (by repeat (first | exact Sub.nil | refine Sub.cons (by repeat (first | exact Pick.head | apply Pick.tail)) ?_)) ?_
            rintro i hi
            refine W.seq ?_
            refine W.sreg ?_
            refine WO.p rfl rfl (WO.p rfl rfl (WO.p rfl rfl ?_))
            refine WO.nil ?_
            refine W.cond_bl rfl (fun c3 => ?_) (fun c3 => ?_)
            · first
              | (exfalso; omega)
              | (refine W.skip ?_
                 refine W.seq ?_
                 refine W.block ?_
                 refine W.seq ?_
                 have hwi := within_i hc0 (show (0 : Int) ≤ (k : Int) by omega) hex (i := i) (by omega)
                 have hwl : (chL (liL l bs) : Int) ≤ (k : Int) → ((spL l t (k : Int)).getD i (0, 0)).1 ≤ (liL l bs).getD i 0 ∧ (liL l bs).getD i 0 ≤ ((spL l t (k : Int)).getD i (0, 0)).2 := fun h => hwi.2.2.2.2.2 _ ⟨hin, h⟩
                 obtain ⟨w1, w2, w3, w4, w5, _⟩ := hwi
                 refine W.drawD 90 [.r 0 [], .r 1 [], .r 2 [], .r 3 [], .b 4 [], .r 5 [], .b 6 [], .r 7 [], .r 8 [], .r 9 [], .b 10 [], .r 11 [], .r 12 [], .r 13 [], .r 14 [], .r 15 [], .r 16 [], .b 17 [], .r 18 [], .b 19 [], .r 20 [], .r 21 [], .r 22 [], .b 23 [], .r 24 [], .r 25 [], .r 26 [], .r 27 [], .r 28 [], .r 29 [], .r 30 [], .b 31 [], .r 32 [], .r 33 [], .r 34 [], .r 35 [], .b 36 [], .r 37 [], .r 38 [], .r 39 [], .r 40 [], .r 41 [], .r 42 [], .r 43 [], .b 44 [], .r 45 [], .r 46 [], .r 47 [], .r 48 [], .b 49 [], .r 50 [], .r 51 [], .r 52 [], .r 53 [], .r 54 [], .r 55 [], .r 56 [], .b 57 [], .r 58 [], .r 59 [], .r 60 [], .r 61 [], .b 62 [], .r 63 [], .r 64 [], .r 65 [], .r 66 [], .r 67 [], .r 68 [], .r 69 [], .r 70 [], .r 71 [], .r 72 [], .b 73 [], .r 74 [], .r 75 [], .r 76 [], .r 77 [], .b 78 [], .r 79 [], .r 80 [], .r 81 [], .r 82 [], .r 83 [], .b 84 [], .r 85 [], .r 86 [], .r 87 [], .r 88 [], .b 89 []] [] (A0 := []) (Sub.refl _) (by kernel_rfl) ?_ ?_
                 · exact (ALok.r (ALok.r (ALok.r (ALok.r (ALok.b (ALok.r (ALok.b (ALok.r (ALok.r (ALok.r (ALok.b (ALok.r (ALok.r (ALok.r (ALok.r (ALok.r (ALok.r (ALok.b (ALok.r (ALok.b (ALok.r (ALok.r (ALok.r (ALok.b (ALok.r (ALok.r (ALok.r (ALok.r (ALok.r (ALok.r (ALok.r (ALok.b (ALok.r (ALok.r (ALok.r (ALok.r (ALok.b (ALok.r (ALok.r (ALok.r (ALok.r (ALok.r (ALok.r (ALok.r (ALok.b (ALok.r (ALok.r (ALok.r (ALok.r (ALok.b (ALok.r (ALok.r (ALok.r (ALok.r (ALok.r (ALok.r (ALok.r (ALok.b (ALok.r (ALok.r (ALok.r (ALok.r (ALok.b (ALok.r (ALok.r (ALok.r (ALok.r (ALok.r (ALok.r (ALok.r (ALok.r (ALok.r (ALok.r (ALok.b (ALok.r (ALok.r (ALok.r (ALok.r (ALok.b (ALok.r (ALok.r (ALok.r (ALok.r (ALok.r (ALok.b (ALok.r (ALok.r (ALok.r (ALok.r (ALok.b ALok.nil))))))))))))))))))))))))))))))))))))))))))))))))))))))))))))))))))))))))))))))))))))))))))
                 refine' DT.r rfl rfl rfl ?hq ?_
                 case hq =>
                   refine WO.p rfl rfl ?_
                   exact WO.nil ⟨rfl, rfl⟩
                 refine' DT.r rfl rfl rfl ?hq ?_
                 case hq =>
                   refine WO.p rfl rfl ?_
                   exact WO.nil ⟨rfl, rfl⟩
                 refine' DT.r rfl rfl rfl ?hq ?_
                 case hq =>
                   refine' WO.indexAddr (n := _) (i := _) rfl rfl rfl ?hs ?h1 rfl ?_
                   case hs => (first | exact hs1)
                   case h1 => (first | omega | (simp; omega))
                   exact WO.nil ⟨rfl, rfl⟩
                 refine' DT.r rfl rfl rfl ?hq ?_
                 case hq =>
                   refine WO.field0 rfl rfl rfl ?_
                   exact WO.nil ⟨rfl, rfl⟩
                 refine' DT.b rfl rfl rfl ?hq ?_
                 case hq =>
                   refine' WO.load (v := _) rfl rfl ?hc rfl ?_
                   case hc => (first | (refine ownLo (e := 51) (xs := spL l t (k : Int)) (i := i) (x := ((spL l t (k : Int)).getD i (0, 0)).1) ?_ (by omega) rfl rfl; exact (by repeat (first | exact Sub.nil | refine Sub.cons (by repeat (first | exact Pick.head | apply Pick.tail)) ?_))))
                   exact WO.nil ⟨rfl, rfl⟩
                 refine' DT.r rfl rfl rfl ?hq ?_
                 case hq =>
                   refine WO.field0 rfl rfl rfl ?_
                   exact WO.nil ⟨rfl, rfl⟩
                 refine' DT.b rfl rfl rfl ?hq ?_
                 case hq =>
                   refine WO.load rfl rfl (Cell.own Pick.head rfl) rfl ?_
                   exact WO.nil ⟨rfl, rfl⟩
                 refine' DT.r rfl rfl rfl ?hq ?_
                 case hq =>
                   refine WO.p rfl rfl ?_
                   exact WO.nil ⟨rfl, rfl⟩
                 refine' DT.r rfl rfl rfl ?hq ?_
                 case hq =>
                   refine' WO.indexAddr (n := _) (i := _) rfl rfl rfl ?hs ?h1 rfl ?_
                   case hs => (first | exact hR.sl)
                   case h1 => (first | omega | (simp; omega))
                   exact WO.nil ⟨rfl, rfl⟩
                 refine' DT.r rfl rfl rfl ?hq ?_
                 case hq =>
                   refine WO.field0 rfl rfl rfl ?_
                   exact WO.nil ⟨rfl, rfl⟩
                 refine' DT.b rfl rfl rfl ?hq ?_
                 case hq =>
                   refine' WO.load (v := _) rfl rfl ?hc rfl ?_
                   case hc => (first | (refine RdF.loZ hR (i := i) (by omega) rfl))
                   exact WO.nil ⟨rfl, rfl⟩
                 refine' DT.r rfl rfl rfl ?hq ?_
                 case hq =>
                   refine WO.lssF rfl rfl (by omega) rfl ?_
                   exact WO.nil ⟨rfl, rfl⟩
                 refine' DT.r rfl rfl rfl ?hq ?_
                 case hq =>
                   refine WO.p rfl rfl ?_
                   exact WO.nil ⟨rfl, rfl⟩
                 refine' DT.r rfl rfl rfl ?hq ?_
                 case hq =>
                   refine WO.pg rfl rfl rfl ?_
                   exact WO.nil ⟨rfl, rfl⟩
                 refine' DT.r rfl rfl rfl ?hq ?_
                 case hq =>
                   refine WO.pg rfl rfl rfl ?_
                   exact WO.nil ⟨rfl, rfl⟩
                 refine' DT.r rfl rfl rfl ?hq ?_
                 case hq =>
                   refine WO.go' rfl ?_
                   refine' WO.indexAddr (n := _) (i := _) rfl rfl rfl ?hs ?h1 rfl ?_
                   case hs => (first | exact hs1)
                   case h1 => (first | omega | (simp; omega))
                   exact WO.nil ⟨rfl, rfl⟩
                 refine' DT.r rfl rfl rfl ?hq ?_
                 case hq =>
                   refine WO.go' rfl (WO.field rfl rfl rfl ?_)
                   exact WO.nil ⟨rfl, rfl⟩
                 refine' DT.b rfl rfl rfl ?hq ?_
                 case hq =>
                   refine WO.go' rfl ?_
                   refine' WO.load (v := _) rfl rfl ?hc rfl ?_
                   case hc => (first | (refine ownHi (e := 51) (xs := spL l t (k : Int)) (i := i) (x := ((spL l t (k : Int)).getD i (0, 0)).2) ?_ (by omega) rfl rfl; exact (by repeat (first | exact Sub.nil | refine Sub.cons (by repeat (first | exact Pick.head | apply Pick.tail)) ?_))))
                   exact WO.nil ⟨rfl, rfl⟩
                 refine' DT.r rfl rfl rfl ?hq ?_
                 case hq =>
                   refine WO.go' rfl (WO.field0 rfl rfl rfl ?_)
                   exact WO.nil ⟨rfl, rfl⟩
                 refine' DT.b rfl rfl rfl ?hq ?_
                 case hq =>
                   refine WO.go' rfl (WO.load rfl rfl (Cell.own Pick.head rfl) rfl ?_)
                   exact WO.nil ⟨rfl, rfl⟩
                 refine' DT.r rfl rfl rfl ?hq ?_
                 case hq =>
                   refine WO.pg rfl rfl rfl ?_
                   exact WO.nil ⟨rfl, rfl⟩
                 refine' DT.r rfl rfl rfl ?hq ?_
                 case hq =>
                   refine WO.go' rfl ?_
                   refine' WO.indexAddr (n := _) (i := _) rfl rfl rfl ?hs ?h1 rfl ?_
                   case hs => (first | exact hR.sl)
                   case h1 => (first | omega | (simp; omega))
                   exact WO.nil ⟨rfl, rfl⟩
                 refine' DT.r rfl rfl rfl ?hq ?_
                 case hq =>
                   refine WO.go' rfl (WO.field rfl rfl rfl ?_)
                   exact WO.nil ⟨rfl, rfl⟩
                 refine' DT.b rfl rfl rfl ?hq ?_
                 case hq =>
                   refine WO.go' rfl ?_
                   refine' WO.load (v := _) rfl rfl ?hc rfl ?_
                   case hc => (first | (refine RdF.hiZ hR (i := i) (by omega) rfl))
                   exact WO.nil ⟨rfl, rfl⟩
                 refine' DT.r rfl rfl rfl ?hq ?_
                 case hq =>
                   refine WO.go' rfl ?_
                   refine WO.gtrF rfl rfl (by omega) rfl ?_
                   exact WO.nil ⟨rfl, rfl⟩
                 refine' DT.r rfl rfl rfl ?hq ?_
                 case hq =>
                   refine WO.p rfl rfl ?_
                   exact WO.nil ⟨rfl, rfl⟩
                 refine' DT.r rfl rfl rfl ?hq ?_
                 case hq =>
                   refine WO.p rfl rfl ?_
                   exact WO.nil ⟨rfl, rfl⟩
                 refine' DT.r rfl rfl rfl ?hq ?_
                 case hq =>
                   refine WO.pg rfl rfl rfl ?_
                   exact WO.nil ⟨rfl, rfl⟩
                 refine' DT.r rfl rfl rfl ?hq ?_
                 case hq =>
                   refine WO.pg rfl rfl rfl ?_
                   exact WO.nil ⟨rfl, rfl⟩
                 refine' DT.r rfl rfl rfl ?hq ?_
                 case hq =>
                   refine WO.go' rfl ?_
                   refine' WO.indexAddr (n := _) (i := _) rfl rfl rfl ?hs ?h1 rfl ?_
                   case hs => (first | exact hs1)
                   case h1 => (first | omega | (simp; omega))
                   exact WO.nil ⟨rfl, rfl⟩
                 refine' DT.r rfl rfl rfl ?hq ?_
                 case hq =>
                   refine WO.go' rfl (WO.field0 rfl rfl rfl ?_)
                   exact WO.nil ⟨rfl, rfl⟩
                 refine' DT.b rfl rfl rfl ?hq ?_
                 case hq =>
                   refine WO.go' rfl ?_
                   refine' WO.load (v := _) rfl rfl ?hc rfl ?_
                   case hc => (first | (refine ownLo (e := 51) (xs := spL l t (k : Int)) (i := i) (x := ((spL l t (k : Int)).getD i (0, 0)).1) ?_ (by omega) rfl rfl; exact (by repeat (first | exact Sub.nil | refine Sub.cons (by repeat (first | exact Pick.head | apply Pick.tail)) ?_))))
                   exact WO.nil ⟨rfl, rfl⟩
                 refine' DT.r rfl rfl rfl ?hq ?_
                 case hq =>
                   refine WO.pg rfl rfl rfl ?_
                   exact WO.nil ⟨rfl, rfl⟩
                 refine' DT.r rfl rfl rfl ?hq ?_
                 case hq =>
                   refine WO.pg rfl rfl rfl ?_
                   exact WO.nil ⟨rfl, rfl⟩
                 refine' DT.r rfl rfl rfl ?hq ?_
                 case hq =>
                   refine WO.go' rfl ?_
                   refine' WO.indexAddr (n := _) (i := _) rfl rfl rfl ?hs ?h1 rfl ?_
                   case hs => (first | exact hs1)
                   case h1 => (first | omega | (simp; omega))
                   exact WO.nil ⟨rfl, rfl⟩
                 refine' DT.r rfl rfl rfl ?hq ?_
                 case hq =>
                   refine WO.go' rfl (WO.field rfl rfl rfl ?_)
                   exact WO.nil ⟨rfl, rfl⟩
                 refine' DT.b rfl rfl rfl ?hq ?_
                 case hq =>
                   refine WO.go' rfl ?_
                   refine' WO.load (v := _) rfl rfl ?hc rfl ?_
                   case hc => (first | (refine ownHi (e := 51) (xs := spL l t (k : Int)) (i := i) (x := ((spL l t (k : Int)).getD i (0, 0)).2) ?_ (by omega) rfl rfl; exact (by repeat (first | exact Sub.nil | refine Sub.cons (by repeat (first | exact Pick.head | apply Pick.tail)) ?_))))
                   exact WO.nil ⟨rfl, rfl⟩
                 refine' DT.r rfl rfl rfl ?hq ?_
                 case hq =>
                   refine WO.go' rfl ?_
                   refine WO.gtrF rfl rfl (by omega) rfl ?_
                   exact WO.nil ⟨rfl, rfl⟩
                 refine' DT.r rfl rfl rfl ?hq ?_
                 case hq =>
                   refine WO.p rfl rfl ?_
                   exact WO.nil ⟨rfl, rfl⟩
                 refine' DT.r rfl rfl rfl ?hq ?_
                 case hq =>
                   refine WO.p rfl rfl ?_
                   exact WO.nil ⟨rfl, rfl⟩
                 refine' DT.r rfl rfl rfl ?hq ?_
                 case hq =>
                   refine WO.pg rfl rfl rfl ?_
                   exact WO.nil ⟨rfl, rfl⟩
                 refine' DT.r rfl rfl rfl ?hq ?_
                 case hq =>
                   refine WO.pg rfl rfl rfl ?_
                   exact WO.nil ⟨rfl, rfl⟩
                 refine' DT.r rfl rfl rfl ?hq ?_
                 case hq =>
                   refine WO.go' rfl ?_
                   refine' WO.indexAddr (n := _) (i := _) rfl rfl rfl ?hs ?h1 rfl ?_
                   case hs => (first | exact hs2)
                   case h1 => (first | omega | (simp; omega))
                   exact WO.nil ⟨rfl, rfl⟩
                 refine' DT.r rfl rfl rfl ?hq ?_
                 case hq =>
                   refine WO.go' rfl (WO.field0 rfl rfl rfl ?_)
                   exact WO.nil ⟨rfl, rfl⟩
                 refine' DT.b rfl rfl rfl ?hq ?_
                 case hq =>
                   refine WO.go' rfl ?_
                   refine' WO.load (v := _) rfl rfl ?hc rfl ?_
                   case hc => (first | (refine ownLo (e := 51) (xs := spL l t ((k : Int) + 1)) (i := i) (x := ((spL l t ((k : Int) + 1)).getD i (0, 0)).1) ?_ (by omega) rfl rfl; exact (by repeat (first | exact Sub.nil | refine Sub.cons (by repeat (first | exact Pick.head | apply Pick.tail)) ?_))))
                   exact WO.nil ⟨rfl, rfl⟩
                 refine' DT.r rfl rfl rfl ?hq ?_
                 case hq =>
                   refine WO.pg rfl rfl rfl ?_
                   exact WO.nil ⟨rfl, rfl⟩
                 refine' DT.r rfl rfl rfl ?hq ?_
                 case hq =>
                   refine WO.pg rfl rfl rfl ?_
                   exact WO.nil ⟨rfl, rfl⟩
                 refine' DT.r rfl rfl rfl ?hq ?_
                 case hq =>
                   refine WO.go' rfl ?_
                   refine' WO.indexAddr (n := _) (i := _) rfl rfl rfl ?hs ?h1 rfl ?_
                   case hs => (first | exact hs1)
                   case h1 => (first | omega | (simp; omega))
                   exact WO.nil ⟨rfl, rfl⟩
                 refine' DT.r rfl rfl rfl ?hq ?_
                 case hq =>
                   refine WO.go' rfl (WO.field0 rfl rfl rfl ?_)
                   exact WO.nil ⟨rfl, rfl⟩
                 refine' DT.b rfl rfl rfl ?hq ?_
                 case hq =>
                   refine WO.go' rfl ?_
                   refine' WO.load (v := _) rfl rfl ?hc rfl ?_
                   case hc => (first | (refine ownLo (e := 51) (xs := spL l t (k : Int)) (i := i) (x := ((spL l t (k : Int)).getD i (0, 0)).1) ?_ (by omega) rfl rfl; exact (by repeat (first | exact Sub.nil | refine Sub.cons (by repeat (first | exact Pick.head | apply Pick.tail)) ?_))))
                   exact WO.nil ⟨rfl, rfl⟩
                 refine' DT.r rfl rfl rfl ?hq ?_
                 case hq =>
                   refine WO.go' rfl ?_
                   refine WO.gtrF rfl rfl (by omega) rfl ?_
                   exact WO.nil ⟨rfl, rfl⟩
                 refine' DT.r rfl rfl rfl ?hq ?_
                 case hq =>
                   refine WO.p rfl rfl ?_
                   exact WO.nil ⟨rfl, rfl⟩
                 refine' DT.r rfl rfl rfl ?hq ?_
                 case hq =>
                   refine WO.p rfl rfl ?_
                   exact WO.nil ⟨rfl, rfl⟩
                 refine' DT.r rfl rfl rfl ?hq ?_
                 case hq =>
                   refine WO.pg rfl rfl rfl ?_
                   exact WO.nil ⟨rfl, rfl⟩
                 refine' DT.r rfl rfl rfl ?hq ?_
                 case hq =>
                   refine WO.pg rfl rfl rfl ?_
                   exact WO.nil ⟨rfl, rfl⟩
                 refine' DT.r rfl rfl rfl ?hq ?_
                 case hq =>
                   refine WO.go' rfl ?_
                   refine' WO.indexAddr (n := _) (i := _) rfl rfl rfl ?hs ?h1 rfl ?_
                   case hs => (first | exact hs2)
                   case h1 => (first | omega | (simp; omega))
                   exact WO.nil ⟨rfl, rfl⟩
                 refine' DT.r rfl rfl rfl ?hq ?_
                 case hq =>
                   refine WO.go' rfl (WO.field rfl rfl rfl ?_)
                   exact WO.nil ⟨rfl, rfl⟩
                 refine' DT.b rfl rfl rfl ?hq ?_
                 case hq =>
                   refine WO.go' rfl ?_
                   refine' WO.load (v := _) rfl rfl ?hc rfl ?_
                   case hc => (first | (refine ownHi (e := 51) (xs := spL l t ((k : Int) + 1)) (i := i) (x := ((spL l t ((k : Int) + 1)).getD i (0, 0)).2) ?_ (by omega) rfl rfl; exact (by repeat (first | exact Sub.nil | refine Sub.cons (by repeat (first | exact Pick.head | apply Pick.tail)) ?_))))
                   exact WO.nil ⟨rfl, rfl⟩
                 refine' DT.r rfl rfl rfl ?hq ?_
                 case hq =>
                   refine WO.pg rfl rfl rfl ?_
                   exact WO.nil ⟨rfl, rfl⟩
                 refine' DT.r rfl rfl rfl ?hq ?_
                 case hq =>
                   refine WO.pg rfl rfl rfl ?_
                   exact WO.nil ⟨rfl, rfl⟩
                 refine' DT.r rfl rfl rfl ?hq ?_
                 case hq =>
                   refine WO.go' rfl ?_
                   refine' WO.indexAddr (n := _) (i := _) rfl rfl rfl ?hs ?h1 rfl ?_
                   case hs => (first | exact hs1)
                   case h1 => (first | omega | (simp; omega))
                   exact WO.nil ⟨rfl, rfl⟩
                 refine' DT.r rfl rfl rfl ?hq ?_
                 case hq =>
                   refine WO.go' rfl (WO.field rfl rfl rfl ?_)
                   exact WO.nil ⟨rfl, rfl⟩
                 refine' DT.b rfl rfl rfl ?hq ?_
                 case hq =>
                   refine WO.go' rfl ?_
                   refine' WO.load (v := _) rfl rfl ?hc rfl ?_
                   case hc => (first | (refine ownHi (e := 51) (xs := spL l t (k : Int)) (i := i) (x := ((spL l t (k : Int)).getD i (0, 0)).2) ?_ (by omega) rfl rfl; exact (by repeat (first | exact Sub.nil | refine Sub.cons (by repeat (first | exact Pick.head | apply Pick.tail)) ?_))))
                   exact WO.nil ⟨rfl, rfl⟩
                 refine' DT.r rfl rfl rfl ?hq ?_
                 case hq =>
                   refine WO.go' rfl ?_
                   refine WO.lssF rfl rfl (by omega) rfl ?_
                   exact WO.nil ⟨rfl, rfl⟩
                 refine' DT.r rfl rfl rfl ?hq ?_
                 case hq =>
                   refine WO.p rfl rfl ?_
                   exact WO.nil ⟨rfl, rfl⟩
                 refine' DT.r rfl rfl rfl ?hq ?_
                 case hq =>
                   refine WO.p rfl rfl ?_
                   exact WO.nil ⟨rfl, rfl⟩
                 refine' DT.r rfl rfl rfl ?hq ?_
                 case hq =>
                   refine WO.pg rfl rfl rfl ?_
                   exact WO.nil ⟨rfl, rfl⟩
                 refine' DT.r rfl rfl rfl ?hq ?_
                 case hq =>
                   refine WO.pg rfl rfl rfl ?_
                   exact WO.nil ⟨rfl, rfl⟩
                 refine' DT.r rfl rfl rfl ?hq ?_
                 case hq =>
                   refine WO.pg rfl rfl rfl ?_
                   exact WO.nil ⟨rfl, rfl⟩
                 refine' DT.rB rfl rfl rfl ?hq (fun c4 => ?_) (fun c4 => ?_)
                 case hq =>
                   refine WO.pg rfl rfl rfl ?_
                   exact WO.nil ⟨rfl, rfl⟩
                 · first
                   | (exfalso; omega)
                   | (refine' DT.r rfl rfl rfl ?hq ?_
                      case hq =>
                        refine WO.pg rfl rfl rfl ?_
                        exact WO.nil ⟨rfl, rfl⟩
                      refine' DT.r rfl rfl rfl ?hq ?_
                      case hq =>
                        refine WO.pg rfl rfl rfl ?_
                        exact WO.nil ⟨rfl, rfl⟩
                      refine' DT.r rfl rfl rfl ?hq ?_
                      case hq =>
                        refine WO.go' rfl ?_
                        refine' WO.indexAddr (n := _) (i := _) rfl rfl rfl ?hs ?h1 rfl ?_
                        case hs => (first | exact hls)
                        case h1 => (first | omega | (simp; omega))
                        exact WO.nil ⟨rfl, rfl⟩
                      refine' DT.b rfl rfl rfl ?hq ?_
                      case hq =>
                        refine WO.go' rfl ?_
                        refine' WO.load (v := _) rfl rfl ?hc rfl ?_
                        case hc => (first | (refine owE_cellS (e := 2) (xs := liL l bs) (x := (liL l bs).getD i 0) (i := i) ?_ (by omega) rfl rfl; exact (by repeat (first | exact Sub.nil | refine Sub.cons (by repeat (first | exact Pick.head | apply Pick.tail)) ?_))))
                        exact WO.nil ⟨rfl, rfl⟩
                      refine' DT.r rfl rfl rfl ?hq ?_
                      case hq =>
                        refine WO.pg rfl rfl rfl ?_
                        exact WO.nil ⟨rfl, rfl⟩
                      refine' DT.r rfl rfl rfl ?hq ?_
                      case hq =>
                        refine WO.pg rfl rfl rfl ?_
                        exact WO.nil ⟨rfl, rfl⟩
                      refine' DT.r rfl rfl rfl ?hq ?_
                      case hq =>
                        refine WO.go' rfl ?_
                        refine' WO.indexAddr (n := _) (i := _) rfl rfl rfl ?hs ?h1 rfl ?_
                        case hs => (first | exact hs1)
                        case h1 => (first | omega | (simp; omega))
                        exact WO.nil ⟨rfl, rfl⟩
                      refine' DT.r rfl rfl rfl ?hq ?_
                      case hq =>
                        refine WO.go' rfl (WO.field0 rfl rfl rfl ?_)
                        exact WO.nil ⟨rfl, rfl⟩
                      refine' DT.b rfl rfl rfl ?hq ?_
                      case hq =>
                        refine WO.go' rfl ?_
                        refine' WO.load (v := _) rfl rfl ?hc rfl ?_
                        case hc => (first | (refine ownLo (e := 51) (xs := spL l t (k : Int)) (i := i) (x := ((spL l t (k : Int)).getD i (0, 0)).1) ?_ (by omega) rfl rfl; exact (by repeat (first | exact Sub.nil | refine Sub.cons (by repeat (first | exact Pick.head | apply Pick.tail)) ?_))))
                        exact WO.nil ⟨rfl, rfl⟩
                      refine' DT.r rfl rfl rfl ?hq ?_
                      case hq =>
                        refine WO.go' rfl ?_
                        refine WO.lssF rfl rfl (by have q := hwl (by assumption); omega) rfl ?_
                        exact WO.nil ⟨rfl, rfl⟩
                      refine' DT.r rfl rfl rfl ?hq ?_
                      case hq =>
                        refine WO.pg rfl rfl rfl ?_
                        exact WO.nil ⟨rfl, rfl⟩
                      refine' DT.r rfl rfl rfl ?hq ?_
                      case hq =>
                        refine WO.pg rfl rfl rfl ?_
                        exact WO.nil ⟨rfl, rfl⟩
                      refine' DT.r rfl rfl rfl ?hq ?_
                      case hq =>
                        refine WO.pg rfl rfl rfl ?_
                        exact WO.nil ⟨rfl, rfl⟩
                      refine' DT.r rfl rfl rfl ?hq ?_
                      case hq =>
                        refine WO.go' rfl ?_
                        refine' WO.indexAddr (n := _) (i := _) rfl rfl rfl ?hs ?h1 rfl ?_
                        case hs => (first | exact hls)
                        case h1 => (first | omega | (simp; omega))
                        exact WO.nil ⟨rfl, rfl⟩
                      refine' DT.b rfl rfl rfl ?hq ?_
                      case hq =>
                        refine WO.go' rfl ?_
                        refine' WO.load (v := _) rfl rfl ?hc rfl ?_
                        case hc => (first | (refine owE_cellS (e := 2) (xs := liL l bs) (x := (liL l bs).getD i 0) (i := i) ?_ (by omega) rfl rfl; exact (by repeat (first | exact Sub.nil | refine Sub.cons (by repeat (first | exact Pick.head | apply Pick.tail)) ?_))))
                        exact WO.nil ⟨rfl, rfl⟩
                      refine' DT.r rfl rfl rfl ?hq ?_
                      case hq =>
                        refine WO.pg rfl rfl rfl ?_
                        exact WO.nil ⟨rfl, rfl⟩
                      refine' DT.r rfl rfl rfl ?hq ?_
                      case hq =>
                        refine WO.pg rfl rfl rfl ?_
                        exact WO.nil ⟨rfl, rfl⟩
                      refine' DT.r rfl rfl rfl ?hq ?_
                      case hq =>
                        refine WO.go' rfl ?_
                        refine' WO.indexAddr (n := _) (i := _) rfl rfl rfl ?hs ?h1 rfl ?_
                        case hs => (first | exact hs1)
                        case h1 => (first | omega | (simp; omega))
                        exact WO.nil ⟨rfl, rfl⟩
                      refine' DT.r rfl rfl rfl ?hq ?_
                      case hq =>
                        refine WO.go' rfl (WO.field rfl rfl rfl ?_)
                        exact WO.nil ⟨rfl, rfl⟩
                      refine' DT.b rfl rfl rfl ?hq ?_
                      case hq =>
                        refine WO.go' rfl ?_
                        refine' WO.load (v := _) rfl rfl ?hc rfl ?_
                        case hc => (first | (refine ownHi (e := 51) (xs := spL l t (k : Int)) (i := i) (x := ((spL l t (k : Int)).getD i (0, 0)).2) ?_ (by omega) rfl rfl; exact (by repeat (first | exact Sub.nil | refine Sub.cons (by repeat (first | exact Pick.head | apply Pick.tail)) ?_))))
                        exact WO.nil ⟨rfl, rfl⟩
                      refine DT.nil [_, _, _, _] rfl ?_
                      refine WO.go' rfl ?_
                      refine WO.gtrF rfl rfl (by have q := hwl (by assumption); omega) rfl ?_
                      refine WO.pg rfl rfl rfl (WO.pg rfl rfl rfl (WO.p rfl rfl ?_))
                      refine WO.nil ?_
                      refine W.cond_f rfl ?_
                      refine W.skip ?_
                      refine W.region ?_
                      refine WO.p rfl rfl (WO.ar rfl rfl rfl (by (first | (unfold in64; omega) | (unfold in64; omega))) rfl (WO.p rfl rfl ?_))
                      refine WO.nil ?_
                      refine' ⟨i + 1, ?hp, ?hmu, ⟨rfl, rfl, rfl, rfl, rfl, rfl, rfl, rfl, rfl, trivial⟩, ?hS⟩
                      case hS => repeat (first | exact Sub.nil | refine Sub.cons (by repeat (first | exact Pick.head | apply Pick.tail)) ?_)
                      case hp => omega
                      case hmu => omega)
                 · first
                   | (exfalso; omega)
                   | (refine' DT.r rfl rfl rfl ?hq ?_
                      case hq =>
                        refine WO.no rfl rfl ?_
                        exact WO.nil ⟨rfl, rfl⟩
                      refine' DT.r rfl rfl rfl ?hq ?_
                      case hq =>
                        refine WO.no rfl rfl ?_
                        exact WO.nil ⟨rfl, rfl⟩
                      refine' DT.r rfl rfl rfl ?hq ?_
                      case hq =>
                        refine WO.no rfl rfl ?_
                        exact WO.nil ⟨rfl, rfl⟩
                      refine' DT.b rfl rfl rfl ?hq ?_
                      case hq =>
                        refine WO.no rfl rfl ?_
                        exact WO.nil ⟨rfl, rfl⟩
                      refine' DT.r rfl rfl rfl ?hq ?_
                      case hq =>
                        refine WO.no rfl rfl ?_
                        exact WO.nil ⟨rfl, rfl⟩
                      refine' DT.r rfl rfl rfl ?hq ?_
                      case hq =>
                        refine WO.no rfl rfl ?_
                        exact WO.nil ⟨rfl, rfl⟩
                      refine' DT.r rfl rfl rfl ?hq ?_
                      case hq =>
                        refine WO.no rfl rfl ?_
                        exact WO.nil ⟨rfl, rfl⟩
                      refine' DT.r rfl rfl rfl ?hq ?_
                      case hq =>
                        refine WO.no rfl rfl ?_
                        exact WO.nil ⟨rfl, rfl⟩
                      refine' DT.b rfl rfl rfl ?hq ?_
                      case hq =>
                        refine WO.no rfl rfl ?_
                        exact WO.nil ⟨rfl, rfl⟩
                      refine' DT.r rfl rfl rfl ?hq ?_
                      case hq =>
                        refine WO.no rfl rfl ?_
                        exact WO.nil ⟨rfl, rfl⟩
                      refine' DT.r rfl rfl rfl ?hq ?_
                      case hq =>
                        refine WO.no rfl rfl ?_
                        exact WO.nil ⟨rfl, rfl⟩
                      refine' DT.r rfl rfl rfl ?hq ?_
                      case hq =>
                        refine WO.no rfl rfl ?_
                        exact WO.nil ⟨rfl, rfl⟩
                      refine' DT.r rfl rfl rfl ?hq ?_
                      case hq =>
                        refine WO.no rfl rfl ?_
                        exact WO.nil ⟨rfl, rfl⟩
                      refine' DT.r rfl rfl rfl ?hq ?_
                      case hq =>
                        refine WO.no rfl rfl ?_
                        exact WO.nil ⟨rfl, rfl⟩
                      refine' DT.b rfl rfl rfl ?hq ?_
                      case hq =>
                        refine WO.no rfl rfl ?_
                        exact WO.nil ⟨rfl, rfl⟩
                      refine' DT.r rfl rfl rfl ?hq ?_
                      case hq =>
                        refine WO.no rfl rfl ?_
                        exact WO.nil ⟨rfl, rfl⟩
                      refine' DT.r rfl rfl rfl ?hq ?_
                      case hq =>
                        refine WO.no rfl rfl ?_
                        exact WO.nil ⟨rfl, rfl⟩
                      refine' DT.r rfl rfl rfl ?hq ?_
                      case hq =>
                        refine WO.no rfl rfl ?_
                        exact WO.nil ⟨rfl, rfl⟩
                      refine' DT.r rfl rfl rfl ?hq ?_
                      case hq =>
                        refine WO.no rfl rfl ?_
                        exact WO.nil ⟨rfl, rfl⟩
                      refine' DT.b rfl rfl rfl ?hq ?_
                      case hq =>
                        refine WO.no rfl rfl ?_
                        exact WO.nil ⟨rfl, rfl⟩
                      refine DT.nil [_, _, _, _] rfl ?_
                      refine WO.no rfl rfl (WO.no rfl rfl (WO.pg rfl rfl rfl (WO.p rfl rfl ?_)))
                      refine WO.nil ?_
                      refine W.cond_f rfl ?_
                      refine W.skip ?_
                      refine W.region ?_
                      refine WO.p rfl rfl (WO.ar rfl rfl rfl (by (first | (unfold in64; omega) | (unfold in64; omega))) rfl (WO.p rfl rfl ?_))
                      refine WO.nil ?_
                      refine' ⟨i + 1, ?hp, ?hmu, ⟨rfl, rfl, rfl, rfl, rfl, rfl, rfl, rfl, rfl, trivial⟩, ?hS⟩
                      case hS => repeat (first | exact Sub.nil | refine Sub.cons (by repeat (first | exact Pick.head | apply Pick.tail)) ?_)
                      case hp => omega
                      case hmu => omega))
            · first
              | (exfalso; omega)
              | (refine W.exit (blk_same ?_)
                 obtain rfl : i = l.length := by omega
                 obtain ⟨a, ha⟩ : ∃ a, a = wh / 2 % l.length := ⟨_, rfl⟩
                 have hal' : a < l.length := by rw [ha]; exact Nat.mod_lt _ (by omega)
                 refine W.sreg ?_
                 refine WO.p rfl rfl ?_
                 refine WO.quo8 (b := 2) rfl rfl (by omega) (by omega) rfl ?_
                 refine WO.conv64 rfl rfl rfl (by (first | (unfold in64; omega) | (unfold in64; omega))) rfl (WO.p rfl rfl ?_)
                 refine WO.remN rfl rfl (by omega) rfl ?_
                 rw [← ha]
                 refine WO.p rfl rfl ?_
                 refine WO.nil ?_
                 obtain ⟨e, hor, he⟩ : ∃ e, (e = ((spL l t (k : Int)).getD a (0, 0)).1 ∨ e = ((spL l t (k : Int)).getD a (0, 0)).2) ∧ e = ((spL l t (k : Int)).getD a (0, 0)).1 := ⟨_, .inl rfl, rfl⟩
                 refine W.sreg ?_
                 refine WO.p rfl rfl (WO.p rfl rfl ?_)
                 refine' WO.indexAddr (n := _) (i := _) rfl rfl rfl ?hs ?h1 rfl ?_
                 case hs => (first | exact hs1)
                 case h1 => (first | omega | (simp; omega))
                 refine WO.field0 rfl rfl rfl ?_
                 refine' WO.load (v := _) rfl rfl ?hc rfl ?_
                 case hc => (first | (refine ownLo (e := 51) (xs := spL l t (k : Int)) (i := a) (x := e) ?_ (by omega) he rfl; exact (by repeat (first | exact Sub.nil | refine Sub.cons (by repeat (first | exact Pick.head | apply Pick.tail)) ?_))))
                 refine WO.p rfl rfl ?_
                 refine WO.nil ?_
                 refine W.seq ?_
                 refine W.sreg ?_
                 refine WO.p rfl rfl ?_
                 refine WO.remN (b := 2) rfl rfl (by omega) rfl ?_
                 refine WO.p rfl rfl ?_
                 refine WO.nil ?_
                 refine W.cond_bl rfl (fun c4 => ?_) (fun c4 => ?_)
                 · first
                   | (exfalso; omega)
                   | (obtain ⟨e, hor, he⟩ : ∃ e, (e = ((spL l t (k : Int)).getD a (0, 0)).1 ∨ e = ((spL l t (k : Int)).getD a (0, 0)).2) ∧ e = ((spL l t (k : Int)).getD a (0, 0)).2 := ⟨_, .inr rfl, rfl⟩
                      refine W.region ?_
                      refine WO.p rfl rfl (WO.p rfl rfl ?_)
                      refine' WO.indexAddr (n := _) (i := _) rfl rfl rfl ?hs ?h1 rfl ?_
                      case hs => (first | exact hs1)
                      case h1 => (first | omega | (simp; omega))
                      refine WO.field rfl rfl rfl ?_
                      refine' WO.load (v := _) rfl rfl ?hc rfl ?_
                      case hc => (first | (refine ownHi (e := 51) (xs := spL l t (k : Int)) (i := a) (x := e) ?_ (by omega) he rfl; exact (by repeat (first | exact Sub.nil | refine Sub.cons (by repeat (first | exact Pick.head | apply Pick.tail)) ?_))))
                      refine WO.p rfl rfl ?_
                      refine WO.nil ?_
                      refine W.seq ?_
                      have hws := within_set hc0 (show (0 : Int) ≤ (k : Int) by omega) hex hal' hor
                      obtain ⟨x2, hx2⟩ : ∃ x2, x2 = l.set a (e, e) := ⟨_, rfl⟩
                      have hx2n : x2.length = l.length := by rw [hx2, List.length_set]
                      have hx2g : x2.getD a (0, 0) = (e, e) := by rw [hx2, getD_setP hal', if_pos rfl]
                      rw [← hx2] at hws
                      refine W.drawD 8 [.r 1 [], .b 2 [], .r 4 [], .b 5 [], .c 0 [], .c 3 [], .r 6 [], .a 7 24 (.cells #[.slice none 0 0, .int .i64 0] 24 (0, 0))] [] (A0 := []) (Sub.refl _) (by kernel_rfl) ?_ ?_
                      · exact (ALok.r (ALok.b (ALok.r (ALok.b (ALok.c (ALok.c (ALok.r (ALok.cons rfl rfl rfl rfl rfl ALok.nil))))))))
                      refine' DT.r rfl rfl rfl ?hq ?_
                      case hq =>
                        refine WO.field0 rfl rfl rfl ?_
                        exact WO.nil ⟨rfl, rfl⟩
                      refine' DT.b rfl rfl rfl ?hq ?_
                      case hq =>
                        refine WO.load rfl rfl (Cell.own Pick.head rfl) rfl ?_
                        exact WO.nil ⟨rfl, rfl⟩
                      refine' DT.r rfl rfl rfl ?hq ?_
                      case hq =>
                        refine WO.fieldL rfl rfl rfl ?_
                        exact WO.nil ⟨rfl, rfl⟩
                      refine' DT.b rfl rfl rfl ?hq ?_
                      case hq =>
                        refine WO.load rfl rfl (Cell.own Pick.head rfl) rfl ?_
                        exact WO.nil ⟨rfl, rfl⟩
                      refine DT.c [_, _, _, _] rfl rfl rfl rfl ?_
                      refine WO.buildSl0 rfl rfl (fun b0 => ?_)
                      refine WO.nil ⟨_, [_], rfl, rfl, (Keep.b (Keep.r (Keep.b (Keep.r Keep.nil)))), ?_⟩
                      refine DT.c [_, _, _, _, _] rfl rfl rfl rfl ?_
                      refine WO.appendEZ (enc := encP) (m := l.length) (xs := []) (ys := l) encP_ok rfl rfl rfl rfl rfl (by repeat (first | exact Pick.head | apply Pick.tail)) hR.sl rfl (hR.flat encP_ok) (by simp; omega) (by simp; omega) rfl (fun v1 => ?_)
                      refine WO.fact (OwE.form (enc := encP) (e := 51) (sz := 2) (xs := [] ++ l) (v := v1) Pick.head) (fun hv1 => ?_)
                      obtain ⟨xa, xc, rfl⟩ := hv1
                      rw [List.nil_append]
                      refine WO.fact (OwE.sl (enc := encP) (e := 51) (sz := 2) (xs := l) (v := .slice xa l.length xc) Pick.head) (fun hxs => ?_)
                      refine WO.nil ⟨_, [_], rfl, rfl, (Keep.c (Keep.b (Keep.r (Keep.b (Keep.r Keep.nil))))), ?_⟩
                      refine' DT.r rfl rfl rfl ?hq ?_
                      case hq =>
                        refine' WO.build (cs := _) rfl rfl rfl ?hf rfl ?_
                        case hf => (conv => lhs; simp [-List.getD_eq_getElem?_getD, fillL, vcl, wrl, TTab.pl?.lget']) <;> rfl
                        exact WO.nil ⟨rfl, rfl⟩
                      refine DT.a (fun b2 => ?_)
                      refine DT.nil [_, _, _, _, _, _] rfl ?_
                      refine WO.storeA rfl rfl rfl rfl Pick.head rfl rfl ?_
                      refine WO.nil ?_
                      refine W.sreg ?_
                      refine WO.field0 rfl rfl rfl (WO.load rfl rfl (Cell.own Pick.head rfl) rfl (WO.p rfl rfl (WO.p rfl rfl (WO.p rfl rfl ?_))))
                      refine' WO.build (cs := _) rfl rfl rfl ?hf rfl ?_
                      case hf => (conv => lhs; simp [-List.getD_eq_getElem?_getD, fillL, vcl, wrl, TTab.pl?.lget']) <;> rfl
                      refine' WO.indexAddr (n := _) (i := _) rfl rfl rfl ?hs ?h1 rfl ?_
                      case hs => (first | exact hxs)
                      case h1 => (first | omega | (simp; omega))
                      refine WO.storeEN (n := (e, e)) (i := a) encP_ok rfl rfl rfl rfl (by repeat (first | exact Pick.head | apply Pick.tail)) (by omega) ?_
                      rw [← hx2]
                      refine WO.nil ?_
                      refine W.sreg ?_
                      refine WO.loadA rfl rfl (Cells.own (Pick.tail (Pick.head))) rfl rfl (WO.p rfl rfl ?_)
                      refine WO.call (Post := fun r Hq => ∃ x : Value, r = .tuple #[x, .int .i64 0] ∧ Hq = [OwE encP 51 2 x (spL x2 t (k : Int))]) rfl Try.call29 (fun L w hi => by have h := c_Spread w _ x2 t (k : Int) (RdF.of_ow (e := 51) encP_ok (by repeat (first | exact Pick.head | apply Pick.tail)) hi) (capOw (enc := encP) (e := 51) (sz := 2) (xs := x2) (by repeat (first | exact Pick.head | apply Pick.tail)) hi); rw [hws.2.1] at h; exact h) rfl ?_
                      rintro _ _ ⟨s4, rfl, rfl⟩
                      refine WO.fact (OwE.sl (enc := encP) (e := 51) (sz := 2) (xs := spL x2 t (k : Int)) (v := s4) Pick.head) (fun hs4 => ?_)
                      refine WO.p rfl rfl (WO.p rfl rfl (WO.p rfl rfl (WO.p rfl rfl (WO.p rfl rfl ?_))))
                      refine WO.nil ?_
                      refine W.seq ?_
                      refine W.drawD 18 [.r 0 [], .r 1 [], .r 2 [], .r 3 [], .r 4 [], .r 5 [], .r 6 [], .r 7 [], .r 8 [], .r 9 [], .r 10 [], .r 11 [], .b 12 [], .r 13 [], .b 14 [], .r 15 [], .r 16 [], .b 17 []] [] (A0 := []) (Sub.refl _) (by kernel_rfl) ?_ ?_
                      · exact (ALok.r (ALok.r (ALok.r (ALok.r (ALok.r (ALok.r (ALok.r (ALok.r (ALok.r (ALok.r (ALok.r (ALok.r (ALok.b (ALok.r (ALok.b (ALok.r (ALok.r (ALok.b ALok.nil))))))))))))))))))
                      refine' DT.r rfl rfl rfl ?hq ?_
                      case hq =>
                        refine WO.p rfl rfl ?_
                        exact WO.nil ⟨rfl, rfl⟩
                      refine' DT.r rfl rfl rfl ?hq ?_
                      case hq =>
                        refine WO.eqlT rfl rfl rfl rfl ?_
                        exact WO.nil ⟨rfl, rfl⟩
                      refine' DT.r rfl rfl rfl ?hq ?_
                      case hq =>
                        refine WO.p rfl rfl ?_
                        exact WO.nil ⟨rfl, rfl⟩
                      refine' DT.r rfl rfl rfl ?hq ?_
                      case hq =>
                        refine WO.pg rfl rfl rfl ?_
                        exact WO.nil ⟨rfl, rfl⟩
                      refine' DT.r rfl rfl rfl ?hq ?_
                      case hq =>
                        refine WO.go' rfl ?_
                        refine' WO.len (n := _) rfl rfl ?hs rfl ?_
                        case hs => (first | exact hs4)
                        exact WO.nil ⟨rfl, rfl⟩
                      refine' DT.r rfl rfl rfl ?hq ?_
                      case hq =>
                        refine WO.pg rfl rfl rfl ?_
                        exact WO.nil ⟨rfl, rfl⟩
                      refine' DT.r rfl rfl rfl ?hq ?_
                      case hq =>
                        refine WO.go' rfl ?_
                        refine WO.eqlT rfl rfl (by omega) rfl ?_
                        exact WO.nil ⟨rfl, rfl⟩
                      refine' DT.r rfl rfl rfl ?hq ?_
                      case hq =>
                        refine WO.p rfl rfl ?_
                        exact WO.nil ⟨rfl, rfl⟩
                      refine' DT.r rfl rfl rfl ?hq ?_
                      case hq =>
                        refine WO.p rfl rfl ?_
                        exact WO.nil ⟨rfl, rfl⟩
                      refine' DT.r rfl rfl rfl ?hq ?_
                      case hq =>
                        refine WO.pg rfl rfl rfl ?_
                        exact WO.nil ⟨rfl, rfl⟩
                      refine' DT.r rfl rfl rfl ?hq ?_
                      case hq =>
                        refine WO.pg rfl rfl rfl ?_
                        exact WO.nil ⟨rfl, rfl⟩
                      refine' DT.r rfl rfl rfl ?hq ?_
                      case hq =>
                        refine WO.go' rfl ?_
                        refine' WO.indexAddr (n := _) (i := _) rfl rfl rfl ?hs ?h1 rfl ?_
                        case hs => (first | exact hs4)
                        case h1 => (first | omega | (simp; omega))
                        exact WO.nil ⟨rfl, rfl⟩
                      refine' DT.b rfl rfl rfl ?hq ?_
                      case hq =>
                        refine WO.go' rfl ?_
                        refine' WO.loadA (vs := _) rfl rfl ?hc ?hl rfl ?_
                        case hc => (first | (refine ownAll (e := 51) (xs := spL x2 t (k : Int)) (i := a) (p := (e, e)) ?_ (by omega) hws.2.2.2 rfl; exact (by repeat (first | exact Sub.nil | refine Sub.cons (by repeat (first | exact Pick.head | apply Pick.tail)) ?_))))
                        case hl => rfl
                        exact WO.nil ⟨rfl, rfl⟩
                      refine' DT.r rfl rfl rfl ?hq ?_
                      case hq =>
                        refine WO.go' rfl (WO.field0 rfl rfl rfl ?_)
                        exact WO.nil ⟨rfl, rfl⟩
                      refine' DT.b rfl rfl rfl ?hq ?_
                      case hq =>
                        refine WO.go' rfl (WO.load rfl rfl (Cell.own (Pick.tail (Pick.tail (Pick.head))) rfl) rfl ?_)
                        exact WO.nil ⟨rfl, rfl⟩
                      refine' DT.r rfl rfl rfl ?hq ?_
                      case hq =>
                        refine WO.pg rfl rfl rfl ?_
                        exact WO.nil ⟨rfl, rfl⟩
                      refine' DT.r rfl rfl rfl ?hq ?_
                      case hq =>
                        refine WO.go' rfl ?_
                        refine' WO.indexAddr (n := _) (i := _) rfl rfl rfl ?hs ?h1 rfl ?_
                        case hs => (first | exact hxs)
                        case h1 => (first | omega | (simp; omega))
                        exact WO.nil ⟨rfl, rfl⟩
                      refine' DT.b rfl rfl rfl ?hq ?_
                      case hq =>
                        refine WO.go' rfl ?_
                        refine' WO.loadA (vs := _) rfl rfl ?hc ?hl rfl ?_
                        case hc => (first | (refine ownAll (e := 51) (xs := x2) (i := a) (p := (e, e)) ?_ (by omega) hx2g rfl; exact (by repeat (first | exact Sub.nil | refine Sub.cons (by repeat (first | exact Pick.head | apply Pick.tail)) ?_))))
                        case hl => rfl
                        exact WO.nil ⟨rfl, rfl⟩
                      refine DT.nil [_, _, _, _, _, _, _] rfl ?_
                      refine WO.go' rfl ?_
                      refine WO.eqT rfl rfl (show EqT Try.prog .eql 51 (.agg #[.int .i64 e, .int .i64 e]) (.agg #[.int .i64 e, .int .i64 e]) (.bool true) by have q := eq51 e e e e; rwa [bl_t.2 rfl] at q) rfl ?_
                      refine WO.p rfl rfl (WO.p rfl rfl (WO.go' rfl ?_))
                      refine WO.callR rfl Try.call13 (fun L w hi => l_Works w) rfl ?_
                      refine WO.p rfl rfl (WO.p rfl rfl ?_)
                      refine WO.nil ?_
                      refine W.ret ?_
                      first | exact fin.ret (Res.one rfl (RV.tmp rfl)) rfl | (exfalso; omega))
                 · first
                   | (exfalso; omega)
                   | (refine W.skip ?_
                      refine W.seq ?_
                      have hws := within_set hc0 (show (0 : Int) ≤ (k : Int) by omega) hex hal' hor
                      obtain ⟨x2, hx2⟩ : ∃ x2, x2 = l.set a (e, e) := ⟨_, rfl⟩
                      have hx2n : x2.length = l.length := by rw [hx2, List.length_set]
                      have hx2g : x2.getD a (0, 0) = (e, e) := by rw [hx2, getD_setP hal', if_pos rfl]
                      rw [← hx2] at hws
                      refine W.drawD 8 [.r 1 [], .b 2 [], .r 4 [], .b 5 [], .c 0 [], .c 3 [], .r 6 [], .a 7 24 (.cells #[.slice none 0 0, .int .i64 0] 24 (0, 0))] [] (A0 := []) (Sub.refl _) (by kernel_rfl) ?_ ?_
                      · exact (ALok.r (ALok.b (ALok.r (ALok.b (ALok.c (ALok.c (ALok.r (ALok.cons rfl rfl rfl rfl rfl ALok.nil))))))))
                      refine' DT.r rfl rfl rfl ?hq ?_
                      case hq =>
                        refine WO.field0 rfl rfl rfl ?_
                        exact WO.nil ⟨rfl, rfl⟩
                      refine' DT.b rfl rfl rfl ?hq ?_
                      case hq =>
                        refine WO.load rfl rfl (Cell.own Pick.head rfl) rfl ?_
                        exact WO.nil ⟨rfl, rfl⟩
                      refine' DT.r rfl rfl rfl ?hq ?_
                      case hq =>
                        refine WO.fieldL rfl rfl rfl ?_
                        exact WO.nil ⟨rfl, rfl⟩
                      refine' DT.b rfl rfl rfl ?hq ?_
                      case hq =>
                        refine WO.load rfl rfl (Cell.own Pick.head rfl) rfl ?_
                        exact WO.nil ⟨rfl, rfl⟩
                      refine DT.c [_, _, _, _] rfl rfl rfl rfl ?_
                      refine WO.buildSl0 rfl rfl (fun b0 => ?_)
                      refine WO.nil ⟨_, [_], rfl, rfl, (Keep.b (Keep.r (Keep.b (Keep.r Keep.nil)))), ?_⟩
                      refine DT.c [_, _, _, _, _] rfl rfl rfl rfl ?_
                      refine WO.appendEZ (enc := encP) (m := l.length) (xs := []) (ys := l) encP_ok rfl rfl rfl rfl rfl (by repeat (first | exact Pick.head | apply Pick.tail)) hR.sl rfl (hR.flat encP_ok) (by simp; omega) (by simp; omega) rfl (fun v1 => ?_)
                      refine WO.fact (OwE.form (enc := encP) (e := 51) (sz := 2) (xs := [] ++ l) (v := v1) Pick.head) (fun hv1 => ?_)
                      obtain ⟨xa, xc, rfl⟩ := hv1
                      rw [List.nil_append]
                      refine WO.fact (OwE.sl (enc := encP) (e := 51) (sz := 2) (xs := l) (v := .slice xa l.length xc) Pick.head) (fun hxs => ?_)
                      refine WO.nil ⟨_, [_], rfl, rfl, (Keep.c (Keep.b (Keep.r (Keep.b (Keep.r Keep.nil))))), ?_⟩
                      refine' DT.r rfl rfl rfl ?hq ?_
                      case hq =>
                        refine' WO.build (cs := _) rfl rfl rfl ?hf rfl ?_
                        case hf => (conv => lhs; simp [-List.getD_eq_getElem?_getD, fillL, vcl, wrl, TTab.pl?.lget']) <;> rfl
                        exact WO.nil ⟨rfl, rfl⟩
                      refine DT.a (fun b2 => ?_)
                      refine DT.nil [_, _, _, _, _, _] rfl ?_
                      refine WO.storeA rfl rfl rfl rfl Pick.head rfl rfl ?_
                      refine WO.nil ?_
                      refine W.sreg ?_
                      refine WO.field0 rfl rfl rfl (WO.load rfl rfl (Cell.own Pick.head rfl) rfl (WO.p rfl rfl (WO.p rfl rfl (WO.p rfl rfl ?_))))
                      refine' WO.build (cs := _) rfl rfl rfl ?hf rfl ?_
                      case hf => (conv => lhs; simp [-List.getD_eq_getElem?_getD, fillL, vcl, wrl, TTab.pl?.lget']) <;> rfl
                      refine' WO.indexAddr (n := _) (i := _) rfl rfl rfl ?hs ?h1 rfl ?_
                      case hs => (first | exact hxs)
                      case h1 => (first | omega | (simp; omega))
                      refine WO.storeEN (n := (e, e)) (i := a) encP_ok rfl rfl rfl rfl (by repeat (first | exact Pick.head | apply Pick.tail)) (by omega) ?_
                      rw [← hx2]
                      refine WO.nil ?_
                      refine W.sreg ?_
                      refine WO.loadA rfl rfl (Cells.own (Pick.tail (Pick.head))) rfl rfl (WO.p rfl rfl ?_)
                      refine WO.call (Post := fun r Hq => ∃ x : Value, r = .tuple #[x, .int .i64 0] ∧ Hq = [OwE encP 51 2 x (spL x2 t (k : Int))]) rfl Try.call29 (fun L w hi => by have h := c_Spread w _ x2 t (k : Int) (RdF.of_ow (e := 51) encP_ok (by repeat (first | exact Pick.head | apply Pick.tail)) hi) (capOw (enc := encP) (e := 51) (sz := 2) (xs := x2) (by repeat (first | exact Pick.head | apply Pick.tail)) hi); rw [hws.2.1] at h; exact h) rfl ?_
                      rintro _ _ ⟨s4, rfl, rfl⟩
                      refine WO.fact (OwE.sl (enc := encP) (e := 51) (sz := 2) (xs := spL x2 t (k : Int)) (v := s4) Pick.head) (fun hs4 => ?_)
                      refine WO.p rfl rfl (WO.p rfl rfl (WO.p rfl rfl (WO.p rfl rfl (WO.p rfl rfl ?_))))
                      refine WO.nil ?_
                      refine W.seq ?_
                      refine W.drawD 18 [.r 0 [], .r 1 [], .r 2 [], .r 3 [], .r 4 [], .r 5 [], .r 6 [], .r 7 [], .r 8 [], .r 9 [], .r 10 [], .r 11 [], .b 12 [], .r 13 [], .b 14 [], .r 15 [], .r 16 [], .b 17 []] [] (A0 := []) (Sub.refl _) (by kernel_rfl) ?_ ?_
                      · exact (ALok.r (ALok.r (ALok.r (ALok.r (ALok.r (ALok.r (ALok.r (ALok.r (ALok.r (ALok.r (ALok.r (ALok.r (ALok.b (ALok.r (ALok.b (ALok.r (ALok.r (ALok.b ALok.nil))))))))))))))))))
                      refine' DT.r rfl rfl rfl ?hq ?_
                      case hq =>
                        refine WO.p rfl rfl ?_
                        exact WO.nil ⟨rfl, rfl⟩
                      refine' DT.r rfl rfl rfl ?hq ?_
                      case hq =>
                        refine WO.eqlT rfl rfl rfl rfl ?_
                        exact WO.nil ⟨rfl, rfl⟩
                      refine' DT.r rfl rfl rfl ?hq ?_
                      case hq =>
                        refine WO.p rfl rfl ?_
                        exact WO.nil ⟨rfl, rfl⟩
                      refine' DT.r rfl rfl rfl ?hq ?_
                      case hq =>
                        refine WO.pg rfl rfl rfl ?_
                        exact WO.nil ⟨rfl, rfl⟩
                      refine' DT.r rfl rfl rfl ?hq ?_
                      case hq =>
                        refine WO.go' rfl ?_
                        refine' WO.len (n := _) rfl rfl ?hs rfl ?_
                        case hs => (first | exact hs4)
                        exact WO.nil ⟨rfl, rfl⟩
                      refine' DT.r rfl rfl rfl ?hq ?_
                      case hq =>
                        refine WO.pg rfl rfl rfl ?_
                        exact WO.nil ⟨rfl, rfl⟩
                      refine' DT.r rfl rfl rfl ?hq ?_
                      case hq =>
                        refine WO.go' rfl ?_
                        refine WO.eqlT rfl rfl (by omega) rfl ?_
                        exact WO.nil ⟨rfl, rfl⟩
                      refine' DT.r rfl rfl rfl ?hq ?_
                      case hq =>
                        refine WO.p rfl rfl ?_
                        exact WO.nil ⟨rfl, rfl⟩
                      refine' DT.r rfl rfl rfl ?hq ?_
                      case hq =>
                        refine WO.p rfl rfl ?_
                        exact WO.nil ⟨rfl, rfl⟩
                      refine' DT.r rfl rfl rfl ?hq ?_
                      case hq =>
                        refine WO.pg rfl rfl rfl ?_
                        exact WO.nil ⟨rfl, rfl⟩
                      refine' DT.r rfl rfl rfl ?hq ?_
                      case hq =>
                        refine WO.pg rfl rfl rfl ?_
                        exact WO.nil ⟨rfl, rfl⟩
                      refine' DT.r rfl rfl rfl ?hq ?_
                      case hq =>
                        refine WO.go' rfl ?_
                        refine' WO.indexAddr (n := _) (i := _) rfl rfl rfl ?hs ?h1 rfl ?_
                        case hs => (first | exact hs4)
                        case h1 => (first | omega | (simp; omega))
                        exact WO.nil ⟨rfl, rfl⟩
                      refine' DT.b rfl rfl rfl ?hq ?_
                      case hq =>
                        refine WO.go' rfl ?_
                        refine' WO.loadA (vs := _) rfl rfl ?hc ?hl rfl ?_
                        case hc => (first | (refine ownAll (e := 51) (xs := spL x2 t (k : Int)) (i := a) (p := (e, e)) ?_ (by omega) hws.2.2.2 rfl; exact (by repeat (first | exact Sub.nil | refine Sub.cons (by repeat (first | exact Pick.head | apply Pick.tail)) ?_))))
                        case hl => rfl
                        exact WO.nil ⟨rfl, rfl⟩
                      refine' DT.r rfl rfl rfl ?hq ?_
                      case hq =>
                        refine WO.go' rfl (WO.field0 rfl rfl rfl ?_)
                        exact WO.nil ⟨rfl, rfl⟩
                      refine' DT.b rfl rfl rfl ?hq ?_
                      case hq =>
                        refine WO.go' rfl (WO.load rfl rfl (Cell.own (Pick.tail (Pick.tail (Pick.head))) rfl) rfl ?_)
                        exact WO.nil ⟨rfl, rfl⟩
                      refine' DT.r rfl rfl rfl ?hq ?_
                      case hq =>
                        refine WO.pg rfl rfl rfl ?_
                        exact WO.nil ⟨rfl, rfl⟩
                      refine' DT.r rfl rfl rfl ?hq ?_
                      case hq =>
                        refine WO.go' rfl ?_
                        refine' WO.indexAddr (n := _) (i := _) rfl rfl rfl ?hs ?h1 rfl ?_
                        case hs => (first | exact hxs)
                        case h1 => (first | omega | (simp; omega))
                        exact WO.nil ⟨rfl, rfl⟩
                      refine' DT.b rfl rfl rfl ?hq ?_
                      case hq =>
                        refine WO.go' rfl ?_
                        refine' WO.loadA (vs := _) rfl rfl ?hc ?hl rfl ?_
                        case hc => (first | (refine ownAll (e := 51) (xs := x2) (i := a) (p := (e, e)) ?_ (by omega) hx2g rfl; exact (by repeat (first | exact Sub.nil | refine Sub.cons (by repeat (first | exact Pick.head | apply Pick.tail)) ?_))))
                        case hl => rfl
                        exact WO.nil ⟨rfl, rfl⟩
                      refine DT.nil [_, _, _, _, _, _, _] rfl ?_
                      refine WO.go' rfl ?_
                      refine WO.eqT rfl rfl (show EqT Try.prog .eql 51 (.agg #[.int .i64 e, .int .i64 e]) (.agg #[.int .i64 e, .int .i64 e]) (.bool true) by have q := eq51 e e e e; rwa [bl_t.2 rfl] at q) rfl ?_
                      refine WO.p rfl rfl (WO.p rfl rfl (WO.go' rfl ?_))
                      refine WO.callR rfl Try.call13 (fun L w hi => l_Works w) rfl ?_
                      refine WO.p rfl rfl (WO.p rfl rfl ?_)
                      refine WO.nil ?_
                      refine W.ret ?_
                      first | exact fin.ret (Res.one rfl (RV.tmp rfl)) rfl | (exfalso; omega)))))
end Go.Proofs.Ytpecakgebhmnfaa
namespace Go.Proofs.Ytpecakgebhmnfaa
open Go Go.TH
attribute [local irreducible] W WO pt
set_option maxRecDepth 10000
set_option maxHeartbeats 1000000
theorem within_no (w : World) (o u : Value) (l : List (Int × Int)) (t : Int) (many : Nat) (bs : List Int) (wh : Nat) (hR : RdF encP 2 w.heap.size w o l) (hv : CapS o l.length) (hB : RdF encU 1 w.heap.size w u bs) (hb : ∀ x ∈ bs, 0 ≤ x ∧ x ≤ 255) (hmy : many ≤ 255) (hwh : wh ≤ 255) (hno : ¬ spE l t ((many % (l.length + 1) : Nat) : Int) = 0) : Ret Try.prog 11 [.agg #[o, .int .i64 t], .int .u8 (many : Int), u, .int .u8 (wh : Int)].toArray w (.bool true) := by
  refine Ret.of mixed tyTab Try.func11 rfl rfl ?_
  obtain ⟨va, vc, rfl, hcap⟩ := hv
  replace hR : RdF encP 2 (fnCx mixed tyTab Try.f11.ntmps w).B (fnCx mixed tyTab Try.f11.ntmps w).w0 (.slice va l.length vc) l := hR
  replace hB : RdF encU 1 (fnCx mixed tyTab Try.f11.ntmps w).B (fnCx mixed tyTab Try.f11.ntmps w).w0 u bs := hB
  have hoc := hR.sl.oc
  refine W.sreg ?_
  refine WO.boxA rfl rfl (fun b1 hb1 => ?_)
  refine WO.p rfl rfl ?_
  refine WO.nil ?_
  refine W.seq ?_
  refine W.sreg ?_
  refine WO.loadA rfl rfl (Cells.own Pick.head) rfl rfl ?_
  refine WO.callR rfl Try.call32 (fun L w hi => law_fine w _ l t (hR.later hi)) rfl ?_
  refine WO.p rfl rfl (WO.p rfl rfl ?_)
  refine WO.guard_nbl rfl rfl (fun c1 => ?_) (fun c1 => ?_)
  · first
    | (exfalso; omega)
    | (refine WO.no rfl rfl (WO.no rfl rfl (WO.no rfl rfl (WO.p rfl rfl ?_)))
       refine WO.nil ?_
       refine W.cond_t rfl ?_
       refine W.sreg ?_
       refine WO.callR rfl Try.call13 (fun L w hi => l_Works w) rfl ?_
       refine WO.p rfl rfl ?_
       refine WO.nil ?_
       refine W.ret ?_
       first | exact fin.ret (Res.one rfl (RV.tmp rfl)) rfl | (exfalso; omega))
  · first
    | (exfalso; omega)
    | (refine WO.pg rfl rfl rfl (WO.go' rfl ?_)
       refine' WO.len (n := _) rfl rfl ?hs rfl ?_
       case hs => (first | exact hB.sl)
       refine WO.pg rfl rfl rfl (WO.p rfl rfl ?_)
       refine WO.nil ?_
       refine W.cond_bl rfl (fun c2 => ?_) (fun c2 => ?_)
       · first
         | (exfalso; omega)
         | (refine W.sreg ?_
            refine WO.callR rfl Try.call13 (fun L w hi => l_Works w) rfl ?_
            refine WO.p rfl rfl ?_
            refine WO.nil ?_
            refine W.ret ?_
            first | exact fin.ret (Res.one rfl (RV.tmp rfl)) rfl | (exfalso; omega))
       · first
         | (exfalso; omega)
         | (refine W.skip ?_
            have hc0 : chkF l t = 0 := by omega
            have hcf := chkF0.1 hc0
            obtain ⟨n1, hn1⟩ : ∃ n1, n1 = l.length + 1 := ⟨_, rfl⟩
            obtain ⟨k, hk⟩ : ∃ k, k = many % n1 := ⟨_, rfl⟩
            have hkl : k < n1 := by rw [hk]; exact Nat.mod_lt _ (by omega)
            have hin := liL_in hcf.2.2 hb
            have hm1 := meaV_in hc0 hin
            refine W.sreg ?_
            refine WO.field0 rfl rfl rfl (WO.load rfl rfl (Cell.own Pick.head rfl) rfl ?_)
            refine' WO.len (n := _) rfl rfl ?hs rfl ?_
            case hs => (first | exact hR.sl)
            refine WO.p rfl rfl ?_
            refine WO.nil ?_
            refine W.sreg ?_
            refine WO.p rfl rfl (WO.conv64 rfl rfl rfl (by (first | (unfold in64; omega) | (unfold in64; omega))) rfl (WO.p rfl rfl ?_))
            refine WO.add rfl rfl (by unfold in64; omega) rfl ?_
            rw [show (l.length : Int) + 1 = (n1 : Int) by omega]
            refine WO.remN rfl rfl (by omega) rfl ?_
            rw [← hk]
            refine WO.p rfl rfl ?_
            refine WO.nil ?_
            refine W.sreg ?_
            refine WO.loadA rfl rfl (Cells.own Pick.head) rfl rfl (WO.p rfl rfl ?_)
            refine WO.call rfl Try.call33 (fun L w hi => law_Line w _ u l t bs (hR.later hi) (hB.later hi) hb hcf.2.2 hcf.1.2) rfl ?_
            rintro r3 _ ⟨_, rfl, rfl⟩
            refine WO.fact (OwE.sl (enc := encI) (e := 2) (sz := 1) (xs := liL l bs) (v := r3) Pick.head) (fun hls => ?_)
            have hll := liL_len l bs
            refine WO.p rfl rfl ?_
            refine WO.nil ?_
            refine W.sreg ?_
            refine WO.p rfl rfl ?_
            refine WO.callR (r := .tuple #[.int .i64 (chL (liL l bs) : Int), .int .i64 (beL (liL l bs)), .int .i64 0]) rfl Try.call14 (fun L w hi => by rw [← hm1]; exact c_Measure w _ (liL l bs) (RdF.of_ow (e := 2) encI_ok (by repeat (first | exact Pick.head | apply Pick.tail)) hi)) rfl ?_
            refine WO.p rfl rfl (WO.p rfl rfl (WO.p rfl rfl (WO.p rfl rfl (WO.p rfl rfl (WO.p rfl rfl (WO.p rfl rfl ?_))))))
            refine WO.nil ?_
            have hwe := within_e hc0 (show (0 : Int) ≤ (k : Int) by omega) hin
            rw [← hn1, ← hk] at hno
            have he1 : (17 : Int) = spE l t (k : Int) := by omega
            obtain ⟨e2, he2⟩ : ∃ e2, e2 = spE l t ((k : Int) + 1) := ⟨_, rfl⟩
            have hal := sp_all hc0
            rw [← he1, ← he2] at hwe
            refine W.sreg ?_
            refine WO.loadA rfl rfl (Cells.own (Pick.tail (Pick.head))) rfl rfl (WO.p rfl rfl ?_)
            refine WO.call (Post := fun r Hq => ∃ x : Value, r = .tuple #[x, .int .i64 17] ∧ Hq = [OwE encP 51 2 x (spL l t (k : Int))]) rfl Try.call29 (fun L w hi => by have h := c_Spread w _ l t (k : Int) (hR.later hi) ⟨va, vc, rfl, hcap⟩; rw [← he1] at h; exact h) rfl ?_
            rintro _ _ ⟨s1, rfl, rfl⟩
            refine WO.fact (OwE.sl (enc := encP) (e := 51) (sz := 2) (xs := spL l t (k : Int)) (v := s1) Pick.head) (fun hs1 => ?_)
            refine WO.p rfl rfl (WO.p rfl rfl (WO.p rfl rfl (WO.p rfl rfl (WO.p rfl rfl ?_))))
            refine WO.nil ?_
            refine W.sreg ?_
            refine WO.loadA rfl rfl (Cells.own (Pick.tail (Pick.tail (Pick.head)))) rfl rfl (WO.p rfl rfl (WO.ar rfl rfl rfl (by (first | (unfold in64; omega) | (unfold in64; omega))) rfl ?_))
            refine WO.call (Post := fun r Hq => ∃ x : Value, r = .tuple #[x, .int .i64 e2] ∧ Hq = [OwE encP 51 2 x (spL l t ((k : Int) + 1))]) rfl Try.call29 (fun L w hi => by have h := c_Spread w _ l t ((k : Int) + 1) (hR.later hi) ⟨va, vc, rfl, hcap⟩; rw [← he2] at h; exact h) rfl ?_
            rintro _ _ ⟨s2, rfl, rfl⟩
            refine WO.fact (OwE.sl (enc := encP) (e := 51) (sz := 2) (xs := spL l t ((k : Int) + 1)) (v := s2) Pick.head) (fun hs2 => ?_)
            refine WO.p rfl rfl (WO.p rfl rfl (WO.p rfl rfl (WO.p rfl rfl (WO.p rfl rfl ?_))))
            refine WO.nil ?_
            refine W.sreg ?_
            refine WO.loadA rfl rfl (Cells.own (Pick.tail (Pick.tail (Pick.tail (Pick.head))))) rfl rfl (WO.p rfl rfl ?_)
            refine WO.call (Post := fun r Hq => ∃ x : Value, r = .tuple #[x, .int .i64 0] ∧ Hq = [OwE encP 51 2 x l]) rfl Try.call29 (fun L w hi => by have h := c_Spread w _ l t (l.length : Int) (hR.later hi) ⟨va, vc, rfl, hcap⟩; rw [hal.1, hal.2] at h; exact h) rfl ?_
            rintro _ _ ⟨s3, rfl, rfl⟩
            refine WO.p rfl rfl (WO.p rfl rfl (WO.p rfl rfl (WO.p rfl rfl (WO.p rfl rfl ?_))))
            refine WO.nil ?_
            refine W.seq ?_
            refine W.sreg ?_
            refine WO.p rfl rfl ?_
            refine WO.neqF rfl rfl (by omega) rfl ?_
            refine WO.p rfl rfl (WO.pg rfl rfl rfl (WO.go' rfl ?_))
            refine WO.neqT rfl rfl (by omega) rfl ?_
            refine WO.pg rfl rfl rfl (WO.pg rfl rfl rfl (WO.go' rfl ?_))
            refine WO.neqF rfl rfl (by omega) rfl ?_
            refine WO.pg rfl rfl rfl (WO.p rfl rfl (WO.p rfl rfl (WO.pg rfl rfl rfl (WO.pg rfl rfl rfl (WO.pg rfl rfl rfl ?_)))))
            refine WO.guard_bl rfl rfl (fun c3 => ?_) (fun c3 => ?_)
            · first
              | (exfalso; omega)
              | (refine WO.pg rfl rfl rfl (WO.go' rfl ?_)
                 refine WO.neqF rfl rfl (by omega) rfl ?_
                 refine WO.pg rfl rfl rfl (WO.pg rfl rfl rfl (WO.go' rfl ?_))
                 refine WO.eqlF rfl rfl (by omega) rfl ?_
                 refine WO.pg rfl rfl rfl (WO.pg rfl rfl rfl (WO.p rfl rfl (WO.p rfl rfl (WO.pg rfl rfl rfl (WO.go' rfl ?_)))))
                 refine WO.neqF rfl rfl (by omega) rfl ?_
                 refine WO.p rfl rfl (WO.p rfl rfl (WO.pg rfl rfl rfl (WO.go' rfl (WO.field0 rfl rfl rfl (WO.go' rfl (WO.load rfl rfl (Cell.own (Pick.tail (Pick.tail (Pick.tail (Pick.tail (Pick.head))))) rfl) rfl (WO.go' rfl ?_)))))))
                 refine WO.callR (r := .bool true) rfl Try.call31 (fun L w hi => ranges_t (law_ranges w _ _ l l (RdF.of_ow (e := 51) encP_ok (by repeat (first | exact Pick.head | apply Pick.tail)) hi) (hR.later hi)) rfl) rfl ?_
                 refine WO.pg rfl rfl rfl (WO.p rfl rfl ?_)
                 refine WO.nil ?_
                 refine W.cond_f rfl ?_
                 refine W.skip ?_
                 refine W.seq ?_
                 refine W.sreg ?_
                 refine WO.p rfl rfl ?_
                 refine WO.neqT rfl rfl (by omega) rfl ?_
                 refine WO.nil ?_
                 refine W.cond_t rfl ?_
                 refine W.sreg ?_
                 refine WO.p rfl rfl ?_
                 refine' WO.len (n := _) rfl rfl ?hs rfl ?_
                 case hs => (first | exact hs1)
                 refine WO.eqlT rfl rfl (by omega) rfl ?_
                 refine WO.p rfl rfl (WO.pg rfl rfl rfl (WO.pg rfl rfl rfl (WO.go' rfl ?_)))
                 refine WO.gtrT rfl rfl (by omega) rfl ?_
                 refine WO.p rfl rfl (WO.p rfl rfl (WO.go' rfl ?_))
                 refine WO.callR rfl Try.call13 (fun L w hi => l_Works w) rfl ?_
                 refine WO.p rfl rfl (WO.p rfl rfl ?_)
                 refine WO.nil ?_
                 refine W.ret ?_
                 first | exact fin.ret (Res.one rfl (RV.tmp rfl)) rfl | (exfalso; omega))
            · first
              | (exfalso; omega)
              | (refine WO.no rfl rfl (WO.no rfl rfl (WO.no rfl rfl (WO.no rfl rfl (WO.no rfl rfl (WO.no rfl rfl (WO.pg rfl rfl rfl (WO.p rfl rfl (WO.p rfl rfl (WO.pg rfl rfl rfl (WO.go' rfl ?_))))))))))
                 refine WO.neqF rfl rfl (by omega) rfl ?_
                 refine WO.p rfl rfl (WO.p rfl rfl (WO.pg rfl rfl rfl (WO.go' rfl (WO.field0 rfl rfl rfl (WO.go' rfl (WO.load rfl rfl (Cell.own (Pick.tail (Pick.tail (Pick.tail (Pick.tail (Pick.head))))) rfl) rfl (WO.go' rfl ?_)))))))
                 refine WO.callR (r := .bool true) rfl Try.call31 (fun L w hi => ranges_t (law_ranges w _ _ l l (RdF.of_ow (e := 51) encP_ok (by repeat (first | exact Pick.head | apply Pick.tail)) hi) (hR.later hi)) rfl) rfl ?_
                 refine WO.pg rfl rfl rfl (WO.p rfl rfl ?_)
                 refine WO.nil ?_
                 refine W.cond_f rfl ?_
                 refine W.skip ?_
                 refine W.seq ?_
                 refine W.sreg ?_
                 refine WO.p rfl rfl ?_
                 refine WO.neqT rfl rfl (by omega) rfl ?_
                 refine WO.nil ?_
                 refine W.cond_t rfl ?_
                 refine W.sreg ?_
                 refine WO.p rfl rfl ?_
                 refine' WO.len (n := _) rfl rfl ?hs rfl ?_
                 case hs => (first | exact hs1)
                 refine WO.eqlT rfl rfl (by omega) rfl ?_
                 refine WO.p rfl rfl (WO.pg rfl rfl rfl (WO.pg rfl rfl rfl (WO.go' rfl ?_)))
                 refine WO.gtrT rfl rfl (by omega) rfl ?_
                 refine WO.p rfl rfl (WO.p rfl rfl (WO.go' rfl ?_))
                 refine WO.callR rfl Try.call13 (fun L w hi => l_Works w) rfl ?_
                 refine WO.p rfl rfl (WO.p rfl rfl ?_)
                 refine WO.nil ?_
                 refine W.ret ?_
                 first | exact fin.ret (Res.one rfl (RV.tmp rfl)) rfl | (exfalso; omega))))
theorem law_FairWithin (w : World) (o u : Value) (l : List (Int × Int)) (t : Int) (many : Nat) (bs : List Int) (wh : Nat) (hR : RdF encP 2 w.heap.size w o l) (hv : CapS o l.length) (hB : RdF encU 1 w.heap.size w u bs) (hb : ∀ x ∈ bs, 0 ≤ x ∧ x ≤ 255) (hmy : many ≤ 255) (hwh : wh ≤ 255) : Ret Try.prog 11 [.agg #[o, .int .i64 t], .int .u8 (many : Int), u, .int .u8 (wh : Int)].toArray w (.bool true) := by
  by_cases h : spE l t ((many % (l.length + 1) : Nat) : Int) = 0
  · exact within_yes w o u l t many bs wh hR hv hB hb hmy hwh h
  · exact within_no w o u l t many bs wh hR hv hB hb hmy hwh h
end Go.Proofs.Ytpecakgebhmnfaa
