/-
  What is proved here: the fairest line that is returned; all lines within spots. Conditions: none; each contract states its own.
  What is proved here: what is within spots is listed. Conditions: none; each contract states its own.
  What is proved here: plain law: the drawer's line is the fairest one. Conditions: none; each theorem states its own.
  What is proved here: where lines with few changes can go. Conditions: none; each contract states its own.
  What is proved here: maps from states to numbers. Conditions: none; each rule states its own.
  What is proved here: all states, in order; calls of function values that are handed pieces. Conditions: none; each contract states its own.
  What is proved here: where a state leads to, and what is done with each. Conditions: none; each contract states its own.
  What is proved here: the labels, as the program makes them. Conditions: none; each theorem states its own.
  What is proved here: the labels that are returned. Conditions: none; each contract states its own.
-/
import Derived.Test.YtpecakgebhmnfaaM3
import Derived.Test.YtpecakgebhmnfaaM7
import Derived.WideKeyRuns
set_option linter.unusedVariables false
set_option linter.unusedSimpArgs false
namespace Go.Proofs.Ytpecakgebhmnfaa
open Go Go.TH
attribute [local irreducible] W WO pt
set_option maxRecDepth 10000
set_option maxHeartbeats 1000000
def faL (l : List (Int × Int)) (t : Int) : List Int := if chkF l t = 0 then bestL 1 t l else []
def faC (l : List (Int × Int)) (t : Int) : Int := if chkF l t = 0 then bestC 1 t l else 0
theorem c_Fairest (w : World) (v : Value) (l : List (Int × Int)) (t : Int) (hR : RdF encP 2 w.heap.size w v l) : Ct Try.prog 21 [.agg #[v, .int .i64 t]].toArray w fun r w' => ∃ Hq, (∃ rv : Value, r = .tuple #[rv, .int .i64 (faC l t), .int .i64 (chkF l t)] ∧ Hq = [OwE encI 2 1 rv (faL l t)]) ∧ Inv w [] Hq w' := by
  refine Ct.ofI (X := Value) (p := fun rv r => r = .tuple #[rv, .int .i64 (faC l t), .int .i64 (chkF l t)]) (Hx := fun rv => [OwE encI 2 1 rv (faL l t)]) mixed tyTab Try.func21 rfl rfl ?_
  replace hR : RdF encP 2 (fnCx mixed tyTab Try.f21.ntmps w).B (fnCx mixed tyTab Try.f21.ntmps w).w0 v l := hR
  have hoc := hR.sl.oc
  refine W.sreg ?_
  refine WO.boxA rfl rfl (fun b1 hb1 => ?_)
  refine WO.p rfl rfl (WO.p rfl rfl (WO.p rfl rfl ?_))
  refine WO.nil ?_
  refine W.seq ?_
  refine W.sreg ?_
  refine WO.loadA rfl rfl (Cells.own Pick.head) rfl rfl ?_
  refine WO.callR rfl Try.call18 (fun L w hi => c_CheckSpots w v l t (hR.later hi)) rfl ?_
  refine WO.p rfl rfl ?_
  refine WO.nil ?_
  refine W.sreg ?_
  refine WO.p rfl rfl (WO.p rfl rfl ?_)
  refine WO.nil ?_
  refine W.cond_bl rfl (fun c1 => ?_) (fun c1 => ?_)
  · first
    | (exfalso; omega)
    | (refine W.sreg ?_
       refine WO.p rfl rfl (WO.p rfl rfl (WO.p rfl rfl (WO.p rfl rfl ?_)))
       refine WO.nil ?_
       refine W.ret ?_
       first | (have e1 : faL l t = [] := if_neg (by assumption); have e2 : faC l t = 0 := if_neg (by assumption); rw [e1, e2]; refine fin.ret (Res.three rfl (RV.tmp rfl) (RV.tmp rfl) (RV.tmp rfl)) ⟨_, rfl, fun h hs => ?_⟩; exact Sub.sat (.cons .head .nil) (owNil (enc := encI) (e := 2) (sz := 1) h hs)) | (have e1 : faL l t = _ := if_pos (show chkF l t = 0 by omega); have e2 : faC l t = _ := if_pos (show chkF l t = 0 by omega); have e3 : chkF l t = 0 := (by omega); rw [e1, e2, e3]; exact fin.ret (Res.three rfl (RV.tmp rfl) (RV.tmp rfl) (RV.tmp rfl)) ⟨_, rfl, fun h hs => Sub.sat (.cons .head .nil) hs⟩))
  · first
    | (exfalso; omega)
    | (refine W.skip ?_
       have hcf := chkF0.1 (show chkF l t = 0 by omega)
       refine W.sreg ?_
       refine WO.loadA rfl rfl (Cells.own Pick.head) rfl rfl (WO.fieldL rfl rfl rfl (WO.load rfl rfl (Cell.own Pick.head rfl) rfl ?_))
       refine WO.call rfl Try.call43 (fun L w hi => c_new w v l t 1 t hR.sl hcf.1.2 hoc) rfl ?_
       rintro _ _ ⟨⟨q, lv⟩, rfl, rfl⟩
       refine WO.callH (Hp := [pt q (.cells #[v, .int .i64 t, .int .i64 1, .int .i64 t, lv] 81 (0, 0)), TabP 112 75 lv l.length (fun _ => 0)]) rfl Try.call44 (.cons (by repeat (first | exact Pick.head | apply Pick.tail)) (.cons (by repeat (first | exact Pick.head | apply Pick.tail)) (Sub.refl _))) (fun L w hi hB2 => c_best _ w _ ⟨q, 0, none⟩ v l t 1 t lv hB2 ((DrS.own hR).agree hi.keepB) hR.sl hcf.2.2 hcf.1.2 hcf.1.1 ⟨.inr rfl, hcf.2.1⟩) rfl ?_
       rintro _ _ ⟨rv, rfl, rfl⟩
       refine WO.p rfl rfl (WO.p rfl rfl (WO.p rfl rfl (WO.p rfl rfl (WO.p rfl rfl ?_))))
       refine WO.nil ?_
       refine W.sreg ?_
       refine WO.p rfl rfl (WO.p rfl rfl (WO.p rfl rfl (WO.p rfl rfl (WO.p rfl rfl ?_))))
       refine WO.nil ?_
       refine W.ret ?_
       first | (have e1 : faL l t = [] := if_neg (by assumption); have e2 : faC l t = 0 := if_neg (by assumption); rw [e1, e2]; refine fin.ret (Res.three rfl (RV.tmp rfl) (RV.tmp rfl) (RV.tmp rfl)) ⟨_, rfl, fun h hs => ?_⟩; exact Sub.sat (.cons .head .nil) (owNil (enc := encI) (e := 2) (sz := 1) h hs)) | (have e1 : faL l t = _ := if_pos (show chkF l t = 0 by omega); have e2 : faC l t = _ := if_pos (show chkF l t = 0 by omega); have e3 : chkF l t = 0 := (by omega); rw [e1, e2, e3]; exact fin.ret (Res.three rfl (RV.tmp rfl) (RV.tmp rfl) (RV.tmp rfl)) ⟨_, rfl, fun h hs => Sub.sat (.cons .head .nil) hs⟩))
/-- all lines within spots, in order -/
def lin : List (Int × Int) → List (List Int)
  | [] => [[]]
  | r :: rs => (List.range (wid r)).flatMap fun (c : Nat) => (lin rs).map ((r.1 + (c : Int)) :: ·)
theorem lin_cons (r : Int × Int) (rs : List (Int × Int)) : lin (r :: rs) = (List.range (wid r)).flatMap fun (c : Nat) => (lin rs).map ((r.1 + (c : Int)) :: ·) := rfl
/-- those that begin so -/
def linB (l : List (Int × Int)) (bs : List Int) : List (List Int) := (lin (l.drop bs.length)).map (bs ++ ·)
def linTo (l : List (Int × Int)) (bs : List Int) (n : Nat) : List (List Int) := (List.range n).flatMap fun (c : Nat) => linB l (bs ++ [(l.getD bs.length (0, 0)).1 + (c : Int)])
theorem linTo_succ (l : List (Int × Int)) (bs : List Int) (n : Nat) : linTo l bs (n + 1) = linTo l bs n ++ linB l (bs ++ [(l.getD bs.length (0, 0)).1 + (n : Int)]) := by
  unfold linTo; rw [List.range_succ, List.flatMap_append]; simp
theorem linTo_all {l : List (Int × Int)} {bs : List Int} (h : bs.length < l.length) : linTo l bs (wid (l.getD bs.length (0, 0))) = linB l bs := by
  have e : l.drop bs.length = l.getD bs.length (0, 0) :: l.drop (bs.length + 1) := by
    rw [List.drop_eq_getElem_cons h, List.getD_eq_getElem?_getD, List.getElem?_eq_getElem h]; rfl
  unfold linTo linB
  rw [e, lin_cons, List.map_flatMap]
  simp only [List.length_append, List.length_cons, List.length_nil, Nat.zero_add, List.map_map]
  congr 1
  funext c
  congr 1
  funext x
  simp
theorem linTo_mono (l : List (Int × Int)) (bs : List Int) {n m : Nat} (h : n ≤ m) : (linTo l bs n).length ≤ (linTo l bs m).length := by
  induction m with
  | zero => obtain rfl : n = 0 := by omega
            exact Nat.le_refl _
  | succ m ih =>
    rcases Nat.lt_or_ge m n with g | g
    · obtain rfl : n = m + 1 := by omega
      exact Nat.le_refl _
    · have := ih g; rw [linTo_succ, List.length_append]; omega
theorem linB_len {l : List (Int × Int)} {bs : List Int} : (linB l bs).length = (lin (l.drop bs.length)).length := by unfold linB; rw [List.length_map]
end Go.Proofs.Ytpecakgebhmnfaa
namespace Go.Proofs.Ytpecakgebhmnfaa
open Go Go.TH
attribute [local irreducible] W WO pt
set_option maxRecDepth 10000
set_option maxHeartbeats 1000000
theorem InS_nil : InS [] [] := ⟨rfl, fun i hi => absurd hi (Nat.not_lt_zero i)⟩
theorem InS_cons {r : Int × Int} {rs : List (Int × Int)} {y : Int} {ys : List Int} : InS (r :: rs) (y :: ys) ↔ (r.1 ≤ y ∧ y ≤ r.2) ∧ InS rs ys := by
  unfold InS InTo
  constructor
  · rintro ⟨h1, h2⟩
    refine ⟨h2 0 (by simp), by simpa using h1, fun i hi => ?_⟩
    have := h2 (i + 1) (by simp; omega)
    simpa using this
  · rintro ⟨h1, h2, h3⟩
    refine ⟨by simp [h2], fun i hi => ?_⟩
    rcases Nat.eq_zero_or_pos i with e | e
    · subst e; exact h1
    · obtain ⟨k, rfl⟩ : ∃ k, i = k + 1 := ⟨i - 1, by omega⟩
      have := h3 k (by simp at hi; omega)
      simpa using this
theorem mem_lin : ∀ {l : List (Int × Int)} {x : List Int}, x ∈ lin l ↔ InS l x
  | [], x => by
    unfold lin
    constructor
    · intro h; obtain rfl : x = [] := by simpa using h
      exact InS_nil
    · intro h; have := h.1; simp at this; simp [this]
  | r :: rs, x => by
    rw [lin_cons, List.mem_flatMap]
    constructor
    · rintro ⟨c, hc, hx⟩
      obtain ⟨z, hz, rfl⟩ := List.mem_map.1 hx
      have := List.mem_range.1 hc
      unfold wid at this
      exact InS_cons.2 ⟨⟨by omega, by omega⟩, mem_lin.1 hz⟩
    · intro h
      cases x with
      | nil => have := h.1; simp at this
      | cons y ys =>
        obtain ⟨h1, h2⟩ := InS_cons.1 h
        refine ⟨(y - r.1).toNat, List.mem_range.2 (by unfold wid; omega), List.mem_map.2 ⟨ys, mem_lin.2 h2, ?_⟩⟩
        rw [show r.1 + ((y - r.1).toNat : Int) = y by omega]
theorem lin_len_cons (r : Int × Int) (rs : List (Int × Int)) : (lin (r :: rs)).length = wid r * (lin rs).length := by
  rw [lin_cons]
  generalize wid r = n
  induction n with
  | zero => simp
  | succ n ih => rw [List.range_succ, List.flatMap_append, List.length_append, ih, Nat.add_mul]; simp
theorem lin_pos {l : List (Int × Int)} (hg : OkS l) : 1 ≤ (lin l).length := by
  induction l with
  | nil => simp [lin]
  | cons r rs ih =>
    rw [lin_len_cons]
    exact Nat.mul_le_mul (wid_ok (hg r (by simp))).1 (ih fun q hq => hg q (by simp [hq]))
end Go.Proofs.Ytpecakgebhmnfaa
namespace Go.Proofs.Ytpecakgebhmnfaa
open Go Go.TH
set_option maxRecDepth 10000
set_option maxHeartbeats 1000000
/-- the first one of the least -/
def IsFM {α : Type} (f : α → Int) (xs : List α) (x : α) : Prop := ∃ i : Nat, xs[i]? = some x ∧ ∀ (j : Nat) (y : α), xs[j]? = some y → f x ≤ f y ∧ (j < i → f x < f y)
section
variable {α β : Type}
theorem IsFM.unique {f : α → Int} {xs : List α} {x y : α} (h : IsFM f xs x) (g : IsFM f xs y) : x = y := by
  obtain ⟨i, hi, h⟩ := h
  obtain ⟨j, hj, g⟩ := g
  have h1 := h j y hj
  have g1 := g i x hi
  rcases Nat.lt_trichotomy i j with e | e | e
  · have := g1.2 e; omega
  · subst e; rw [hi] at hj; exact Option.some.inj hj
  · have := h1.2 e; omega
theorem IsFM.mem {f : α → Int} {xs : List α} {x : α} (h : IsFM f xs x) : x ∈ xs := by
  obtain ⟨i, hi, _⟩ := h; exact List.mem_of_getElem? hi
theorem IsFM.le {f : α → Int} {xs : List α} {x : α} (h : IsFM f xs x) : ∀ y ∈ xs, f x ≤ f y := fun y hy => by
  obtain ⟨i, _, h⟩ := h
  obtain ⟨j, hj⟩ := List.getElem?_of_mem hy
  exact (h j y hj).1
theorem IsFM.one (f : α → Int) (x : α) : IsFM f [x] x := ⟨0, rfl, fun j y h => by
  cases j with
  | zero => simp at h; subst h; exact ⟨Int.le_refl _, fun h => absurd h (Nat.lt_irrefl _)⟩
  | succ j => simp at h⟩
theorem IsFM.app {f : α → Int} {xs ys : List α} {x y : α} (h : IsFM f xs x) (g : IsFM f ys y) : IsFM f (xs ++ ys) (if f y < f x then y else x) := by
  obtain ⟨i, hi, h⟩ := h
  obtain ⟨j, hj, g⟩ := g
  have hil : i < xs.length := (List.getElem?_eq_some_iff.1 hi).1
  by_cases c : f y < f x
  · rw [if_pos c]
    refine ⟨xs.length + j, by rw [List.getElem?_append_right (by omega)]; simpa using hj, fun k z hz => ?_⟩
    rcases Nat.lt_or_ge k xs.length with e | e
    · rw [List.getElem?_append_left e] at hz
      have := h k z hz
      exact ⟨by omega, fun _ => by omega⟩
    · rw [List.getElem?_append_right e] at hz
      have := g _ z hz
      exact ⟨this.1, fun q => this.2 (by omega)⟩
  · rw [if_neg c]
    refine ⟨i, by rw [List.getElem?_append_left hil]; exact hi, fun k z hz => ?_⟩
    rcases Nat.lt_or_ge k xs.length with e | e
    · rw [List.getElem?_append_left e] at hz
      exact h k z hz
    · rw [List.getElem?_append_right e] at hz
      have := g _ z hz
      exact ⟨by omega, fun q => by omega⟩
theorem IsFM.map {f : β → Int} {k : α → β} {xs : List α} {x : α} (h : IsFM (fun a => f (k a)) xs x) : IsFM f (xs.map k) (k x) := by
  obtain ⟨i, hi, h⟩ := h
  refine ⟨i, by rw [List.getElem?_map, hi]; rfl, fun j y hy => ?_⟩
  rw [List.getElem?_map] at hy
  cases hx : xs[j]? with
  | none => rw [hx] at hy; cases hy
  | some z =>
    rw [hx] at hy
    obtain rfl := Option.some.inj hy
    exact h j z hx
theorem IsFM.shift {f g : α → Int} {a : Int} {xs : List α} {x : α} (h : IsFM f xs x) (e : ∀ y ∈ xs, g y = a + f y) : IsFM g xs x := by
  have hx := h.mem
  obtain ⟨i, hi, h⟩ := h
  refine ⟨i, hi, fun j y hy => ?_⟩
  rw [e x hx, e y (List.mem_of_getElem? hy)]
  have := h j y hy
  exact ⟨by omega, fun q => by have := this.2 q; omega⟩
theorem IsFM.flat {f : α → Int} {g : Nat → List α} {h : Nat → α} : ∀ (n : Nat), (∀ c, c ≤ n → IsFM f (g c) (h c)) → IsFM f ((List.range (n + 1)).flatMap g) (h (lst (fun c => f (h c)) n).1)
  | 0, hc => by simpa [lst] using hc 0 (by omega)
  | n + 1, hc => by
    rw [List.range_succ, List.flatMap_append]
    have h1 := IsFM.flat n (fun c q => hc c (by omega))
    have h2 := hc (n + 1) (by omega)
    have h3 := h1.app h2
    have e : [n + 1].flatMap g = g (n + 1) := by simp
    rw [e]
    have e2 := (lst_spec (fun c => f (h c)) n).2.1
    by_cases c : f (h (n + 1)) < f (h (lst (fun c => f (h c)) n).1)
    · rw [if_pos c] at h3
      rw [lst_yes (by rw [e2]; exact c)]
      exact h3
    · rw [if_neg c] at h3
      rw [lst_no (by rw [e2]; exact c)]
      exact h3
theorem IsFM.at_ {f : α → Int} {xs : List α} {z : α} (h : 1 ≤ xs.length) : IsFM f xs (xs.getD (lst (fun i => f (xs.getD i z)) (xs.length - 1)).1 z) := by
  have hs := lst_spec (fun i => f (xs.getD i z)) (xs.length - 1)
  refine ⟨_, getD_some (by omega) z, fun j y hy => ?_⟩
  have hj := (List.getElem?_eq_some_iff.1 hy).1
  have ey : y = xs.getD j z := by rw [List.getD_eq_getElem?_getD, hy]; rfl
  have h2 := hs.2.1
  have h3 := hs.2.2.1 j (by omega)
  rw [ey]
  rw [h2] at h3
  exact ⟨h3, fun q => by have := hs.2.2.2 j q; rw [h2] at this; exact this⟩
theorem flat2 {g : Nat → Nat → List α} (m : Nat) (hm : 0 < m) : ∀ n, (List.range n).flatMap (fun a => (List.range m).flatMap (g a)) = (List.range (n * m)).flatMap (fun k => g (k / m) (k % m))
  | 0 => by simp
  | n + 1 => by
    rw [List.range_succ, List.flatMap_append, flat2 m hm n, Nat.add_mul, Nat.one_mul, List.range_add, List.flatMap_append]
    congr 1
    rw [List.flatMap_map]
    simp only [List.flatMap_cons, List.flatMap_nil, List.append_nil]
    rw [List.flatMap_def, List.flatMap_def]
    congr 1
    refine List.map_congr_left fun b hb => ?_
    have hb := List.mem_range.1 hb
    rw [show n * m + b = b + m * n by rw [Nat.mul_comm, Nat.add_comm], Nat.add_mul_div_left _ _ hm, Nat.add_mul_mod_self_left, Nat.div_eq_of_lt hb, Nat.mod_eq_of_lt hb, Nat.zero_add]
end
/-- what is paid for the rest of a line -/
def tl (B T : Int) : Int → Int → Nat → List Int → Int
  | _, _, _, [] => 0
  | x, y, s, z :: zs => stp B T s (x - 2 * y + z) + tl B T y z (sg s (x - 2 * y + z)) zs
def costG (B T : Int) (x : List Int) : Int := B * beL x + T * (chL x : Int)
theorem costG_1 (t : Int) (x : List Int) : costG 1 t x = costL t x := by unfold costG costL; rw [Int.one_mul]
theorem bds_cons (x y z : Int) (zs : List Int) : bds (x :: y :: z :: zs) = (x - 2 * y + z) :: bds (y :: z :: zs) := by
  unfold bds
  rw [show (x :: y :: z :: zs).length - 2 = zs.length + 1 by simp, show (y :: z :: zs).length - 2 = zs.length by simp, List.range_succ_eq_map, List.map_cons, List.map_map]
  refine List.cons_eq_cons.2 ⟨by simp, ?_⟩
  refine List.map_congr_left fun i _ => ?_
  simp
theorem fold_tl (B T : Int) : ∀ (zs : List Int) (x y : Int) (s c : Nat) (b : Int), B * ((bds (x :: y :: zs)).foldl nxt (s, c, b)).2.2 + T * (((bds (x :: y :: zs)).foldl nxt (s, c, b)).2.1 : Int) = B * b + T * (c : Int) + tl B T x y s zs
  | [], x, y, s, c, b => by simp [bds, tl]
  | z :: zs, x, y, s, c, b => by
    rw [bds_cons, List.foldl_cons, show nxt (s, c, b) (x - 2 * y + z) = (sg s (x - 2 * y + z), c + chg s (x - 2 * y + z), b + ab (x - 2 * y + z)) from rfl, fold_tl B T zs y z]
    show _ = B * b + T * (c : Int) + (stp B T s (x - 2 * y + z) + tl B T y z (sg s (x - 2 * y + z)) zs)
    unfold stp
    rw [Int.mul_add, Int.natCast_add, Int.mul_add]
    omega
theorem costG_tl (B T x y : Int) (zs : List Int) : costG B T (x :: y :: zs) = tl B T x y 0 zs := by
  have := fold_tl B T zs x y 0 0 0
  unfold costG beL chL mst
  rw [this]; simp
theorem costG_short {B T : Int} {x : List Int} (h : x.length < 2) : costG B T x = 0 := by
  have e : bds x = [] := List.eq_nil_of_length_eq_zero (by rw [bds_len]; omega)
  unfold costG beL chL mst
  rw [e]; simp
theorem go_fm {B T : Int} : ∀ {rs : List (Int × Int)}, OkS rs → ∀ {x y : Int} {s : Nat}, IsFM (tl B T x y s) (lin rs) (goL B T rs x y s) ∧ tl B T x y s (goL B T rs x y s) = gof B T rs x y s
  | [], _, x, y, s => ⟨IsFM.one _ _, rfl⟩
  | r :: rs, hS, x, y, s => by
    have hw := wid_ok (hS r (by simp))
    have ih := fun {x y : Int} {s : Nat} => go_fm (B := B) (T := T) (rs := rs) (fun q hq => hS q (by simp [hq])) (x := x) (y := y) (s := s)
    obtain ⟨F, hF⟩ : ∃ F : Nat → Int, F = fun (c : Nat) => stp B T s (x - 2 * y + (r.1 + (c : Int))) + gof B T rs y (r.1 + (c : Int)) (sg s (x - 2 * y + (r.1 + (c : Int)))) := ⟨_, rfl⟩
    obtain ⟨h, hh⟩ : ∃ h : Nat → List Int, h = fun (c : Nat) => (r.1 + (c : Int)) :: goL B T rs y (r.1 + (c : Int)) (sg s (x - 2 * y + (r.1 + (c : Int)))) := ⟨_, rfl⟩
    have e1 : ∀ c, tl B T x y s (h c) = F c := fun c => by
      rw [hh, hF]
      show stp B T s _ + tl B T y _ _ _ = _
      rw [ih.2]
    have e2 : goL B T (r :: rs) x y s = h (lst F (wid r - 1)).1 := by rw [hh, hF]; rfl
    have e3 : gof B T (r :: rs) x y s = (lst F (wid r - 1)).2 := by rw [hF]; rfl
    have k := IsFM.flat (f := tl B T x y s) (g := fun (c : Nat) => (lin rs).map ((r.1 + (c : Int)) :: ·)) (h := h) (wid r - 1) (fun c _ => by
      rw [hh]
      refine IsFM.map (k := ((r.1 + (c : Int)) :: ·)) (IsFM.shift (ih (x := y) (y := r.1 + (c : Int)) (s := sg s (x - 2 * y + (r.1 + (c : Int))))).1 (a := stp B T s (x - 2 * y + (r.1 + (c : Int)))) (fun z _ => rfl)))
    rw [show (fun c => tl B T x y s (h c)) = F from funext e1, show wid r - 1 + 1 = wid r by omega] at k
    rw [e2, e3, e1]
    exact ⟨k, (lst_spec F _).2.1.symm⟩
theorem best_fm {B T : Int} : ∀ {l : List (Int × Int)}, OkS l → 1 ≤ l.length → IsFM (costG B T) (lin l) (bestL B T l) ∧ costG B T (bestL B T l) = bestC B T l
  | [], _, h => by simp at h
  | [r], hS, _ => by
    have hw := wid_ok (hS r (by simp))
    have e : bestL B T [r] = [r.1] := by unfold bestL; simp
    have e2 : bestC B T [r] = 0 := by unfold bestC; simp
    rw [e, e2, costG_short (by simp)]
    refine ⟨⟨0, ?_, fun j y hy => ?_⟩, rfl⟩
    · obtain ⟨n, hn⟩ : ∃ n, wid r = n + 1 := ⟨wid r - 1, by omega⟩
      rw [lin_cons, hn, List.range_succ_eq_map]
      simp [lin]
    · have h1 := (mem_lin.1 (List.mem_of_getElem? hy)).1
      have h1 : y.length = 1 := h1
      rw [costG_short (x := y) (by omega), costG_short (by simp)]
      exact ⟨Int.le_refl _, fun h => absurd h (Nat.not_lt_zero _)⟩
  | r0 :: r1 :: rs, hS, _ => by
    have hw0 := wid_ok (hS r0 (by simp))
    have hw1 := wid_ok (hS r1 (by simp))
    have ih := fun {x y : Int} {s : Nat} => go_fm (B := B) (T := T) (rs := rs) (fun q hq => hS q (by simp [hq])) (x := x) (y := y) (s := s)
    have q : 1 ≤ wid r0 * wid r1 := Nat.mul_le_mul hw0.1 hw1.1
    obtain ⟨F, hF⟩ : ∃ F : Nat → Int, F = fun (k : Nat) => gof B T rs (r0.1 + ((k / wid r1 : Nat) : Int)) (r1.1 + ((k % wid r1 : Nat) : Int)) 0 := ⟨_, rfl⟩
    obtain ⟨h, hh⟩ : ∃ h : Nat → List Int, h = fun (k : Nat) => (r0.1 + ((k / wid r1 : Nat) : Int)) :: (r1.1 + ((k % wid r1 : Nat) : Int)) :: goL B T rs (r0.1 + ((k / wid r1 : Nat) : Int)) (r1.1 + ((k % wid r1 : Nat) : Int)) 0 := ⟨_, rfl⟩
    have e1 : ∀ c, costG B T (h c) = F c := fun c => by
      rw [hh, hF]
      rw [costG_tl, ih.2]
    have e2 : bestL B T (r0 :: r1 :: rs) = h (lst F (wid r0 * wid r1 - 1)).1 := by rw [hh, hF]; rfl
    have e3 : bestC B T (r0 :: r1 :: rs) = (lst F (wid r0 * wid r1 - 1)).2 := by rw [hF]; rfl
    have el : lin (r0 :: r1 :: rs) = (List.range (wid r0 * wid r1)).flatMap (fun k => (lin rs).map (fun zs => (r0.1 + ((k / wid r1 : Nat) : Int)) :: (r1.1 + ((k % wid r1 : Nat) : Int)) :: zs)) := by
      rw [← flat2 (g := fun a b => (lin rs).map (fun zs => (r0.1 + (a : Int)) :: (r1.1 + (b : Int)) :: zs)) (wid r1) (by omega), lin_cons]
      congr 1
      funext a
      rw [lin_cons, List.map_flatMap]
      congr 1
      funext b
      rw [List.map_map]
      rfl
    have k := IsFM.flat (f := costG B T) (g := fun k => (lin rs).map (fun zs => (r0.1 + ((k / wid r1 : Nat) : Int)) :: (r1.1 + ((k % wid r1 : Nat) : Int)) :: zs)) (h := h) (wid r0 * wid r1 - 1) (fun c _ => by
      rw [hh]
      refine IsFM.map (k := fun zs => (r0.1 + ((c / wid r1 : Nat) : Int)) :: (r1.1 + ((c % wid r1 : Nat) : Int)) :: zs) (IsFM.shift (ih (x := r0.1 + ((c / wid r1 : Nat) : Int)) (y := r1.1 + ((c % wid r1 : Nat) : Int)) (s := 0)).1 (a := 0) (fun z _ => by rw [costG_tl]; omega)))
    rw [show (fun c => costG B T (h c)) = F from funext e1, show wid r0 * wid r1 - 1 + 1 = wid r0 * wid r1 by omega, ← el] at k
    rw [e2, e3, e1]
    exact ⟨k, (lst_spec F _).2.1.symm⟩
end Go.Proofs.Ytpecakgebhmnfaa
namespace Go.Proofs.Ytpecakgebhmnfaa
open Go Go.TH
attribute [local irreducible] W WO pt
set_option maxRecDepth 10000
set_option maxHeartbeats 1000000
def CapS (v : Value) (n : Nat) : Prop := ∃ a c, v = .slice a n c ∧ n ≤ c
/-- the first and the last one below n that is so -/
def fl (ok : Nat → Prop) [DecidablePred ok] : Nat → Int × Int
  | 0 => (-1, -1)
  | k + 1 => if ok k then (if (fl ok k).1 < 0 then (k : Int) else (fl ok k).1, (k : Int)) else fl ok k
/-- can a line with so few changes go through this offset? -/
def okK (l : List (Int × Int)) (ch : Int) (i k : Nat) : Prop := bestC 0 1 (l.set i ((l.getD i (0, 0)).1 + (k : Int), (l.getD i (0, 0)).1 + (k : Int))) ≤ ch
instance (l : List (Int × Int)) (ch : Int) (i : Nat) : DecidablePred (okK l ch i) := fun k => by unfold okK; infer_instance
def flI (l : List (Int × Int)) (ch : Int) (i : Nat) : Int × Int := fl (okK l ch i) (wid (l.getD i (0, 0)))
def outL (l : List (Int × Int)) (ch : Int) (n : Nat) : List (Int × Int) := (List.range n).map fun i => ((l.getD i (0, 0)).1 + (flI l ch i).1, (l.getD i (0, 0)).1 + (flI l ch i).2)
def AllF (l : List (Int × Int)) (ch : Int) (n : Nat) : Prop := ∀ i, i < n → 0 ≤ (flI l ch i).1
instance (l : List (Int × Int)) (ch : Int) (n : Nat) : Decidable (AllF l ch n) := by unfold AllF; infer_instance
def spE (l : List (Int × Int)) (t ch : Int) : Int := if chkF l t ≠ 0 then chkF l t else if ch < 0 then 3 else if AllF l ch l.length then 0 else 17
def spL (l : List (Int × Int)) (t ch : Int) : List (Int × Int) := if spE l t ch = 0 then outL l ch l.length else []
theorem outL_succ (l : List (Int × Int)) (ch : Int) (n : Nat) : outL l ch (n + 1) = outL l ch n ++ [((l.getD n (0, 0)).1 + (flI l ch n).1, (l.getD n (0, 0)).1 + (flI l ch n).2)] := by unfold outL; rw [List.range_succ, List.map_append]; rfl
theorem outL_len (l : List (Int × Int)) (ch : Int) (n : Nat) : (outL l ch n).length = n := by simp [outL]
theorem fl_bd (ok : Nat → Prop) [DecidablePred ok] : ∀ n, -1 ≤ (fl ok n).1 ∧ -1 ≤ (fl ok n).2 ∧ (fl ok n).1 < n ∧ (fl ok n).2 < n ∧ ((fl ok n).1 < 0 ↔ (fl ok n).2 < 0)
  | 0 => by simp [fl]
  | k + 1 => by
    have ih := fl_bd ok k
    by_cases h : ok k
    · by_cases g : (fl ok k).1 < 0
      · have e : fl ok (k + 1) = ((k : Int), (k : Int)) := by show (if ok k then _ else _) = _; rw [if_pos h, if_pos g]
        rw [e]; show -1 ≤ (k : Int) ∧ -1 ≤ (k : Int) ∧ (k : Int) < ((k + 1 : Nat) : Int) ∧ (k : Int) < ((k + 1 : Nat) : Int) ∧ ((k : Int) < 0 ↔ (k : Int) < 0); omega
      · have e : fl ok (k + 1) = ((fl ok k).1, (k : Int)) := by show (if ok k then _ else _) = _; rw [if_pos h, if_neg g]
        rw [e]; show -1 ≤ (fl ok k).1 ∧ -1 ≤ (k : Int) ∧ (fl ok k).1 < ((k + 1 : Nat) : Int) ∧ (k : Int) < ((k + 1 : Nat) : Int) ∧ ((fl ok k).1 < 0 ↔ (k : Int) < 0); omega
    · have e : fl ok (k + 1) = fl ok k := by show (if ok k then _ else _) = _; rw [if_neg h]
      rw [e]; omega
theorem AllF.succ {l : List (Int × Int)} {ch : Int} {n : Nat} (h : AllF l ch n) (g : 0 ≤ (flI l ch n).1) : AllF l ch (n + 1) := fun i hi => by
  rcases Nat.lt_or_ge i n with h1 | h1
  · exact h i h1
  · rw [show i = n by omega]; exact g
theorem OkS.set {l : List (Int × Int)} (h : OkS l) {i : Nat} {y : Int} (hy : -1000000 ≤ y ∧ y ≤ 1000000) : OkS (l.set i (y, y)) := fun p hp => by
  rcases List.mem_or_eq_of_mem_set hp with g | rfl
  · exact h p g
  · unfold OkG; simp only; omega
theorem DrS.ownS {n0 : Nat} {w0 : World} {b e ty : Nat} {fr : Nat × Nat} {v : Value} {l : List (Int × Int)} {t B T : Int} {lv : Value} : DrS n0 w0 (TH.sat [OwE encP e 2 v l, pt b (.cells #[v, .int .i64 t, .int .i64 B, .int .i64 T, lv] ty fr)]) ⟨b, 0, none⟩ v l t B T lv := fun u M L H w hi h1 h2 => by
  have h3 : Inv u M (L ++ (OwE encP e 2 v l :: pt b (.cells [v, .int .i64 t, .int .i64 B, .int .i64 T, lv].toArray ty fr) :: H)) w := Inv.chg (L := L) hi sat_many
  exact ⟨RdC.own (C := itCx mixed tyTab 0 u M 0 (Nat.zero_le _) (fun _ _ => Nat.zero_le _)) (H := OwE encP e 2 v l :: pt b (.cells [v, .int .i64 t, .int .i64 B, .int .i64 T, lv].toArray ty fr) :: H) (L := L) (.tail .head) h3,
    RdF.of_ow (C := itCx mixed tyTab 0 u M 0 (Nat.zero_le _) (fun _ _ => Nat.zero_le _)) encP_ok (H := OwE encP e 2 v l :: pt b (.cells [v, .int .i64 t, .int .i64 B, .int .i64 T, lv].toArray ty fr) :: H) (L := L) .head h3⟩
theorem nil22d (d : Nat) (a : Option Addr) (n c : Nat) (w : World) : (Op.equalIn (d + 1) 22 (.slice a n c) (.slice none 0 0)).run Try.prog w = .ok a.isNone w := by
  cases a <;> simp [Op.equalIn, run_underlying Try.underlying22]
theorem nil22e (a : Option Addr) (n c : Nat) (w : World) : (Op.equal 22 (.slice a n c) (.slice none 0 0)).run Try.prog w = .ok a.isNone w := nil22d 9999 a n c w
theorem nil22 (a : Option Addr) (n c : Nat) : EqT Try.prog .eql 22 (.slice a n c) (.slice none 0 0) (.bool a.isNone) := by
  intro x y w
  have h : (binOp .eql 22 (.slice a n c) (.slice none 0 0)).run Try.prog w = .ok (.bool a.isNone) w := by
    simp only [binOp]
    simp [nil22e]
  simp [go_sem, h]
theorem isSl_some {a : Option Addr} {n m c : Nat} (h : IsSl (.slice a n c) m) (hm : 0 < m) : a.isNone = false := by
  obtain ⟨_, a', c', he, hb⟩ := h
  obtain ⟨b, o, rfl⟩ := hb hm
  have e1 : a = some ⟨b, o, none⟩ := by injection he
  subst e1; rfl
theorem RdF.sub0 {α : Type} {enc : α → List Value} {sz B : Nat} {w : World} {a : Option Addr} {n c : Nat} {xs : List α} (h : RdF enc sz B w (.slice a n c) xs) (hn : n = xs.length) : RdF enc sz B w (.slice (if n = 0 then a else ofs a (0 * sz)) (n - 0) (n - 0)) xs := by
  have q := h.sub (lo := 0) (hi := n) (mx := n) (by omega) (by omega) (by omega)
  rw [show (xs.drop 0).take (n - 0) = xs by subst hn; simp] at q
  exact q
theorem lget_set {cs : List Value} {k : Nat} {v : Value} (h : k < cs.length) : lget (cs.set k v) k = some v := by rw [lget_eq]; simp [h]
theorem fl_yes1 {ok : Nat → Prop} [DecidablePred ok] {k : Nat} (h : ok k) (g : (fl ok k).1 < 0) : fl ok (k + 1) = ((k : Int), (k : Int)) := by show (if ok k then _ else _) = _; rw [if_pos h, if_pos g]
theorem fl_yes2 {ok : Nat → Prop} [DecidablePred ok] {k : Nat} (h : ok k) (g : ¬ (fl ok k).1 < 0) : fl ok (k + 1) = ((fl ok k).1, (k : Int)) := by show (if ok k then _ else _) = _; rw [if_pos h, if_neg g]
theorem fl_no {ok : Nat → Prop} [DecidablePred ok] {k : Nat} (h : ¬ ok k) : fl ok (k + 1) = fl ok k := by show (if ok k then _ else _) = _; rw [if_neg h]
theorem fl_next {ok : Nat → Prop} [DecidablePred ok] {k : Nat} {f z f' z' : Int} (h : (f, z) = fl ok k) (g : (ok k ∧ f < 0 ∧ f' = k ∧ z' = k) ∨ (ok k ∧ ¬ f < 0 ∧ f' = f ∧ z' = k) ∨ (¬ ok k ∧ f' = f ∧ z' = z)) : (f', z') = fl ok (k + 1) := by
  have e1 : (fl ok k).1 = f := by rw [← h]
  rcases g with ⟨g1, g2, rfl, rfl⟩ | ⟨g1, g2, rfl, rfl⟩ | ⟨g1, rfl, rfl⟩
  · rw [fl_yes1 g1 (by omega)]
  · rw [fl_yes2 g1 (by omega), e1]
  · rw [fl_no g1]; exact h
theorem spE_bad {l : List (Int × Int)} {t ch : Int} (h : chkF l t ≠ 0) : spE l t ch = chkF l t := if_pos h
theorem spE_neg {l : List (Int × Int)} {t ch : Int} (h : ¬ chkF l t ≠ 0) (g : ch < 0) : spE l t ch = 3 := by unfold spE; rw [if_neg h, if_pos g]
theorem spE_17 {l : List (Int × Int)} {t ch : Int} (h : chkF l t = 0) (g : ¬ ch < 0) (k : ¬ AllF l ch l.length) : spE l t ch = 17 := by unfold spE; rw [if_neg (by omega), if_neg g, if_neg k]
theorem spE_0 {l : List (Int × Int)} {t ch : Int} (h : chkF l t = 0) (g : ¬ ch < 0) (k : AllF l ch l.length) : spE l t ch = 0 := by unfold spE; rw [if_neg (by omega), if_neg g, if_pos k]
theorem spL_ne {l : List (Int × Int)} {t ch : Int} (h : spE l t ch ≠ 0) : spL l t ch = [] := if_neg h
theorem spL_0 {l : List (Int × Int)} {t ch : Int} (h : spE l t ch = 0) : spL l t ch = outL l ch l.length := if_pos h
theorem c_Spread (w : World) (v : Value) (l : List (Int × Int)) (t ch : Int) (hR : RdF encP 2 w.heap.size w v l) (hv : CapS v l.length) : Ct Try.prog 29 [.agg #[v, .int .i64 t], .int .i64 ch].toArray w fun r w' => ∃ Hq, (∃ rv : Value, r = .tuple #[rv, .int .i64 (spE l t ch)] ∧ Hq = [OwE encP 51 2 rv (spL l t ch)]) ∧ Inv w [] Hq w' := by
  refine Ct.ofI (X := Value) (p := fun rv r => r = .tuple #[rv, .int .i64 (spE l t ch)]) (Hx := fun rv => [OwE encP 51 2 rv (spL l t ch)]) mixed tyTab Try.func29 rfl rfl ?_
  obtain ⟨va, vc, rfl, hcap⟩ := hv
  replace hR : RdF encP 2 (fnCx mixed tyTab Try.f29.ntmps w).B (fnCx mixed tyTab Try.f29.ntmps w).w0 (.slice va l.length vc) l := hR
  refine W.sreg ?_
  refine WO.boxA rfl rfl (fun b1 hb1 => ?_)
  refine WO.p rfl rfl (WO.p rfl rfl ?_)
  refine WO.nil ?_
  refine W.scope ?_
  refine W.seq ?_
  refine W.sreg ?_
  refine WO.loadA rfl rfl (Cells.own Pick.head) rfl rfl ?_
  refine WO.callR rfl Try.call18 (fun L w hi => c_CheckSpots w _ l t (hR.later hi)) rfl ?_
  refine WO.p rfl rfl ?_
  refine WO.nil ?_
  refine W.sreg ?_
  refine WO.p rfl rfl (WO.p rfl rfl ?_)
  refine WO.nil ?_
  refine W.cond_bl rfl (fun c1 => ?_) (fun c1 => ?_)
  · first
    | (exfalso; omega)
    | (refine W.sreg ?_
       refine WO.p rfl rfl (WO.p rfl rfl (WO.p rfl rfl ?_))
       refine WO.nil ?_
       refine W.ret ?_
       first | (have e1 := spE_bad (ch := ch) (show chkF l t ≠ 0 by assumption); have e2 : spL l t ch = [] := spL_ne (by rw [e1]; assumption); rw [e1, e2]; exact fin.ret (Res.two rfl (RV.tmp rfl) (RV.tmp rfl)) ⟨_, rfl, fun h hs => Sub.sat (.cons .head .nil) (owNil (enc := encP) (e := 51) (sz := 2) h hs)⟩) | (have e1 := spE_neg (t := t) (show ¬ chkF l t ≠ 0 by omega) (show ch < 0 by omega); have e2 : spL l t ch = [] := spL_ne (by rw [e1]; omega); rw [e1, e2]; exact fin.ret (Res.two rfl (RV.tmp rfl) (RV.tmp rfl)) ⟨_, rfl, fun h hs => Sub.sat (.cons .head .nil) (owNil (enc := encP) (e := 51) (sz := 2) h hs)⟩) | (have e1 := spE_17 (l := l) (t := t) (ch := ch) (by omega) (by omega) (fun h => by have := h i (by omega); unfold flI at this; omega); have e2 : spL l t ch = [] := spL_ne (by rw [e1]; omega); rw [e1, e2]; exact fin.ret (Res.two rfl (RV.tmp rfl) (RV.tmp rfl)) ⟨_, rfl, fun h hs => Sub.sat (.cons .head .nil) (owNil (enc := encP) (e := 51) (sz := 2) h hs)⟩) | (obtain rfl : i = l.length := (by omega); have e1 := spE_0 (l := l) (t := t) (ch := ch) (by omega) (by omega) hall; have e2 := spL_0 e1; rw [e1, e2]; exact fin.ret (Res.two rfl (RV.tmp rfl) (RV.tmp rfl)) ⟨_, rfl, fun h hs => Sub.sat (.cons (by repeat (first | exact Pick.head | apply Pick.tail)) .nil) hs⟩) | (exfalso; have q1 := isSl_some hosl (by omega); simp_all; done) | (exfalso; simp at *; done))
  · first
    | (exfalso; omega)
    | (refine W.skip ?_
       refine W.seq ?_
       have hcf := chkF0.1 (show chkF l t = 0 by omega)
       refine W.sreg ?_
       refine WO.p rfl rfl (WO.p rfl rfl ?_)
       refine WO.nil ?_
       refine W.cond_bl rfl (fun c2 => ?_) (fun c2 => ?_)
       · first
         | (exfalso; omega)
         | (refine W.sreg ?_
            refine WO.p rfl rfl (WO.p rfl rfl ?_)
            refine WO.nil ?_
            refine W.ret ?_
            first | (have e1 := spE_bad (ch := ch) (show chkF l t ≠ 0 by assumption); have e2 : spL l t ch = [] := spL_ne (by rw [e1]; assumption); rw [e1, e2]; exact fin.ret (Res.two rfl (RV.tmp rfl) (RV.tmp rfl)) ⟨_, rfl, fun h hs => Sub.sat (.cons .head .nil) (owNil (enc := encP) (e := 51) (sz := 2) h hs)⟩) | (have e1 := spE_neg (t := t) (show ¬ chkF l t ≠ 0 by omega) (show ch < 0 by omega); have e2 : spL l t ch = [] := spL_ne (by rw [e1]; omega); rw [e1, e2]; exact fin.ret (Res.two rfl (RV.tmp rfl) (RV.tmp rfl)) ⟨_, rfl, fun h hs => Sub.sat (.cons .head .nil) (owNil (enc := encP) (e := 51) (sz := 2) h hs)⟩) | (have e1 := spE_17 (l := l) (t := t) (ch := ch) (by omega) (by omega) (fun h => by have := h i (by omega); unfold flI at this; omega); have e2 : spL l t ch = [] := spL_ne (by rw [e1]; omega); rw [e1, e2]; exact fin.ret (Res.two rfl (RV.tmp rfl) (RV.tmp rfl)) ⟨_, rfl, fun h hs => Sub.sat (.cons .head .nil) (owNil (enc := encP) (e := 51) (sz := 2) h hs)⟩) | (obtain rfl : i = l.length := (by omega); have e1 := spE_0 (l := l) (t := t) (ch := ch) (by omega) (by omega) hall; have e2 := spL_0 e1; rw [e1, e2]; exact fin.ret (Res.two rfl (RV.tmp rfl) (RV.tmp rfl)) ⟨_, rfl, fun h hs => Sub.sat (.cons (by repeat (first | exact Pick.head | apply Pick.tail)) .nil) hs⟩) | (exfalso; have q1 := isSl_some hosl (by omega); simp_all; done) | (exfalso; simp at *; done))
       · first
         | (exfalso; omega)
         | (refine W.skip ?_
            refine W.sreg ?_
            refine WO.p rfl rfl ?_
            refine WO.nil ?_
            refine W.sreg ?_
            refine WO.alloc rfl rfl rfl (fun b2 hb2 => ?_)
            refine WO.nil ?_
            refine W.seq ?_
            refine W.label ?_
            refine W.seq ?_
            refine W.sreg ?_
            refine WO.field0 rfl rfl rfl (WO.load rfl rfl (Cell.own (Pick.tail (Pick.head)) rfl) rfl ?_)
            refine' WO.len (n := _) rfl rfl ?hs rfl ?_
            case hs => (first | exact hR.sl)
            refine WO.p rfl rfl ?_
            refine WO.nil ?_
            refine W.block ?_
            refine W.chg (owNil (enc := encP) (e := 51) (sz := 2)) ?_
            refine W.loop3 (fun (i : Nat) (o : Value) (sn : List Value) => i ≤ l.length ∧ AllF l ch i ∧ sn.length = 5)
              (fun (i : Nat) (o : Value) (sn : List Value) => [(1, .int .i64 ch), (2, .pointer (some ⟨b1, 0, none⟩)), (7, o), (8, .pointer (some ⟨b2, 0, none⟩)), (25, .slice va l.length vc), (26, .int .i64 (l.length : Int)), (27, .int .i64 (i : Int))])
              (fun (i : Nat) (o : Value) (sn : List Value) => [pt b1 (.cells #[.slice va l.length vc, .int .i64 t] 24 (0, 0)), pt b2 (.cells sn.toArray 90 (0, 0)), OwE encP 51 2 o (outL l ch i)])
              (fun (i : Nat) (o : Value) (sn : List Value) => l.length - i) 0 (.slice none 0 0) [.bool false, .bool false, .bool false, .bool false, .bool false]
              (by exact ⟨by omega, fun i hi => by omega, rfl⟩) ⟨rfl, rfl, rfl, rfl, rfl, rfl, rfl, trivial⟩ (by repeat (first | exact Sub.nil | refine Sub.cons (by repeat (first | exact Pick.head | apply Pick.tail)) ?_)) ?_
            rintro i o sn ⟨hi, hall, hsn⟩
            refine W.sreg ?_
            refine WO.p rfl rfl ?_
            refine WO.nil ?_
            refine W.seq ?_
            refine W.cond_bl rfl (fun c3 => ?_) (fun c3 => ?_)
            · first
              | (exfalso; omega)
              | (refine W.skip ?_
                 refine W.seq ?_
                 refine W.block ?_
                 have hgi := hcf.2.2 _ (getD_mem (l := l) (i := i) (by omega) (0, 0))
                 have hw := wid_ok hgi
                 unfold OkG at hgi
                 refine W.sreg ?_
                 refine WO.p rfl rfl ?_
                 refine' WO.indexAddr (n := _) (i := _) rfl rfl rfl ?hs ?h1 rfl ?_
                 case hs => (first | exact hR.sl)
                 case h1 => (first | omega | (simp; omega))
                 refine' WO.loadA (vs := _) rfl rfl ?hc ?hl rfl ?_
                 case hc => (first | exact RdF.cells2 hR (i := i) (by omega))
                 case hl => rfl
                 refine WO.alloc rfl rfl rfl (fun b3 hb3 => ?_)
                 refine WO.p rfl rfl (WO.storeA rfl rfl rfl rfl Pick.head rfl rfl ?_)
                 refine WO.nil ?_
                 refine W.sreg ?_
                 refine WO.sliceArr rfl rfl rfl ?_
                 refine WO.clearP (n := 5) rfl rfl rfl rfl (by omega) (by repeat (first | exact Pick.head | apply Pick.tail)) (by exact hsn) ?_
                 refine WO.nil ?_
                 refine W.sreg ?_
                 refine WO.p rfl rfl (WO.p rfl rfl ?_)
                 refine WO.nil ?_
                 refine W.seq ?_
                 refine W.sreg ?_
                 refine WO.fieldL rfl rfl rfl (WO.load rfl rfl (Cell.own (Pick.tail (Pick.head)) rfl) rfl (WO.field0 rfl rfl rfl (WO.load rfl rfl (Cell.own (Pick.tail (Pick.head)) rfl) rfl (WO.ar rfl rfl rfl (by (first | (unfold in64; omega) | (unfold in64; omega))) rfl (WO.ar rfl rfl rfl (by (first | (unfold in64; omega) | (unfold in64; omega))) rfl (WO.p rfl rfl ?_))))))
                 refine WO.nil ?_
                 refine W.block ?_
                 refine W.loop4 (fun (kz : Int) (f : Int) (z : Int) (sn2 : List Value) => 0 ≤ kz ∧ kz ≤ (l.getD i (0, 0)).2 - (l.getD i (0, 0)).1 + 1 ∧ (f, z) = fl (okK l ch i) kz.toNat ∧ sn2.length = 5)
                   (fun (kz : Int) (f : Int) (z : Int) (sn2 : List Value) => [(1, .int .i64 ch), (2, .pointer (some ⟨b1, 0, none⟩)), (7, o), (8, .pointer (some ⟨b2, 0, none⟩)), (9, .int .i64 (i : Int)), (10, .pointer (some ⟨b3, 0, none⟩)), (11, .int .i64 f), (12, .int .i64 z), (25, .slice va l.length vc), (26, .int .i64 (l.length : Int)), (27, .int .i64 (i : Int)), (38, .int .i64 ((l.getD i (0, 0)).2 - (l.getD i (0, 0)).1 + 1)), (39, .int .i64 kz)])
                   (fun (kz : Int) (f : Int) (z : Int) (sn2 : List Value) => [pt b1 (.cells #[.slice va l.length vc, .int .i64 t] 24 (0, 0)), pt b2 (.cells sn2.toArray 90 (0, 0)), pt b3 (.cells #[.int .i64 (l.getD i (0, 0)).1, .int .i64 (l.getD i (0, 0)).2] 51 (0, 0)), OwE encP 51 2 o (outL l ch i)])
                   (fun (kz : Int) (f : Int) (z : Int) (sn2 : List Value) => ((l.getD i (0, 0)).2 - (l.getD i (0, 0)).1 + 1 - kz).toNat) 0 (-1) (-1) (List.replicate 5 (.bool false))
                   (by exact ⟨by omega, by omega, rfl, rfl⟩) ⟨rfl, rfl, rfl, rfl, rfl, rfl, rfl, rfl, rfl, rfl, rfl, rfl, rfl, trivial⟩ (by repeat (first | exact Sub.nil | refine Sub.cons (by repeat (first | exact Pick.head | apply Pick.tail)) ?_)) ?_
                 rintro kz f z sn2 ⟨hk0, hk1, hfz, hsn2⟩
                 refine W.sreg ?_
                 refine WO.p rfl rfl ?_
                 refine WO.nil ?_
                 refine W.seq ?_
                 refine W.cond_bl rfl (fun c4 => ?_) (fun c4 => ?_)
                 · first
                   | (exfalso; omega)
                   | (refine W.skip ?_
                      refine W.seq ?_
                      refine W.block ?_
                      obtain ⟨k, hk, hki⟩ : ∃ k : Nat, kz = (k : Int) ∧ (k : Int) < (l.getD i (0, 0)).2 - (l.getD i (0, 0)).1 + 1 := ⟨kz.toNat, by omega, by omega⟩
                      subst hk
                      rw [Int.toNat_natCast] at hfz
                      obtain ⟨l2, hl2⟩ : ∃ l2, l2 = l.set i ((l.getD i (0, 0)).1 + (k : Int), (l.getD i (0, 0)).1 + (k : Int)) := ⟨_, rfl⟩
                      have hln : l2.length = l.length := by rw [hl2, List.length_set]
                      have hg2 : OkS l2 := by rw [hl2]; exact OkS.set hcf.2.2 (by omega)
                      refine W.sreg ?_
                      refine WO.p rfl rfl (WO.p rfl rfl ?_)
                      refine WO.nil ?_
                      refine W.sreg ?_
                      refine WO.field0 rfl rfl rfl (WO.load rfl rfl (Cell.own Pick.head rfl) rfl ?_)
                      refine' WO.len (n := _) rfl rfl ?hs rfl ?_
                      case hs => (first | exact hR.sl)
                      refine WO.makeEN (z := ((0 : Int), (0 : Int))) encP_ok rfl rfl rfl rfl rfl (by omega) (by omega) rfl (fun lb => ?_)
                      refine' WO.build (cs := _) rfl rfl rfl ?hf rfl ?_
                      case hf => (conv => lhs; simp [-List.getD_eq_getElem?_getD, fillL, vcl, wrl, TTab.pl?.lget']) <;> rfl
                      refine WO.alloc rfl rfl rfl (fun b4 hb4 => ?_)
                      refine WO.storeA rfl rfl rfl rfl Pick.head rfl rfl ?_
                      refine WO.nil ?_
                      refine W.seq ?_
                      refine W.drawD 11 [.r 0 [], .b 1 [], .r 2 [], .b 3 [], .r 4 [], .b 5 [], .r 6 [], .r 7 [], .b 8 [], .r 9 [], .r 10 []] [] (A0 := [_]) (H0 := [_, _, _, _, _]) (.cons (Pick.tail .head) (.cons .head (.cons .head (.cons .head (.cons .head (.cons .head .nil)))))) (by kernel_rfl) ?_ ?_
                      · exact (ALok.r (ALok.b (ALok.r (ALok.b (ALok.r (ALok.b (ALok.r (ALok.r (ALok.b (ALok.r (ALok.r ALok.nil)))))))))))
                      refine' DT.r rfl rfl rfl ?hq ?_
                      case hq =>
                        refine WO.field0 rfl rfl rfl ?_
                        exact WO.nil ⟨rfl, rfl⟩
                      refine' DT.b rfl rfl rfl ?hq ?_
                      case hq =>
                        refine WO.load rfl rfl (Cell.own Pick.head rfl) rfl ?_
                        exact WO.nil ⟨rfl, rfl⟩
                      refine' DT.r rfl rfl rfl ?hq ?_
                      case hq =>
                        refine WO.field0 rfl rfl rfl ?_
                        exact WO.nil ⟨rfl, rfl⟩
                      refine' DT.b rfl rfl rfl ?hq ?_
                      case hq =>
                        refine WO.load rfl rfl (Cell.own (Pick.tail (Pick.head)) rfl) rfl ?_
                        exact WO.nil ⟨rfl, rfl⟩
                      refine' DT.r rfl rfl rfl ?hq ?_
                      case hq =>
                        refine WO.field0 rfl rfl rfl ?_
                        exact WO.nil ⟨rfl, rfl⟩
                      refine' DT.b rfl rfl rfl ?hq ?_
                      case hq =>
                        refine WO.load rfl rfl (Cell.own (Pick.tail (Pick.head)) rfl) rfl ?_
                        exact WO.nil ⟨rfl, rfl⟩
                      refine' DT.r rfl rfl rfl ?hq ?_
                      case hq =>
                        refine' WO.len (n := _) rfl rfl ?hs rfl ?_
                        case hs => (first | exact hR.sl)
                        exact WO.nil ⟨rfl, rfl⟩
                      refine' DT.r rfl rfl rfl ?hq ?_
                      case hq =>
                        refine WO.field0 rfl rfl rfl ?_
                        exact WO.nil ⟨rfl, rfl⟩
                      refine' DT.b rfl rfl rfl ?hq ?_
                      case hq =>
                        refine WO.load rfl rfl (Cell.own (Pick.tail (Pick.head)) rfl) rfl ?_
                        exact WO.nil ⟨rfl, rfl⟩
                      refine' DT.r rfl rfl rfl ?hq ?_
                      case hq =>
                        refine' WO.len (n := _) rfl rfl ?hs rfl ?_
                        case hs => (first | exact hR.sl)
                        exact WO.nil ⟨rfl, rfl⟩
                      refine' DT.r rfl rfl rfl ?hq ?_
                      case hq =>
                        refine WO.slSl (lo := 0) (hi := l.length) (mx := l.length) rfl rfl bnd.no (bnd.at rfl) (bnd.at rfl) (fun _ => rfl) (by omega) (by omega) (by omega) rfl ?_
                        exact WO.nil ⟨rfl, rfl⟩
                      refine DT.nil [_, _, _, _, _, _] rfl ?_
                      refine WO.copyEN (m := l.length) (xs := List.replicate l.length ((0 : Int), (0 : Int))) (ys := l) encP_ok rfl rfl rfl (by repeat (first | exact Pick.head | apply Pick.tail)) (RdF.sub0 hR rfl).sl (by simp) (by simp; omega) (by simp) (RdF.flat encP_ok (RdF.sub0 hR rfl)) rfl ?_
                      refine WO.nil ?_
                      refine W.sreg ?_
                      refine WO.field0 rfl rfl rfl (WO.load rfl rfl (Cell.own (Pick.tail (Pick.head)) rfl) rfl (WO.p rfl rfl (WO.field0 rfl rfl rfl (WO.load rfl rfl (Cell.own (Pick.tail (Pick.tail (Pick.tail (Pick.tail (Pick.head))))) rfl) rfl (WO.p rfl rfl (WO.ar rfl rfl rfl (by (first | (unfold in64; omega) | (unfold in64; omega))) rfl (WO.field0 rfl rfl rfl (WO.load rfl rfl (Cell.own (Pick.tail (Pick.tail (Pick.tail (Pick.tail (Pick.head))))) rfl) rfl (WO.p rfl rfl (WO.ar rfl rfl rfl (by (first | (unfold in64; omega) | (unfold in64; omega))) rfl ?_))))))))))
                      refine' WO.build (cs := _) rfl rfl rfl ?hf rfl ?_
                      case hf => (conv => lhs; simp [-List.getD_eq_getElem?_getD, fillL, vcl, wrl, TTab.pl?.lget']) <;> rfl
                      refine' WO.indexAddr (n := _) (i := _) rfl rfl rfl ?hs ?h1 rfl ?_
                      case hs => (first | exact isSl_lit (n := l.length) (c := l.length) (by omega) (fun _ => ⟨_, _, rfl⟩))
                      case h1 => (first | omega | (simp; omega))
                      refine WO.storeEN (n := ((l.getD i (0, 0)).1 + (k : Int), (l.getD i (0, 0)).1 + (k : Int))) (i := i) encP_ok rfl rfl rfl rfl (by repeat (first | exact Pick.head | apply Pick.tail)) (by omega) ?_
                      rw [← hl2]
                      refine WO.nil ?_
                      refine W.sreg ?_
                      refine WO.loadA rfl rfl (Cells.own (Pick.tail (Pick.head))) rfl rfl ?_
                      refine WO.call rfl Try.call43 (fun L w hi => c_new w (.slice (some ⟨lb, 0, none⟩) l.length l.length) l2 0 0 1 (by rw [hln]; exact isSl_lit (by omega) (fun _ => ⟨_, _, rfl⟩)) (by omega) rfl) rfl ?_
                      rintro _ _ ⟨⟨q, lv⟩, rfl, rfl⟩
                      refine WO.chg (H' := TH.sat [OwE encP 51 2 (.slice (some ⟨lb, 0, none⟩) l.length l.length) l2, pt q (.cells #[.slice (some ⟨lb, 0, none⟩) l.length l.length, .int .i64 0, .int .i64 0, .int .i64 1, lv] 81 (0, 0))] :: _) (fun h hs => sat_app (H1 := [OwE encP 51 2 (.slice (some ⟨lb, 0, none⟩) l.length l.length) l2, pt q (.cells #[.slice (some ⟨lb, 0, none⟩) l.length l.length, .int .i64 0, .int .i64 0, .int .i64 1, lv] 81 (0, 0))]) (Sub.sat (.cons (by repeat (first | exact Pick.head | apply Pick.tail)) (.cons (by repeat (first | exact Pick.head | apply Pick.tail)) (Sub.refl _))) hs)) ?_
                      refine WO.callH (Hp := [TH.sat [OwE encP 51 2 (.slice (some ⟨lb, 0, none⟩) l.length l.length) l2, pt q (.cells #[.slice (some ⟨lb, 0, none⟩) l.length l.length, .int .i64 0, .int .i64 0, .int .i64 1, lv] 81 (0, 0))], TabP 112 75 lv l2.length (fun _ => 0)]) rfl Try.call44 (.cons (by repeat (first | exact Pick.head | apply Pick.tail)) (.cons (by repeat (first | exact Pick.head | apply Pick.tail)) (Sub.refl _))) (fun L w hi hB2 => c_best _ w _ ⟨q, 0, none⟩ (.slice (some ⟨lb, 0, none⟩) l.length l.length) l2 0 0 1 lv hB2 DrS.ownS (by rw [hln]; exact isSl_lit (by omega) (fun _ => ⟨_, _, rfl⟩)) hg2 (by omega) (by omega) ⟨.inl rfl, by omega, by omega⟩) rfl ?_
                      rintro _ _ ⟨rv, rfl, rfl⟩
                      refine WO.p rfl rfl (WO.p rfl rfl (WO.p rfl rfl (WO.p rfl rfl (WO.p rfl rfl ?_))))
                      refine WO.nil ?_
                      refine W.sreg ?_
                      refine WO.p rfl rfl (WO.p rfl rfl (WO.p rfl rfl (WO.p rfl rfl ?_)))
                      refine WO.indexArrE (i := k) (o' := k) rfl rfl rfl rfl (by omega) (by omega) rfl ?_
                      refine WO.store1 (off := k) rfl rfl rfl rfl (by repeat (first | exact Pick.head | apply Pick.tail)) (by rw [Nat.blt_eq]; omega) ?_
                      refine WO.nil ?_
                      refine W.seq ?_
                      refine W.sreg ?_
                      refine WO.p rfl rfl ?_
                      refine WO.indexArrE (i := k) (o' := k) rfl rfl rfl rfl (by omega) (by omega) rfl ?_
                      refine' WO.load (v := _) rfl rfl ?hc rfl ?_
                      case hc => (first | (refine Cell.own (v := .bool (bl (bestC 0 1 l2 ≤ ch))) (b := b2) (off := k) (cs := sn2.set k (.bool (bl (bestC 0 1 l2 ≤ ch)))) Pick.head (lget_set (cs := sn2) (k := k) (by omega))))
                      refine WO.p rfl rfl ?_
                      refine WO.guard_bl rfl rfl (fun c5 => ?_) (fun c5 => ?_)
                      · first
                        | (exfalso; omega)
                        | (refine WO.pg rfl rfl rfl (WO.pg rfl rfl rfl (WO.p rfl rfl ?_))
                           refine WO.nil ?_
                           refine W.cond_bl rfl (fun c6 => ?_) (fun c6 => ?_)
                           · first
                             | (exfalso; omega)
                             | (refine W.region ?_
                                refine WO.p rfl rfl (WO.p rfl rfl ?_)
                                refine WO.nil ?_
                                refine W.sreg ?_
                                refine WO.p rfl rfl ?_
                                refine WO.indexArrE (i := k) (o' := k) rfl rfl rfl rfl (by omega) (by omega) rfl ?_
                                refine' WO.load (v := _) rfl rfl ?hc rfl ?_
                                case hc => (first | (refine Cell.own (v := .bool (bl (bestC 0 1 l2 ≤ ch))) (b := b2) (off := k) (cs := sn2.set k (.bool (bl (bestC 0 1 l2 ≤ ch)))) Pick.head (lget_set (cs := sn2) (k := k) (by omega))))
                                refine WO.nil ?_
                                refine W.cond_bl rfl (fun c7 => ?_) (fun c7 => ?_)
                                · first
                                  | (exfalso; omega)
                                  | (refine W.region ?_
                                     refine WO.p rfl rfl (WO.p rfl rfl ?_)
                                     refine WO.nil ?_
                                     refine W.region ?_
                                     refine WO.ar rfl rfl rfl (by (first | (unfold in64; omega) | (unfold in64; omega))) rfl (WO.p rfl rfl ?_)
                                     refine WO.nil ?_
                                     refine' ⟨_, _, _, _, ?hp, ?hmu, ⟨rfl, rfl, rfl, rfl, rfl, rfl, rfl, rfl, rfl, rfl, rfl, rfl, rfl, trivial⟩, ?hS⟩
                                     case hS => repeat (first | exact Sub.nil | refine Sub.cons (by repeat (first | exact Pick.head | apply Pick.tail)) ?_)
                                     case hp => exact ⟨by omega, by omega, by rw [show ((k : Int) + 1).toNat = k + 1 by omega]; exact fl_next hfz (by show (bestC 0 1 _ ≤ ch ∧ _) ∨ (bestC 0 1 _ ≤ ch ∧ _) ∨ (¬ bestC 0 1 _ ≤ ch ∧ _); rw [← hl2]; omega), by rw [List.length_set]; exact hsn2⟩
                                     case hmu => omega)
                                · first
                                  | (exfalso; omega)
                                  | (refine W.skip ?_
                                     refine W.region ?_
                                     refine WO.ar rfl rfl rfl (by (first | (unfold in64; omega) | (unfold in64; omega))) rfl (WO.p rfl rfl ?_)
                                     refine WO.nil ?_
                                     refine' ⟨_, _, _, _, ?hp, ?hmu, ⟨rfl, rfl, rfl, rfl, rfl, rfl, rfl, rfl, rfl, rfl, rfl, rfl, rfl, trivial⟩, ?hS⟩
                                     case hS => repeat (first | exact Sub.nil | refine Sub.cons (by repeat (first | exact Pick.head | apply Pick.tail)) ?_)
                                     case hp => exact ⟨by omega, by omega, by rw [show ((k : Int) + 1).toNat = k + 1 by omega]; exact fl_next hfz (by show (bestC 0 1 _ ≤ ch ∧ _) ∨ (bestC 0 1 _ ≤ ch ∧ _) ∨ (¬ bestC 0 1 _ ≤ ch ∧ _); rw [← hl2]; omega), by rw [List.length_set]; exact hsn2⟩
                                     case hmu => omega))
                           · first
                             | (exfalso; omega)
                             | (refine W.skip ?_
                                refine W.sreg ?_
                                refine WO.p rfl rfl ?_
                                refine WO.indexArrE (i := k) (o' := k) rfl rfl rfl rfl (by omega) (by omega) rfl ?_
                                refine' WO.load (v := _) rfl rfl ?hc rfl ?_
                                case hc => (first | (refine Cell.own (v := .bool (bl (bestC 0 1 l2 ≤ ch))) (b := b2) (off := k) (cs := sn2.set k (.bool (bl (bestC 0 1 l2 ≤ ch)))) Pick.head (lget_set (cs := sn2) (k := k) (by omega))))
                                refine WO.nil ?_
                                refine W.cond_bl rfl (fun c8 => ?_) (fun c8 => ?_)
                                · first
                                  | (exfalso; omega)
                                  | (refine W.region ?_
                                     refine WO.p rfl rfl (WO.p rfl rfl ?_)
                                     refine WO.nil ?_
                                     refine W.region ?_
                                     refine WO.ar rfl rfl rfl (by (first | (unfold in64; omega) | (unfold in64; omega))) rfl (WO.p rfl rfl ?_)
                                     refine WO.nil ?_
                                     refine' ⟨_, _, _, _, ?hp, ?hmu, ⟨rfl, rfl, rfl, rfl, rfl, rfl, rfl, rfl, rfl, rfl, rfl, rfl, rfl, trivial⟩, ?hS⟩
                                     case hS => repeat (first | exact Sub.nil | refine Sub.cons (by repeat (first | exact Pick.head | apply Pick.tail)) ?_)
                                     case hp => exact ⟨by omega, by omega, by rw [show ((k : Int) + 1).toNat = k + 1 by omega]; exact fl_next hfz (by show (bestC 0 1 _ ≤ ch ∧ _) ∨ (bestC 0 1 _ ≤ ch ∧ _) ∨ (¬ bestC 0 1 _ ≤ ch ∧ _); rw [← hl2]; omega), by rw [List.length_set]; exact hsn2⟩
                                     case hmu => omega)
                                · first
                                  | (exfalso; omega)
                                  | (refine W.skip ?_
                                     refine W.region ?_
                                     refine WO.ar rfl rfl rfl (by (first | (unfold in64; omega) | (unfold in64; omega))) rfl (WO.p rfl rfl ?_)
                                     refine WO.nil ?_
                                     refine' ⟨_, _, _, _, ?hp, ?hmu, ⟨rfl, rfl, rfl, rfl, rfl, rfl, rfl, rfl, rfl, rfl, rfl, rfl, rfl, trivial⟩, ?hS⟩
                                     case hS => repeat (first | exact Sub.nil | refine Sub.cons (by repeat (first | exact Pick.head | apply Pick.tail)) ?_)
                                     case hp => exact ⟨by omega, by omega, by rw [show ((k : Int) + 1).toNat = k + 1 by omega]; exact fl_next hfz (by show (bestC 0 1 _ ≤ ch ∧ _) ∨ (bestC 0 1 _ ≤ ch ∧ _) ∨ (¬ bestC 0 1 _ ≤ ch ∧ _); rw [← hl2]; omega), by rw [List.length_set]; exact hsn2⟩
                                     case hmu => omega)))
                      · first
                        | (exfalso; omega)
                        | (refine WO.no rfl rfl (WO.no rfl rfl (WO.p rfl rfl ?_))
                           refine WO.nil ?_
                           refine W.cond_f rfl ?_
                           refine W.skip ?_
                           refine W.sreg ?_
                           refine WO.p rfl rfl ?_
                           refine WO.indexArrE (i := k) (o' := k) rfl rfl rfl rfl (by omega) (by omega) rfl ?_
                           refine' WO.load (v := _) rfl rfl ?hc rfl ?_
                           case hc => (first | (refine Cell.own (v := .bool (bl (bestC 0 1 l2 ≤ ch))) (b := b2) (off := k) (cs := sn2.set k (.bool (bl (bestC 0 1 l2 ≤ ch)))) Pick.head (lget_set (cs := sn2) (k := k) (by omega))))
                           refine WO.nil ?_
                           refine W.cond_bl rfl (fun c9 => ?_) (fun c9 => ?_)
                           · first
                             | (exfalso; omega)
                             | (refine W.region ?_
                                refine WO.p rfl rfl (WO.p rfl rfl ?_)
                                refine WO.nil ?_
                                refine W.region ?_
                                refine WO.ar rfl rfl rfl (by (first | (unfold in64; omega) | (unfold in64; omega))) rfl (WO.p rfl rfl ?_)
                                refine WO.nil ?_
                                refine' ⟨_, _, _, _, ?hp, ?hmu, ⟨rfl, rfl, rfl, rfl, rfl, rfl, rfl, rfl, rfl, rfl, rfl, rfl, rfl, trivial⟩, ?hS⟩
                                case hS => repeat (first | exact Sub.nil | refine Sub.cons (by repeat (first | exact Pick.head | apply Pick.tail)) ?_)
                                case hp => exact ⟨by omega, by omega, by rw [show ((k : Int) + 1).toNat = k + 1 by omega]; exact fl_next hfz (by show (bestC 0 1 _ ≤ ch ∧ _) ∨ (bestC 0 1 _ ≤ ch ∧ _) ∨ (¬ bestC 0 1 _ ≤ ch ∧ _); rw [← hl2]; omega), by rw [List.length_set]; exact hsn2⟩
                                case hmu => omega)
                           · first
                             | (exfalso; omega)
                             | (refine W.skip ?_
                                refine W.region ?_
                                refine WO.ar rfl rfl rfl (by (first | (unfold in64; omega) | (unfold in64; omega))) rfl (WO.p rfl rfl ?_)
                                refine WO.nil ?_
                                refine' ⟨_, _, _, _, ?hp, ?hmu, ⟨rfl, rfl, rfl, rfl, rfl, rfl, rfl, rfl, rfl, rfl, rfl, rfl, rfl, trivial⟩, ?hS⟩
                                case hS => repeat (first | exact Sub.nil | refine Sub.cons (by repeat (first | exact Pick.head | apply Pick.tail)) ?_)
                                case hp => exact ⟨by omega, by omega, by rw [show ((k : Int) + 1).toNat = k + 1 by omega]; exact fl_next hfz (by show (bestC 0 1 _ ≤ ch ∧ _) ∨ (bestC 0 1 _ ≤ ch ∧ _) ∨ (¬ bestC 0 1 _ ≤ ch ∧ _); rw [← hl2]; omega), by rw [List.length_set]; exact hsn2⟩
                                case hmu => omega)))
                 · first
                   | (exfalso; omega)
                   | (refine W.exit (blk_same ?_)
                      refine W.seq ?_
                      have hfi : (f, z) = flI l ch i := by rw [hfz]; unfold flI; rw [show kz.toNat = wid (l.getD i (0, 0)) by omega]
                      have hf0 : (flI l ch i).1 = f := by rw [← hfi]
                      have hf1 : (flI l ch i).1 = f := by rw [← hfi]
                      have hf2 : (flI l ch i).2 = z := by rw [← hfi]
                      have hfb := fl_bd (okK l ch i) (wid (l.getD i (0, 0)))
                      unfold flI at hf1 hf2
                      rw [hf1, hf2] at hfb
                      refine W.sreg ?_
                      refine WO.p rfl rfl (WO.p rfl rfl ?_)
                      refine WO.nil ?_
                      refine W.cond_bl rfl (fun c10 => ?_) (fun c10 => ?_)
                      · first
                        | (exfalso; omega)
                        | (refine W.sreg ?_
                           refine WO.p rfl rfl ?_
                           refine WO.nil ?_
                           refine W.exit (blk_other rfl (blk_same ?_))
                           refine W.seq ?_
                           refine W.fact (OwE.form (enc := encP) (e := 51) (sz := 2) (v := o) (by repeat (first | exact Pick.head | apply Pick.tail))) (fun hof => ?_)
                           obtain ⟨oa, oc, rfl⟩ := hof
                           refine W.fact (OwE.sl (enc := encP) (e := 51) (sz := 2) (v := .slice oa (outL l ch i).length oc) (by repeat (first | exact Pick.head | apply Pick.tail))) (fun hosl => ?_)
                           rw [outL_len] at hosl
                           refine W.sreg ?_
                           refine WO.p rfl rfl ?_
                           refine WO.eqT rfl rfl (nil22 _ _ _) rfl ?_
                           refine WO.nil ?_
                           refine W.cond rfl (fun c11 => ?_) (fun c11 => ?_)
                           · first
                             | (exfalso; omega)
                             | (refine W.sreg ?_
                                refine WO.p rfl rfl (WO.p rfl rfl ?_)
                                refine WO.nil ?_
                                refine W.ret ?_
                                first | (have e1 := spE_bad (ch := ch) (show chkF l t ≠ 0 by assumption); have e2 : spL l t ch = [] := spL_ne (by rw [e1]; assumption); rw [e1, e2]; exact fin.ret (Res.two rfl (RV.tmp rfl) (RV.tmp rfl)) ⟨_, rfl, fun h hs => Sub.sat (.cons .head .nil) (owNil (enc := encP) (e := 51) (sz := 2) h hs)⟩) | (have e1 := spE_neg (t := t) (show ¬ chkF l t ≠ 0 by omega) (show ch < 0 by omega); have e2 : spL l t ch = [] := spL_ne (by rw [e1]; omega); rw [e1, e2]; exact fin.ret (Res.two rfl (RV.tmp rfl) (RV.tmp rfl)) ⟨_, rfl, fun h hs => Sub.sat (.cons .head .nil) (owNil (enc := encP) (e := 51) (sz := 2) h hs)⟩) | (have e1 := spE_17 (l := l) (t := t) (ch := ch) (by omega) (by omega) (fun h => by have := h i (by omega); unfold flI at this; omega); have e2 : spL l t ch = [] := spL_ne (by rw [e1]; omega); rw [e1, e2]; exact fin.ret (Res.two rfl (RV.tmp rfl) (RV.tmp rfl)) ⟨_, rfl, fun h hs => Sub.sat (.cons .head .nil) (owNil (enc := encP) (e := 51) (sz := 2) h hs)⟩) | (obtain rfl : i = l.length := (by omega); have e1 := spE_0 (l := l) (t := t) (ch := ch) (by omega) (by omega) hall; have e2 := spL_0 e1; rw [e1, e2]; exact fin.ret (Res.two rfl (RV.tmp rfl) (RV.tmp rfl)) ⟨_, rfl, fun h hs => Sub.sat (.cons (by repeat (first | exact Pick.head | apply Pick.tail)) .nil) hs⟩) | (exfalso; have q1 := isSl_some hosl (by omega); simp_all; done) | (exfalso; simp at *; done))
                           · first
                             | (exfalso; omega)
                             | (refine W.skip ?_
                                refine W.sreg ?_
                                refine WO.p rfl rfl (WO.p rfl rfl (WO.p rfl rfl ?_))
                                refine WO.nil ?_
                                refine W.ret ?_
                                first | (have e1 := spE_bad (ch := ch) (show chkF l t ≠ 0 by assumption); have e2 : spL l t ch = [] := spL_ne (by rw [e1]; assumption); rw [e1, e2]; exact fin.ret (Res.two rfl (RV.tmp rfl) (RV.tmp rfl)) ⟨_, rfl, fun h hs => Sub.sat (.cons .head .nil) (owNil (enc := encP) (e := 51) (sz := 2) h hs)⟩) | (have e1 := spE_neg (t := t) (show ¬ chkF l t ≠ 0 by omega) (show ch < 0 by omega); have e2 : spL l t ch = [] := spL_ne (by rw [e1]; omega); rw [e1, e2]; exact fin.ret (Res.two rfl (RV.tmp rfl) (RV.tmp rfl)) ⟨_, rfl, fun h hs => Sub.sat (.cons .head .nil) (owNil (enc := encP) (e := 51) (sz := 2) h hs)⟩) | (have e1 := spE_17 (l := l) (t := t) (ch := ch) (by omega) (by omega) (fun h => by have := h i (by omega); unfold flI at this; omega); have e2 : spL l t ch = [] := spL_ne (by rw [e1]; omega); rw [e1, e2]; exact fin.ret (Res.two rfl (RV.tmp rfl) (RV.tmp rfl)) ⟨_, rfl, fun h hs => Sub.sat (.cons .head .nil) (owNil (enc := encP) (e := 51) (sz := 2) h hs)⟩) | (obtain rfl : i = l.length := (by omega); have e1 := spE_0 (l := l) (t := t) (ch := ch) (by omega) (by omega) hall; have e2 := spL_0 e1; rw [e1, e2]; exact fin.ret (Res.two rfl (RV.tmp rfl) (RV.tmp rfl)) ⟨_, rfl, fun h hs => Sub.sat (.cons (by repeat (first | exact Pick.head | apply Pick.tail)) .nil) hs⟩) | (exfalso; have q1 := isSl_some hosl (by omega); simp_all; done) | (exfalso; simp at *; done)))
                      · first
                        | (exfalso; omega)
                        | (refine W.skip ?_
                           refine W.region ?_
                           refine WO.p rfl rfl (WO.field0 rfl rfl rfl (WO.load rfl rfl (Cell.own (Pick.tail (Pick.tail (Pick.head))) rfl) rfl (WO.p rfl rfl (WO.ar rfl rfl rfl (by (first | (unfold in64; omega) | (unfold in64; omega))) rfl (WO.field0 rfl rfl rfl (WO.load rfl rfl (Cell.own (Pick.tail (Pick.tail (Pick.head))) rfl) rfl (WO.p rfl rfl (WO.ar rfl rfl rfl (by (first | (unfold in64; omega) | (unfold in64; omega))) rfl ?_))))))))
                           refine' WO.build (cs := _) rfl rfl rfl ?hf rfl ?_
                           case hf => (conv => lhs; simp [-List.getD_eq_getElem?_getD, fillL, vcl, wrl, TTab.pl?.lget']) <;> rfl
                           refine' WO.buildSl (cs := _) rfl rfl rfl rfl ?hf rfl rfl ?hl rfl (fun v5 => ?_)
                           case hf => (conv => lhs; simp [-List.getD_eq_getElem?_getD, fillL, vcl, wrl, TTab.pl?.lget']) <;> rfl
                           case hl => rfl
                           refine' WO.appendE (enc := encP) (m := 1) (xs := outL l ch i) (ys := [((l.getD i (0, 0)).1 + f, (l.getD i (0, 0)).1 + z)]) encP_ok rfl rfl rfl rfl rfl (by repeat (first | exact Pick.head | apply Pick.tail)) (isSl_lit (by omega) (fun _ => ⟨_, _, rfl⟩)) (by omega) rfl (OwC.cells .head) (by rw [outL_len]; omega) (by rw [outL_len]; omega) rfl (fun g c => ?_)
                           rw [show outL l ch i ++ [((l.getD i (0, 0)).1 + f, (l.getD i (0, 0)).1 + z)] = outL l ch (i + 1) by rw [outL_succ]; unfold flI; rw [hf1, hf2]]
                           refine WO.p rfl rfl ?_
                           refine WO.nil ?_
                           refine W.region ?_
                           refine WO.ar rfl rfl rfl (by (first | (unfold in64; omega) | (unfold in64; omega))) rfl (WO.p rfl rfl ?_)
                           refine WO.nil ?_
                           refine' ⟨i + 1, _, _, ?hp, ?hmu, ⟨rfl, rfl, rfl, rfl, rfl, rfl, rfl, trivial⟩, ?hS⟩
                           case hS => repeat (first | exact Sub.nil | refine Sub.cons (by repeat (first | exact Pick.head | apply Pick.tail)) ?_)
                           case hp => exact ⟨by omega, hall.succ (by rw [hf0]; omega), hsn2⟩
                           case hmu => omega)))
            · first
              | (exfalso; omega)
              | (refine W.exit (blk_same ?_)
                 refine W.seq ?_
                 refine W.fact (OwE.form (enc := encP) (e := 51) (sz := 2) (v := o) (by repeat (first | exact Pick.head | apply Pick.tail))) (fun hof => ?_)
                 obtain ⟨oa, oc, rfl⟩ := hof
                 refine W.fact (OwE.sl (enc := encP) (e := 51) (sz := 2) (v := .slice oa (outL l ch i).length oc) (by repeat (first | exact Pick.head | apply Pick.tail))) (fun hosl => ?_)
                 rw [outL_len] at hosl
                 refine W.sreg ?_
                 refine WO.p rfl rfl ?_
                 refine WO.eqT rfl rfl (nil22 _ _ _) rfl ?_
                 refine WO.nil ?_
                 refine W.cond rfl (fun c12 => ?_) (fun c12 => ?_)
                 · first
                   | (exfalso; omega)
                   | (refine W.sreg ?_
                      refine WO.p rfl rfl (WO.p rfl rfl ?_)
                      refine WO.nil ?_
                      refine W.ret ?_
                      first | (have e1 := spE_bad (ch := ch) (show chkF l t ≠ 0 by assumption); have e2 : spL l t ch = [] := spL_ne (by rw [e1]; assumption); rw [e1, e2]; exact fin.ret (Res.two rfl (RV.tmp rfl) (RV.tmp rfl)) ⟨_, rfl, fun h hs => Sub.sat (.cons .head .nil) (owNil (enc := encP) (e := 51) (sz := 2) h hs)⟩) | (have e1 := spE_neg (t := t) (show ¬ chkF l t ≠ 0 by omega) (show ch < 0 by omega); have e2 : spL l t ch = [] := spL_ne (by rw [e1]; omega); rw [e1, e2]; exact fin.ret (Res.two rfl (RV.tmp rfl) (RV.tmp rfl)) ⟨_, rfl, fun h hs => Sub.sat (.cons .head .nil) (owNil (enc := encP) (e := 51) (sz := 2) h hs)⟩) | (have e1 := spE_17 (l := l) (t := t) (ch := ch) (by omega) (by omega) (fun h => by have := h i (by omega); unfold flI at this; omega); have e2 : spL l t ch = [] := spL_ne (by rw [e1]; omega); rw [e1, e2]; exact fin.ret (Res.two rfl (RV.tmp rfl) (RV.tmp rfl)) ⟨_, rfl, fun h hs => Sub.sat (.cons .head .nil) (owNil (enc := encP) (e := 51) (sz := 2) h hs)⟩) | (obtain rfl : i = l.length := (by omega); have e1 := spE_0 (l := l) (t := t) (ch := ch) (by omega) (by omega) hall; have e2 := spL_0 e1; rw [e1, e2]; exact fin.ret (Res.two rfl (RV.tmp rfl) (RV.tmp rfl)) ⟨_, rfl, fun h hs => Sub.sat (.cons (by repeat (first | exact Pick.head | apply Pick.tail)) .nil) hs⟩) | (exfalso; have q1 := isSl_some hosl (by omega); simp_all; done) | (exfalso; simp at *; done))
                 · first
                   | (exfalso; omega)
                   | (refine W.skip ?_
                      refine W.sreg ?_
                      refine WO.p rfl rfl (WO.p rfl rfl (WO.p rfl rfl ?_))
                      refine WO.nil ?_
                      refine W.ret ?_
                      first | (have e1 := spE_bad (ch := ch) (show chkF l t ≠ 0 by assumption); have e2 : spL l t ch = [] := spL_ne (by rw [e1]; assumption); rw [e1, e2]; exact fin.ret (Res.two rfl (RV.tmp rfl) (RV.tmp rfl)) ⟨_, rfl, fun h hs => Sub.sat (.cons .head .nil) (owNil (enc := encP) (e := 51) (sz := 2) h hs)⟩) | (have e1 := spE_neg (t := t) (show ¬ chkF l t ≠ 0 by omega) (show ch < 0 by omega); have e2 : spL l t ch = [] := spL_ne (by rw [e1]; omega); rw [e1, e2]; exact fin.ret (Res.two rfl (RV.tmp rfl) (RV.tmp rfl)) ⟨_, rfl, fun h hs => Sub.sat (.cons .head .nil) (owNil (enc := encP) (e := 51) (sz := 2) h hs)⟩) | (have e1 := spE_17 (l := l) (t := t) (ch := ch) (by omega) (by omega) (fun h => by have := h i (by omega); unfold flI at this; omega); have e2 : spL l t ch = [] := spL_ne (by rw [e1]; omega); rw [e1, e2]; exact fin.ret (Res.two rfl (RV.tmp rfl) (RV.tmp rfl)) ⟨_, rfl, fun h hs => Sub.sat (.cons .head .nil) (owNil (enc := encP) (e := 51) (sz := 2) h hs)⟩) | (obtain rfl : i = l.length := (by omega); have e1 := spE_0 (l := l) (t := t) (ch := ch) (by omega) (by omega) hall; have e2 := spL_0 e1; rw [e1, e2]; exact fin.ret (Res.two rfl (RV.tmp rfl) (RV.tmp rfl)) ⟨_, rfl, fun h hs => Sub.sat (.cons (by repeat (first | exact Pick.head | apply Pick.tail)) .nil) hs⟩) | (exfalso; have q1 := isSl_some hosl (by omega); simp_all; done) | (exfalso; simp at *; done)))))
end Go.Proofs.Ytpecakgebhmnfaa
namespace Go.Proofs.Ytpecakgebhmnfaa
open Go Go.TH
attribute [local irreducible] W WO pt
set_option maxRecDepth 10000
set_option maxHeartbeats 1000000
abbrev Sk := Nat × Nat × Nat × Nat
def kv (k : Sk) : Value := stV k.1 k.2.1 k.2.2.1 k.2.2.2
def Mt (es : List MapEntry) (kvs : List (Sk × Int)) : Prop := es.map (fun e => (e.key, e.val)) = kvs.map (fun p => (kv p.1, Value.int .i64 p.2))
def Rep (es : List MapEntry) (f : Sk → Option Int) : Prop := ∃ kvs, Mt es kvs ∧ ∀ k, f k = kvs.lookup k
/-- a map of one's own -/
def MapP (b : Nat) (f : Sk → Option Int) : HP := fun h => ∃ (es : Array MapEntry) (clk : Nat), Rep es.toList f ∧ pt b (.map es clk) h
def updM (f : Sk → Option Int) (k : Sk) (v : Int) : Sk → Option Int := fun k' => if k' = k then some v else f k'
theorem bl_and {p q : Prop} [Decidable p] [Decidable q] : (bl p && bl q) = bl (p ∧ q) := by rw [bl_eq, bl_eq, bl_eq]; simp
theorem run_eq77 (w : World) (a b : Sk) : (Op.equal 77 (kv a) (kv b)).run Try.prog w = .ok (bl (a = b)) w := by
  obtain ⟨a1, a2, a3, a4⟩ := a
  obtain ⟨b1, b2, b3, b4⟩ := b
  unfold kv stV
  simp [Op.equal, Op.maxDepth, go_sem, Try.underlying77, Try.underlying75]
  by_cases h1 : a1 = b1
  · by_cases h2 : a2 = b2
    · by_cases h3 : a3 = b3
      · by_cases h4 : a4 = b4
        · subst h1 h2 h3 h4; simp [bl_eq]
        · have g : ¬ (a4 : Int) = (b4 : Int) := by omega
          subst h1 h2 h3; simp [bl_eq, h4, g]
      · have g : ¬ (a3 : Int) = (b3 : Int) := by omega
        subst h1 h2; simp [bl_eq, h3, g]
    · have g : ¬ (a2 : Int) = (b2 : Int) := by omega
      subst h1; simp [bl_eq, h2, g]
  · have g : ¬ (a1 : Int) = (b1 : Int) := by omega
    simp [bl_eq, h1, g]
theorem run_check3 (w : World) (e : Bool) (n : Nat) (v : Value) : (Instr.checkKey e (n + 1) 3 v).run Try.prog w = .ok () w := by
  unfold Instr.checkKey
  simp [run_underlying Try.underlying3]
theorem run_check75 (w : World) (e : Bool) (n : Nat) (s : Int) : (Instr.checkKey e (n + 1 + 1) 75 (.agg #[.int .i64 s])).run Try.prog w = .ok () w := by
  unfold Instr.checkKey
  simp [go_sem, run_underlying Try.underlying75, run_check3]
theorem run_check77 (w : World) (e : Bool) (k : Sk) : (Instr.checkKey e 10000 77 (kv k)).run Try.prog w = .ok () w := by
  unfold kv stV
  rw [show (10000 : Nat) = 9997 + 1 + 1 + 1 from rfl]
  unfold Instr.checkKey
  simp [go_sem, run_underlying Try.underlying77, run_check3, run_check75]
theorem lk_same (a : Sk) (v : Int) (r : List (Sk × Int)) : ((a, v) :: r).lookup a = some v := by rw [List.lookup_cons]; simp
theorem lk_ne {k a : Sk} (h : ¬ k = a) (v : Int) (r : List (Sk × Int)) : ((a, v) :: r).lookup k = r.lookup k := by
  have e : (k == a) = false := beq_false_of_ne h
  rw [List.lookup_cons, e]
theorem find77 (w : World) (k : Sk) : ∀ (es : List MapEntry) (kvs : List (Sk × Int)) (i : Nat), Mt es kvs →
    (∃ (j : Nat) (v : Int) (e : MapEntry), kvs.lookup k = some v ∧ (Instr.findAsking 77 (kv k) es i).run Try.prog w = .ok (some (i + j, .int .i64 v)) w ∧ es[j]? = some e ∧ e.key = kv k ∧
      ∀ u, ∃ kvs', Mt (es.modify j fun e => { e with key := kv k, val := .int .i64 u }) kvs' ∧ ∀ k', kvs'.lookup k' = if k' = k then some u else kvs.lookup k') ∨
    (kvs.lookup k = none ∧ (Instr.findAsking 77 (kv k) es i).run Try.prog w = .ok none w)
  | [], kvs, i, h => by
    unfold Mt at h
    obtain rfl : kvs = [] := by cases kvs with
      | nil => rfl
      | cons a r => simp at h
    exact .inr ⟨rfl, by simp [Instr.findAsking]⟩
  | e :: es, [], i, h => by unfold Mt at h; simp at h
  | e :: es, (a, v) :: r, i, h => by
    unfold Mt at h
    simp only [List.map_cons, List.cons.injEq, Prod.mk.injEq] at h
    obtain ⟨⟨h1, h1'⟩, h2⟩ := h
    by_cases g : k = a
    · subst g
      refine .inl ⟨0, v, e, lk_same _ _ _, ?_, rfl, h1, fun u => ⟨(k, u) :: r, ?_, fun k' => ?_⟩⟩
      · simp [Instr.findAsking, h1, h1', run_eq77, bl_eq]
      · unfold Mt; simp [h2]
      · by_cases q : k' = k
        · subst q; rw [if_pos rfl, lk_same]
        · rw [if_neg q, lk_ne q, lk_ne q]
    · have hl : ((a, v) :: r).lookup k = r.lookup k := lk_ne g _ _
      rw [hl]
      rcases find77 w k es r (i + 1) h2 with ⟨j, v', e', q1, q2, q3, q4, q5⟩ | ⟨q1, q2⟩
      · refine .inl ⟨j + 1, v', e', q1, ?_, by simpa using q3, q4, fun u => ?_⟩
        · simp [Instr.findAsking, h1, run_eq77, bl_eq, g, q2]
          omega
        · obtain ⟨kvs', p1, p2⟩ := q5 u
          refine ⟨(a, v) :: kvs', ?_, fun k' => ?_⟩
          · unfold Mt at p1 ⊢
            rw [List.modify_succ_cons, List.map_cons, p1, List.map_cons, h1, h1']
          · by_cases q : k' = a
            · subst q; rw [if_neg (fun x => g x.symm), lk_same, lk_same]
            · rw [lk_ne q, lk_ne q]
              exact p2 k'
      · exact .inr ⟨q1, by simp [Instr.findAsking, h1, run_eq77, bl_eq, g, q2]⟩
theorem key77 (w : World) (k : Sk) (es : List MapEntry) : (Instr.findKey 77 (kv k) es).run Try.prog w = (Instr.findAsking 77 (kv k) es).run Try.prog w := run_findKey_eq w (by simp [Try.underlying77]) _ _
theorem stays77 (w : World) (k : Sk) : (Instr.keyThatStays (kv k) (kv k)).run Try.prog w = .ok (kv k) w := by
  have h : Instr.sameBits (9999 + 1) (kv k) (kv k) = true := by
    unfold kv stV
    unfold Instr.sameBits
    simp [Instr.sameBits]
  unfold Instr.keyThatStays
  rw [show (10000 : Nat) = 9999 + 1 from rfl, h]
  rfl
theorem MapP.start {b : Nat} {H H' : List HP} (p : Pick (pt b (.map #[] 0)) H H') : ∀ h, sat H h → sat (MapP b (fun _ => none) :: H') h := fun h hs => by
  obtain ⟨h1, h2, s, a, r⟩ := p.sat hs
  exact ⟨h1, h2, s, ⟨#[], 0, ⟨[], rfl, fun _ => rfl⟩, a⟩, r⟩
section
variable {C : Cx Try.prog} {E : Env} {H : List HP}
variable {ops : Array Oper} {K : KP} {rest : List Oper} {d : Nat} {ty : TypeId} {pos : String} {af : Array Edge} {x y z : Operand} {T : TypeId}
theorem MapP.open {w0 w : World} {M : List Nat} {L H' : List HP} {b : Nat} {f : Sk → Option Int} (p : Pick (MapP b f) H H') (hi : TH.Inv w0 M (L ++ H) w) : ∃ (es : Array MapEntry) (clk : Nat), Rep es.toList f ∧ TH.Inv w0 M (pt b (.map es clk) :: (L ++ H')) w := by
  have h1 := (hi.pickL p).perm List.perm_middle
  obtain ⟨ha, hb, s, ⟨es, clk, e, q⟩, hr⟩ := h1.mine
  exact ⟨es, clk, e, h1.os, h1.tape, h1.output, h1.size, h1.keep, ha, hb, s, q, hr⟩
theorem MapP.shut {w0 w : World} {M : List Nat} {L H' : List HP} {b clk : Nat} {es : Array MapEntry} {f : Sk → Option Int} (e : Rep es.toList f) (hi : TH.Inv w0 M (pt b (.map es clk) :: (L ++ H')) w) : TH.Inv w0 M (L ++ MapP b f :: H') w := by
  have h2 : TH.Inv w0 M (MapP b f :: (L ++ H')) w := ⟨hi.os, hi.tape, hi.output, hi.size, hi.keep, sat_mono (fun h q => ⟨es, clk, e, q⟩) hi.mine⟩
  exact h2.perm (List.perm_middle (l₁ := L) (l₂ := H')).symm
theorem WO.mapUpd {b : Nat} {f : Sk → Option Int} {k : Sk} {v : Int} {u : Value} {H' : List HP} {et : TypeId} (hT : Try.prog.underlying T = some (.map 77 et)) (hm : ev E x = some (.map (some b))) (hk : ev E y = some u) (hku : u = kv k) (hu : ev E z = some (.int .i64 v)) (p : Pick (MapP b f) H H')
    (h : WO C ops rest K E (MapP b (updM f k v) :: H')) : WO C ops (⟨none, .mapUpdate T x y z, ty, pos, af, none⟩ :: rest) K E H := by
  subst hku
  refine WO.step0 rfl rfl (XO.run (by simp) fun L a w hfr hi => ?_)
  obtain ⟨es, clk, ⟨kvs, he, hf⟩, hi'⟩ := MapP.open p hi
  have hl := (hi'.look .head).1
  have hlt : b < w.heap.size := (Array.getElem?_eq_some_iff.1 hl).1
  obtain ⟨es', clk', hrep, hr⟩ : ∃ (es' : Array MapEntry) (clk' : Nat), Rep es'.toList (updM f k v) ∧ (Instr.mapUpdate T (.map (some b)) (kv k) (.int .i64 v)).run Try.prog w = .ok () { w with heap := w.heap.setIfInBounds b (.map es' clk') } := by
    rcases find77 w k es.toList kvs 0 he with ⟨j, v', e', q1, q2, q3, q4, q5⟩ | ⟨q1, q2⟩
    · rw [← key77] at q2
      obtain ⟨kvs', p1, p2⟩ := q5 v
      refine ⟨es.modify j fun e => { e with key := kv k, val := .int .i64 v }, clk, ⟨kvs', by rw [Array.toList_modify]; exact p1, fun k' => by unfold updM; rw [p2 k', hf k']⟩, ?_⟩
      have q3' : es[j]? = some e' := by simpa using q3
      simp [Instr.mapUpdate, run_underlying hT, getMap_run hl, run_check77, q2, q3', q4, stays77]
      simp [setObj, Sem.run, hl, Result.andThen]
    · rw [← key77] at q2
      refine ⟨es.push { key := kv k, val := .int .i64 v, born := clk }, clk + 1, ⟨kvs ++ [(k, v)], ?_, fun k' => ?_⟩, ?_⟩
      · unfold Mt at he ⊢
        rw [Array.toList_push, List.map_append, he, List.map_append]; rfl
      · unfold updM
        rw [List.lookup_append]
        by_cases q : k' = k
        · subst q; rw [if_pos rfl, q1, lk_same]; rfl
        · rw [if_neg q, hf k', lk_ne q]
          cases kvs.lookup k' <;> rfl
      · simp [Instr.mapUpdate, run_underlying hT, getMap_run hl, run_check77, q2]
        simp [setObj, Sem.run, hl, Result.andThen]
  refine ⟨undef, { w with heap := w.heap.setIfInBounds b (.map es' clk') }, _, .inr ⟨?_, rfl⟩, h, ?_⟩
  · simp [execOp, hfr.eval hm, hfr.eval hk, hfr.eval hu, hr]
  · have hs := hi'.set (o' := .map es' clk') .head (w' := { w with heap := w.heap.setIfInBounds b (.map es' clk') }) rfl rfl rfl (by simp) (by simp [hlt]) (fun k hk => by simp [Array.getElem?_setIfInBounds_ne (Ne.symm hk)])
    exact MapP.shut hrep hs
theorem WO.mapGet {b : Nat} {f : Sk → Option Int} {k : Sk} {u : Value} {H' : List HP} (hT : Try.prog.underlying T = some (.map 77 2)) (hm : ev E x = some (.map (some b))) (hk : ev E y = some u) (hku : u = kv k) (p : Pick (MapP b f) H H') (hN : Nat.blt d C.N = true)
    (h : WO C ops rest K ((d, .int .i64 ((f k).getD 0)) :: E) H) : WO C ops (⟨some d, .lookup T x y false, ty, pos, af, none⟩ :: rest) K E H := by
  subst hku
  refine WO.pure _ (by simp) (fun L a w hfr hi => ?_) hN h
  obtain ⟨es, clk, ⟨kvs, he, hf⟩, hi'⟩ := MapP.open p hi
  have hl := (hi'.look .head).1
  have hzr : (zeroValue 2).run Try.prog w = .ok (.int .i64 0) w := run_zeroValue (ZT.of (t := tyTab) (T := 2) rfl).zero
  rcases find77 w k es.toList kvs 0 he with ⟨j, v', e', q1, q2, _⟩ | ⟨q1, q2⟩
  · rw [← key77] at q2
    simp [execOp, hfr.eval hm, hfr.eval hk, Instr.lookup, run_underlying hT, getMap_run hl, run_check77, q2, hf k, q1]
  · rw [← key77] at q2
    simp [execOp, hfr.eval hm, hfr.eval hk, Instr.lookup, run_underlying hT, getMap_run hl, run_check77, q2, hf k, q1, hzr]
theorem WO.mapGet2 {b : Nat} {f : Sk → Option Int} {k : Sk} {u : Value} {H' : List HP} (hT : Try.prog.underlying T = some (.map 77 2)) (hm : ev E x = some (.map (some b))) (hk : ev E y = some u) (hku : u = kv k) (p : Pick (MapP b f) H H') (hN : Nat.blt d C.N = true)
    (h : WO C ops rest K ((d, .tuple #[.int .i64 ((f k).getD 0), .bool (bl ((f k).isSome = true))]) :: E) H) : WO C ops (⟨some d, .lookup T x y true, ty, pos, af, none⟩ :: rest) K E H := by
  subst hku
  refine WO.pure _ (by simp) (fun L a w hfr hi => ?_) hN h
  obtain ⟨es, clk, ⟨kvs, he, hf⟩, hi'⟩ := MapP.open p hi
  have hl := (hi'.look .head).1
  have hzr : (zeroValue 2).run Try.prog w = .ok (.int .i64 0) w := run_zeroValue (ZT.of (t := tyTab) (T := 2) rfl).zero
  rcases find77 w k es.toList kvs 0 he with ⟨j, v', e', q1, q2, _⟩ | ⟨q1, q2⟩
  · rw [← key77] at q2
    simp [execOp, hfr.eval hm, hfr.eval hk, Instr.lookup, run_underlying hT, getMap_run hl, run_check77, q2, hf k, q1, bl_eq]
  · rw [← key77] at q2
    simp [execOp, hfr.eval hm, hfr.eval hk, Instr.lookup, run_underlying hT, getMap_run hl, run_check77, q2, hf k, q1, hzr, bl_eq]
end
end Go.Proofs.Ytpecakgebhmnfaa
namespace Go.Proofs.Ytpecakgebhmnfaa
open Go Go.TH
attribute [local irreducible] W WO pt
set_option maxRecDepth 10000
set_option maxHeartbeats 1000000
/-- a call of a function value that is handed pieces -/
theorem WO.callCH {C : Cx Try.prog} {E : Env} {H : List HP} {ops : Array Oper} {K : KP} {rest : List Oper} {d : Nat} {ty : TypeId} {pos : String} {af : Array Edge} {x : Operand} {xs : List Operand} {ats : Array TypeId} {f : FuncId} {first captured vs : List Value} {Hp Hr : List HP} {Post : Value → List HP → Prop}
    (hx : ev E x = some (.func (.func f) first.toArray captured.toArray)) (hxs : evs E xs = some vs) (hcall : ∀ (args : Array Value) (w : World), (callFunc f args).run Try.prog w = .ok (.enter f args) w) (hH : Sub H (Hp ++ Hr))
    (hspec : ∀ (L : List HP) w, TH.Inv C.w0 C.M (L ++ H) w → C.B ≤ w.heap.size → CtH Try.prog f (first ++ vs ++ captured) w Hp C.B Post) (hN : Nat.blt d C.N = true)
    (h : ∀ v Hq, Post v Hq → WO C ops rest K ((d, v) :: E) (Hq ++ Hr)) : WO C ops (⟨some d, .call ⟨.value x, xs.toArray, ats⟩, ty, pos, af, none⟩ :: rest) K E H := by
  refine WO.step rfl rfl hN (XO.callF (Hp := Hp) (Hr := Hr) (Post := Post) (first := first.toArray) (captured := captured.toArray) hx hxs hcall hH (fun L w M' hi hM hp => ?_) h)
  have hc := hspec L w hi (Nat.le_trans C.hB hi.size) M' (fun b hb => by
    rcases hM b hb with h | h
    · exact Nat.le_trans C.hB h
    · exact C.hM b h) hp
  have e : first.toArray ++ vs.toArray ++ captured.toArray = (first ++ vs ++ captured).toArray := by simp
  rw [e]; exact hc
/-- a variable of one's own that holds a slice of one's own -/
def SlX {α : Type} (b t e sz : Nat) (enc : α → List Value) (xs : List α) : HP := fun h => ∃ o : Value, sat [pt b (.cells #[o] t (0, 0)), OwE enc e sz o xs] h
theorem SlX.open {α : Type} {b t e sz : Nat} {enc : α → List Value} {xs : List α} {H H' : List HP} (pk : Pick (SlX b t e sz enc xs) H H') : ∀ h, sat H h → ∃ o : Value, True ∧ sat (pt b (.cells #[o] t (0, 0)) :: OwE enc e sz o xs :: H') h := fun h hs => by
  obtain ⟨h1, h2, s, ⟨o, ho⟩, hr⟩ := pk.sat hs
  exact ⟨o, trivial, sat_join (H1 := [pt b (.cells #[o] t (0, 0)), OwE enc e sz o xs]) s ho hr⟩
theorem SlX.shut {α : Type} {b t e sz : Nat} {enc : α → List Value} {xs : List α} {H H' : List HP} {o : Value} (sb : Sub H (pt b (.cells #[o] t (0, 0)) :: OwE enc e sz o xs :: H')) : ∀ h, sat H h → sat (SlX b t e sz enc xs :: H') h := fun h hs => by
  obtain ⟨h1, h2, s, x, y⟩ := sat_app (H1 := [pt b (.cells #[o] t (0, 0)), OwE enc e sz o xs]) (sb.sat hs)
  exact ⟨h1, h2, s, ⟨o, x⟩, y⟩
def encSk (k : Sk) : List Value := [.int .i64 (k.1 : Int), .int .i64 (k.2.1 : Int), .int .i64 (k.2.2.1 : Int), .int .i64 (k.2.2.2 : Int)]
theorem encSk_ok : EncOk encSk 4 := ⟨fun _ => rfl, fun x u hu => by simp [encSk] at hu; rcases hu with rfl | rfl | rfl | rfl <;> rfl, by omega⟩
/-- the states of a spot, with its number -/
def stK (l : List (Int × Int)) (i : Nat) : List Sk := (stL l i).map fun x => (i, x.1, x.2.1, x.2.2)
def allTo (l : List (Int × Int)) : Nat → List Sk
  | 0 => []
  | 1 => []
  | i + 2 => allTo l (i + 1) ++ stK l (i + 1)
def allL (l : List (Int × Int)) : List Sk := allTo l l.length
theorem stK_len (l : List (Int × Int)) (i : Nat) : (stK l i).length = w1 l i * w2 l i * 3 := by simp [stK, stL_len]
theorem stK_get {l : List (Int × Int)} {i a b s : Nat} (ha : a < w1 l i) (hb : b < w2 l i) (hs : s < 3) : (stK l i)[(a * w2 l i + b) * 3 + s]? = some (i, a, b, s) := by
  unfold stK; rw [List.getElem?_map, stL_get ha hb hs]; rfl
theorem allTo_succ {l : List (Int × Int)} {i : Nat} (h : 1 ≤ i) : allTo l (i + 1) = allTo l i ++ stK l i := by
  obtain ⟨j, rfl⟩ : ∃ j, i = j + 1 := ⟨i - 1, by omega⟩
  rfl
theorem w_le {l : List (Int × Int)} (hg : OkS l) {i : Nat} (hi : i < l.length) : 1 ≤ w1 l i ∧ w1 l i ≤ 5 ∧ 1 ≤ w2 l i ∧ w2 l i ≤ 5 := by
  have q1 := wid_ok (hg _ (getD_mem (i := i - 1) (by omega) (0, 0)))
  have q2 := wid_ok (hg _ (getD_mem (i := i) (by omega) (0, 0)))
  exact ⟨q1.1, q1.2.1, q2.1, q2.2.1⟩
theorem stK_le {l : List (Int × Int)} (hg : OkS l) {i : Nat} (hi : i < l.length) : (stK l i).length ≤ 75 := by
  have h := w_le hg hi
  have := Nat.mul_le_mul h.2.1 h.2.2.2
  rw [stK_len]; omega
theorem allTo_len {l : List (Int × Int)} (hg : OkS l) : ∀ {i : Nat}, i ≤ l.length → (allTo l i).length ≤ 75 * i
  | 0, _ => by simp [allTo]
  | 1, _ => by simp [allTo]
  | i + 2, h => by
    have h1 := allTo_len hg (i := i + 1) (by omega)
    have h2 := stK_le hg (i := i + 1) (by omega)
    unfold allTo
    rw [List.length_append]; omega
theorem stsV_take {l : List (Int × Int)} {i a b s k : Nat} (ha : a < w1 l i) (hb : b < w2 l i) (hs : s < 3) (hk : k = (a * w2 l i + b) * 3 + s) : (stK l i).take (k + 1) = (stK l i).take k ++ [(i, a, b, s)] := by
  subst hk
  have h := stK_get ha hb hs
  rw [List.take_add_one, h]; rfl
theorem c_all (w : World) (p : Addr) (v : Value) (l : List (Int × Int)) (t Bc T : Int) (lv : Value) (hD : DrR w.heap.size w p v l t Bc T lv) (hg : OkS l) (h24 : l.length ≤ 24) (hn : 1 ≤ l.length) :
    Ct Try.prog 46 [.pointer (some p)].toArray w fun r w' => ∃ Hq, (∃ x : Value, r = x ∧ Hq = [OwE encSk 77 4 x (allL l)]) ∧ Inv w [] Hq w' := by
  refine Ct.ofI (X := Value) (p := fun x r => r = x) (Hx := fun x => [OwE encSk 77 4 x (allL l)]) mixed tyTab Try.func46 rfl rfl ?_
  have hD' : DrR (fnCx mixed tyTab Try.f46.ntmps w).B (fnCx mixed tyTab Try.f46.ntmps w).w0 p v l t Bc T lv := hD
  have hR := hD'.r
  have hP := hD'.c
  have hle := hR.sl.le
  refine W.sreg ?_
  refine WO.p rfl rfl ?_
  refine WO.nil ?_
  refine W.sreg ?_
  refine WO.alloc rfl rfl rfl (fun b1 hb1 => ?_)
  refine WO.nil ?_
  refine W.seq ?_
  refine W.sreg ?_
  refine WO.p rfl rfl ?_
  refine WO.nil ?_
  refine W.block ?_
  refine W.chg (owcNil (e := 77) (sz := 4)) ?_
  refine W.chg (SlX.shut (xs := ([] : List Sk)) (enc := encSk) (e := 77) (sz := 4) (o := .slice none 0 0) (.cons (by repeat (first | exact Pick.head | apply Pick.tail)) (.cons (by repeat (first | exact Pick.head | apply Pick.tail)) (Sub.refl _)))) ?_
  refine W.loop (fun (i : Nat) => 1 ≤ i ∧ i ≤ l.length)
    (fun (i : Nat) => [(4, .int .i64 (i : Int)), (3, .pointer (some ⟨b1, 0, none⟩)), (0, .pointer (some p))])
    (fun (i : Nat) => [SlX b1 71 77 4 encSk (allTo l i)])
    (fun (i : Nat) => l.length - i) 1
    (by exact ⟨by omega, by omega⟩) ⟨rfl, rfl, rfl, trivial⟩ (by repeat (first | exact Sub.nil | refine Sub.cons (by repeat (first | exact Pick.head | apply Pick.tail)) ?_)) ?_
  rintro i ⟨hi1, hi2⟩
  refine W.seq ?_
  refine W.sreg ?_
  refine WO.p rfl rfl (WO.p rfl rfl (WO.p rfl rfl (WO.field0 rfl rfl rfl (WO.field0 rfl rfl rfl ?_))))
  refine' WO.load (v := _) rfl rfl ?hc rfl ?_
  case hc => (first | (refine hP.cell0 ?_ <;> rfl))
  refine' WO.len (n := _) rfl rfl ?hs rfl ?_
  case hs => (first | exact hR.sl)
  refine WO.p rfl rfl ?_
  refine WO.nil ?_
  refine W.cond_bl rfl (fun c1 => ?_) (fun c1 => ?_)
  · first
    | (exfalso; omega)
    | (refine W.skip ?_
       refine W.seq ?_
       refine W.block ?_
       have hsl := allTo_len hg (i := i) (by omega)
       refine W.sreg ?_
       refine WO.p rfl rfl (WO.p rfl rfl ?_)
       refine WO.call rfl Try.call65 (fun L w hi => c_states w p i _ rfl) rfl ?_
       rintro fv _ ⟨e1, e2, rfl, rfl⟩
       refine WO.nil ?_
       refine W.block ?_
       rw [show allTo l i = allTo l i ++ (stK l i).take 0 by simp]
       refine W.rangeFuncG [pt e2 (.cells #[.int .i64 (i : Int)] 3 (0, 0)), pt e1 (.cells #[.pointer (some p)] 67 (0, 0))] (fun k => [SlX b1 71 77 4 encSk (allTo l i ++ (stK l i).take k)]) (stsV l i) rfl rfl rfl Try.call68 (by repeat (first | exact Sub.nil | refine Sub.cons (by repeat (first | exact Pick.head | apply Pick.tail)) ?_)) ?_ ?_ ?_
       · intro lp Hc hy hHc u1 M' hB' hk hM' hi
         exact c_states1 _ _ p v l t Bc T lv i hg h24 (by omega) (by omega) lp Hc hy (fun k => DrS.old hD') e1 e2 u1 M' hB' hk hM' hi
       · intro lp u1 M' hB' hM' hk k x hx
         have hkl : (stK l i).length ≤ 75 := stK_le hg (by omega)
         obtain ⟨a, b, s, ha, hb, hs, rfl, rfl⟩ := stsV_some hx
         refine W.region ?_
         refine WO.alloc rfl rfl rfl (fun b2 hb2 => ?_)
         refine WO.storeA rfl rfl rfl rfl Pick.head rfl rfl ?_
         refine WO.nil ?_
         refine W.block ?_
         refine W.chgE (SlX.open (by repeat (first | exact Pick.head | apply Pick.tail))) (fun o _ => ?_)
         refine W.region ?_
         refine' WO.load (v := _) rfl rfl ?hc rfl ?_
         case hc => (first | (refine Cell.own (by repeat (first | exact Pick.head | apply Pick.tail)) ?_; rfl))
         refine WO.loadA rfl rfl (Cells.own (Pick.tail (Pick.tail (Pick.head)))) rfl rfl ?_
         refine' WO.buildSl (cs := _) rfl rfl rfl rfl ?hf rfl rfl ?hl rfl (fun v3 => ?_)
         case hf => (conv => lhs; simp [-List.getD_eq_getElem?_getD, fillL, vcl, wrl, TTab.pl?.lget']) <;> rfl
         case hl => rfl
         refine' WO.appendE (enc := encSk) (m := 1) (xs := allTo l i ++ (stK l i).take ((a * w2 l i + b) * 3 + s)) (ys := [(i, a, b, s)]) encSk_ok rfl rfl rfl rfl rfl (by repeat (first | exact Pick.head | apply Pick.tail)) (isSl_lit (by omega) (fun _ => ⟨_, _, rfl⟩)) (by omega) rfl (OwC.cells .head) (by rw [List.length_append, List.length_take]; omega) (by rw [List.length_append, List.length_take]; omega) rfl (fun g c => ?_)
         refine WO.store1 rfl rfl rfl rfl (by repeat (first | exact Pick.head | apply Pick.tail)) rfl ?_
         refine WO.chg (SlX.shut (xs := allTo l i ++ (stK l i).take ((a * w2 l i + b) * 3 + s + 1)) (by rw [stsV_take ha hb hs rfl, ← List.append_assoc]; exact .cons (by repeat (first | exact Pick.head | apply Pick.tail)) (.cons (by repeat (first | exact Pick.head | apply Pick.tail)) (Sub.refl _)))) ?_
         refine WO.nil ?_
         (repeat (first | exact Sub.nil | refine Sub.cons (by repeat (first | exact Pick.head | apply Pick.tail)) ?_))
       rw [stsV_len, ← stK_len, List.take_length, ← allTo_succ hi1]
       refine W.region ?_
       refine WO.p rfl rfl (WO.ar rfl rfl rfl (by (first | (unfold in64; omega))) rfl (WO.p rfl rfl ?_))
       refine WO.nil ?_
       refine' ⟨i + 1, ?hp, ?hmu, ⟨rfl, rfl, rfl, trivial⟩, ?hS⟩
       case hS => repeat (first | exact Sub.nil | refine Sub.cons (by repeat (first | exact Pick.head | apply Pick.tail)) ?_)
       case hp => exact ⟨by omega, by omega⟩
       case hmu => omega)
  · first
    | (exfalso; omega)
    | (refine W.exit (blk_same ?_)
       obtain rfl : i = l.length := by omega
       refine W.chgE (SlX.open (by repeat (first | exact Pick.head | apply Pick.tail))) (fun o _ => ?_)
       refine W.sreg ?_
       refine WO.load rfl rfl (Cell.own Pick.head rfl) rfl (WO.p rfl rfl ?_)
       refine WO.nil ?_
       refine W.ret ?_
       exact fin.ret (Res.one rfl (RV.tmp rfl)) ⟨_, rfl, fun h hs => Sub.sat (by repeat (first | exact Sub.nil | refine Sub.cons (by repeat (first | exact Pick.head | apply Pick.tail)) ?_)) hs⟩)
end Go.Proofs.Ytpecakgebhmnfaa
namespace Go.Proofs.Ytpecakgebhmnfaa
open Go Go.TH
attribute [local irreducible] W WO pt
set_option maxRecDepth 10000
set_option maxHeartbeats 1000000
theorem satOpen {Hs H H' : List HP} (pk : Pick (sat Hs) H H') : ∀ h, sat H h → sat (Hs ++ H') h := fun h hs => by
  obtain ⟨h1, h2, s, a, b⟩ := pk.sat hs
  exact sat_join s a b
theorem satShut {Hs H H' : List HP} (sb : Sub H (Hs ++ H')) : ∀ h, sat H h → sat (sat Hs :: H') h := fun h hs => by
  obtain ⟨h1, h2, s, x, y⟩ := sat_app (H1 := Hs) (sb.sat hs)
  exact ⟨h1, h2, s, x, y⟩
/-- how many states a state leads to, at most one for each offset -/
def lw (l : List (Int × Int)) (i : Nat) : Nat := if i + 1 = l.length then 0 else w2 l (i + 1)
theorem lw_last {l : List (Int × Int)} {i : Nat} (h : i + 1 = l.length) : lw l i = 0 := if_pos h
theorem lw_other {l : List (Int × Int)} {i : Nat} (h : ¬ i + 1 = l.length) : lw l i = w2 l (i + 1) := if_neg h
theorem c_leads (B : Nat) (w : World) (S : HP) (p : Addr) (v : Value) (l : List (Int × Int)) (t Bc T : Int) (lv : Value) (i a b s : Nat) (f : Nat) (cap : List Value) (X : Nat → HP) (hB : B ≤ w.heap.size) (hS : DrS B w S p v l t Bc T lv) (hv : IsSl v l.length) (hg : OkS l) (hC : OkC Bc T) (h1 : 1 ≤ i) (hil : i < l.length) (ha : a < w1 l i) (hb : b < w2 l i) (hs : s < 3)
    (hcall : ∀ (args : Array Value) (w : World), (callFunc f args).run Try.prog w = .ok (.enter f args) w)
    (hF : ∀ c u, i + 1 < l.length → c < w2 l (i + 1) → B ≤ u.heap.size → (∀ k, k < B → u.heap[k]? = w.heap[k]?) → CtH Try.prog f ([stV (i + 1) b c (sg s (dif l i a b c)), .int .i64 (stp Bc T s (dif l i a b c))] ++ cap) u [X c] B (fun r Hq => r = .tuple #[] ∧ Hq = [X (c + 1)])) :
    CtH Try.prog 47 [.pointer (some p), stV i a b s, .func (.func f) (([] : List Value).toArray) cap.toArray] w [S, X 0] B (fun r Hq => ∃ x : Unit, r = .tuple #[] ∧ Hq = [S, X (lw l i)]) := by
  refine CtH.ofI (X := Unit) (p := fun _ r => r = .tuple #[]) (Hx := fun _ => [S, X (lw l i)]) mixed tyTab hB Try.func47 rfl rfl (fun M hM => ?_)
  have hS' : DrS B w S p v l t Bc T lv := hS
  have hSC : DrS (itCx mixed tyTab Try.f47.ntmps w M B hB hM).B (itCx mixed tyTab Try.f47.ntmps w M B hB hM).w0 S p v l t Bc T lv := hS
  have hle := hv.le
  have hwi := w_le hg hil
  refine W.sreg ?_
  refine WO.boxA rfl rfl (fun b1 hb1 => ?_)
  refine WO.nil ?_
  refine W.seq ?_
  refine W.seq ?_
  refine W.drawD 9 [.r 0 [], .b 1 [], .r 2 [], .r 3 [], .r 4 [], .r 5 [], .r 6 [], .b 7 [], .r 8 []] [] (A0 := []) (Sub.refl _) (by kernel_rfl) ?_ ?_
  · exact (ALok.r (ALok.b (ALok.r (ALok.r (ALok.r (ALok.r (ALok.r (ALok.b (ALok.r ALok.nil)))))))))
  refine' DT.r rfl rfl rfl ?hq ?_
  case hq =>
    refine WO.field0 rfl rfl rfl ?_
    exact WO.nil ⟨rfl, rfl⟩
  refine' DT.b rfl rfl rfl ?hq ?_
  case hq =>
    refine WO.load rfl rfl (Cell.own Pick.head rfl) rfl ?_
    exact WO.nil ⟨rfl, rfl⟩
  refine' DT.r rfl rfl rfl ?hq ?_
  case hq =>
    refine WO.ar rfl rfl rfl (by (first | (unfold in64; omega) | (unfold in64; omega))) rfl ?_
    exact WO.nil ⟨rfl, rfl⟩
  refine' DT.r rfl rfl rfl ?hq ?_
  case hq =>
    refine WO.p rfl rfl ?_
    exact WO.nil ⟨rfl, rfl⟩
  refine' DT.r rfl rfl rfl ?hq ?_
  case hq =>
    refine WO.p rfl rfl ?_
    exact WO.nil ⟨rfl, rfl⟩
  refine' DT.r rfl rfl rfl ?hq ?_
  case hq =>
    refine WO.field0 rfl rfl rfl ?_
    exact WO.nil ⟨rfl, rfl⟩
  refine' DT.r rfl rfl rfl ?hq ?_
  case hq =>
    refine WO.field0 rfl rfl rfl ?_
    exact WO.nil ⟨rfl, rfl⟩
  refine' DT.b rfl rfl rfl ?hq ?_
  case hq =>
    refine' WO.load (v := _) rfl rfl ?hc rfl ?_
    case hc => (first | (refine DrS.cell0 (S := S) (v := v) hSC ?_; exact (by repeat (first | exact Sub.nil | refine Sub.cons (by repeat (first | exact Pick.head | apply Pick.tail)) ?_))))
    exact WO.nil ⟨rfl, rfl⟩
  refine' DT.r rfl rfl rfl ?hq ?_
  case hq =>
    refine' WO.len (n := _) rfl rfl ?hs rfl ?_
    case hs => (first | exact hv)
    exact WO.nil ⟨rfl, rfl⟩
  refine DT.nil [_, _, _] rfl ?_
  refine WO.p rfl rfl ?_
  refine WO.nil ?_
  refine W.cond_bl rfl (fun c1 => ?_) (fun c1 => ?_)
  · first
    | (exfalso; omega)
    | (refine W.ret ?_
       first | (rw [lw_last (by omega)]; exact fin.ret (Res.none rfl) ⟨(), rfl, fun h hs => Sub.sat (by repeat (first | exact Sub.nil | refine Sub.cons (by repeat (first | exact Pick.head | apply Pick.tail)) ?_)) hs⟩) | (obtain rfl : c = w2 l (i + 1) := (by omega); rw [lw_other (by omega)]; exact fin.ret (Res.none rfl) ⟨(), rfl, fun h hs => Sub.sat (by repeat (first | exact Sub.nil | refine Sub.cons (by repeat (first | exact Pick.head | apply Pick.tail)) ?_)) hs⟩))
  · first
    | (exfalso; omega)
    | (refine W.skip ?_
       have hw2 := w_le hg (i := i + 1) (by omega)
       refine W.sreg ?_
       refine WO.p rfl rfl (WO.field0 rfl rfl rfl (WO.load rfl rfl (Cell.own Pick.head rfl) rfl (WO.ar rfl rfl rfl (by (first | (unfold in64; omega) | (unfold in64; omega))) rfl ?_)))
       refine WO.callR (r := .int .i64 (w2 l (i + 1) : Int)) rfl Try.call59 (fun L u hi' => c_wide u p v l t Bc T lv (i + 1) _ (hSC.at (by repeat (first | exact Pick.head | apply Pick.tail)) hi') (by omega) (by omega) hg) rfl ?_
       refine WO.p rfl rfl ?_
       refine WO.nil ?_
       refine W.block ?_
       refine W.loop (fun (c : Nat) => c ≤ w2 l (i + 1))
         (fun (c : Nat) => [(0, .pointer (some p)), (2, .func (.func f) (([] : List Value).toArray) cap.toArray), (21, .int .i64 (w2 l (i + 1) : Int)), (22, .int .i64 (c : Int)), (4, .pointer (some ⟨b1, 0, none⟩))])
         (fun (c : Nat) => [S, X c, pt b1 (.cells #[.int .i64 (i : Int), .int .i64 (a : Int), .int .i64 (b : Int), .int .i64 (s : Int)] 77 (0, 0))])
         (fun (c : Nat) => w2 l (i + 1) - c) 0
         (by exact Nat.zero_le _) ⟨rfl, rfl, rfl, rfl, rfl, trivial⟩ (by repeat (first | exact Sub.nil | refine Sub.cons (by repeat (first | exact Pick.head | apply Pick.tail)) ?_)) ?_
       rintro c hc5
       refine W.sreg ?_
       refine WO.p rfl rfl ?_
       refine WO.nil ?_
       refine W.seq ?_
       refine W.cond_bl rfl (fun c2 => ?_) (fun c2 => ?_)
       · first
         | (exfalso; omega)
         | (refine W.skip ?_
            refine W.seq ?_
            refine W.block ?_
            refine W.sreg ?_
            refine WO.p rfl rfl (WO.p rfl rfl ?_)
            refine WO.nil ?_
            refine W.region ?_
            refine WO.p rfl rfl (WO.p rfl rfl (WO.loadA rfl rfl (Cells.own (Pick.tail (Pick.tail (Pick.head)))) rfl rfl (WO.p rfl rfl ?_)))
            refine WO.callR rfl Try.call64 (fun L u hi' => c_on u p v l t Bc T lv i a b s c (hSC.at (by repeat (first | exact Pick.head | apply Pick.tail)) hi') hg hC h1 (by omega) (by omega) (by omega) hs (by omega)) rfl ?_
            refine WO.p rfl rfl (WO.p rfl rfl ?_)
            refine WO.callCH (first := []) (captured := cap) (Hp := [X c]) (Post := fun r Hq => r = .tuple #[] ∧ Hq = [X (c + 1)]) rfl rfl hcall (.cons (by repeat (first | exact Pick.head | apply Pick.tail)) (Sub.refl _)) (fun L u hi hB' => hF c u (by omega) (by omega) hB' hi.keepB) rfl ?_
            rintro _ _ ⟨rfl, rfl⟩
            refine WO.nil ?_
            refine W.region ?_
            refine WO.ar rfl rfl rfl (by (first | (unfold in64; omega) | (unfold in64; omega))) rfl (WO.p rfl rfl ?_)
            refine WO.nil ?_
            refine' ⟨c + 1, ?hp, ?hmu, ⟨rfl, rfl, rfl, rfl, rfl, trivial⟩, ?hS⟩
            case hS => repeat (first | exact Sub.nil | refine Sub.cons (by repeat (first | exact Pick.head | apply Pick.tail)) ?_)
            case hp => omega
            case hmu => omega)
       · first
         | (exfalso; omega)
         | (refine W.exit (blk_same ?_)
            first | (rw [lw_last (by omega)]; exact fin.normal (Res.none rfl) ⟨(), rfl, fun h hs => Sub.sat (by repeat (first | exact Sub.nil | refine Sub.cons (by repeat (first | exact Pick.head | apply Pick.tail)) ?_)) hs⟩) | (obtain rfl : c = w2 l (i + 1) := (by omega); rw [lw_other (by omega)]; exact fin.normal (Res.none rfl) ⟨(), rfl, fun h hs => Sub.sat (by repeat (first | exact Sub.nil | refine Sub.cons (by repeat (first | exact Pick.head | apply Pick.tail)) ?_)) hs⟩)))
/-- a less number for a state, if there is one -/
def relax (f : Sk → Option Int) (k : Sk) (z : Int) : Sk → Option Int := if (f k).isSome = true ∧ ¬ z < (f k).getD 0 then f else updM f k z
theorem relax_up {f : Sk → Option Int} {k : Sk} {z : Int} (h : (f k).isSome = true → z < (f k).getD 0) : relax f k z = updM f k z := if_neg fun x => x.2 (h x.1)
theorem relax_no {f : Sk → Option Int} {k : Sk} {z : Int} (h1 : (f k).isSome = true) (h2 : ¬ z < (f k).getD 0) : relax f k z = f := if_pos ⟨h1, h2⟩
/-- the pieces of Labels$1 -/
abbrev LbP (bm bn q : Nat) (n : Int) (f : Sk → Option Int) : List HP := [pt bm (.cells #[.map (some q)] 73 (0, 0)), pt bn (.cells #[.int .i64 n] 2 (0, 0)), MapP q f]
theorem c_lab1 (B : Nat) (w : World) (bm bn q : Nat) (n c : Int) (f : Sk → Option Int) (i a b s : Nat) (hB : B ≤ w.heap.size) (hn : 0 ≤ n ∧ n ≤ 1099511627776) (hc : 0 ≤ c ∧ c ≤ 6000000) :
    CtH Try.prog 51 [stV i a b s, .int .i64 c, .pointer (some ⟨bm, 0, none⟩), .pointer (some ⟨bn, 0, none⟩)] w [sat (LbP bm bn q n f)] B (fun r Hq => r = .tuple #[] ∧ Hq = [sat (LbP bm bn q n (relax f (i, a, b, s) (n + c)))]) := by
  refine CtH.mono (CtH.ofI (X := Unit) (p := fun _ r => r = .tuple #[]) (Hx := fun _ => [sat (LbP bm bn q n (relax f (i, a, b, s) (n + c)))]) mixed tyTab hB Try.func51 rfl rfl (fun M hM => ?_)) (fun h hs => hs) (fun r Hq ⟨_, h1, h2⟩ => ⟨Hq, ⟨h1, h2⟩, fun h hs => hs⟩)
  refine W.sreg ?_
  refine WO.boxA rfl rfl (fun b1 hb1 => ?_)
  refine WO.nil ?_
  refine W.chg (satOpen (Hs := LbP bm bn q n f) (by repeat (first | exact Pick.head | apply Pick.tail))) ?_
  refine W.sreg ?_
  refine WO.load rfl rfl (Cell.own Pick.head rfl) rfl (WO.loadA rfl rfl (Cells.own (Pick.tail (Pick.tail (Pick.tail (Pick.head))))) rfl rfl ?_)
  refine WO.mapGet2 (k := (i, a, b, s)) rfl rfl rfl rfl (by repeat (first | exact Pick.head | apply Pick.tail)) rfl ?_
  refine WO.p rfl rfl (WO.p rfl rfl (WO.p rfl rfl (WO.p rfl rfl (WO.p rfl rfl ?_))))
  refine WO.nil ?_
  refine W.sreg ?_
  refine WO.p rfl rfl (WO.p rfl rfl (WO.p rfl rfl ?_))
  refine WO.guard_b rfl rfl (fun c1 => ?_) (fun c1 => ?_)
  · first
    | (exfalso; omega)
    | (refine WO.no rfl rfl (WO.no rfl rfl (WO.no rfl rfl (WO.no rfl rfl (WO.no rfl rfl (WO.p rfl rfl ?_)))))
       refine WO.nil ?_
       refine W.cond_t rfl ?_
       refine W.region ?_
       refine WO.load rfl rfl (Cell.own Pick.head rfl) rfl (WO.loadA rfl rfl (Cells.own (Pick.tail (Pick.tail (Pick.tail (Pick.head))))) rfl rfl (WO.load rfl rfl (Cell.own (Pick.tail (Pick.head)) rfl) rfl (WO.p rfl rfl (WO.ar rfl rfl rfl (by (first | (unfold in64; omega) | (unfold in64; omega))) rfl ?_))))
       refine WO.mapUpd (k := (i, a, b, s)) rfl rfl rfl rfl rfl (by repeat (first | exact Pick.head | apply Pick.tail)) ?_
       refine WO.nil ?_
       first | (rw [relax_no (by simp_all [bl_eq]) (by omega)]; exact fin.normal (Res.none rfl) ⟨(), rfl, satShut (Hs := LbP bm bn q n f) (H' := []) (by repeat (first | exact Sub.nil | refine Sub.cons (by repeat (first | exact Pick.head | apply Pick.tail)) ?_))⟩) | (rw [relax_up (by first | (intro _; assumption) | (intro hh; simp_all [bl_eq]))]; exact fin.normal (Res.none rfl) ⟨(), rfl, satShut (H' := []) (Hs := LbP bm bn q n (updM f (i, a, b, s) (n + c))) (by repeat (first | exact Sub.nil | refine Sub.cons (by repeat (first | exact Pick.head | apply Pick.tail)) ?_))⟩))
  · first
    | (exfalso; omega)
    | (refine WO.go' rfl (WO.load rfl rfl (Cell.own (Pick.tail (Pick.head)) rfl) rfl (WO.pg rfl rfl rfl (WO.go' rfl (WO.ar rfl rfl rfl (by (first | (unfold in64; omega) | (unfold in64; omega))) rfl (WO.pg rfl rfl rfl (WO.pg rfl rfl rfl (WO.p rfl rfl ?_)))))))
       refine WO.nil ?_
       refine W.cond_bl rfl (fun c2 => ?_) (fun c2 => ?_)
       · first
         | (exfalso; omega)
         | (refine W.region ?_
            refine WO.load rfl rfl (Cell.own Pick.head rfl) rfl (WO.loadA rfl rfl (Cells.own (Pick.tail (Pick.tail (Pick.tail (Pick.head))))) rfl rfl (WO.load rfl rfl (Cell.own (Pick.tail (Pick.head)) rfl) rfl (WO.p rfl rfl (WO.ar rfl rfl rfl (by (first | (unfold in64; omega) | (unfold in64; omega))) rfl ?_))))
            refine WO.mapUpd (k := (i, a, b, s)) rfl rfl rfl rfl rfl (by repeat (first | exact Pick.head | apply Pick.tail)) ?_
            refine WO.nil ?_
            first | (rw [relax_no (by simp_all [bl_eq]) (by omega)]; exact fin.normal (Res.none rfl) ⟨(), rfl, satShut (Hs := LbP bm bn q n f) (H' := []) (by repeat (first | exact Sub.nil | refine Sub.cons (by repeat (first | exact Pick.head | apply Pick.tail)) ?_))⟩) | (rw [relax_up (by first | (intro _; assumption) | (intro hh; simp_all [bl_eq]))]; exact fin.normal (Res.none rfl) ⟨(), rfl, satShut (H' := []) (Hs := LbP bm bn q n (updM f (i, a, b, s) (n + c))) (by repeat (first | exact Sub.nil | refine Sub.cons (by repeat (first | exact Pick.head | apply Pick.tail)) ?_))⟩))
       · first
         | (exfalso; omega)
         | (refine W.skip ?_
            first | (rw [relax_no (by simp_all [bl_eq]) (by omega)]; exact fin.normal (Res.none rfl) ⟨(), rfl, satShut (Hs := LbP bm bn q n f) (H' := []) (by repeat (first | exact Sub.nil | refine Sub.cons (by repeat (first | exact Pick.head | apply Pick.tail)) ?_))⟩) | (rw [relax_up (by first | (intro _; assumption) | (intro hh; simp_all [bl_eq]))]; exact fin.normal (Res.none rfl) ⟨(), rfl, satShut (H' := []) (Hs := LbP bm bn q n (updM f (i, a, b, s) (n + c))) (by repeat (first | exact Sub.nil | refine Sub.cons (by repeat (first | exact Pick.head | apply Pick.tail)) ?_))⟩)))
/-- the pieces of CheckLabels$1 -/
abbrev CkP (bg bm bx q : Nat) (g : Bool) (k : Sk) (f : Sk → Option Int) : List HP := [pt bg (.cells #[.bool (bl (g = true))] 4 (0, 0)), pt bm (.cells #[.map (some q)] 73 (0, 0)), pt bx (.cells #[.int .i64 (k.1 : Int), .int .i64 (k.2.1 : Int), .int .i64 (k.2.2.1 : Int), .int .i64 (k.2.2.2 : Int)] 77 (0, 0)), MapP q f]
theorem c_chk1 (B : Nat) (w : World) (bg bm bx q : Nat) (g : Bool) (c : Int) (k : Sk) (f : Sk → Option Int) (i a b s : Nat) (hB : B ≤ w.heap.size) (hn : 0 ≤ (f k).getD 0 ∧ (f k).getD 0 ≤ 1099511627776) (hc : 0 ≤ c ∧ c ≤ 6000000) :
    CtH Try.prog 48 [stV i a b s, .int .i64 c, .pointer (some ⟨bg, 0, none⟩), .pointer (some ⟨bm, 0, none⟩), .pointer (some ⟨bx, 0, none⟩)] w [sat (CkP bg bm bx q g k f)] B (fun r Hq => r = .tuple #[] ∧ Hq = [sat (CkP bg bm bx q (g && decide ((f (i, a, b, s)).getD 0 ≤ (f k).getD 0 + c)) k f)]) := by
  refine CtH.mono (CtH.ofI (X := Unit) (p := fun _ r => r = .tuple #[]) (Hx := fun _ => [sat (CkP bg bm bx q (g && decide ((f (i, a, b, s)).getD 0 ≤ (f k).getD 0 + c)) k f)]) mixed tyTab hB Try.func48 rfl rfl (fun M hM => ?_)) (fun h hs => hs) (fun r Hq ⟨_, h1, h2⟩ => ⟨Hq, ⟨h1, h2⟩, fun h hs => hs⟩)
  refine W.sreg ?_
  refine WO.boxA rfl rfl (fun b1 hb1 => ?_)
  refine WO.nil ?_
  refine W.chg (satOpen (Hs := CkP bg bm bx q g k f) (by repeat (first | exact Pick.head | apply Pick.tail))) ?_
  refine W.drawD 10 [.f 0 [], .r 1 [], .b 2 [], .b 3 [], .b 4 [], .b 5 [], .b 6 [], .b 7 [], .r 8 [], .r 9 []] [] (A0 := [_]) (H0 := [_, _, _, _]) (.cons .head (.cons .head (.cons .head (.cons .head (.cons .head .nil))))) (by kernel_rfl) ?_ ?_
  · exact (ALok.f (ALok.r (ALok.b (ALok.b (ALok.b (ALok.b (ALok.b (ALok.b (ALok.r (ALok.r ALok.nil))))))))))
  refine' DT.f [_, _, _, _, _] rfl rfl rfl rfl ?hq ?_
  case hq =>
    refine WO.load rfl rfl (Cell.own Pick.head rfl) rfl ?_
    exact WO.nil ⟨rfl, rfl⟩
  refine' DT.rB rfl rfl rfl ?hq (fun c1 => ?_) (fun c1 => ?_)
  case hq =>
    refine WO.p rfl rfl ?_
    exact WO.nil ⟨rfl, rfl⟩
  · first
    | (exfalso; omega)
    | (refine' DT.b rfl rfl rfl ?hq ?_
       case hq =>
         refine WO.go' rfl (WO.load rfl rfl (Cell.own Pick.head rfl) rfl ?_)
         exact WO.nil ⟨rfl, rfl⟩
       refine' DT.b rfl rfl rfl ?hq ?_
       case hq =>
         refine WO.go' rfl (WO.loadA rfl rfl (Cells.own (Pick.tail (Pick.tail (Pick.tail (Pick.head))))) rfl rfl ?_)
         exact WO.nil ⟨rfl, rfl⟩
       refine' DT.b rfl rfl rfl ?hq ?_
       case hq =>
         refine WO.go' rfl ?_
         refine WO.mapGet (k := (i, a, b, s)) rfl rfl rfl rfl (by repeat (first | exact Pick.head | apply Pick.tail)) rfl ?_
         exact WO.nil ⟨rfl, rfl⟩
       refine' DT.b rfl rfl rfl ?hq ?_
       case hq =>
         refine WO.go' rfl (WO.load rfl rfl (Cell.own Pick.head rfl) rfl ?_)
         exact WO.nil ⟨rfl, rfl⟩
       refine' DT.b rfl rfl rfl ?hq ?_
       case hq =>
         refine WO.go' rfl (WO.loadA rfl rfl (Cells.own (Pick.tail (Pick.head))) rfl rfl ?_)
         exact WO.nil ⟨rfl, rfl⟩
       refine' DT.b rfl rfl rfl ?hq ?_
       case hq =>
         refine WO.go' rfl ?_
         refine WO.mapGet (k := k) rfl rfl rfl rfl (by repeat (first | exact Pick.head | apply Pick.tail)) rfl ?_
         exact WO.nil ⟨rfl, rfl⟩
       refine' DT.r rfl rfl rfl ?hq ?_
       case hq =>
         refine WO.pg rfl rfl rfl ?_
         exact WO.nil ⟨rfl, rfl⟩
       refine' DT.r rfl rfl rfl ?hq ?_
       case hq =>
         refine WO.go' rfl (WO.ar rfl rfl rfl (by (first | (unfold in64; omega) | (unfold in64; omega))) rfl ?_)
         exact WO.nil ⟨rfl, rfl⟩
       refine DT.nil [_, _, _, _, _] rfl ?_
       refine WO.pg rfl rfl rfl (WO.p rfl rfl (WO.store1 rfl rfl rfl (by first | rfl | assumption) Pick.head rfl ?_))
       refine WO.nil ?_
       first | (have e : bl ((f (i, a, b, s)).getD 0 ≤ (f k).getD 0 + c) = bl ((g && decide ((f (i, a, b, s)).getD 0 ≤ (f k).getD 0 + c)) = true) := (by rw [bl_eq, bl_eq]; simp [c1]); rw [e]) | (have e : false = bl ((g && decide ((f (i, a, b, s)).getD 0 ≤ (f k).getD 0 + c)) = true) := (by rw [bl_eq]; simp [c1]); rw [e])
       exact fin.normal (Res.none rfl) ⟨(), rfl, satShut (H' := []) (Hs := CkP bg bm bx q (g && decide ((f (i, a, b, s)).getD 0 ≤ (f k).getD 0 + c)) k f) (by repeat (first | exact Sub.nil | refine Sub.cons (by repeat (first | exact Pick.head | apply Pick.tail)) ?_))⟩)
  · first
    | (exfalso; omega)
    | (refine' DT.b rfl rfl rfl ?hq ?_
       case hq =>
         refine WO.no rfl rfl ?_
         exact WO.nil ⟨rfl, rfl⟩
       refine' DT.b rfl rfl rfl ?hq ?_
       case hq =>
         refine WO.no rfl rfl ?_
         exact WO.nil ⟨rfl, rfl⟩
       refine' DT.b rfl rfl rfl ?hq ?_
       case hq =>
         refine WO.no rfl rfl ?_
         exact WO.nil ⟨rfl, rfl⟩
       refine' DT.b rfl rfl rfl ?hq ?_
       case hq =>
         refine WO.no rfl rfl ?_
         exact WO.nil ⟨rfl, rfl⟩
       refine' DT.b rfl rfl rfl ?hq ?_
       case hq =>
         refine WO.no rfl rfl ?_
         exact WO.nil ⟨rfl, rfl⟩
       refine' DT.b rfl rfl rfl ?hq ?_
       case hq =>
         refine WO.no rfl rfl ?_
         exact WO.nil ⟨rfl, rfl⟩
       refine' DT.r rfl rfl rfl ?hq ?_
       case hq =>
         refine WO.no rfl rfl ?_
         exact WO.nil ⟨rfl, rfl⟩
       refine' DT.r rfl rfl rfl ?hq ?_
       case hq =>
         refine WO.no rfl rfl ?_
         exact WO.nil ⟨rfl, rfl⟩
       refine DT.nil [_, _, _, _, _] rfl ?_
       refine WO.no rfl rfl (WO.p rfl rfl (WO.store1 rfl rfl rfl (by first | rfl | assumption) Pick.head rfl ?_))
       refine WO.nil ?_
       first | (have e : bl ((f (i, a, b, s)).getD 0 ≤ (f k).getD 0 + c) = bl ((g && decide ((f (i, a, b, s)).getD 0 ≤ (f k).getD 0 + c)) = true) := (by rw [bl_eq, bl_eq]; simp [c1]); rw [e]) | (have e : false = bl ((g && decide ((f (i, a, b, s)).getD 0 ≤ (f k).getD 0 + c)) = true) := (by rw [bl_eq]; simp [c1]); rw [e])
       exact fin.normal (Res.none rfl) ⟨(), rfl, satShut (H' := []) (Hs := CkP bg bm bx q (g && decide ((f (i, a, b, s)).getD 0 ≤ (f k).getD 0 + c)) k f) (by repeat (first | exact Sub.nil | refine Sub.cons (by repeat (first | exact Pick.head | apply Pick.tail)) ?_))⟩)
end Go.Proofs.Ytpecakgebhmnfaa
namespace Go.Proofs.Ytpecakgebhmnfaa
open Go Go.TH
attribute [local irreducible] W WO pt
theorem mem_stK {l : List (Int × Int)} {i : Nat} {k : Sk} : k ∈ stK l i ↔ k.1 = i ∧ k.2.1 < w1 l i ∧ k.2.2.1 < w2 l i ∧ k.2.2.2 < 3 := by
  constructor
  · intro h
    obtain ⟨x, hx, rfl⟩ := List.mem_map.1 h
    obtain ⟨q, hq⟩ := List.getElem?_of_mem hx
    have := stL_some hq
    exact ⟨rfl, this.1, this.2.1, this.2.2.1⟩
  · rintro ⟨rfl, h1, h2, h3⟩
    exact List.mem_of_getElem? (stK_get h1 h2 h3)
theorem mem_allTo {l : List (Int × Int)} {k : Sk} : ∀ {i : Nat}, k ∈ allTo l i ↔ 1 ≤ k.1 ∧ k.1 < i ∧ k ∈ stK l k.1
  | 0 => by simp [allTo]
  | 1 => by simp [allTo]; intros; omega
  | i + 2 => by
    unfold allTo
    rw [List.mem_append, mem_allTo (i := i + 1)]
    constructor
    · rintro (h | h)
      · exact ⟨h.1, by omega, h.2.2⟩
      · have e := (mem_stK.1 h).1
        exact ⟨by omega, by omega, by rw [e]; exact h⟩
    · rintro ⟨h1, h2, h3⟩
      rcases Nat.lt_or_ge k.1 (i + 1) with g | g
      · exact .inl ⟨h1, g, h3⟩
      · have e : k.1 = i + 1 := by omega
        rw [e] at h3
        exact .inr h3
/-- a state of spots -/
def OkK (l : List (Int × Int)) (k : Sk) : Prop := 1 ≤ k.1 ∧ k.1 < l.length ∧ k.2.1 < w1 l k.1 ∧ k.2.2.1 < w2 l k.1 ∧ k.2.2.2 < 3
theorem mem_all {l : List (Int × Int)} {k : Sk} : k ∈ allL l ↔ OkK l k := by
  unfold allL
  rw [mem_allTo, mem_stK]
  unfold OkK
  simp
def toK (l : List (Int × Int)) (k : Sk) (c : Nat) : Sk := (k.1 + 1, k.2.2.1, c, sg k.2.2.2 (dif l k.1 k.2.1 k.2.2.1 c))
def costK (B T : Int) (l : List (Int × Int)) (k : Sk) (c : Nat) : Int := stp B T k.2.2.2 (dif l k.1 k.2.1 k.2.2.1 c)
def startF (f : Sk → Option Int) (k : Sk) : Sk → Option Int := if k.1 = 1 ∧ k.2.2.2 = 0 then updM f k 0 else f
def relN (B T : Int) (l : List (Int × Int)) (k : Sk) (n : Int) (f : Sk → Option Int) : Nat → Sk → Option Int
  | 0 => f
  | c + 1 => relax (relN B T l k n f c) (toK l k c) (n + costK B T l k c)
def stepF (B T : Int) (l : List (Int × Int)) (f : Sk → Option Int) (k : Sk) : Sk → Option Int := if ((startF f k) k).isSome = true then relN B T l k (((startF f k) k).getD 0) (startF f k) (lw l k.1) else startF f k
def labTo (B T : Int) (l : List (Int × Int)) (j : Nat) : Sk → Option Int := ((allL l).take j).foldl (stepF B T l) (fun _ => none)
def never : Int := 1099511627776
def labL (B T : Int) (l : List (Int × Int)) : List Int := (allL l).map fun k => ((labTo B T l (allL l).length) k).getD 1099511627776
def lbL (l : List (Int × Int)) (t : Int) : List Int := if chkF l t = 0 then labL 1 t l else []
theorem labTo_succ {B T : Int} {l : List (Int × Int)} {j : Nat} {k : Sk} (h : (allL l)[j]? = some k) : labTo B T l (j + 1) = stepF B T l (labTo B T l j) k := by
  unfold labTo
  rw [List.take_add_one, h]
  simp
def BdF (f : Sk → Option Int) : Prop := ∀ k n, f k = some n → 0 ≤ n ∧ n ≤ 6000000 * (k.1 : Int)
theorem BdF.none : BdF (fun _ => none) := fun _ _ h => by cases h
theorem BdF.upd {f : Sk → Option Int} (h : BdF f) {k : Sk} {z : Int} (hz : 0 ≤ z ∧ z ≤ 6000000 * (k.1 : Int)) : BdF (updM f k z) := fun k' n e => by
  unfold updM at e
  split at e
  · rename_i e2; subst e2; cases e; exact hz
  · exact h k' n e
theorem BdF.start {f : Sk → Option Int} (h : BdF f) (k : Sk) : BdF (startF f k) := by
  unfold startF
  split
  · exact h.upd (by omega)
  · exact h
theorem BdF.relax {f : Sk → Option Int} (h : BdF f) {k : Sk} {z : Int} (hz : 0 ≤ z ∧ z ≤ 6000000 * (k.1 : Int)) : BdF (relax f k z) := by
  unfold Proofs.Ytpecakgebhmnfaa.relax
  split
  · exact h
  · exact h.upd hz
theorem costK_bd {B T : Int} {l : List (Int × Int)} (hg : OkS l) (hC : OkC B T) {k : Sk} (hk : OkK l k) (hi : k.1 + 1 < l.length) {c : Nat} (hc : c < w2 l (k.1 + 1)) : 0 ≤ costK B T l k c ∧ costK B T l k c ≤ 6000000 := by
  have h1 := w_le hg hk.2.1
  have h2 := w_le hg hi
  have h3 := hk.2.2
  have hd := dif_bd hg (i := k.1) (a := k.2.1) (b := k.2.2.1) (c := c) hi (by omega) (by omega) (by omega)
  exact (stp_bd hC hd k.2.2.2).2.2
theorem lw_lt {l : List (Int × Int)} {i c : Nat} (hi : i < l.length) (h : c < lw l i) : i + 1 < l.length ∧ c < w2 l (i + 1) := by
  unfold lw at h
  split at h
  · omega
  · exact ⟨by omega, h⟩
theorem BdF.relN {B T : Int} {l : List (Int × Int)} (hg : OkS l) (hC : OkC B T) {k : Sk} (hk : OkK l k) {n : Int} {f : Sk → Option Int} (h : BdF f) (hn : 0 ≤ n ∧ n ≤ 6000000 * (k.1 : Int)) : ∀ {m : Nat}, m ≤ lw l k.1 → BdF (relN B T l k n f m)
  | 0, _ => h
  | m + 1, hm => by
    have h1 := lw_lt hk.2.1 (show m < lw l k.1 by omega)
    have h2 := costK_bd hg hC hk h1.1 h1.2
    refine (BdF.relN hg hC hk h hn (m := m) (by omega)).relax ?_
    have e : ((toK l k m).1 : Int) = (k.1 : Int) + 1 := by unfold toK; simp
    rw [e]
    omega
theorem BdF.step {B T : Int} {l : List (Int × Int)} (hg : OkS l) (hC : OkC B T) {k : Sk} (hk : OkK l k) {f : Sk → Option Int} (h : BdF f) : BdF (stepF B T l f k) := by
  unfold stepF
  split
  · rename_i hs
    obtain ⟨n, hn⟩ := Option.isSome_iff_exists.1 hs
    refine BdF.relN hg hC hk (h.start k) ?_ (Nat.le_refl _)
    rw [hn]
    exact h.start k k n hn
  · exact h.start k
theorem labTo_bd {B T : Int} {l : List (Int × Int)} (hg : OkS l) (hC : OkC B T) : ∀ (j : Nat), BdF (labTo B T l j)
  | 0 => by unfold labTo; exact BdF.none
  | j + 1 => by
    cases h : (allL l)[j]? with
    | none =>
      have := labTo_bd hg hC j
      unfold labTo at this ⊢
      rwa [List.take_of_length_le (by have := List.getElem?_eq_none_iff.1 h; omega), ← List.take_of_length_le (l := allL l) (i := j) (List.getElem?_eq_none_iff.1 h)]
    | some k =>
      rw [labTo_succ h]
      exact (labTo_bd hg hC j).step hg hC (mem_all.1 (List.mem_of_getElem? h))
theorem allL_len {l : List (Int × Int)} (hg : OkS l) (h24 : l.length ≤ 24) : (allL l).length ≤ 1800 := by
  have := allTo_len hg (i := l.length) (Nat.le_refl _)
  unfold allL; omega
end Go.Proofs.Ytpecakgebhmnfaa
namespace Go.Proofs.Ytpecakgebhmnfaa
open Go Go.TH
attribute [local irreducible] W WO pt
set_option maxRecDepth 10000
set_option maxHeartbeats 1000000
theorem eq75 (a c : Nat) : EqT Try.prog .eql 75 (.agg #[.int .i64 (a : Int)]) (.agg #[.int .i64 (c : Int)]) (.bool (bl (a = c))) := fun x y w => by
  simp [eqGuard, binOp, Op.equal, Op.maxDepth, go_sem, Try.underlying75]
  by_cases h : a = c
  · subst h; simp [bl_eq]
  · have g : ¬ (a : Int) = (c : Int) := by omega
    simp [bl_eq, h, g]
theorem nb_t {p : Prop} [Decidable p] (h : (!bl p) = true) : ¬ p := bl_f.1 (by simpa using h)
theorem nb_f {p : Prop} [Decidable p] (h : (!bl p) = false) : p := bl_t.1 (by simpa using h)
theorem OwK.cells {C : Cx Try.prog} {H : List HP} {v : Value} {xs : List Sk} {i a b s j : Nat} (sb : Sub H [OwE encSk 77 4 v xs]) (hk : xs[j]? = some (i, a, b, s)) : Cells C H (elt v j 4) [.int .i64 (i : Int), .int .i64 (a : Int), .int .i64 (b : Int), .int .i64 (s : Int)] := by
  cases sb with | cons p _ =>
  have h := OwE.cells (C := C) encSk_ok p (List.getElem?_eq_some_iff.1 hk).1 (0, 0, 0, 0)
  rw [List.getD_eq_getElem?_getD, hk] at h
  exact h
theorem c_Labels (w : World) (v : Value) (l : List (Int × Int)) (t : Int) (hR : RdF encP 2 w.heap.size w v l) : Ct Try.prog 27 [.agg #[v, .int .i64 t]].toArray w fun r w' => ∃ Hq, (∃ rv : Value, r = .tuple #[rv, .int .i64 (chkF l t)] ∧ Hq = [OwE encI 2 1 rv (lbL l t)]) ∧ Inv w [] Hq w' := by
  refine Ct.ofI (X := Value) (p := fun rv r => r = .tuple #[rv, .int .i64 (chkF l t)]) (Hx := fun rv => [OwE encI 2 1 rv (lbL l t)]) mixed tyTab Try.func27 rfl rfl ?_
  replace hR : RdF encP 2 (fnCx mixed tyTab Try.f27.ntmps w).B (fnCx mixed tyTab Try.f27.ntmps w).w0 v l := hR
  have hoc := hR.sl.oc
  refine W.sreg ?_
  refine WO.boxA rfl rfl (fun b1 hb1 => ?_)
  refine WO.p rfl rfl (WO.p rfl rfl ?_)
  refine WO.nil ?_
  refine W.seq ?_
  refine W.sreg ?_
  refine WO.loadA rfl rfl (Cells.own Pick.head) rfl rfl ?_
  refine WO.callR rfl Try.call18 (fun L w hi => c_CheckSpots w v l t (hR.later hi)) rfl ?_
  refine WO.p rfl rfl ?_
  refine WO.nil ?_
  refine W.sreg ?_
  refine WO.p rfl rfl (WO.p rfl rfl ?_)
  refine WO.nil ?_
  refine W.cond_bl rfl (fun c1 => ?_) (fun c1 => ?_)
  · first
    | (exfalso; omega)
    | (refine W.sreg ?_
       refine WO.p rfl rfl (WO.p rfl rfl (WO.p rfl rfl ?_))
       refine WO.nil ?_
       refine W.ret ?_
       first | (have e1 : lbL l t = [] := if_neg (by assumption); rw [e1]; refine fin.ret (Res.two rfl (RV.tmp rfl) (RV.tmp rfl)) ⟨_, rfl, fun h hs => ?_⟩; exact Sub.sat (.cons .head .nil) (owNil (enc := encI) (e := 2) (sz := 1) h hs)) | (have e3 : chkF l t = 0 := (by omega); have e1 : lbL l t = labL 1 t l := if_pos e3; have e4 : (labL 1 t l).take j2 = labL 1 t l := List.take_of_length_le (by unfold labL; rw [List.length_map]; omega); rw [e1, e3, e4]; exact fin.ret (Res.two rfl (RV.tmp rfl) (RV.tmp rfl)) ⟨_, rfl, fun h hs => Sub.sat (by repeat (first | exact Sub.nil | refine Sub.cons (by repeat (first | exact Pick.head | apply Pick.tail)) ?_)) hs⟩))
  · first
    | (exfalso; omega)
    | (refine W.skip ?_
       have hcf := chkF0.1 (show chkF l t = 0 by omega)
       have hC : OkC 1 t := ⟨.inr rfl, hcf.2.1⟩
       have hg := hcf.2.2
       have hal := allL_len hg hcf.1.2
       refine W.sreg ?_
       refine WO.loadA rfl rfl (Cells.own Pick.head) rfl rfl (WO.fieldL rfl rfl rfl (WO.load rfl rfl (Cell.own Pick.head rfl) rfl ?_))
       refine WO.call rfl Try.call43 (fun L w hi => c_new w v l t 1 t hR.sl hcf.1.2 hoc) rfl ?_
       rintro _ _ ⟨⟨q, lv⟩, rfl, rfl⟩
       refine WO.p rfl rfl ?_
       refine WO.nil ?_
       have hS : DrS (fnCx mixed tyTab Try.f27.ntmps w).B (fnCx mixed tyTab Try.f27.ntmps w).w0 (pt q (.cells #[v, .int .i64 t, .int .i64 1, .int .i64 t, lv] 81 (0, 0))) ⟨q, 0, none⟩ v l t 1 t lv := DrS.own hR
       refine W.sreg ?_
       refine WO.makeMap rfl (fun mb => ?_)
       refine WO.chg (MapP.start (by repeat (first | exact Pick.head | apply Pick.tail))) ?_
       refine WO.alloc rfl rfl rfl (fun b2 hb2 => ?_)
       refine WO.store1 rfl rfl rfl (by first | rfl | assumption) Pick.head rfl ?_
       refine WO.nil ?_
       refine W.seq ?_
       refine W.sreg ?_
       refine WO.p rfl rfl ?_
       refine WO.call rfl Try.call46 (fun L w hi => c_all w ⟨q, 0, none⟩ v l t 1 t lv (hS.at (by repeat (first | exact Pick.head | apply Pick.tail)) hi) hg hcf.1.2 hcf.1.1) rfl ?_
       rintro rv _ ⟨_, rfl, rfl⟩
       refine WO.fact (OwE.sl (enc := encSk) (e := 77) (sz := 4) (v := rv) (xs := allL l) Pick.head) (fun hrv => ?_)
       refine' WO.len (n := _) rfl rfl ?hs rfl ?_
       case hs => (first | exact hrv)
       refine WO.p rfl rfl ?_
       refine WO.nil ?_
       refine W.block ?_
       rw [show (fun _ => none : Sk → Option Int) = labTo 1 t l 0 from rfl]
       refine W.loop (fun (j : Nat) => j ≤ (allL l).length)
         (fun (j : Nat) => [(5, .pointer (some ⟨q, 0, none⟩)), (6, .pointer (some ⟨b2, 0, none⟩)), (27, rv), (28, .int .i64 ((allL l).length : Int)), (29, .int .i64 (j : Int))])
         (fun (j : Nat) => [pt q (.cells #[v, .int .i64 t, .int .i64 1, .int .i64 t, lv] 81 (0, 0)), pt b2 (.cells #[.map (some mb)] 73 (0, 0)), MapP mb (labTo 1 t l j), OwE encSk 77 4 rv (allL l)])
         (fun (j : Nat) => (allL l).length - j) 0
         (by exact Nat.zero_le _) ⟨rfl, rfl, rfl, rfl, rfl, trivial⟩ (by repeat (first | exact Sub.nil | refine Sub.cons (by repeat (first | exact Pick.head | apply Pick.tail)) ?_)) ?_
       rintro j hj
       refine W.sreg ?_
       refine WO.p rfl rfl ?_
       refine WO.nil ?_
       refine W.seq ?_
       refine W.cond_bl rfl (fun c2 => ?_) (fun c2 => ?_)
       · first
         | (exfalso; omega)
         | (refine W.skip ?_
            refine W.seq ?_
            refine W.block ?_
            obtain ⟨⟨i, a, b, s⟩, hk⟩ : ∃ k, (allL l)[j]? = some k := ⟨_, List.getElem?_eq_getElem (show j < (allL l).length by omega)⟩
            have hok : OkK l (i, a, b, s) := mem_all.1 (List.mem_of_getElem? hk)
            refine W.sreg ?_
            refine' WO.indexAddr (n := _) (i := _) rfl rfl rfl ?hs ?h1 rfl ?_
            case hs => (first | exact hrv)
            case h1 => (first | omega | (simp; omega))
            refine' WO.loadA (vs := _) rfl rfl ?hc ?hl rfl ?_
            case hc => (first | (refine OwK.cells (v := rv) (xs := allL l) ?_ hk; exact (by repeat (first | exact Sub.nil | refine Sub.cons (by repeat (first | exact Pick.head | apply Pick.tail)) ?_))))
            case hl => rfl
            refine WO.alloc rfl rfl rfl (fun b3 hb3 => ?_)
            refine WO.storeA rfl rfl rfl rfl Pick.head rfl rfl ?_
            refine WO.nil ?_
            refine W.seq ?_
            refine W.sreg ?_
            refine WO.field0 rfl rfl rfl (WO.load rfl rfl (Cell.own Pick.head rfl) rfl (WO.p rfl rfl (WO.p rfl rfl ?_)))
            refine WO.guard_bl rfl rfl (fun c3 => ?_) (fun c3 => ?_)
            · first
              | (exfalso; omega)
              | (refine WO.go' rfl (WO.fieldL rfl rfl rfl (WO.go' rfl (WO.loadA rfl rfl (Cells.ownAt (n := 1) Pick.head rfl) rfl rfl (WO.go' rfl ?_))))
                 refine' WO.build (cs := _) rfl rfl rfl ?hf rfl ?_
                 case hf => (conv => lhs; simp [-List.getD_eq_getElem?_getD, fillL, vcl, wrl, TTab.pl?.lget']) <;> rfl
                 refine WO.go' rfl ?_
                 refine WO.eqT (v := .agg #[.int .i64 ((0 : Nat) : Int)]) rfl rfl (eq75 s 0) rfl ?_
                 refine WO.p rfl rfl ?_
                 refine WO.nil ?_
                 refine W.cond_bl rfl (fun c4 => ?_) (fun c4 => ?_)
                 · first
                   | (exfalso; omega)
                   | (refine W.region ?_
                      refine WO.load rfl rfl (Cell.own (Pick.tail (Pick.tail (Pick.head))) rfl) rfl (WO.loadA rfl rfl (Cells.own Pick.head) rfl rfl ?_)
                      refine WO.mapUpd (k := (i, a, b, s)) rfl rfl rfl rfl rfl (by repeat (first | exact Pick.head | apply Pick.tail)) ?_
                      refine WO.nil ?_
                      generalize hf : labTo 1 t l j = f
                      first | rw [show MapP mb (updM f (i, a, b, s) 0) = MapP mb (startF f (i, a, b, s)) from by rw [show startF f (i, a, b, s) = updM f (i, a, b, s) 0 from if_pos ⟨show i = 1 by omega, show s = 0 by omega⟩]] | rw [show MapP mb f = MapP mb (startF f (i, a, b, s)) from by rw [show startF f (i, a, b, s) = f from if_neg (fun h => by have h1 : i = 1 := h.1; have h2 : s = 0 := h.2; omega)]]
                      have hbd : BdF (startF f (i, a, b, s)) := BdF.start (by rw [← hf]; exact labTo_bd hg hC j) _
                      generalize hf1 : startF f (i, a, b, s) = f1 at hbd ⊢
                      have hlt : labTo 1 t l (j + 1) = if (f1 (i, a, b, s)).isSome = true then relN 1 t l (i, a, b, s) ((f1 (i, a, b, s)).getD 0) f1 (lw l i) else f1 := by rw [labTo_succ hk, hf]; unfold stepF; rw [hf1]
                      refine W.sreg ?_
                      refine WO.load rfl rfl (Cell.own (Pick.tail (Pick.tail (Pick.tail (Pick.head)))) rfl) rfl (WO.loadA rfl rfl (Cells.own (Pick.tail (Pick.head))) rfl rfl ?_)
                      refine WO.mapGet2 (k := (i, a, b, s)) rfl rfl rfl rfl (by repeat (first | exact Pick.head | apply Pick.tail)) rfl ?_
                      refine WO.p rfl rfl (WO.p rfl rfl (WO.p rfl rfl ?_))
                      refine WO.alloc rfl rfl rfl (fun b4 hb4 => ?_)
                      refine WO.store1 rfl rfl rfl (by first | rfl | assumption) Pick.head rfl (WO.p rfl rfl ?_)
                      refine WO.nil ?_
                      refine W.seq ?_
                      refine W.sreg ?_
                      refine WO.p rfl rfl (WO.p rfl rfl ?_)
                      refine WO.nil ?_
                      refine W.cond rfl (fun c5 => ?_) (fun c5 => ?_)
                      · first
                        | (exfalso; omega)
                        | (refine W.exit (blk_same ?_)
                           first | rw [← hlt] | (rw [if_neg (by simp_all [bl_eq])] at hlt; rw [← hlt])
                           refine W.region ?_
                           refine WO.ar rfl rfl rfl (by (first | (unfold in64; omega) | (unfold in64; omega))) rfl (WO.p rfl rfl ?_)
                           refine WO.nil ?_
                           refine' ⟨j + 1, ?hp, ?hmu, ⟨rfl, rfl, rfl, rfl, rfl, trivial⟩, ?hS⟩
                           case hS => repeat (first | exact Sub.nil | refine Sub.cons (by repeat (first | exact Pick.head | apply Pick.tail)) ?_)
                           case hp => omega
                           case hmu => omega)
                      · first
                        | (exfalso; omega)
                        | (refine W.skip ?_
                           have hso : (f1 (i, a, b, s)).isSome = true := by simp_all [bl_eq]
                           have hnb : 0 ≤ (f1 (i, a, b, s)).getD 0 ∧ (f1 (i, a, b, s)).getD 0 ≤ 6000000 * (i : Int) := by obtain ⟨n, hn⟩ := Option.isSome_iff_exists.1 hso; rw [hn]; exact hbd _ _ hn
                           rw [if_pos hso] at hlt
                           generalize hn : (f1 (i, a, b, s)).getD 0 = n at hnb hlt ⊢
                           have hok1 := hok.1
                           have hok2 := hok.2.1
                           have hwi := w_le hg hok2
                           have hok3 : a < w1 l i ∧ b < w2 l i ∧ s < 3 := hok.2.2
                           simp only at hok1 hok2
                           refine W.chg (satShut (Hs := LbP b2 b4 mb n f1) (.cons (by repeat (first | exact Pick.head | apply Pick.tail)) (.cons (by repeat (first | exact Pick.head | apply Pick.tail)) (.cons (by repeat (first | exact Pick.head | apply Pick.tail)) (Sub.refl _))))) ?_
                           refine W.region ?_
                           refine WO.p rfl rfl (WO.loadA rfl rfl (Cells.own (Pick.tail (Pick.head))) rfl rfl (WO.p rfl rfl ?_))
                           refine WO.callH (Hp := [pt q (.cells #[v, .int .i64 t, .int .i64 1, .int .i64 t, lv] 81 (0, 0)), sat (LbP b2 b4 mb n f1)]) rfl Try.call47 (.cons (by repeat (first | exact Pick.head | apply Pick.tail)) (.cons (by repeat (first | exact Pick.head | apply Pick.tail)) (Sub.refl _))) (fun L u hi hB2 => c_leads _ u (pt q (.cells #[v, .int .i64 t, .int .i64 1, .int .i64 t, lv] 81 (0, 0))) ⟨q, 0, none⟩ v l t 1 t lv i a b s 51 [.pointer (some ⟨b2, 0, none⟩), .pointer (some ⟨b4, 0, none⟩)] (fun c => sat (LbP b2 b4 mb n (relN 1 t l (i, a, b, s) n f1 c))) hB2 (hS.agree hi.keepB) hR.sl hg hC hok1 hok2 hok3.1 hok3.2.1 hok3.2.2 Try.call51 (fun c u2 hi1 hc hB3 hk3 => c_lab1 _ u2 b2 b4 mb n (stp 1 t s (dif l i a b c)) (relN 1 t l (i, a, b, s) n f1 c) (i + 1) b c (sg s (dif l i a b c)) hB3 (by omega) (costK_bd hg hC hok hi1 hc))) rfl ?_
                           rintro _ _ ⟨_, rfl, rfl⟩
                           refine WO.chg (satOpen (Hs := LbP b2 b4 mb n (relN 1 t l (i, a, b, s) n f1 (lw l i))) (by repeat (first | exact Pick.head | apply Pick.tail))) ?_
                           refine WO.nil ?_
                           first | rw [← hlt] | (rw [if_neg (by simp_all [bl_eq])] at hlt; rw [← hlt])
                           refine W.region ?_
                           refine WO.ar rfl rfl rfl (by (first | (unfold in64; omega) | (unfold in64; omega))) rfl (WO.p rfl rfl ?_)
                           refine WO.nil ?_
                           refine' ⟨j + 1, ?hp, ?hmu, ⟨rfl, rfl, rfl, rfl, rfl, trivial⟩, ?hS⟩
                           case hS => repeat (first | exact Sub.nil | refine Sub.cons (by repeat (first | exact Pick.head | apply Pick.tail)) ?_)
                           case hp => omega
                           case hmu => omega))
                 · first
                   | (exfalso; omega)
                   | (refine W.skip ?_
                      generalize hf : labTo 1 t l j = f
                      first | rw [show MapP mb (updM f (i, a, b, s) 0) = MapP mb (startF f (i, a, b, s)) from by rw [show startF f (i, a, b, s) = updM f (i, a, b, s) 0 from if_pos ⟨show i = 1 by omega, show s = 0 by omega⟩]] | rw [show MapP mb f = MapP mb (startF f (i, a, b, s)) from by rw [show startF f (i, a, b, s) = f from if_neg (fun h => by have h1 : i = 1 := h.1; have h2 : s = 0 := h.2; omega)]]
                      have hbd : BdF (startF f (i, a, b, s)) := BdF.start (by rw [← hf]; exact labTo_bd hg hC j) _
                      generalize hf1 : startF f (i, a, b, s) = f1 at hbd ⊢
                      have hlt : labTo 1 t l (j + 1) = if (f1 (i, a, b, s)).isSome = true then relN 1 t l (i, a, b, s) ((f1 (i, a, b, s)).getD 0) f1 (lw l i) else f1 := by rw [labTo_succ hk, hf]; unfold stepF; rw [hf1]
                      refine W.sreg ?_
                      refine WO.load rfl rfl (Cell.own (Pick.tail (Pick.tail (Pick.head))) rfl) rfl (WO.loadA rfl rfl (Cells.own Pick.head) rfl rfl ?_)
                      refine WO.mapGet2 (k := (i, a, b, s)) rfl rfl rfl rfl (by repeat (first | exact Pick.head | apply Pick.tail)) rfl ?_
                      refine WO.p rfl rfl (WO.p rfl rfl (WO.p rfl rfl ?_))
                      refine WO.alloc rfl rfl rfl (fun b4 hb4 => ?_)
                      refine WO.store1 rfl rfl rfl (by first | rfl | assumption) Pick.head rfl (WO.p rfl rfl ?_)
                      refine WO.nil ?_
                      refine W.seq ?_
                      refine W.sreg ?_
                      refine WO.p rfl rfl (WO.p rfl rfl ?_)
                      refine WO.nil ?_
                      refine W.cond rfl (fun c5 => ?_) (fun c5 => ?_)
                      · first
                        | (exfalso; omega)
                        | (refine W.exit (blk_same ?_)
                           first | rw [← hlt] | (rw [if_neg (by simp_all [bl_eq])] at hlt; rw [← hlt])
                           refine W.region ?_
                           refine WO.ar rfl rfl rfl (by (first | (unfold in64; omega) | (unfold in64; omega))) rfl (WO.p rfl rfl ?_)
                           refine WO.nil ?_
                           refine' ⟨j + 1, ?hp, ?hmu, ⟨rfl, rfl, rfl, rfl, rfl, trivial⟩, ?hS⟩
                           case hS => repeat (first | exact Sub.nil | refine Sub.cons (by repeat (first | exact Pick.head | apply Pick.tail)) ?_)
                           case hp => omega
                           case hmu => omega)
                      · first
                        | (exfalso; omega)
                        | (refine W.skip ?_
                           have hso : (f1 (i, a, b, s)).isSome = true := by simp_all [bl_eq]
                           have hnb : 0 ≤ (f1 (i, a, b, s)).getD 0 ∧ (f1 (i, a, b, s)).getD 0 ≤ 6000000 * (i : Int) := by obtain ⟨n, hn⟩ := Option.isSome_iff_exists.1 hso; rw [hn]; exact hbd _ _ hn
                           rw [if_pos hso] at hlt
                           generalize hn : (f1 (i, a, b, s)).getD 0 = n at hnb hlt ⊢
                           have hok1 := hok.1
                           have hok2 := hok.2.1
                           have hwi := w_le hg hok2
                           have hok3 : a < w1 l i ∧ b < w2 l i ∧ s < 3 := hok.2.2
                           simp only at hok1 hok2
                           refine W.chg (satShut (Hs := LbP b2 b4 mb n f1) (.cons (by repeat (first | exact Pick.head | apply Pick.tail)) (.cons (by repeat (first | exact Pick.head | apply Pick.tail)) (.cons (by repeat (first | exact Pick.head | apply Pick.tail)) (Sub.refl _))))) ?_
                           refine W.region ?_
                           refine WO.p rfl rfl (WO.loadA rfl rfl (Cells.own (Pick.tail (Pick.head))) rfl rfl (WO.p rfl rfl ?_))
                           refine WO.callH (Hp := [pt q (.cells #[v, .int .i64 t, .int .i64 1, .int .i64 t, lv] 81 (0, 0)), sat (LbP b2 b4 mb n f1)]) rfl Try.call47 (.cons (by repeat (first | exact Pick.head | apply Pick.tail)) (.cons (by repeat (first | exact Pick.head | apply Pick.tail)) (Sub.refl _))) (fun L u hi hB2 => c_leads _ u (pt q (.cells #[v, .int .i64 t, .int .i64 1, .int .i64 t, lv] 81 (0, 0))) ⟨q, 0, none⟩ v l t 1 t lv i a b s 51 [.pointer (some ⟨b2, 0, none⟩), .pointer (some ⟨b4, 0, none⟩)] (fun c => sat (LbP b2 b4 mb n (relN 1 t l (i, a, b, s) n f1 c))) hB2 (hS.agree hi.keepB) hR.sl hg hC hok1 hok2 hok3.1 hok3.2.1 hok3.2.2 Try.call51 (fun c u2 hi1 hc hB3 hk3 => c_lab1 _ u2 b2 b4 mb n (stp 1 t s (dif l i a b c)) (relN 1 t l (i, a, b, s) n f1 c) (i + 1) b c (sg s (dif l i a b c)) hB3 (by omega) (costK_bd hg hC hok hi1 hc))) rfl ?_
                           rintro _ _ ⟨_, rfl, rfl⟩
                           refine WO.chg (satOpen (Hs := LbP b2 b4 mb n (relN 1 t l (i, a, b, s) n f1 (lw l i))) (by repeat (first | exact Pick.head | apply Pick.tail))) ?_
                           refine WO.nil ?_
                           first | rw [← hlt] | (rw [if_neg (by simp_all [bl_eq])] at hlt; rw [← hlt])
                           refine W.region ?_
                           refine WO.ar rfl rfl rfl (by (first | (unfold in64; omega) | (unfold in64; omega))) rfl (WO.p rfl rfl ?_)
                           refine WO.nil ?_
                           refine' ⟨j + 1, ?hp, ?hmu, ⟨rfl, rfl, rfl, rfl, rfl, trivial⟩, ?hS⟩
                           case hS => repeat (first | exact Sub.nil | refine Sub.cons (by repeat (first | exact Pick.head | apply Pick.tail)) ?_)
                           case hp => omega
                           case hmu => omega)))
            · first
              | (exfalso; omega)
              | (refine WO.no rfl rfl (WO.no rfl rfl (WO.no rfl rfl (WO.no rfl rfl (WO.p rfl rfl ?_))))
                 refine WO.nil ?_
                 refine W.cond_f rfl ?_
                 refine W.skip ?_
                 generalize hf : labTo 1 t l j = f
                 first | rw [show MapP mb (updM f (i, a, b, s) 0) = MapP mb (startF f (i, a, b, s)) from by rw [show startF f (i, a, b, s) = updM f (i, a, b, s) 0 from if_pos ⟨show i = 1 by omega, show s = 0 by omega⟩]] | rw [show MapP mb f = MapP mb (startF f (i, a, b, s)) from by rw [show startF f (i, a, b, s) = f from if_neg (fun h => by have h1 : i = 1 := h.1; have h2 : s = 0 := h.2; omega)]]
                 have hbd : BdF (startF f (i, a, b, s)) := BdF.start (by rw [← hf]; exact labTo_bd hg hC j) _
                 generalize hf1 : startF f (i, a, b, s) = f1 at hbd ⊢
                 have hlt : labTo 1 t l (j + 1) = if (f1 (i, a, b, s)).isSome = true then relN 1 t l (i, a, b, s) ((f1 (i, a, b, s)).getD 0) f1 (lw l i) else f1 := by rw [labTo_succ hk, hf]; unfold stepF; rw [hf1]
                 refine W.sreg ?_
                 refine WO.load rfl rfl (Cell.own (Pick.tail (Pick.tail (Pick.head))) rfl) rfl (WO.loadA rfl rfl (Cells.own Pick.head) rfl rfl ?_)
                 refine WO.mapGet2 (k := (i, a, b, s)) rfl rfl rfl rfl (by repeat (first | exact Pick.head | apply Pick.tail)) rfl ?_
                 refine WO.p rfl rfl (WO.p rfl rfl (WO.p rfl rfl ?_))
                 refine WO.alloc rfl rfl rfl (fun b4 hb4 => ?_)
                 refine WO.store1 rfl rfl rfl (by first | rfl | assumption) Pick.head rfl (WO.p rfl rfl ?_)
                 refine WO.nil ?_
                 refine W.seq ?_
                 refine W.sreg ?_
                 refine WO.p rfl rfl (WO.p rfl rfl ?_)
                 refine WO.nil ?_
                 refine W.cond rfl (fun c4 => ?_) (fun c4 => ?_)
                 · first
                   | (exfalso; omega)
                   | (refine W.exit (blk_same ?_)
                      first | rw [← hlt] | (rw [if_neg (by simp_all [bl_eq])] at hlt; rw [← hlt])
                      refine W.region ?_
                      refine WO.ar rfl rfl rfl (by (first | (unfold in64; omega) | (unfold in64; omega))) rfl (WO.p rfl rfl ?_)
                      refine WO.nil ?_
                      refine' ⟨j + 1, ?hp, ?hmu, ⟨rfl, rfl, rfl, rfl, rfl, trivial⟩, ?hS⟩
                      case hS => repeat (first | exact Sub.nil | refine Sub.cons (by repeat (first | exact Pick.head | apply Pick.tail)) ?_)
                      case hp => omega
                      case hmu => omega)
                 · first
                   | (exfalso; omega)
                   | (refine W.skip ?_
                      have hso : (f1 (i, a, b, s)).isSome = true := by simp_all [bl_eq]
                      have hnb : 0 ≤ (f1 (i, a, b, s)).getD 0 ∧ (f1 (i, a, b, s)).getD 0 ≤ 6000000 * (i : Int) := by obtain ⟨n, hn⟩ := Option.isSome_iff_exists.1 hso; rw [hn]; exact hbd _ _ hn
                      rw [if_pos hso] at hlt
                      generalize hn : (f1 (i, a, b, s)).getD 0 = n at hnb hlt ⊢
                      have hok1 := hok.1
                      have hok2 := hok.2.1
                      have hwi := w_le hg hok2
                      have hok3 : a < w1 l i ∧ b < w2 l i ∧ s < 3 := hok.2.2
                      simp only at hok1 hok2
                      refine W.chg (satShut (Hs := LbP b2 b4 mb n f1) (.cons (by repeat (first | exact Pick.head | apply Pick.tail)) (.cons (by repeat (first | exact Pick.head | apply Pick.tail)) (.cons (by repeat (first | exact Pick.head | apply Pick.tail)) (Sub.refl _))))) ?_
                      refine W.region ?_
                      refine WO.p rfl rfl (WO.loadA rfl rfl (Cells.own (Pick.tail (Pick.head))) rfl rfl (WO.p rfl rfl ?_))
                      refine WO.callH (Hp := [pt q (.cells #[v, .int .i64 t, .int .i64 1, .int .i64 t, lv] 81 (0, 0)), sat (LbP b2 b4 mb n f1)]) rfl Try.call47 (.cons (by repeat (first | exact Pick.head | apply Pick.tail)) (.cons (by repeat (first | exact Pick.head | apply Pick.tail)) (Sub.refl _))) (fun L u hi hB2 => c_leads _ u (pt q (.cells #[v, .int .i64 t, .int .i64 1, .int .i64 t, lv] 81 (0, 0))) ⟨q, 0, none⟩ v l t 1 t lv i a b s 51 [.pointer (some ⟨b2, 0, none⟩), .pointer (some ⟨b4, 0, none⟩)] (fun c => sat (LbP b2 b4 mb n (relN 1 t l (i, a, b, s) n f1 c))) hB2 (hS.agree hi.keepB) hR.sl hg hC hok1 hok2 hok3.1 hok3.2.1 hok3.2.2 Try.call51 (fun c u2 hi1 hc hB3 hk3 => c_lab1 _ u2 b2 b4 mb n (stp 1 t s (dif l i a b c)) (relN 1 t l (i, a, b, s) n f1 c) (i + 1) b c (sg s (dif l i a b c)) hB3 (by omega) (costK_bd hg hC hok hi1 hc))) rfl ?_
                      rintro _ _ ⟨_, rfl, rfl⟩
                      refine WO.chg (satOpen (Hs := LbP b2 b4 mb n (relN 1 t l (i, a, b, s) n f1 (lw l i))) (by repeat (first | exact Pick.head | apply Pick.tail))) ?_
                      refine WO.nil ?_
                      first | rw [← hlt] | (rw [if_neg (by simp_all [bl_eq])] at hlt; rw [← hlt])
                      refine W.region ?_
                      refine WO.ar rfl rfl rfl (by (first | (unfold in64; omega) | (unfold in64; omega))) rfl (WO.p rfl rfl ?_)
                      refine WO.nil ?_
                      refine' ⟨j + 1, ?hp, ?hmu, ⟨rfl, rfl, rfl, rfl, rfl, trivial⟩, ?hS⟩
                      case hS => repeat (first | exact Sub.nil | refine Sub.cons (by repeat (first | exact Pick.head | apply Pick.tail)) ?_)
                      case hp => omega
                      case hmu => omega)))
       · first
         | (exfalso; omega)
         | (refine W.exit (blk_same ?_)
            refine W.sreg ?_
            refine WO.p rfl rfl ?_
            refine WO.nil ?_
            refine W.seq ?_
            refine W.sreg ?_
            refine WO.p rfl rfl ?_
            refine WO.call rfl Try.call46 (fun L w hi => c_all w ⟨q, 0, none⟩ v l t 1 t lv (hS.at (by repeat (first | exact Pick.head | apply Pick.tail)) hi) hg hcf.1.2 hcf.1.1) rfl ?_
            rintro rv _ ⟨_, rfl, rfl⟩
            refine WO.fact (OwE.sl (enc := encSk) (e := 77) (sz := 4) (v := rv) (xs := allL l) Pick.head) (fun hrv => ?_)
            refine' WO.len (n := _) rfl rfl ?hs rfl ?_
            case hs => (first | exact hrv)
            refine WO.p rfl rfl ?_
            refine WO.nil ?_
            refine W.block ?_
            obtain rfl : j = (allL l).length := by omega
            refine W.chg (owcNil (e := 2) (sz := 1)) ?_
            refine W.loop2 (fun (j2 : Nat) (o : Value) => j2 ≤ (allL l).length)
              (fun (j2 : Nat) (o : Value) => [(6, .pointer (some ⟨b2, 0, none⟩)), (11, o), (58, rv), (59, .int .i64 ((allL l).length : Int)), (60, .int .i64 (j2 : Int))])
              (fun (j2 : Nat) (o : Value) => [pt b2 (.cells #[.map (some mb)] 73 (0, 0)), MapP mb (labTo 1 t l (allL l).length), OwE encSk 77 4 rv (allL l), OwE encI 2 1 o ((labL 1 t l).take j2)])
              (fun (j2 : Nat) (o : Value) => (allL l).length - j2) 0 (.slice none 0 0)
              (by exact Nat.zero_le _) ⟨rfl, rfl, rfl, rfl, rfl, trivial⟩ (by repeat (first | exact Sub.nil | refine Sub.cons (by repeat (first | exact Pick.head | apply Pick.tail)) ?_)) ?_
            rintro j2 o hj2
            refine W.sreg ?_
            refine WO.p rfl rfl ?_
            refine WO.nil ?_
            refine W.seq ?_
            refine W.cond_bl rfl (fun c3 => ?_) (fun c3 => ?_)
            · first
              | (exfalso; omega)
              | (refine W.skip ?_
                 refine W.seq ?_
                 refine W.block ?_
                 obtain ⟨⟨i, a, b, s⟩, hk⟩ : ∃ k, (allL l)[j2]? = some k := ⟨_, List.getElem?_eq_getElem (show j2 < (allL l).length by omega)⟩
                 have hln : (labL 1 t l).take (j2 + 1) = (labL 1 t l).take j2 ++ [((labTo 1 t l (allL l).length) (i, a, b, s)).getD 1099511627776] := by rw [List.take_add_one]; unfold labL; rw [List.getElem?_map, hk]; rfl
                 generalize hF : (labTo 1 t l (allL l).length) = F at hln ⊢
                 refine W.sreg ?_
                 refine' WO.indexAddr (n := _) (i := _) rfl rfl rfl ?hs ?h1 rfl ?_
                 case hs => (first | exact hrv)
                 case h1 => (first | omega | (simp; omega))
                 refine' WO.loadA (vs := _) rfl rfl ?hc ?hl rfl ?_
                 case hc => (first | (refine OwK.cells (v := rv) (xs := allL l) ?_ hk; exact (by repeat (first | exact Sub.nil | refine Sub.cons (by repeat (first | exact Pick.head | apply Pick.tail)) ?_))))
                 case hl => rfl
                 refine WO.alloc rfl rfl rfl (fun b3 hb3 => ?_)
                 refine WO.storeA rfl rfl rfl rfl Pick.head rfl rfl ?_
                 refine WO.nil ?_
                 refine W.sreg ?_
                 refine WO.load rfl rfl (Cell.own (Pick.tail (Pick.head)) rfl) rfl (WO.loadA rfl rfl (Cells.own Pick.head) rfl rfl ?_)
                 refine WO.mapGet2 (k := (i, a, b, s)) rfl rfl rfl rfl (by repeat (first | exact Pick.head | apply Pick.tail)) rfl ?_
                 refine WO.p rfl rfl (WO.p rfl rfl (WO.p rfl rfl (WO.p rfl rfl (WO.p rfl rfl ?_))))
                 refine WO.nil ?_
                 refine W.seq ?_
                 refine W.sreg ?_
                 refine WO.p rfl rfl (WO.p rfl rfl ?_)
                 refine WO.nil ?_
                 refine W.cond rfl (fun c4 => ?_) (fun c4 => ?_)
                 · first
                   | (exfalso; omega)
                   | (refine W.region ?_
                      refine WO.p rfl rfl ?_
                      refine WO.nil ?_
                      have hz0 : (F (i, a, b, s) = none ∧ (!bl ((F (i, a, b, s)).isSome = true)) = true) ∨ (∃ z, F (i, a, b, s) = some z) ∧ (!bl ((F (i, a, b, s)).isSome = true)) = false := by rcases F (i, a, b, s) with _ | z <;> simp [bl_eq]
                      rw [c4] at hz0
                      simp only [and_true, and_false, or_false, false_or, Bool.true_eq_false, Bool.false_eq_true, reduceCtorEq] at hz0
                      first | (obtain ⟨z, hz⟩ := hz0; rw [show (F (i, a, b, s)).getD 0 = (F (i, a, b, s)).getD 1099511627776 by rw [hz]; rfl]) | rw [hz0] at hln
                      refine W.region ?_
                      refine WO.p rfl rfl (WO.p rfl rfl ?_)
                      refine' WO.buildSl (cs := _) rfl rfl rfl rfl ?hf rfl rfl ?hl rfl (fun v4 => ?_)
                      case hf => (conv => lhs; simp [-List.getD_eq_getElem?_getD, fillL, vcl, wrl, TTab.pl?.lget']) <;> rfl
                      case hl => rfl
                      refine' WO.appendE (enc := encI) (m := 1) (xs := (labL 1 t l).take j2) (ys := [(F (i, a, b, s)).getD 1099511627776]) encI_ok rfl rfl rfl rfl rfl (by repeat (first | exact Pick.head | apply Pick.tail)) (isSl_lit (by omega) (fun _ => ⟨_, _, rfl⟩)) (by omega) rfl (by first | exact OwC.cells .head | (rw [hz0]; exact OwC.cells .head)) (by rw [List.length_take]; omega) (by rw [List.length_take]; omega) rfl (fun g c => ?_)
                      refine WO.p rfl rfl ?_
                      refine WO.nil ?_
                      first | rw [← hln] | (rw [hz0, ← hln])
                      rw [← hF]
                      refine W.region ?_
                      refine WO.ar rfl rfl rfl (by (first | (unfold in64; omega) | (unfold in64; omega))) rfl (WO.p rfl rfl ?_)
                      refine WO.nil ?_
                      refine' ⟨j2 + 1, _, ?hp, ?hmu, ⟨rfl, rfl, rfl, rfl, rfl, trivial⟩, ?hS⟩
                      case hS => repeat (first | exact Sub.nil | refine Sub.cons (by repeat (first | exact Pick.head | apply Pick.tail)) ?_)
                      case hp => omega
                      case hmu => omega)
                 · first
                   | (exfalso; omega)
                   | (refine W.skip ?_
                      have hz0 : (F (i, a, b, s) = none ∧ (!bl ((F (i, a, b, s)).isSome = true)) = true) ∨ (∃ z, F (i, a, b, s) = some z) ∧ (!bl ((F (i, a, b, s)).isSome = true)) = false := by rcases F (i, a, b, s) with _ | z <;> simp [bl_eq]
                      rw [c4] at hz0
                      simp only [and_true, and_false, or_false, false_or, Bool.true_eq_false, Bool.false_eq_true, reduceCtorEq] at hz0
                      first | (obtain ⟨z, hz⟩ := hz0; rw [show (F (i, a, b, s)).getD 0 = (F (i, a, b, s)).getD 1099511627776 by rw [hz]; rfl]) | rw [hz0] at hln
                      refine W.region ?_
                      refine WO.p rfl rfl (WO.p rfl rfl ?_)
                      refine' WO.buildSl (cs := _) rfl rfl rfl rfl ?hf rfl rfl ?hl rfl (fun v4 => ?_)
                      case hf => (conv => lhs; simp [-List.getD_eq_getElem?_getD, fillL, vcl, wrl, TTab.pl?.lget']) <;> rfl
                      case hl => rfl
                      refine' WO.appendE (enc := encI) (m := 1) (xs := (labL 1 t l).take j2) (ys := [(F (i, a, b, s)).getD 1099511627776]) encI_ok rfl rfl rfl rfl rfl (by repeat (first | exact Pick.head | apply Pick.tail)) (isSl_lit (by omega) (fun _ => ⟨_, _, rfl⟩)) (by omega) rfl (by first | exact OwC.cells .head | (rw [hz0]; exact OwC.cells .head)) (by rw [List.length_take]; omega) (by rw [List.length_take]; omega) rfl (fun g c => ?_)
                      refine WO.p rfl rfl ?_
                      refine WO.nil ?_
                      first | rw [← hln] | (rw [hz0, ← hln])
                      rw [← hF]
                      refine W.region ?_
                      refine WO.ar rfl rfl rfl (by (first | (unfold in64; omega) | (unfold in64; omega))) rfl (WO.p rfl rfl ?_)
                      refine WO.nil ?_
                      refine' ⟨j2 + 1, _, ?hp, ?hmu, ⟨rfl, rfl, rfl, rfl, rfl, trivial⟩, ?hS⟩
                      case hS => repeat (first | exact Sub.nil | refine Sub.cons (by repeat (first | exact Pick.head | apply Pick.tail)) ?_)
                      case hp => omega
                      case hmu => omega))
            · first
              | (exfalso; omega)
              | (refine W.exit (blk_same ?_)
                 refine W.sreg ?_
                 refine WO.p rfl rfl (WO.p rfl rfl (WO.p rfl rfl ?_))
                 refine WO.nil ?_
                 refine W.ret ?_
                 first | (have e1 : lbL l t = [] := if_neg (by assumption); rw [e1]; refine fin.ret (Res.two rfl (RV.tmp rfl) (RV.tmp rfl)) ⟨_, rfl, fun h hs => ?_⟩; exact Sub.sat (.cons .head .nil) (owNil (enc := encI) (e := 2) (sz := 1) h hs)) | (have e3 : chkF l t = 0 := (by omega); have e1 : lbL l t = labL 1 t l := if_pos e3; have e4 : (labL 1 t l).take j2 = labL 1 t l := List.take_of_length_le (by unfold labL; rw [List.length_map]; omega); rw [e1, e3, e4]; exact fin.ret (Res.two rfl (RV.tmp rfl) (RV.tmp rfl)) ⟨_, rfl, fun h hs => Sub.sat (by repeat (first | exact Sub.nil | refine Sub.cons (by repeat (first | exact Pick.head | apply Pick.tail)) ?_)) hs⟩))))
end Go.Proofs.Ytpecakgebhmnfaa
