/-
  What is proved here: own slices of encoded elements, and own slices of such slices. Conditions: none; each rule states its own.
-/
import Derived.Test.YtgihklgpehfbpaaKj
namespace Go.TH
open Go

structure EncOk {α : Type} (enc : α → List Value) (sz : Nat) : Prop where
  len : ∀ x, (enc x).length = sz
  one : ∀ x, ∀ u ∈ enc x, u.oneCell' = true
  pos : 0 < sz
theorem encI_ok : EncOk encI 1 := ⟨fun _ => rfl, fun x u hu => by simp [encI] at hu; subst hu; rfl, by omega⟩
theorem encP_ok : EncOk encP 2 := ⟨fun _ => rfl, fun x u hu => by simp [encP] at hu; rcases hu with rfl | rfl <;> rfl, by omega⟩

section
variable {α : Type} {enc : α → List Value} {sz : Nat}
theorem EncOk.flat_len (he : EncOk enc sz) : ∀ (xs : List α), (xs.flatMap enc).length = xs.length * sz
  | [] => by simp
  | x :: r => by simp only [List.flatMap_cons, List.length_append, he.len, he.flat_len r, List.length_cons, Nat.add_mul]; omega
theorem EncOk.flat_get (he : EncOk enc sz) : ∀ (xs : List α) (i j : Nat) (x : α), xs[i]? = some x → j < sz → (xs.flatMap enc)[i * sz + j]? = (enc x)[j]?
  | [], _, _, _, h, _ => by simp at h
  | y :: r, 0, j, x, h, hj => by
    simp at h; subst h
    simp only [List.flatMap_cons, Nat.zero_mul, Nat.zero_add]
    rw [List.getElem?_append_left (by rw [he.len]; exact hj)]
  | y :: r, i + 1, j, x, h, hj => by
    simp at h
    simp only [List.flatMap_cons]
    rw [List.getElem?_append_right (by rw [he.len, Nat.add_mul]; omega), he.len]
    have : (i + 1) * sz + j - sz = i * sz + j := by rw [Nat.add_mul]; omega
    rw [this]
    exact he.flat_get r i j x h hj
theorem EncOk.flat_set (he : EncOk enc sz) : ∀ (xs : List α) (i : Nat) (y : α), i < xs.length → (xs.set i y).flatMap enc = wrl (xs.flatMap enc) (i * sz) (enc y) := by
  intro xs i y hi
  have e1 : xs.flatMap enc = (xs.take i).flatMap enc ++ (enc xs[i] ++ (xs.drop (i + 1)).flatMap enc) := by
    rw [← List.flatMap_cons, ← List.flatMap_append, List.getElem_cons_drop, List.take_append_drop]
  have e2 : (xs.set i y).flatMap enc = (xs.take i).flatMap enc ++ (enc y ++ (xs.drop (i + 1)).flatMap enc) := by
    rw [List.set_eq_take_append_cons_drop, if_pos hi, List.flatMap_append, List.flatMap_cons]
  have hl : ((xs.take i).flatMap enc).length = i * sz := by rw [he.flat_len, List.length_take]; congr 1; omega
  have := wrl_eq (enc y) ((xs.take i).flatMap enc) (enc xs[i] ++ (xs.drop (i + 1)).flatMap enc) (by simp [he.len])
  rw [hl] at this
  rw [e2, e1, this, List.append_assoc]
  congr 2
  rw [he.len, List.drop_append]
  simp [he.len]

/-- v is a slice of one's own with the elements xs -/
def OwE (enc : α → List Value) (e sz : Nat) (v : Value) (xs : List α) : HP := OwC e sz v xs.length (xs.flatMap enc)
/-- the rows, each one's own -/
def RowsE (enc : α → List Value) (e sz : Nat) : List Value → List (List α) → HP
  | [], [] => fun _ => True
  | r :: rv, xs :: xss => fun h => ∃ h1 h2, Split h h1 h2 ∧ OwE enc e sz r xs h1 ∧ RowsE enc e sz rv xss h2
  | _, _ => fun _ => False
/-- all rows but the one with index i -/
def RowsBut (enc : α → List Value) (e sz : Nat) (i : Nat) (rv : List Value) (xss : List (List α)) : HP := fun h2 => ∀ h h1 xs, Split h h1 h2 → OwE enc e sz (rv.getD i undef) xs h1 → RowsE enc e sz rv (xss.set i xs) h
variable {e : Nat}
theorem RowsE.len : ∀ {rv : List Value} {xss : List (List α)} {h : Hp}, RowsE enc e sz rv xss h → rv.length = xss.length
  | [], [], _, _ => rfl
  | _ :: rv, _ :: xss, _, ⟨_, _, _, _, r⟩ => by simp [RowsE.len r]
  | [], _ :: _, _, h => h.elim
  | _ :: _, [], _, h => h.elim
theorem split_none (h : Hp) : Split h (fun _ => none) h := fun _ => .inl ⟨rfl, rfl⟩
theorem split_assoc {h a r b c : Hp} (s : Split h a r) (t : Split r b c) : ∃ r', Split h r' c ∧ Split r' a b := by
  refine ⟨fun k => (a k).orElse fun _ => b k, fun k => ?_, fun k => ?_⟩
  · have h1 := s k; have h2 := t k
    cases ha : a k <;> cases hb : b k <;> cases hc : c k <;> simp_all
  · have h1 := s k; have h2 := t k
    cases ha : a k <;> cases hb : b k <;> cases hc : c k <;> simp_all
theorem RowsE.snoc : ∀ {rv : List Value} {xss : List (List α)} {r : Value} {xs : List α} {h h1 h2 : Hp}, Split h h1 h2 → RowsE enc e sz rv xss h1 → OwE enc e sz r xs h2 → RowsE enc e sz (rv ++ [r]) (xss ++ [xs]) h
  | [], [], r, xs, h, h1, h2, s, _, o => by
    refine ⟨h2, fun k => if h2 k = none then h1 k else none, fun k => ?_, o, trivial⟩
    have := s k
    cases ha : h1 k <;> cases hb : h2 k <;> simp_all
  | r' :: rv, xs' :: xss, r, xs, h, h1, h2, s, ⟨a, b, t, oa, rb⟩, o => by
    have s' := s.comm
    obtain ⟨r1, u1, u2⟩ := s'.swap t
    exact ⟨a, r1, u1, oa, RowsE.snoc u2.comm rb o⟩
  | [], _ :: _, _, _, _, _, _, _, h, _ => h.elim
  | _ :: _, [], _, _, _, _, _, _, h, _ => h.elim
theorem RowsE.part : ∀ {rv : List Value} {xss : List (List α)} {i : Nat} {h : Hp}, i < xss.length → RowsE enc e sz rv xss h → ∃ h1 h2, Split h h1 h2 ∧ OwE enc e sz (rv.getD i undef) (xss.getD i []) h1 ∧ RowsBut enc e sz i rv xss h2
  | r :: rv, xs :: xss, 0, h, _, ⟨a, b, s, o, rb⟩ => ⟨a, b, s, by simpa using o, fun h' h1 ys t p => ⟨h1, b, t, by simpa using p, rb⟩⟩
  | r :: rv, xs :: xss, i + 1, h, hi, ⟨a, b, s, o, rb⟩ => by
    obtain ⟨h1, h2, t, p, q⟩ := RowsE.part (i := i) (by simpa using hi) rb
    obtain ⟨r', s', t'⟩ := s.swap t
    refine ⟨h1, r', s', by simpa using p, fun h' h1' ys u p' => ?_⟩
    obtain ⟨r2, u1, u2⟩ := u.swap t'
    exact ⟨a, r2, u1, o, q r2 h1' ys u2 (by simpa using p')⟩
  | [], [], i, h, hi, _ => by simp at hi
  | [], _ :: _, _, _, _, h => h.elim
  | _ :: _, [], _, _, _, h => h.elim
end

section
variable {P : Program} {C : Cx P} {E : Env} {H : List HP} {α : Type} {enc : α → List Value} {sz e : Nat}

theorem OwE.form {v : Value} {xs : List α} {H' : List HP} (p : Pick (OwE enc e sz v xs) H H') : ∀ (L : List HP) w, Inv C.w0 C.M (L ++ H) w → ∃ a c, v = .slice a xs.length c := OwC.form p
theorem OwE.sl {v : Value} {xs : List α} {H' : List HP} (p : Pick (OwE enc e sz v xs) H H') : ∀ (L : List HP) w, Inv C.w0 C.M (L ++ H) w → IsSl v xs.length := OwC.sl p
theorem OwE.cellAt (he : EncOk enc sz) {v : Value} {xs : List α} {H' : List HP} (p : Pick (OwE enc e sz v xs) H H') {i : Nat} (hi : i < xs.length) (z : α) {j : Nat} {u : Value} (hu : lget (enc (xs.getD i z)) j = some u) : Cell C H (prt (elt v i sz) j) u := by
  rw [prt_eq, elt_eq]
  rw [lget_eq] at hu
  refine OwC.cellAt p ?_
  rw [he.flat_get xs i j _ (getD_some hi z) (by have := (List.getElem?_eq_some_iff.1 hu).1; rw [he.len] at this; exact this)]
  exact hu
theorem OwE.cell0 (he : EncOk enc sz) {v : Value} {xs : List α} {H' : List HP} (p : Pick (OwE enc e sz v xs) H H') {i : Nat} (hi : i < xs.length) (z : α) {u : Value} (hu : lget (enc (xs.getD i z)) 0 = some u) : Cell C H (elt v i sz) u := by
  have := OwE.cellAt (C := C) he p hi z hu
  rw [prt_eq] at this
  simpa [Addr.add] using this
theorem OwE.cells (he : EncOk enc sz) {v : Value} {xs : List α} {H' : List HP} (p : Pick (OwE enc e sz v xs) H H') {i : Nat} (hi : i < xs.length) (z : α) : Cells C H (elt v i sz) (enc (xs.getD i z)) := by
  intro j u hu
  have := OwE.cellAt (C := C) he p hi z (j := j) (u := u) (by rw [lget_eq]; exact hu)
  rwa [prt_eq] at this

theorem Pick.rowIn {rv : List Value} {xss : List (List α)} {H' : List HP} {i : Nat} (p : Pick (RowsE enc e sz rv xss) H H') (hi : i < xss.length) : ∀ h, TH.sat H h → TH.sat (OwE enc e sz (rv.getD i undef) (xss.getD i []) :: RowsBut enc e sz i rv xss :: H') h := by
  intro h hs
  obtain ⟨a, b, s, ha, hb⟩ := p.sat hs
  obtain ⟨a1, a2, t, q1, q2⟩ := RowsE.part hi ha
  obtain ⟨r', s', t'⟩ := s.comm.swap t
  exact ⟨a1, r', s', q1, a2, b, t'.comm, q2, hb⟩
theorem rowsOut {rv : List Value} {xss : List (List α)} {H' : List HP} {i : Nat} {xs : List α} : ∀ h, sat (OwE enc e sz (rv.getD i undef) xs :: RowsBut enc e sz i rv xss :: H') h → sat (RowsE enc e sz rv (xss.set i xs) :: H') h := by
  rintro h ⟨a, r, s, ha, b, c, t, hb, hc⟩
  obtain ⟨r', s', t'⟩ := split_assoc s t
  exact ⟨r', c, s', hb r' a xs t' ha, hc⟩
theorem sat_app_imp {H H' : List HP} (hi : ∀ h, sat H h → sat H' h) (L : List HP) : ∀ h, sat (L ++ H) h → sat (L ++ H') h := by
  intro h hs
  obtain ⟨h1, h2, s, x, y⟩ := sat_app hs
  exact sat_join s x (hi _ y)
theorem Inv.chg {w0 : World} {M : List Nat} {L H H' : List HP} {w : World} (h : Inv w0 M (L ++ H) w) (hi : ∀ h, sat H h → sat H' h) : Inv w0 M (L ++ H') w :=
  ⟨h.os, h.tape, h.output, h.size, h.keep, sat_app_imp hi L _ h.mine⟩
theorem Cell.chg {H' : List HP} {p : Addr} {v : Value} (hc : Cell C H' p v) (hi : ∀ h, sat H h → sat H' h) : Cell C H p v := fun L w h => hc L w (h.chg hi)
theorem RowsE.rowsLen {rv : List Value} {xss : List (List α)} {H' : List HP} (p : Pick (RowsE enc e sz rv xss) H H') : ∀ (L : List HP) w, Inv C.w0 C.M (L ++ H) w → rv.length = xss.length := fun _ _ hi =>
  let ⟨_, h⟩ := (hi.pickL p).piece; RowsE.len h
theorem RowsE.rowSl {rv : List Value} {xss : List (List α)} {H' : List HP} {i : Nat} (p : Pick (RowsE enc e sz rv xss) H H') (hi : i < xss.length) : ∀ (L : List HP) w, Inv C.w0 C.M (L ++ H) w → IsSl (rv.getD i undef) (xss.getD i []).length := fun L w h =>
  OwE.sl (C := C) .head L w (h.chg (p.rowIn hi))
theorem RowsE.cell0 (he : EncOk enc sz) {rv : List Value} {xss : List (List α)} {H' : List HP} {i k : Nat} (p : Pick (RowsE enc e sz rv xss) H H') (hi : i < xss.length) (hk : k < (xss.getD i []).length) (z : α) {u : Value} (hu : lget (enc ((xss.getD i []).getD k z)) 0 = some u) : Cell C H (elt (rv.getD i undef) k sz) u :=
  (OwE.cell0 (C := C) he .head hk z hu).chg (p.rowIn hi)
theorem RowsE.cellAt (he : EncOk enc sz) {rv : List Value} {xss : List (List α)} {H' : List HP} {i k j : Nat} (p : Pick (RowsE enc e sz rv xss) H H') (hi : i < xss.length) (hk : k < (xss.getD i []).length) (z : α) {u : Value} (hu : lget (enc ((xss.getD i []).getD k z)) j = some u) : Cell C H (prt (elt (rv.getD i undef) k sz) j) u :=
  (OwE.cellAt (C := C) he .head hk z hu).chg (p.rowIn hi)

/-- own slices are read by whoever is called -/
theorem RdF.of_ow (he : EncOk enc sz) {v : Value} {xs : List α} {H' : List HP} {L : List HP} {w : World} (p : Pick (OwE enc e sz v xs) H H') (hi : Inv C.w0 C.M (L ++ H) w) : RdF enc sz w.heap.size w v xs := by
  refine ⟨OwE.sl p L w hi, fun hl => ?_, fun i x hx j u hu => ?_⟩
  · have h00 : lget (enc (xs.getD 0 xs[0])) 0 = some ((enc (xs.getD 0 xs[0])).getD 0 undef) := by
      generalize xs.getD 0 xs[0] = q
      have h1 := he.len q
      have h2 := he.pos
      rw [lget_eq]
      cases hq : enc q with
      | nil => rw [hq] at h1; simp at h1; omega
      | cons a r => simp
    have h0 := OwE.cell0 (C := C) he p hl xs[0] h00
    have := World.block_lt_of_cell? w _ (h0 L w hi)
    rw [elt_eq, addr_add_block] at this
    exact this
  · have hlt := (List.getElem?_eq_some_iff.1 hx).1
    have := OwE.cells (C := C) he p hlt x j u (by simpa [hx] using hu) L w hi
    rwa [elt_eq] at this
theorem RdR.of_ow (he : EncOk enc sz) {e' : Nat} {v : Value} {rv : List Value} {xss : List (List α)} {H1 H2 : List HP} {L : List HP} {w : World} {n : Nat} (p : Pick (OwC e' 1 v n rv) H H1) (q : Pick (RowsE enc e sz rv xss) H H2) (hi : Inv C.w0 C.M (L ++ H) w) : RdR enc sz w.heap.size w v rv xss := by
  have hlen := RowsE.rowsLen (C := C) q L w hi
  have hn : rv.length = n := by have := (OwC.open (hi.pickL p)).1; omega
  subst hn
  refine ⟨⟨OwC.sl p L w hi, fun hl => ?_, fun i x hx j u hu => ?_⟩, hlen, fun i hl => ?_⟩
  · have := World.block_lt_of_cell? w _ (OwC.cell1 (C := C) p hl L w hi)
    rw [elt_eq, addr_add_block] at this
    exact this
  · have hlt := (List.getElem?_eq_some_iff.1 hx).1
    obtain ⟨rfl, rfl⟩ : j = 0 ∧ u = x := by
      cases j with
      | zero => simp [encV] at hu; exact ⟨rfl, hu.symm⟩
      | succ j => simp [encV] at hu
    have := OwC.cell1 (C := C) p hlt L w hi
    rw [elt_eq] at this
    simpa [hx, Addr.add] using this
  · exact RdF.of_ow (C := C) he (.head) (hi.chg (q.rowIn hl))

section rules
variable {ops : Array Oper} {K : KP} {rest : List Oper} {d : Nat} {ty : TypeId} {pos : String} {af : Array Edge} {x y z : Operand} {T T' : TypeId}

theorem WO.appendE (he : EncOk enc sz) {by' m : Nat} {v u zv : Value} {xs ys : List α} {H' : List HP} (hT : C.tt.sl? T = some (e, sz, by')) (hz : C.tt.z? e = some zv) (hzs : Nat.beq zv.cells.size sz = true)
    (hx : ev E x = some v) (hy : ev E y = some u) (p : Pick (OwE enc e sz v xs) H H') (hS : IsSl u m) (hm : 0 < m) (hl : ys.length = m) (hc : Cells C H (base u) (ys.flatMap enc))
    (hb : (xs.length + m) * by' ≤ 140737488355328) (h63 : xs.length + m ≤ 9223372036854775807) (hN : Nat.blt d C.N = true)
    (h : ∀ g c, WO C ops rest K ((d, .slice (some ⟨g, 0, none⟩) (xs.length + m) c) :: E) (OwE enc e sz (.slice (some ⟨g, 0, none⟩) (xs.length + m) c) (xs ++ ys) :: H')) : WO C ops (⟨some d, .call ⟨.builtin .append, #[x, y], #[T, T]⟩, ty, pos, af, none⟩ :: rest) K E H := by
  subst hl
  refine WO.append hT hz hzs hx hy p hS hm hc (he.flat_len ys) (fun u hu => ?_) hb h63 hN fun g c => ?_
  · obtain ⟨x, _, hx⟩ := List.mem_flatMap.1 hu
    exact he.one x u hx
  · have := h g c
    unfold OwE at this
    rw [List.flatMap_append, List.length_append] at this
    exact this
theorem WO.storeE {v : Value} {xs : List α} {n : α} {u : Value} {i : Nat} {H' : List HP} (he : EncOk enc 1) (hx : ev E x = some (.pointer (some (elt v i 1)))) (hy : ev E y = some u) (hu : enc n = [u]) (hT : C.tt.one? T = true) (p : Pick (OwE enc e 1 v xs) H H') (hl : i < xs.length)
    (h : WO C ops rest K E (OwE enc e 1 v (xs.set i n) :: H')) : WO C ops (⟨none, .store T x y, ty, pos, af, none⟩ :: rest) K E H := by
  refine WO.storeOw hx hy hT (he.one n u (by simp [hu])) p (by rw [he.flat_len]; omega) ?_
  unfold OwE at h
  rw [he.flat_set xs i n hl, hu, List.length_set] at h
  simpa [wrl] using h
/-- a store into a row -/
theorem WO.storeRow {rv : List Value} {xss : List (List α)} {n : α} {u : Value} {i k : Nat} {H' : List HP} (he : EncOk enc 1) (hx : ev E x = some (.pointer (some (elt (rv.getD i undef) k 1)))) (hy : ev E y = some u) (hu : enc n = [u]) (hT : C.tt.one? T = true) (p : Pick (RowsE enc e 1 rv xss) H H') (hi : i < xss.length) (hk : k < (xss.getD i []).length)
    (h : WO C ops rest K E (RowsE enc e 1 rv (xss.set i ((xss.getD i []).set k n)) :: H')) : WO C ops (⟨none, .store T x y, ty, pos, af, none⟩ :: rest) K E H :=
  WO.chg (p.rowIn hi) (WO.storeE he hx hy hu hT .head hk (WO.chg rowsOut h))
end rules
/-- a new row is put to the others -/
theorem rowsSnoc {rv : List Value} {xss : List (List α)} {r : Value} {xs : List α} {H H1 H2 : List HP} (p : Pick (RowsE enc e sz rv xss) H H1) (q : Pick (OwE enc e sz r xs) H1 H2) : ∀ h, sat H h → sat (RowsE enc e sz (rv ++ [r]) (xss ++ [xs]) :: H2) h := by
  intro h hs
  obtain ⟨a, b, s, ha, hb⟩ := p.sat hs
  obtain ⟨c, d, t, hc, hd⟩ := q.sat hb
  obtain ⟨r', s', t'⟩ := split_assoc s t
  exact ⟨r', d, s', RowsE.snoc t' ha hc, hd⟩
theorem rowsNil : ∀ h, sat H h → sat (RowsE enc e sz [] [] :: H) h := fun h hs => ⟨fun _ => none, h, split_none h, trivial, hs⟩
theorem owNil : ∀ h, sat H h → sat (OwE enc e sz (.slice none 0 0) [] :: H) h := fun h hs => ⟨fun _ => none, h, split_none h, ⟨by simp, .inl ⟨rfl, rfl⟩⟩, hs⟩
theorem owcNil : ∀ h, sat H h → sat (OwC e sz (.slice none 0 0) 0 [] :: H) h := fun h hs => ⟨fun _ => none, h, split_none h, ⟨by simp, .inl ⟨rfl, rfl⟩⟩, hs⟩
end
end Go.TH
