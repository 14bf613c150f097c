/-
  What is proved here: slices of one's own (append, make, store), and slices of such slices. Conditions: none; each rule states its own.
-/
import Derived.Test.YtgihklgpehfbpaaKi
namespace Go.TH
open Go

theorem Inv.mono {w0 : World} {M : List Nat} {L H : List HP} {A A' : HP} {w : World} (hA : ∀ h, A h → A' h) (h : Inv w0 M (L ++ A :: H) w) : Inv w0 M (L ++ A' :: H) w := by
  have h1 := h.perm List.perm_middle
  have h2 : Inv w0 M (A' :: (L ++ H)) w := ⟨h1.os, h1.tape, h1.output, h1.size, h1.keep, sat_mono hA h1.mine⟩
  exact h2.perm List.perm_middle.symm
theorem Inv.piece {w0 : World} {M : List Nat} {L H : List HP} {A : HP} {w : World} (h : Inv w0 M (L ++ A :: H) w) : ∃ h1, A h1 :=
  let ⟨h1, _, _, a, _⟩ := (h.perm List.perm_middle).mine; ⟨h1, a⟩
theorem Inv.pickL {w0 : World} {M : List Nat} {L H H' : List HP} {A : HP} {w : World} (h : Inv w0 M (L ++ H) w) (p : Pick A H H') : Inv w0 M (L ++ A :: H') w :=
  h.sub (Sub.app (.cons p (Sub.refl H')) L)
theorem Inv.dropL {w0 : World} {M : List Nat} {L H : List HP} {A : HP} {w : World} (h : Inv w0 M (L ++ A :: H) w) : Inv w0 M (L ++ H) w :=
  h.sub (Sub.app (Sub.drop A H) L)
/-- v is a slice of one's own, with n elements of sz cells each; cs are their cells -/
def OwC (e sz : Nat) (v : Value) (n : Nat) (cs : List Value) : HP := fun h =>
  cs.length = n * sz ∧ ((v = .slice none 0 0 ∧ n = 0) ∨
    ∃ (g cap : Nat) (cur : List Value), v = .slice (some ⟨g, 0, none⟩) n cap ∧ n ≤ cap ∧ cap ≤ maxLen ∧ cur.length = cap * sz ∧ cur.take (n * sz) = cs ∧ pt g (.cells cur.toArray e (0, 0)) h)

theorem OwC.open {w0 : World} {M : List Nat} {L H : List HP} {w : World} {e sz n : Nat} {v : Value} {cs : List Value} (h : Inv w0 M (L ++ OwC e sz v n cs :: H) w) :
    cs.length = n * sz ∧ ((v = .slice none 0 0 ∧ n = 0 ∧ Inv w0 M (L ++ H) w) ∨
      ∃ (g cap : Nat) (cur : List Value), v = .slice (some ⟨g, 0, none⟩) n cap ∧ n ≤ cap ∧ cap ≤ maxLen ∧ cur.length = cap * sz ∧ cur.take (n * sz) = cs ∧ Inv w0 M (L ++ pt g (.cells cur.toArray e (0, 0)) :: H) w) := by
  have h1 := h.perm List.perm_middle
  obtain ⟨ha, hb, s, ⟨hl, hc⟩, hr⟩ := h1.mine
  refine ⟨hl, ?_⟩
  rcases hc with ⟨h2, h3⟩ | ⟨g, cap, cur, h2, h3, h4, h5, h6, h7⟩
  · exact .inl ⟨h2, h3, h.dropL⟩
  · refine .inr ⟨g, cap, cur, h2, h3, h4, h5, h6, ?_⟩
    have : Inv w0 M (pt g (.cells cur.toArray e (0, 0)) :: (L ++ H)) w := ⟨h1.os, h1.tape, h1.output, h1.size, h1.keep, ha, hb, s, h7, hr⟩
    exact this.perm List.perm_middle.symm
theorem OwC.shut {w0 : World} {M : List Nat} {L H : List HP} {w : World} {e sz n g cap : Nat} {cs cur : List Value} (hl : cs.length = n * sz) (hn : n ≤ cap) (hm : cap ≤ maxLen) (hc : cur.length = cap * sz) (ht : cur.take (n * sz) = cs)
    (h : Inv w0 M (L ++ pt g (.cells cur.toArray e (0, 0)) :: H) w) : Inv w0 M (L ++ OwC e sz (.slice (some ⟨g, 0, none⟩) n cap) n cs :: H) w :=
  h.mono fun h hp => ⟨hl, .inr ⟨g, cap, cur, rfl, hn, hm, hc, ht, hp⟩⟩
theorem OwC.nilI {w0 : World} {M : List Nat} {L H : List HP} {w : World} {e sz : Nat} (h : Inv w0 M (L ++ H) w) : Inv w0 M (L ++ OwC e sz (.slice none 0 0) 0 [] :: H) w := by
  refine ⟨h.os, h.tape, h.output, h.size, h.keep, ?_⟩
  have : sat (OwC e sz (.slice none 0 0) 0 [] :: (L ++ H)) (own w0 M w) := ⟨fun _ => none, own w0 M w, fun k => .inl ⟨rfl, rfl⟩, ⟨by simp, .inl ⟨rfl, rfl⟩⟩, h.mine⟩
  exact sat_perm List.perm_middle.symm this
theorem OwC.isSl {w0 : World} {M : List Nat} {L H : List HP} {w : World} {e sz n : Nat} {v : Value} {cs : List Value} (h : Inv w0 M (L ++ OwC e sz v n cs :: H) w) : IsSl v n := by
  obtain ⟨_, h⟩ := OwC.open h
  rcases h with ⟨rfl, rfl, _⟩ | ⟨g, cap, cur, rfl, h1, h2, _⟩
  · exact ⟨by omega, none, 0, rfl, fun h => by omega⟩
  · simp only [maxLen] at h2
    exact ⟨by omega, _, _, rfl, fun _ => ⟨_, _, rfl⟩⟩

section
variable {P : Program} {C : Cx P} {E : Env} {H : List HP}

theorem WO.chg {ops : Array Oper} {l : List Oper} {K : KP} {H' : List HP} (hi : ∀ h, sat H h → sat H' h) (h : WO C ops l K E H') : WO C ops l K E H := by
  intro L ds a w hs
  refine h L ds a w ⟨hs.defers, hs.fr, ?_⟩
  have hv := hs.inv
  refine ⟨hv.os, hv.tape, hv.output, hv.size, hv.keep, ?_⟩
  obtain ⟨h1, h2, s, x, y⟩ := sat_app hv.mine
  exact sat_join s x (hi _ y)
theorem W.chg {c : Code} {Q : Post} {H' : List HP} (hi : ∀ h, sat H h → sat H' h) (h : W C c Q E H') : W C c Q E H := by
  intro L ds a w hs
  refine h L ds a w ⟨hs.defers, hs.fr, ?_⟩
  have hv := hs.inv
  refine ⟨hv.os, hv.tape, hv.output, hv.size, hv.keep, ?_⟩
  obtain ⟨h1, h2, s, x, y⟩ := sat_app hv.mine
  exact sat_join s x (hi _ y)
/-- a fact that the memory tells -/
theorem WO.fact {ops : Array Oper} {l : List Oper} {K : KP} {p : Prop} (hp : ∀ (L : List HP) w, Inv C.w0 C.M (L ++ H) w → p) (h : p → WO C ops l K E H) : WO C ops l K E H :=
  fun L ds a w hs => h (hp _ w hs.inv) L ds a w hs
theorem W.fact {c : Code} {Q : Post} {p : Prop} (hp : ∀ (L : List HP) w, Inv C.w0 C.M (L ++ H) w → p) (h : p → W C c Q E H) : W C c Q E H :=
  fun L ds a w hs => h (hp _ w hs.inv) L ds a w hs
/-- it has a slice's form -/
theorem OwC.form {e sz n : Nat} {v : Value} {cs : List Value} {H' : List HP} (p : Pick (OwC e sz v n cs) H H') : ∀ (L : List HP) w, Inv C.w0 C.M (L ++ H) w → ∃ a c, v = .slice a n c := fun _ _ hi => by
  obtain ⟨_, h⟩ := OwC.open (hi.pickL p)
  rcases h with ⟨rfl, rfl, _⟩ | ⟨g, cap, cur, rfl, _⟩
  · exact ⟨_, _, rfl⟩
  · exact ⟨_, _, rfl⟩
theorem OwC.sl {e sz n : Nat} {v : Value} {cs : List Value} {H' : List HP} (p : Pick (OwC e sz v n cs) H H') : ∀ (L : List HP) w, Inv C.w0 C.M (L ++ H) w → IsSl v n := fun _ _ hi => OwC.isSl (hi.pickL p)
theorem OwC.cellAt {e sz n i j : Nat} {v u : Value} {cs : List Value} {H' : List HP} (p : Pick (OwC e sz v n cs) H H') (hu : cs[i * sz + j]? = some u) : Cell C H (((base v).add (i * sz)).add j) u := by
  intro L w hi
  obtain ⟨hl, hc⟩ := OwC.open (hi.pickL p)
  have hlt := (List.getElem?_eq_some_iff.1 hu).1
  rcases hc with ⟨rfl, rfl, _⟩ | ⟨g, cap, cur, rfl, h1, h2, h3, h4, hi'⟩
  · simp at hl; subst hl; simp at hlt
  · have hlook := (hi'.look (b := g) (o := .cells cur.toArray e (0, 0)) ((Pick.head).app L)).1
    have ea : ((base (.slice (some ⟨g, 0, none⟩) n cap)).add (i * sz)).add j = ⟨g, i * sz + j, none⟩ := by simp [base, Addr.add_lit]
    rw [ea]
    subst h4
    rw [List.getElem?_take] at hu
    split at hu
    · simp [World.cell?, hlook, hu]
    · cases hu
theorem OwC.cell1 {e n i : Nat} {v : Value} {cs : List Value} {H' : List HP} (p : Pick (OwC e 1 v n cs) H H') (hl : i < cs.length) : Cell C H (elt v i 1) (cs.getD i undef) := by
  have := OwC.cellAt (C := C) (i := i) (j := 0) (u := cs.getD i undef) p (by simp [hl])
  rw [elt_eq]
  simpa [Addr.add] using this
theorem OwC.cells {e sz n : Nat} {v : Value} {cs : List Value} {H' : List HP} (p : Pick (OwC e sz v n cs) H H') : Cells C H (base v) cs := by
  intro j u hu
  have := OwC.cellAt (C := C) (i := 0) (j := j) (u := u) p (by simpa using hu)
  simpa [Addr.add] using this

section rules
variable {ops : Array Oper} {K : KP} {rest : List Oper} {d : Nat} {ty : TypeId} {pos : String} {af : Array Edge} {x y z : Operand} {T T' : TypeId}

theorem sl_info {t : TTab P} {e sz by' : Nat} {zv : Value} (hT : t.sl? T = some (e, sz, by')) (hz : t.z? e = some zv) : ∃ i, P.info? e = some i ∧ i.size = sz ∧ i.bytes = by' ∧ i.zero = some zv := by
  have h1 := (SlT.of hT).size
  have h2 := (SlT.of hT).bytes
  have h3 := (ZT.of hz).zero
  unfold szv at h1; unfold byv at h2; unfold TH.zv at h3
  cases hi : P.info? e with
  | none => simp [hi] at h1
  | some i => simp [hi] at h1 h2 h3; exact ⟨i, rfl, h1, h2, h3⟩

theorem WO.append {e sz by' n m : Nat} {v u zv : Value} {cs news : List Value} {H' : List HP} (hT : C.tt.sl? T = some (e, sz, by')) (hz : C.tt.z? e = some zv) (hzs : Nat.beq zv.cells.size sz = true)
    (hx : ev E x = some v) (hy : ev E y = some u) (p : Pick (OwC e sz v n cs) H H') (hS : IsSl u m) (hm : 0 < m) (hc : Cells C H (base u) news) (hl : news.length = m * sz) (h1 : ∀ u ∈ news, u.oneCell' = true)
    (hb : (n + m) * by' ≤ 140737488355328) (h63 : n + m ≤ 9223372036854775807) (hN : Nat.blt d C.N = true)
    (h : ∀ g c, WO C ops rest K ((d, .slice (some ⟨g, 0, none⟩) (n + m) c) :: E) (OwC e sz (.slice (some ⟨g, 0, none⟩) (n + m) c) (n + m) (cs ++ news) :: H')) : WO C ops (⟨some d, .call ⟨.builtin .append, #[x, y], #[T, T]⟩, ty, pos, af, none⟩ :: rest) K E H := by
  refine WO.step rfl rfl hN (XO.run (by simp) fun L a w hf hi => ?_)
  obtain ⟨i, hi1, hi2, hi3, hi4⟩ := sl_info hT hz
  subst hi2; subst hi3
  have hzs' := Nat.eq_of_beq_eq_true hzs
  have hmax : n + m ≤ maxLen := by simpa [maxLen] using h63
  obtain ⟨a0, c0, rfl, ha0⟩ := hS.is
  obtain ⟨b0, o0, rfl⟩ := ha0 hm
  have hnews : ∀ j v, news[j]? = some v → w.cell? ((⟨b0, o0, none⟩ : Addr).add j) = some v := fun j v hv => hc j v hv L w hi
  obtain ⟨hcl, hcase⟩ := OwC.open (hi.pickL p)
  have hrun : ∀ (v' : Value) (w' : World), (Builtin.append_ #[T, T] ty #[v, .slice (some ⟨b0, o0, none⟩) m c0]).run P w = .ok v' w' → (execOp a.eval ⟨some d, .call ⟨.builtin .append, #[x, y], #[T, T]⟩, ty, pos, af, none⟩).run P w = .ok (.value v') w' := by
    intro v' w' hr
    simp [execOp, resolve, hf.eval hx, hf.eval hy, invoke, builtin, hr]
  have hlen : (cs ++ news).length = (n + m) * i.size := by rw [List.length_append, hcl, hl, Nat.add_mul]
  -- a new row
  have grown : ∀ (old : Nat), Inv C.w0 C.M (L ++ H') w → Inv C.w0 C.M (L ++ OwC e i.size (.slice (some ⟨w.heap.size, 0, none⟩) (n + m) (grownCap w (n + m) old e)) (n + m) (cs ++ news) :: H')
      (w.drew.alloc (.cells (cs.toArray ++ news.toArray ++ Builtin.zeroCells zv.cells (grownCap w (n + m) old e - (n + m))) e)) := by
    intro old hv
    have hge := grownCap_ge w (n + m) old e
    have hcm : grownCap w (n + m) old e ≤ maxLen := grownCap_le_maxLen w (n + m) old e hmax
    have h2 := (hv.drawn).alloc' (.cells (cs.toArray ++ news.toArray ++ Builtin.zeroCells zv.cells (grownCap w (n + m) old e - (n + m))) e)
    have e1 : cs.toArray ++ news.toArray ++ Builtin.zeroCells zv.cells (grownCap w (n + m) old e - (n + m)) = ((cs ++ news) ++ (Builtin.zeroCells zv.cells (grownCap w (n + m) old e - (n + m))).toList).toArray := by
      apply Array.ext'; simp
    refine OwC.shut (cur := (cs ++ news) ++ (Builtin.zeroCells zv.cells (grownCap w (n + m) old e - (n + m))).toList) hlen hge hcm ?_ ?_ ?_
    · rw [List.length_append, hlen, Array.length_toList, size_zeroCells, hzs', ← Nat.add_mul]; congr 1; omega
    · rw [← hlen]; exact List.take_left
    · rw [← e1]; exact h2
  rcases hcase with ⟨rfl, rfl, hv⟩ | ⟨g, cap, cur, rfl, q1, q2, q3, q4, hv⟩
  · have hcs : cs = [] := List.eq_nil_of_length_eq_zero (by simpa using hcl)
    subst hcs
    have hr := run_append_nil (P := P) w T ty e i zv (SlT.of hT).u hi1 hi4 ⟨b0, o0, none⟩ m c0 news hl hnews hm (by omega) (by have := hb; simp only [Nat.zero_add] at this; omega)
    have hg := grown 0 hv
    simp only [Nat.zero_add, List.nil_append, Array.empty_append] at hg ⊢
    exact ⟨_, _, _, .inl (hrun _ _ hr), by simpa using h _ _, hg⟩
  · have hlook := (hv.look (b := g) (o := .cells cur.toArray e (0, 0)) ((Pick.head).app L)).1
    by_cases hroom : n + m ≤ cap
    · have hfit : n * i.size + news.length ≤ cur.toArray.size := by rw [hl, List.size_toArray, q3, ← Nat.add_mul]; exact Nat.mul_le_mul_right _ hroom
      have hr := run_append_room (P := P) w T ty e i (SlT.of hT).u hi1 g n cap cur.toArray hlook ⟨b0, o0, none⟩ m c0 news hl hnews h1 hroom hfit
      refine ⟨_, _, _, .inl (hrun _ _ hr), h _ _, ?_⟩
      have h2 := hv.set (b := g) (o := .cells cur.toArray e (0, 0)) (o' := .cells (cur.toArray.toList.take (n * i.size) ++ news ++ cur.toArray.toList.drop (n * i.size + news.length)).toArray e (0, 0)) (H' := L ++ H') (w' := w.setRow g (cur.toArray.toList.take (n * i.size) ++ news ++ cur.toArray.toList.drop (n * i.size + news.length)).toArray) ((Pick.mem)) rfl rfl rfl (setRow_size w g _) (setRow_heap w g _ _ _ _ hlook) (fun k hk => setRow_other w g k _ hk)
      have h3 := h2.perm (List.perm_middle (l₁ := L) (l₂ := H')).symm
      refine OwC.shut hlen hroom q2 ?_ ?_ h3
      · simp only [List.length_append, List.length_take, List.length_drop]
        rw [hl] at hfit ⊢
        simp only [List.size_toArray] at hfit
        omega
      · rw [show cur.toArray.toList.take (n * i.size) = cs from q4, ← hlen]
        exact List.take_left
    · have holds : ∀ j u, cs[j]? = some u → w.cell? ((⟨g, 0, none⟩ : Addr).add j) = some u := by
        intro j u hu
        have := OwC.cells (C := C) p j u hu L w hi
        simpa [base] using this
      have hr := run_append_grow (P := P) w T ty e i zv (SlT.of hT).u hi1 hi4 ⟨g, 0, none⟩ n cap cs hcl holds ⟨b0, o0, none⟩ m c0 news hl hnews (by omega) (by omega) (growslice_fits (by omega) hb)
      exact ⟨_, _, _, .inl (hrun _ _ hr), h _ _, grown cap hv.dropL⟩

/-- a store into an element of one cell of one's own slice -/
theorem WO.storeOw {e n i : Nat} {v u : Value} {cs : List Value} {H' : List HP} (hx : ev E x = some (.pointer (some (elt v i 1)))) (hy : ev E y = some u) (hT : C.tt.one? T = true) (h1 : u.oneCell' = true) (p : Pick (OwC e 1 v n cs) H H') (hl : i < cs.length)
    (h : WO C ops rest K E (OwC e 1 v n (cs.set i u) :: H')) : WO C ops (⟨none, .store T x y, ty, pos, af, none⟩ :: rest) K E H := by
  refine WO.step0 rfl rfl (XO.run (by simp) fun L a w hf hi => ?_)
  obtain ⟨hcl, hcase⟩ := OwC.open (hi.pickL p)
  rcases hcase with ⟨rfl, rfl, hv⟩ | ⟨g, cap, cur, rfl, q1, q2, q3, q4, hv⟩
  · simp at hcl; subst hcl; simp at hl
  · have hlook := (hv.look (b := g) (o := .cells cur.toArray e (0, 0)) ((Pick.head).app L)).1
    have ea : elt (.slice (some ⟨g, 0, none⟩) n cap) i 1 = ⟨g, i, none⟩ := by rw [elt_eq]; simp [base, Addr.add_lit]
    have hcl' : cs.length ≤ cur.length := by rw [hcl, q3]; omega
    have hu : u.cells = [u].toArray := by cases u <;> simp_all [Value.cells, Value.oneCell']
    obtain ⟨w', hr, a1, a2, a3, a4, a5, a6⟩ := run_storeVar_own (P := P) (T := T) (b := g) (off := i) (w := w) (cs := cur) hu (CT.of hT).size hlook (by simp; omega) (by simp [h1])
    refine ⟨undef, w', _, .inr ⟨?_, rfl⟩, h, ?_⟩
    · simp [execOp, hf.eval hx, hf.eval hy, ea, Instr.storeAt, Instr.sureAddr, hr]
    · have h2 := hv.set (b := g) (o := .cells cur.toArray e (0, 0)) (H' := L ++ H') Pick.mem a1 a2 a3 a4 a5 a6
      have h3 := h2.perm (List.perm_middle (l₁ := L) (l₂ := H')).symm
      refine OwC.shut (by simpa using hcl) q1 q2 (by simpa [wrl] using q3) ?_ h3
      simp only [wrl]
      rw [← q4, List.take_set]

/-- make: n elements, each of one cell -/
theorem WO.makeOw {e by' : Nat} {n : Nat} {zv : Value} {k k' : IntKind} (hT : C.tt.sl? T = some (e, 1, by')) (hz : C.tt.z? e = some zv) (h1 : zv.oneCell' = true) (hx : ev E x = some (.int k (n : Int))) (hy : ev E y = some (.int k' (n : Int)))
    (hb : by' * n ≤ 281474976710656) (h63 : n ≤ 9223372036854775807) (hN : Nat.blt d C.N = true)
    (h : ∀ b, WO C ops rest K ((d, .slice (some ⟨b, 0, none⟩) n n) :: E) (OwC e 1 (.slice (some ⟨b, 0, none⟩) n n) n (List.replicate n zv) :: H)) : WO C ops (⟨some d, .makeSlice T x y, ty, pos, af, none⟩ :: rest) K E H := by
  refine WO.step rfl rfl hN (XO.run (by simp) fun L a w hf hi => ?_)
  obtain ⟨i, hi1, hi2, hi3, hi4⟩ := sl_info hT hz
  have hzc : zv.cells = #[zv] := by cases zv <;> simp_all [Value.cells, Value.oneCell']
  have hb' : (i.bytes : Int) * (n : Int) ≤ 281474976710656 := by
    have : ((by' * n : Nat) : Int) ≤ 281474976710656 := by omega
    rw [hi3]; rwa [Int.natCast_mul] at this
  have hr := run_make (P := P) w T e i zv (SlT.of hT).u hi1 hi4 k k' n n (by omega) (Int.le_refl _) hb' (by omega)
  simp only [Int.toNat_natCast] at hr
  refine ⟨.slice (some ⟨w.heap.size, 0, none⟩) n n, w.alloc (.cells (madeCells zv.cells (n * i.size)) e), OwC e 1 (.slice (some ⟨w.heap.size, 0, none⟩) n n) n (List.replicate n zv) :: H, .inl ?_, h _, ?_⟩
  · simp only [execOp, hf.eval hx, hf.eval hy, Sem.run_bind, hr]; rfl
  · have h2 := hi.alloc' (.cells (madeCells zv.cells (n * i.size)) e)
    have em : madeCells zv.cells (n * i.size) = (List.replicate n zv).toArray := by
      rw [hi2, hzc]
      simp only [Nat.mul_one, madeCells]
      apply Array.ext
      · simp
      · intro j h1 h2
        simp [Nat.mod_one]
    rw [em] at h2 ⊢
    refine OwC.shut (by simp) (Nat.le_refl _) (by simpa [maxLen] using h63) (by simp) (by simp) h2
end rules
end
end Go.TH
