/-
  What is proved here: calls, tests, and regions that draw their order (operations that each yield one value in whatever order, then a tail whose order is forced). Conditions: none; each rule states its own.
-/
import Derived.Test.YtgihklgpehfbpaaKe
namespace Go.TH
open Go
section
variable {P : Program} {C : Cx P} {E : Env} {H : List HP}

/-! ## Tests -/
theorem W.cond_bl {Q : Post} {c : Operand} {x y : Code} {p : Prop} [Decidable p] (hc : ev E c = some (.bool (bl p))) (ht : p → W C x Q E H) (hf : ¬ p → W C y Q E H) : W C (.cond c x y) Q E H :=
  W.cond hc (fun e => ht (bl_t.1 e)) (fun e => hf (bl_f.1 e))
theorem W.cond_nbl {Q : Post} {c : Operand} {x y : Code} {p : Prop} [Decidable p] (hc : ev E c = some (.bool (!(bl p)))) (ht : ¬ p → W C x Q E H) (hf : p → W C y Q E H) : W C (.cond c x y) Q E H :=
  W.cond hc (fun e => ht (bl_f.1 (by simpa using e))) (fun e => hf (bl_t.1 (by simpa using e)))
theorem W.cond_bl_t {Q : Post} {c : Operand} {x y : Code} {p : Prop} [Decidable p] (hc : ev E c = some (.bool (bl p))) (hp : p) (ht : W C x Q E H) : W C (.cond c x y) Q E H :=
  W.cond_bl hc (fun _ => ht) (fun h => absurd hp h)
theorem W.cond_bl_f {Q : Post} {c : Operand} {x y : Code} {p : Prop} [Decidable p] (hc : ev E c = some (.bool (bl p))) (hp : ¬ p) (hf : W C y Q E H) : W C (.cond c x y) Q E H :=
  W.cond_bl hc (fun h => absurd h hp) (fun _ => hf)
theorem WO.part_bl {ops : Array Oper} {K : KP} {l : List Oper} {dj : Nat} {p : Prop} [Decidable p] (hb : lk E dj = some (.bool (bl p)))
    (ht : p → WO C ops l K ((dj, .bool true) :: E) H) (hf : ¬ p → WO C ops l K ((dj, .bool false) :: E) H) : WO C ops l K E H :=
  WO.part hb (fun e => ht (bl_t.1 e)) (fun e => hf (bl_f.1 e))
theorem WO.part_nbl {ops : Array Oper} {K : KP} {l : List Oper} {dj : Nat} {p : Prop} [Decidable p] (hb : lk E dj = some (.bool (!(bl p))))
    (ht : ¬ p → WO C ops l K ((dj, .bool true) :: E) H) (hf : p → WO C ops l K ((dj, .bool false) :: E) H) : WO C ops l K E H :=
  WO.part hb (fun e => ht (bl_f.1 (by simpa using e))) (fun e => hf (bl_t.1 (by simpa using e)))

/-! ## Calls -/
/-- a contract that hands back one value and touches nothing -/
def Ret (P : Program) (f : FuncId) (args : Array Value) (w : World) (r : Value) : Prop := Ct P f args w fun v w' => ∃ Hq, (v = r ∧ Hq = []) ∧ Inv w [] Hq w'
section rules
variable {ops : Array Oper} {K : KP} {rest : List Oper} {d : Nat} {ty : TypeId} {pos : String} {af : Array Edge} {x : Operand} {xs : List Operand} {ats : Array TypeId} {f : FuncId} {vs : List Value}

theorem Inv.unown {w0 w : World} {M : List Nat} {H : List HP} (_h : Inv w0 M H w) : Inv w [] [] w := ⟨rfl, rfl, rfl, Nat.le_refl _, fun _ _ _ => rfl, trivial⟩
/-- no piece is handed over -/
theorem WO.call {Post : Value → List HP → Prop} (hxs : evs E xs = some vs) (hcall : ∀ (args : Array Value) (w : World), (callFunc f args).run P w = .ok (.enter f args) w)
    (hspec : ∀ (L : List HP) w, Inv C.w0 C.M (L ++ H) w → Ct P f vs.toArray w fun v w' => ∃ Hq, Post v Hq ∧ Inv w [] Hq w') (hN : Nat.blt d C.N = true)
    (h : ∀ v Hq, Post v Hq → WO C ops rest K ((d, v) :: E) (Hq ++ H)) : WO C ops (⟨some d, .call ⟨.value (.func f), xs.toArray, ats⟩, ty, pos, af, none⟩ :: rest) K E H := by
  refine WO.step rfl rfl hN (XO.callF (Hp := []) (Hr := H) (Post := Post) (first := #[]) (captured := #[]) rfl hxs hcall (Sub.refl _) (fun L w M' hi _ _ => ?_) h)
  have hc := hspec L w hi
  simp only [List.nil_append, Array.append_empty, Array.empty_append]
  refine hc.mono fun v w' ⟨Hq, hp, hi'⟩ => ⟨Hq, hp, ?_⟩
  exact ⟨hi'.os, hi'.tape, hi'.output, hi'.size, fun k hk _ => hi'.keep k hk (by simp), sat_sub Hq (fun k o ho => by
    unfold own at ho ⊢
    split at ho
    · cases ho
    · rename_i hn
      rw [if_neg (fun hh => hn ⟨hh.1, by simp⟩)]; exact ho) hi'.mine⟩
theorem WO.callR {r : Value} (hxs : evs E xs = some vs) (hcall : ∀ (args : Array Value) (w : World), (callFunc f args).run P w = .ok (.enter f args) w)
    (hspec : ∀ (L : List HP) w, Inv C.w0 C.M (L ++ H) w → Ret P f vs.toArray w r) (hN : Nat.blt d C.N = true)
    (h : WO C ops rest K ((d, r) :: E) H) : WO C ops (⟨some d, .call ⟨.value (.func f), xs.toArray, ats⟩, ty, pos, af, none⟩ :: rest) K E H :=
  WO.call hxs hcall hspec hN fun v Hq ⟨e1, e2⟩ => by subst e1; subst e2; exact h
end rules
/-- the context of a function that is handed no piece -/
def fnCx (hm : P.follows .mixedOrders = true) (tt : TTab P) (N : Nat) (w : World) : Cx P := ⟨none, N, w, [], w.heap.size, Nat.le_refl _, by simp, hm, tt⟩
theorem Ret.of_W {f : FuncId} {fn : Func} {c : Code} {args : Array Value} {w : World} {r : Value} {E : Env} (hm : P.follows .mixedOrders = true) (tt : TTab P)
    (hf : P.funcs[f]? = some fn) (hb : fn.body = some c) (ha : args.size ≤ fn.ntmps) (hE : ∀ t v, lk E t = some v → args[t]? = some v)
    (h : W (fnCx hm tt fn.ntmps w) c (fin (fnCx hm tt fn.ntmps w) fn (fun v _ => v = r)) E []) : Ret P f args w r := by
  have := Ct.of_W (M := []) (Hp := []) (Pst := fun v _ => v = r) (fnCx hm tt fn.ntmps w) rfl rfl rfl hf hb rfl ha hE h ⟨rfl, rfl, rfl, Nat.le_refl _, fun _ _ _ => rfl, trivial⟩
  exact this.mono fun v w' ⟨Hq, e, hi⟩ => ⟨[], ⟨e, rfl⟩, hi.sub .nil⟩

/-! ## Regions that draw their order -/
def afs (o : Oper) : List Nat := o.after.toList.filterMap fun e => if Region.binds .any e then some e.on else none
structure SE where
  ix : Nat
  d : Nat
  v : Value
/-- what an operation may look at: what it comes behind, and what lay there before -/
def selE (af : List Nat) (E0 : Env) : List SE → Env
  | [] => E0
  | s :: r => bif af.elem s.ix then (s.d, s.v) :: selE af E0 r else selE af E0 r
def allE (E0 : Env) : List SE → Env
  | [] => E0
  | s :: r => (s.d, s.v) :: allE E0 r
/-- the slots ds are struck -/
def delE (ds : List Nat) : Env → Env
  | [] => []
  | (k, v) :: r => bif ds.elem k then delE ds r else (k, v) :: delE ds r
theorem lk_delE {ds : List Nat} : ∀ {E : Env} {t : Nat} {v : Value}, lk (delE ds E) t = some v → lk E t = some v ∧ t ∉ ds
  | [], _, _, h => by simp [delE, lk] at h
  | (k, u) :: r, t, v, h => by
    simp only [delE] at h
    cases he : ds.elem k with
    | true =>
      rw [he] at h
      simp only [cond_true] at h
      obtain ⟨h1, h2⟩ := lk_delE h
      refine ⟨?_, h2⟩
      simp only [lk]
      cases hb : Nat.beq k t with
      | true => have := Nat.eq_of_beq_eq_true hb; subst this; exact absurd (by simpa using he) h2
      | false => simpa using h1
    | false =>
      rw [he] at h
      simp only [cond_false, lk] at h ⊢
      cases hb : Nat.beq k t with
      | true => rw [hb] at h; have := Nat.eq_of_beq_eq_true hb; subst this; exact ⟨by simpa using h, by simpa using he⟩
      | false => rw [hb] at h; simp only [cond_false] at h ⊢; exact lk_delE h
theorem lk_selE {af : List Nat} {E0 : Env} : ∀ {sp : List SE} {t : Nat} {u : Value}, lk (selE af E0 sp) t = some u → (∃ s ∈ sp, s.ix ∈ af ∧ s.d = t ∧ s.v = u) ∨ lk E0 t = some u
  | [], _, _, h => .inr h
  | s :: r, t, u, h => by
    simp only [selE] at h
    cases he : af.elem s.ix with
    | false => rw [he] at h; rcases lk_selE h with ⟨s', h1, h2⟩ | h1
               · exact .inl ⟨s', by simp [h1], h2⟩
               · exact .inr h1
    | true =>
      rw [he] at h
      simp only [cond_true, lk] at h
      cases hb : Nat.beq s.d t with
      | true => rw [hb] at h; exact .inl ⟨s, by simp, by simpa using he, Nat.eq_of_beq_eq_true hb, by simpa using h⟩
      | false =>
        rw [hb] at h
        rcases lk_selE h with ⟨s', h1, h2⟩ | h1
        · exact .inl ⟨s', by simp [h1], h2⟩
        · exact .inr h1
theorem lk_allE {E0 : Env} : ∀ {sp : List SE} {t : Nat} {u : Value}, lk (allE E0 sp) t = some u → (∃ s ∈ sp, s.d = t ∧ s.v = u) ∨ lk E0 t = some u
  | [], _, _, h => .inr h
  | s :: r, t, u, h => by
    simp only [allE, lk] at h
    cases hb : Nat.beq s.d t with
    | true => rw [hb] at h; exact .inl ⟨s, by simp, Nat.eq_of_beq_eq_true hb, by simpa using h⟩
    | false =>
      rw [hb] at h
      rcases lk_allE h with ⟨s', h1, h2⟩ | h1
      · exact .inl ⟨s', by simp [h1], h2⟩
      · exact .inr h1

/-- operation by operation: what each yields, from what it comes behind alone ('pre': those ahead of it, the last one first) -/
inductive Qu (C : Cx P) (ops : Array Oper) (E0 : Env) (H : List HP) : List SE → List Oper → List SE → Prop
  | nil {pre : List SE} : Qu C ops E0 H pre [] pre
  | cons {pre sp : List SE} {o : Oper} {l : List Oper} {v : Value} {d k : Nat} (hd : o.dst = some d) (hN : Nat.blt d C.N = true) (hk : pre.length = k)
      (h : WO C ops [o] (fun E' H' => E' = (d, v) :: selE (afs o) E0 pre ∧ H' = H) (selE (afs o) E0 pre) H) (r : Qu C ops E0 H (⟨k, d, v⟩ :: pre) l sp) : Qu C ops E0 H pre (o :: l) sp

theorem Qu.mem_pre {ops : Array Oper} {E0 : Env} {pre sp : List SE} {l : List Oper} (h : Qu C ops E0 H pre l sp) : ∀ s ∈ pre, s ∈ sp := by
  induction h with
  | nil => exact fun _ h => h
  | cons _ _ _ _ _ ih => exact fun s hs => ih s (by simp [hs])
theorem Qu.at {ops : Array Oper} {E0 : Env} {pre sp : List SE} {l : List Oper} (h : Qu C ops E0 H pre l sp) : ∀ (j : Nat) (o : Oper), l[j]? = some o → ∃ (pre' : List SE) (d : Nat) (v : Value), o.dst = some d ∧ Nat.blt d C.N = true ∧ ⟨pre.length + j, d, v⟩ ∈ sp ∧ (∀ s ∈ pre', s ∈ sp) ∧
    WO C ops [o] (fun E' H' => E' = (d, v) :: selE (afs o) E0 pre' ∧ H' = H) (selE (afs o) E0 pre') H := by
  induction h with
  | nil => intro j o h; simp at h
  | cons hd hN hk h r ih =>
    rename_i pre sp o l v d k
    intro j o' hj
    cases j with
    | zero =>
      simp at hj
      subst hj
      refine ⟨pre, d, v, hd, hN, ?_, fun s hs => r.mem_pre s (by simp [hs]), h⟩
      have := r.mem_pre ⟨k, d, v⟩ (by simp)
      rw [← hk] at this
      simpa using this
    | succ j =>
      obtain ⟨pre', d', v', h1, h2, h3, h4, h5⟩ := ih j o' (by simpa using hj)
      refine ⟨pre', d', v', h1, h2, ?_, h4, h5⟩
      have e : (⟨k, d, v⟩ :: pre : List SE).length + j = pre.length + (j + 1) := by simp; omega
      rw [e] at h3; exact h3
theorem Qu.sp {ops : Array Oper} {E0 : Env} {pre sp : List SE} {l : List Oper} (h : Qu C ops E0 H pre l sp) : ∀ s ∈ sp, s ∈ pre ∨ ∃ j o, l[j]? = some o ∧ o.dst = some s.d ∧ s.ix = pre.length + j := by
  induction h with
  | nil => exact fun s hs => .inl hs
  | cons hd hN hk h r ih =>
    rename_i pre sp o l v d k
    intro s hs
    rcases ih s hs with h1 | ⟨j, o', h1, h2, h3⟩
    · rcases List.mem_cons.1 h1 with rfl | h1
      · exact .inr ⟨0, o, rfl, hd, by simp [hk]⟩
      · exact .inl h1
    · exact .inr ⟨j + 1, o', by simpa using h1, h2, by simp at h3; omega⟩

theorem Qu.uniq {ops : Array Oper} {E0 : Env} {pre sp : List SE} {l : List Oper} (h : Qu C ops E0 H pre l sp) : (∀ s ∈ pre, s.ix < pre.length) → ∀ s s', s ∈ sp → s' ∈ sp → s.ix = s'.ix → pre.length ≤ s.ix → s = s' := by
  induction h with
  | nil => intro hp s s' h1 _ _ h4; have := hp s h1; omega
  | cons hd hN hk h r ih =>
    rename_i pre sp o l v d k
    intro hp s s' h1 h2 h3 h4
    have hp' : ∀ s ∈ (⟨k, d, v⟩ :: pre : List SE), s.ix < (⟨k, d, v⟩ :: pre : List SE).length := by
      intro s hs
      rcases List.mem_cons.1 hs with rfl | hs
      · simp [hk]
      · have := hp s hs; simp; omega
    rcases Nat.lt_or_ge pre.length s.ix with hlt | hge
    · exact ih hp' s s' h1 h2 h3 (by simp; omega)
    · have key : ∀ s ∈ sp, s.ix = pre.length → s = ⟨k, d, v⟩ := by
        intro s hs hx
        rcases r.sp s hs with h | ⟨j, _, _, _, h⟩
        · rcases List.mem_cons.1 h with rfl | h
          · rfl
          · have := hp s h; omega
        · simp at h; omega
      rw [key s h1 (by omega), key s' h2 (by omega)]

/-- the order of such a region, as a Bool: each operation waits only for earlier ones; those from m on for all earlier ones; no slot is written twice ahead of m -/
def drawOk (l : List Oper) (m : Nat) : Bool :=
  (l.zipIdx.all fun (o, i) => (afs o).all (Nat.blt · i)) && ((l.zipIdx.drop m).all fun (o, i) => (List.range i).all fun j => (afs o).elem j) &&
  ((l.take m).zipIdx.all fun (o, i) => (l.take m).zipIdx.all fun (o', j) => i == j || o.dst != o'.dst)
def dsts (l : List Oper) : List Nat := l.filterMap (·.dst)

theorem wpIn_put {F : Fence} {n : Nat} {o : Oper} {a : Act} {w : World} {K : Act → World → Prop} {Q : Exit → Act → World → Prop} (hh : o.wpIn F n P a w K Q) :
    o.wpIn F n P a w (fun a' w' => K a' w' ∧ ∃ u, a'.tmps = (a.put o.dst u).tmps) Q := by
  unfold Oper.wpIn at *
  refine ⟨hh.1, ?_⟩
  have hh := hh.2
  have e : ∀ (d : List Deferred) u, (({ a with defers := d } : Act).put o.dst u).tmps = (a.put o.dst u).tmps := fun d u => by cases o.dst <;> rfl
  generalize (o.semAt F.round a.eval).run P w = r at *
  cases r with
  | ok x w' =>
    cases x <;> simp only [Oper.uponIn] at hh ⊢ <;>
      first
        | exact ⟨hh, _, rfl⟩
        | exact ⟨hh, _, e _ _⟩
        | exact ⟨hh.1, CallsIn.mono hh.2 (fun e w'' he => by cases e <;> first | exact ⟨he, _, rfl⟩ | exact he)⟩
        | exact ⟨hh.1, RowsIn.mono hh.2 (fun _ _ he => ⟨he, _, rfl⟩)⟩
        | exact ⟨hh.1, RoundIn.mono hh.2 (fun e w'' he => by cases e <;> first | exact ⟨he, _, rfl⟩ | exact he)⟩
  | halt x w' => cases x <;> simp only [Oper.uponIn] at hh ⊢ <;> exact hh

theorem getD_set (ls : Array Bool) (i j : Nat) (hi : i < ls.size) : (ls.setIfInBounds i true).getD j true = (ls.getD j true || (i == j)) := by
  by_cases e : i = j
  · subst e; simp [Array.getD_eq_getD_getElem?, hi]
  · simp [Array.getD_eq_getD_getElem?, Array.getElem?_setIfInBounds_ne e, e]

theorem count_set : ∀ (ls : List Bool) (i : Nat), ls[i]? = some false → (ls.set i true).count false + 1 = ls.count false
  | [], i, h => by simp at h
  | b :: ls, 0, h => by simp at h; subst h; simp
  | b :: ls, i + 1, h => by
    have := count_set ls i (by simpa using h)
    simp only [List.set_cons_succ, List.count_cons]
    omega

theorem W.draw {Q : Post} {id : Nat} {l : List Oper} (m : Nat) {sp : List SE} (hchk : drawOk l m = true) (hq : Qu C l.toArray (delE (dsts (l.take m)) E) H [] (l.take m) sp)
    (ht : WO C l.toArray (l.drop m) (Q .normal) (allE (delE (dsts (l.take m)) E) sp) H) : W C (.region id l.toArray true) Q E H := by
  intro L ds a w hs
  refine wpIn_region_any C.mixed ?_
  simp only [drawOk, Bool.and_eq_true] at hchk
  obtain ⟨⟨hc1, hc2⟩, hc3⟩ := hchk
  have hc1 : ∀ i o, l[i]? = some o → ∀ j ∈ afs o, j < i := by
    intro i o hi j hj
    have := List.all_eq_true.1 hc1 (o, i) (by rw [List.mem_zipIdx_iff_getElem?]; simpa using hi)
    have := List.all_eq_true.1 this j hj
    exact Nat.blt_eq.mp this
  have hc2 : ∀ i o, m ≤ i → l[i]? = some o → ∀ j, j < i → j ∈ afs o := by
    intro i o hm hi j hj
    have hmem : (o, i) ∈ l.zipIdx.drop m := by
      refine List.mem_iff_getElem?.2 ⟨i - m, ?_⟩
      rw [List.getElem?_drop]
      have : m + (i - m) = i := by omega
      rw [this]; simp [hi]
    have := List.all_eq_true.1 hc2 (o, i) hmem
    have := List.all_eq_true.1 this j (by simpa using hj)
    simpa using this
  have hc3 : ∀ i j o o', i < m → j < m → l[i]? = some o → l[j]? = some o' → i ≠ j → o.dst ≠ o'.dst := by
    intro i j o o' him hjm hi hj hne
    have m1 : (o, i) ∈ (l.take m).zipIdx := by rw [List.mem_zipIdx_iff_getElem?]; simp [List.getElem?_take, him, hi]
    have m2 : (o', j) ∈ (l.take m).zipIdx := by rw [List.mem_zipIdx_iff_getElem?]; simp [List.getElem?_take, hjm, hj]
    have := List.all_eq_true.1 hc3 (o, i) m1
    have := List.all_eq_true.1 this (o', j) m2
    simp [hne] at this
    exact this
  have hn : l.toArray.size = l.length := by simp
  -- what each of the first ones writes
  have hsp : ∀ s ∈ sp, ∃ o, l[s.ix]? = some o ∧ o.dst = some s.d ∧ s.ix < m := by
    intro s hs'
    rcases hq.sp s hs' with h | ⟨j, o, h1, h2, h3⟩
    · cases h
    · simp at h3
      rw [List.getElem?_take] at h1
      split at h1
      · exact ⟨o, by rw [h3]; exact h1, h2, by omega⟩
      · cases h1
  let Q' : Exit → Act → World → Prop := fun e a' w' => ∃ ds' E' H', Q e E' H' ∧ St C L ds' E' H' a' w'
  -- the tail, one behind the other
  have tailQ : ∀ a w, (∃ ds, St C L ds (allE (delE (dsts (l.take m)) E) sp) H a w) → wpListIn C.F 0 P l.toArray Q' (l.drop m) a w := by
    rintro a w ⟨ds, hst⟩
    have := ht L ds a w hst
    have key : ∀ (k : List Oper) a w, wpListIn C.F 0 P l.toArray (fun e a' w' => ∃ ds' E' H', thn (Q .normal) (fun _ _ _ => False) e E' H' ∧ St C L ds' E' H' a' w') k a w → wpListIn C.F 0 P l.toArray Q' k a w := by
      intro k
      have hQ : ∀ e a' w', (∃ ds' E' H', thn (Q .normal) (fun _ _ _ => False) e E' H' ∧ St C L ds' E' H' a' w') → Q' e a' w' := by
        rintro e a' w' ⟨ds', E', H', q, s⟩
        cases e <;> first | exact ⟨ds', E', H', q, s⟩ | exact q.elim
      induction k with
      | nil => exact fun a w h => hQ _ _ _ h
      | cons o k ih =>
        intro a w h
        simp only [wpListIn] at h ⊢
        split
        · rename_i hw; rw [if_pos hw] at h; exact Oper.wpIn_mono2 (fun a w => ih a w) (fun e a w _ => hQ e a w) h
        · rename_i hw; rw [if_neg hw] at h; exact ⟨h.1, ih _ _ h.2⟩
    exact key _ a w this
  have hlist : ∀ i o a w, l[i]? = some o → wpListIn C.F 0 P l.toArray Q' (l.drop i) a w → wpOpIn C.F 0 P l.toArray Q' i (wpListIn C.F 0 P l.toArray Q' (l.drop (i + 1))) a w := by
    intro i o a w hi h
    have hd : l.drop i = o :: l.drop (i + 1) := by
      obtain ⟨hlt, rfl⟩ := List.getElem?_eq_some_iff.1 hi
      exact List.drop_eq_getElem_cons hlt
    rw [hd] at h
    simp only [wpListIn] at h
    simp only [wpOpIn, List.getElem?_toArray, hi]
    exact h
  have main : ∀ (fuel : Nat) (ls : Array Bool) (a : Act) (w : World), ls.size = l.length → ls.toList.count false ≤ fuel →
      (((∀ i, m ≤ i → i < l.length → ls.getD i true = false) ∧ (∃ ds, St C L ds (delE (dsts (l.take m)) E) H a w) ∧ ∀ s ∈ sp, ls.getD s.ix true = true → a.tmps[s.d]? = some s.v) ∨
       (∃ t, m < t ∧ (∀ i, i < l.length → ls.getD i true = Nat.blt i t) ∧ wpListIn C.F 0 P l.toArray Q' (l.drop t) a w)) →
      wpAnyIn C.F 0 P .any l.toArray Q' fuel ls a w := by
    intro fuel
    -- no operation is ready: all are listed
    have allDone : ∀ (ls : Array Bool), ls.size = l.length → Region.ready .any l.toArray ls = [] → ∀ i, i < l.length → ls.getD i true = true := by
      intro ls hsz hr i
      induction i using Nat.strongRecOn with
      | _ i ih =>
        intro hi
        cases hg : ls.getD i true with
        | true => rfl
        | false =>
          exfalso
          have : i ∈ Region.ready .any l.toArray ls := by
            refine mem_ready.2 ⟨hg, l[i], by simp [hi], fun e he hb => ?_⟩
            have hlt : e.on < i := hc1 i l[i] (by simp [hi]) _ (by
              simp only [afs, List.mem_filterMap]
              exact ⟨e, by simpa using he, by simp [hb]⟩)
            have := ih e.on hlt (by omega)
            have hs' : e.on < ls.size := by omega
            simp only [Array.getD_eq_getD_getElem?, Array.getElem?_eq_getElem hs', Option.getD_some] at this ⊢
            exact this
          rw [hr] at this
          cases this
    have finish : ∀ (ls : Array Bool) a w, ls.size = l.length → Region.ready .any l.toArray ls = [] →
        (((∀ i, m ≤ i → i < l.length → ls.getD i true = false) ∧ (∃ ds, St C L ds (delE (dsts (l.take m)) E) H a w) ∧ ∀ s ∈ sp, ls.getD s.ix true = true → a.tmps[s.d]? = some s.v) ∨
         (∃ t, m < t ∧ (∀ i, i < l.length → ls.getD i true = Nat.blt i t) ∧ wpListIn C.F 0 P l.toArray Q' (l.drop t) a w)) → Q' .normal a w := by
      intro ls a w hsz hr hS
      have hall := allDone ls hsz hr
      rcases hS with ⟨h1, ⟨ds, hst⟩, h3⟩ | ⟨t, h1, h2, h3⟩
      · have hm : l.length ≤ m := by
          rcases Nat.lt_or_ge m l.length with h | h
          · have e1 := h1 m (Nat.le_refl _) h
            rw [hall m h] at e1; cases e1
          · exact h
        have := tailQ a w ⟨ds, hst.defers, ⟨hst.fr.size, fun t u hu => ?_⟩, hst.inv⟩
        · rw [List.drop_eq_nil_of_le hm] at this; exact this
        · rcases lk_allE hu with ⟨s, hs1, rfl, rfl⟩ | hu
          · obtain ⟨o, ho, _, _⟩ := hsp s hs1
            exact h3 s hs1 (hall _ (List.getElem?_eq_some_iff.1 ho).1)
          · exact hst.fr.get t u hu
      · have : l.length ≤ t := by
          rcases Nat.lt_or_ge t l.length with h | h
          · have e1 := h2 t h
            rw [hall t h] at e1
            have := Nat.blt_eq.mp e1.symm
            omega
          · exact h
        rw [List.drop_eq_nil_of_le this] at h3; exact h3
    induction fuel with
    | zero =>
      intro ls a w hsz hcnt hS
      have hr : Region.ready .any l.toArray ls = [] := by
        cases hr : Region.ready .any l.toArray ls with
        | nil => rfl
        | cons i r =>
          have hi : i ∈ Region.ready .any l.toArray ls := by rw [hr]; simp
          obtain ⟨h1, o, h2, _⟩ := mem_ready.1 hi
          have hlt : i < ls.size := by
            rw [hsz]; have := (Array.getElem?_eq_some_iff.1 h2).1; simpa using this
          have : false ∈ ls.toList := by
            have e : ls[i]? = some false := by
              simp only [Array.getD_eq_getD_getElem?, Array.getElem?_eq_getElem hlt, Option.getD_some] at h1
              rw [Array.getElem?_eq_getElem hlt, h1]
            exact Array.mem_toList_iff.2 (Array.mem_of_getElem? e)
          have := List.count_pos_iff.2 this
          omega
      exact ⟨hr, finish ls a w hsz hr hS⟩
    | succ fuel ih =>
      intro ls a w hsz hcnt hS
      refine ⟨fun hr => finish ls a w hsz hr hS, fun i hi => ?_⟩
      obtain ⟨h1, o, ho, haf⟩ := mem_ready.1 hi
      have ho' : l[i]? = some o := by simpa using ho
      have hil : i < l.length := (List.getElem?_eq_some_iff.1 ho').1
      have his : i < ls.size := by omega
      have hcnt' : (ls.setIfInBounds i true).toList.count false ≤ fuel := by
        have e : ls.toList[i]? = some false := by
          simp only [Array.getD_eq_getD_getElem?, Array.getElem?_eq_getElem his, Option.getD_some] at h1
          simp [his, h1]
        have := count_set ls.toList i e
        rw [Array.toList_setIfInBounds]
        omega
      have hsz' : (ls.setIfInBounds i true).size = l.length := by simp [hsz]
      have hbefore : ∀ j, j ∈ afs o → ls.getD j true = true := by
        intro j hj
        simp only [afs, List.mem_filterMap] at hj
        obtain ⟨e, he, hb⟩ := hj
        split at hb
        · rename_i hb'
          simp at hb
          subst hb
          have hh := haf e (by simpa using he) hb'
          have hlt : e.on < ls.size := by
            have := hc1 i o ho' e.on (by simp only [afs, List.mem_filterMap]; exact ⟨e, he, by simp [hb']⟩)
            omega
          simp only [Array.getD_eq_getD_getElem?, Array.getElem?_eq_getElem hlt, Option.getD_some] at hh ⊢
          exact hh
        · cases hb
      -- the tail's step
      have tailStep : ∀ a w, (∀ j, j < i → ls.getD j true = true) → m ≤ i → (∀ j, i ≤ j → j < l.length → ls.getD j true = false) → wpListIn C.F 0 P l.toArray Q' (l.drop i) a w →
          wpOpIn C.F 0 P l.toArray Q' i (wpAnyIn C.F 0 P .any l.toArray Q' fuel (ls.setIfInBounds i true)) a w := by
        intro a w hlo hm hhi hw
        refine wpOpIn_mono (fun a' w' h' => ih _ a' w' hsz' hcnt' (.inr ⟨i + 1, by omega, fun j hj => ?_, h'⟩)) (hlist i o a w ho' hw)
        rw [getD_set ls i j his]
        rcases Nat.lt_trichotomy j i with h | h | h
        · rw [hlo j h]; have : Nat.blt j (i + 1) = true := Nat.blt_eq.mpr (by omega)
          rw [this]; rfl
        · subst h; have : Nat.blt j (j + 1) = true := Nat.blt_eq.mpr (by omega)
          rw [this]; simp
        · rw [hhi j (by omega) hj]
          have e1 : (i == j) = false := by simp; omega
          have e2 : Nat.blt j (i + 1) = false := by
            cases hb : Nat.blt j (i + 1) with
            | false => rfl
            | true => have := Nat.blt_eq.mp hb; omega
          rw [e1, e2]; rfl
      rcases hS with ⟨g1, ⟨ds0, hst⟩, g3⟩ | ⟨t, g1, g2, g3⟩
      · rcases Nat.lt_or_ge i m with him | him
        · -- one of the first
          obtain ⟨pre, d, v, hd, hN, hmem, hpre, hwo⟩ := hq.at i o (by rw [List.getElem?_take]; simp [him, ho'])
          simp only [List.length_nil, Nat.zero_add] at hmem
          have hdl : d ∈ dsts (l.take m) := by
            simp only [dsts, List.mem_filterMap]
            refine ⟨o, List.mem_iff_getElem?.2 ⟨i, by rw [List.getElem?_take]; simp [him, ho']⟩, hd⟩
          have hfr : Fr C.N (selE (afs o) (delE (dsts (l.take m)) E) pre) a := by
            refine ⟨hst.fr.size, fun t u hu => ?_⟩
            rcases lk_selE hu with ⟨s, hs1, hs2, rfl, rfl⟩ | hu
            · exact g3 s (hpre s hs1) (hbefore _ hs2)
            · exact hst.fr.get t u hu
          have hw := hwo L ds0 a w ⟨hst.defers, hfr, hst.inv⟩
          have next : ∀ a' w', (∃ ds' E' H', (E' = (d, v) :: selE (afs o) (delE (dsts (l.take m)) E) pre ∧ H' = H) ∧ St C L ds' E' H' a' w') → (∃ u, a'.tmps = (a.put o.dst u).tmps) →
              wpAnyIn C.F 0 P .any l.toArray Q' fuel (ls.setIfInBounds i true) a' w' := by
            rintro a' w' ⟨ds', E', H', ⟨rfl, rfl⟩, hst'⟩ ⟨u, hu⟩
            have hkeep : ∀ t, t ≠ d → a'.tmps[t]? = a.tmps[t]? := by
              intro t htd
              rw [hu, hd]
              simp [Act.put, Array.getElem?_setIfInBounds_ne (Ne.symm htd)]
            refine ih _ a' w' hsz' hcnt' (.inl ⟨fun j hj1 hj2 => ?_, ⟨ds', hst'.defers, ⟨hst'.fr.size, fun t u' hu' => ?_⟩, hst'.inv⟩, fun s hs1 hs2 => ?_⟩)
            · rw [getD_set ls i j his, g1 j hj1 hj2]
              have : (i == j) = false := by simp; omega
              rw [this]; rfl
            · have hne : t ≠ d := fun e => (lk_delE hu').2 (e ▸ hdl)
              rw [hkeep t hne]; exact hst.fr.get t u' hu'
            · by_cases e : s.ix = i
              · obtain ⟨o2, ho2, hd2, _⟩ := hsp s hs1
                rw [e, ho'] at ho2
                obtain rfl : o = o2 := by simpa using ho2
                have hdd : s.d = d := by rw [hd] at hd2; simpa using hd2.symm
                have hv : s.v = v := by
                  have := hq.uniq (by simp) s ⟨i, d, v⟩ hs1 hmem e (by simp)
                  rw [this]
                rw [hdd, hv]
                exact hst'.fr.get d v (by simp [lk])
              · have hl : ls.getD s.ix true = true := by
                  rw [getD_set ls i s.ix his] at hs2
                  have : (i == s.ix) = false := by simp; omega
                  rw [this] at hs2; simpa using hs2
                obtain ⟨o2, ho2, hd2, hm2⟩ := hsp s hs1
                have hne : s.d ≠ d := by
                  intro e2
                  exact hc3 s.ix i o2 o hm2 him ho2 ho' e (by rw [hd2, hd, e2])
                rw [hkeep _ hne]; exact g3 s hs1 hl
          simp only [wpListIn] at hw
          simp only [wpOpIn, ho]
          split
          · rename_i hwant
            rw [if_pos hwant] at hw
            refine Oper.wpIn_mono2 (fun a' w' h => ?_) (fun e a' w' hne h => ?_) (wpIn_put hw)
            · obtain ⟨⟨ds', E', H', q, s⟩, hu⟩ := h
              exact next a' w' ⟨ds', E', H', q, s⟩ hu
            · obtain ⟨ds', E', H', q, s⟩ := h
              cases e <;> first | exact q.elim | exact absurd rfl hne
          · rename_i hwant
            rw [if_neg hwant] at hw
            obtain ⟨hab, ds', E', H', q, s⟩ := hw
            exact ⟨hab, next _ w ⟨ds', E', H', q, s⟩ ⟨undef, rfl⟩⟩
        · -- the first of the tail
          have hlo : ∀ j, j < i → ls.getD j true = true := fun j hj => hbefore j (hc2 i o him ho' j hj)
          have e : i = m := by
            rcases Nat.lt_or_ge m i with h | h
            · have e1 := g1 m (Nat.le_refl _) (by omega)
              rw [hlo m h] at e1; cases e1
            · omega
          subst e
          refine tailStep a w hlo (Nat.le_refl _) (fun j hj1 hj2 => g1 j hj1 hj2) (tailQ a w ⟨ds0, hst.defers, ⟨hst.fr.size, fun t u hu => ?_⟩, hst.inv⟩)
          rcases lk_allE hu with ⟨s, hs1, rfl, rfl⟩ | hu
          · obtain ⟨o2, ho2, _, hm2⟩ := hsp s hs1
            exact g3 s hs1 (hlo _ hm2)
          · exact hst.fr.get t u hu
      · have hit : t ≤ i := by
          rcases Nat.lt_or_ge i t with h | h
          · have e1 := g2 i hil
            rw [h1, Nat.blt_eq.mpr h] at e1; cases e1
          · exact h
        have hlo : ∀ j, j < i → ls.getD j true = true := fun j hj => hbefore j (hc2 i o (by omega) ho' j hj)
        have e : i = t := by
          rcases Nat.lt_or_ge t i with h | h
          · have e1 := g2 t (by omega)
            rw [hlo t h] at e1
            have := Nat.blt_eq.mp e1.symm
            omega
          · omega
        subst e
        refine tailStep a w hlo (by omega) (fun j hj1 hj2 => ?_) g3
        rw [g2 j hj2]
        cases hb : Nat.blt j i with
        | false => rfl
        | true => have := Nat.blt_eq.mp hb; omega
  refine main _ _ a _ (by simp) (by simp) (.inl ⟨fun i _ hi => by simp [Array.getD_eq_getD_getElem?, hi], ⟨ds, hs.defers, hs.fr.weaken fun t v hv => (lk_delE hv).1, hs.inv.drawn⟩, fun s hs1 h => ?_⟩)
  obtain ⟨o, ho, _, _⟩ := hsp s hs1
  have := (List.getElem?_eq_some_iff.1 ho).1
  simp [Array.getD_eq_getD_getElem?, this] at h

/-- is operation k the guard of another one? -/
def isGuard (ops : Array Oper) (k : Nat) : Bool := ops.toList.any fun o => match o.guard with | some (j, _) => Nat.beq j k | none => false
/-- how many operations stand ahead of the first store -/
def drawM : List Oper → Nat
  | [] => 0
  | o :: l => match o.op with | .store .. => 0 | _ => drawM l + 1
/-- the first operations one by one, then the tail -/
def QT (C : Cx P) (ops : Array Oper) (E0 : Env) (H : List HP) (tail : List Oper) (K : KP) (pre : List SE) (l : List Oper) : Prop := ∃ sp, Qu C ops E0 H pre l sp ∧ WO C ops tail K (allE E0 sp) H
section
variable {ops : Array Oper} {E0 : Env} {tail : List Oper} {K : KP} {pre : List SE} {o : Oper} {l : List Oper} {d k : Nat}
theorem QT.nil (h : WO C ops tail K (allE E0 pre) H) : QT C ops E0 H tail K pre [] := ⟨pre, .nil, h⟩
theorem QT.cons {v : Value} (hd : o.dst = some d) (hN : Nat.blt d C.N = true) (hk : pre.length = k) (h : WO C ops [o] (fun E' H' => E' = (d, v) :: selE (afs o) E0 pre ∧ H' = H) (selE (afs o) E0 pre) H)
    (r : QT C ops E0 H tail K (⟨k, d, v⟩ :: pre) l) : QT C ops E0 H tail K pre (o :: l) :=
  let ⟨sp, q, w⟩ := r; ⟨sp, .cons hd hN hk h q, w⟩
theorem QT.consB {p : Prop} {_inst : Decidable p} (hd : o.dst = some d) (hN : Nat.blt d C.N = true) (hk : pre.length = k) (hg : isGuard ops k = true) (h : WO C ops [o] (fun E' H' => E' = (d, .bool (bl p)) :: selE (afs o) E0 pre ∧ H' = H) (selE (afs o) E0 pre) H)
    (ht : p → QT C ops E0 H tail K (⟨k, d, .bool true⟩ :: pre) l) (hf : ¬ p → QT C ops E0 H tail K (⟨k, d, .bool false⟩ :: pre) l) : QT C ops E0 H tail K pre (o :: l) := by
  by_cases hp : p
  · exact QT.cons hd hN hk (by rw [bl_t.2 hp] at h; exact h) (ht hp)
  · exact QT.cons hd hN hk (by rw [bl_f.2 hp] at h; exact h) (hf hp)
theorem QT.consNB {p : Prop} {_inst : Decidable p} (hd : o.dst = some d) (hN : Nat.blt d C.N = true) (hk : pre.length = k) (hg : isGuard ops k = true) (h : WO C ops [o] (fun E' H' => E' = (d, .bool (!(bl p))) :: selE (afs o) E0 pre ∧ H' = H) (selE (afs o) E0 pre) H)
    (ht : ¬ p → QT C ops E0 H tail K (⟨k, d, .bool true⟩ :: pre) l) (hf : p → QT C ops E0 H tail K (⟨k, d, .bool false⟩ :: pre) l) : QT C ops E0 H tail K pre (o :: l) := by
  by_cases hp : p
  · exact QT.cons hd hN hk (by rw [bl_t.2 hp] at h; exact h) (hf hp)
  · exact QT.cons hd hN hk (by rw [bl_f.2 hp] at h; exact h) (ht hp)
end
theorem W.drawQ {Q : Post} {id : Nat} {l : List Oper} (hchk : drawOk l (drawM l) = true) (h : QT C l.toArray (delE (dsts (l.take (drawM l))) E) H (l.drop (drawM l)) (Q .normal) [] (l.take (drawM l))) : W C (.region id l.toArray true) Q E H :=
  let ⟨_, q, w⟩ := h; W.draw (drawM l) hchk q w

/-- the arguments as facts on the frame -/
def enumE : Nat → List Value → Env
  | _, [] => []
  | k, v :: r => (k, v) :: enumE (k + 1) r
theorem lk_enumE : ∀ (vs : List Value) (k t : Nat) (v : Value), lk (enumE k vs) t = some v → k ≤ t ∧ vs[t - k]? = some v
  | [], _, _, _, h => by simp [enumE, lk] at h
  | u :: r, k, t, v, h => by
    simp only [enumE, lk] at h
    cases hb : Nat.beq k t with
    | true => rw [hb] at h; have := Nat.eq_of_beq_eq_true hb; subst this; simp at h; subst h; simp
    | false =>
      rw [hb] at h
      simp only [cond_false] at h
      obtain ⟨h1, h2⟩ := lk_enumE r (k + 1) t v h
      refine ⟨by omega, ?_⟩
      have : t - k = (t - (k + 1)) + 1 := by omega
      rw [this]; simpa using h2
theorem Ret.of {f : FuncId} {fn : Func} {c : Code} {vs : List Value} {w : World} {r : Value} (hm : P.follows .mixedOrders = true) (tt : TTab P)
    (hf : P.funcs[f]? = some fn) (hb : fn.body = some c) (ha : Nat.ble vs.length fn.ntmps = true)
    (h : W (fnCx hm tt fn.ntmps w) c (fin (fnCx hm tt fn.ntmps w) fn (fun v _ => v = r)) (enumE 0 vs) []) : Ret P f vs.toArray w r :=
  Ret.of_W hm tt hf hb (by simpa using Nat.ble_eq.mp ha) (fun t v hv => by
    have := lk_enumE vs 0 t v hv
    simpa using this.2) h
theorem Ct.of {f : FuncId} {fn : Func} {c : Code} {vs : List Value} {w : World} {Pst : Value → List HP → Prop} (hm : P.follows .mixedOrders = true) (tt : TTab P)
    (hf : P.funcs[f]? = some fn) (hb : fn.body = some c) (ha : Nat.ble vs.length fn.ntmps = true)
    (h : W (fnCx hm tt fn.ntmps w) c (fin (fnCx hm tt fn.ntmps w) fn Pst) (enumE 0 vs) []) : Ct P f vs.toArray w fun v w' => ∃ Hq, Pst v Hq ∧ Inv w [] Hq w' :=
  Ct.of_W (M := []) (Hp := []) (fnCx hm tt fn.ntmps w) rfl rfl rfl hf hb rfl (by simpa [fnCx] using Nat.ble_eq.mp ha) (fun t v hv => by
    have := lk_enumE vs 0 t v hv
    simpa using this.2) h ⟨rfl, rfl, rfl, Nat.le_refl _, fun _ _ _ => rfl, trivial⟩

section
variable {ops : Array Oper} {K : KP} {dst : Option Tmp} {op : Op} {ty : TypeId} {pos : String} {af : Array Edge} {rest : List Oper} {j dj : Nat} {want : Bool} {p : Prop} [Decidable p]
/-- the test that guards the operation at hand is parted on -/
theorem WO.guard_bl (hj : (ops[j]?).bind (·.dst) = some dj) (hb : lk E dj = some (.bool (bl p)))
    (ht : p → WO C ops (⟨dst, op, ty, pos, af, some (j, want)⟩ :: rest) K ((dj, .bool true) :: E) H) (hf : ¬ p → WO C ops (⟨dst, op, ty, pos, af, some (j, want)⟩ :: rest) K ((dj, .bool false) :: E) H) : WO C ops (⟨dst, op, ty, pos, af, some (j, want)⟩ :: rest) K E H :=
  WO.part_bl hb ht hf
theorem WO.guard_b {b : Bool} (hj : (ops[j]?).bind (·.dst) = some dj) (hb : lk E dj = some (.bool b))
    (ht : b = true → WO C ops (⟨dst, op, ty, pos, af, some (j, want)⟩ :: rest) K ((dj, .bool true) :: E) H) (hf : b = false → WO C ops (⟨dst, op, ty, pos, af, some (j, want)⟩ :: rest) K ((dj, .bool false) :: E) H) : WO C ops (⟨dst, op, ty, pos, af, some (j, want)⟩ :: rest) K E H :=
  WO.part hb ht hf
theorem WO.guard_nbl (hj : (ops[j]?).bind (·.dst) = some dj) (hb : lk E dj = some (.bool (!(bl p))))
    (ht : ¬ p → WO C ops (⟨dst, op, ty, pos, af, some (j, want)⟩ :: rest) K ((dj, .bool true) :: E) H) (hf : p → WO C ops (⟨dst, op, ty, pos, af, some (j, want)⟩ :: rest) K ((dj, .bool false) :: E) H) : WO C ops (⟨dst, op, ty, pos, af, some (j, want)⟩ :: rest) K E H :=
  WO.part_nbl hb ht hf
end
end

end Go.TH
