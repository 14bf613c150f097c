/-
  What is proved here: scopes, labels, slices of numbers that are made, and copy. Conditions: none; each rule states its own.
-/
import Derived.Test.YtgihklgpehfbpaaKp
import Derived.Laws.CopyRow
namespace Go.TH
open Go
section
variable {P : Program} {C : Cx P} {E : Env} {H : List HP}
theorem stepR_scope {b : Frame} {a : Act} {k : List Item} {cs : List Frame} {w : World} {c : Code} : step P (lone (b.atR a (.code (.scope c) :: k)) cs w) = .next (lone (b.atR a (.code c :: .inScope c :: k)) cs w) :=
  step_lone_go (by simp [stepG, stepG.exec, Frame.atR])
theorem stepR_inScope {b : Frame} {a : Act} {k : List Item} {cs : List Frame} {w : World} {c : Code} : step P (lone (b.atR a (.inScope c :: k)) cs w) = .next (lone (b.atR a k) cs w) :=
  step_lone_go (by simp [stepG, stepG.exec, Frame.atR])
/-- no jump out of it -/
@[reducible] def sco (Q : Post) : Post
  | .goto _ => fun _ _ => False
  | e => Q e
theorem W.scope {c : Code} {Q : Post} (h : W C c (sco Q) E H) : W C (.scope c) Q E H := by
  intro L ds a w hs b k cs hro hb hr
  obtain ⟨e, a₁, w₁, ⟨ds', E', H', hq, hs'⟩, harr⟩ := h L ds a w hs b (.inScope c :: k) cs hro hb hr
  cases e with
  | normal => exact ⟨.normal, a₁, w₁, ⟨ds', E', H', hq, hs'⟩, .of_steps (.one (fenced_calm hb hr rfl) stepR_scope) (StepsIn.trans harr (.one (fenced_calm hb hr rfl) stepR_inScope))⟩
  | exit id => exact ⟨.exit id, a₁, w₁, ⟨ds', E', H', hq, hs'⟩, .of_steps (.one (fenced_calm hb hr rfl) stepR_scope) ⟨fun k' hk => harr.1 k' (by simp [exitTo, hk]), fun hr' hk => harr.2 hr' (by simp [exitTo, hk])⟩⟩
  | goto l => exact hq.elim
  | ret => exact ⟨_, a₁, w₁, ⟨ds', E', H', hq, hs'⟩, .of_steps (.one (fenced_calm hb hr rfl) stepR_scope) harr⟩
  | panic ch => exact ⟨_, a₁, w₁, ⟨ds', E', H', hq, hs'⟩, .of_steps (.one (fenced_calm hb hr rfl) stepR_scope) harr⟩
  | outgrown => exact ⟨_, a₁, w₁, ⟨ds', E', H', hq, hs'⟩, .of_steps (.one (fenced_calm hb hr rfl) stepR_scope) harr⟩
theorem W.label {l : Nat} {Q : Post} (h : Q .normal E H) : W C (.label l) Q E H := fun _ ds _ _ hs => wpIn_label ⟨ds, E, H, h, hs⟩
/-- the memory tells of something that there is -/
theorem W.chgE {X : Type} {c : Code} {Q : Post} {p : X → Prop} {H' : X → List HP} (hi : ∀ h, sat H h → ∃ x, p x ∧ sat (H' x) h) (h : ∀ x, p x → W C c Q E (H' x)) : W C c Q E H := by
  intro L ds a w hs
  have hv := hs.inv
  obtain ⟨h1, h2, s, x, y⟩ := sat_app hv.mine
  obtain ⟨u, hu, y'⟩ := hi _ y
  exact h u hu L ds a w ⟨hs.defers, hs.fr, hv.os, hv.tape, hv.output, hv.size, hv.keep, sat_join s x y'⟩
/-- a pointer to a variable of one's own, if e is 0 -/
def PtrP (pv : Value) (e : Int) (cs : List Value) (t : TypeId) : HP := fun h => e = 0 → ∃ b, pv = .pointer (some ⟨b, 0, none⟩) ∧ pt b (.cells cs.toArray t (0, 0)) h
theorem PtrP.open {pv : Value} {e : Int} {cs : List Value} {t : TypeId} {H' : List HP} (p : Pick (PtrP pv e cs t) H H') (he : e = 0) : ∀ h, sat H h → ∃ b, pv = .pointer (some ⟨b, 0, none⟩) ∧ sat (pt b (.cells cs.toArray t (0, 0)) :: H') h := fun h hs => by
  obtain ⟨h1, h2, s, hp, hr⟩ := p.sat hs
  obtain ⟨b, e1, e2⟩ := hp he
  exact ⟨b, e1, h1, h2, s, e2, hr⟩
theorem PtrP.no {pv : Value} {e : Int} {cs : List Value} {t : TypeId} (he : e ≠ 0) : ∀ h, sat H h → sat (PtrP pv e cs t :: H) h := fun h hs => ⟨fun _ => none, h, split_none h, fun e0 => absurd e0 he, hs⟩
theorem PtrP.yes {b : Nat} {e : Int} {cs : List Value} {t : TypeId} {H' : List HP} (p : Pick (pt b (.cells cs.toArray t (0, 0))) H H') : ∀ h, sat H h → sat (PtrP (.pointer (some ⟨b, 0, none⟩)) e cs t :: H') h := fun h hs => by
  obtain ⟨h1, h2, s, hp, hr⟩ := p.sat hs
  exact ⟨h1, h2, s, fun _ => ⟨b, rfl, hp⟩, hr⟩
theorem W.keep {c : Code} {Q : Post} {H' : List HP} (s : Sub H H') (h : W C c Q E H') : W C c Q E H := W.chg (fun _ hs => s.sat hs) h
/-- a contract whose pieces are told by something that there is -/
theorem Ct.ofI {X : Type} {p : X → Value → Prop} {Hx : X → List HP} {f : FuncId} {fn : Func} {c : Code} {vs : List Value} {w : World} (hm : P.follows .mixedOrders = true) (tt : TTab P)
    (hf : P.funcs[f]? = some fn) (hb : fn.body = some c) (ha : Nat.ble vs.length fn.ntmps = true)
    (h : W (fnCx hm tt fn.ntmps w) c (fin (fnCx hm tt fn.ntmps w) fn (fun v H => ∃ x, p x v ∧ ∀ h, sat H h → sat (Hx x) h)) (enumE 0 vs) []) : Ct P f vs.toArray w fun v w' => ∃ Hq, (∃ x, p x v ∧ Hq = Hx x) ∧ Inv w [] Hq w' :=
  (Ct.of hm tt hf hb ha h).mono fun _ _ ⟨_, ⟨x, hp, hi⟩, hv⟩ => ⟨Hx x, ⟨x, hp, rfl⟩, Inv.chg (L := []) hv hi⟩
theorem OwC.cell1s {e n i : Nat} {v : Value} {cs : List Value} (s : Sub H [OwC e 1 v n cs]) (hl : i < cs.length) : Cell C H (elt v i 1) (cs.getD i undef) := by
  cases s with | cons p _ => exact OwC.cell1 p hl
theorem OwC.cell1g {e n i : Nat} {v u : Value} {cs : List Value} (s : Sub H [OwC e 1 v n cs]) (hu : cs[i]? = some u) : Cell C H (elt v i 1) u := by
  cases s with | cons p _ =>
  have := OwC.cell1 (C := C) (i := i) p (List.getElem?_eq_some_iff.1 hu).1
  rw [List.getD_eq_getElem?_getD, hu] at this
  exact this
theorem RowsE.cellsRow {α : Type} {enc : α → List Value} {e sz : Nat} {rv : List Value} {xss : List (List α)} {H' : List HP} {i : Nat} (p : Pick (RowsE enc e sz rv xss) H H') (hi : i < xss.length) : Cells C H (base (rv.getD i undef)) ((xss.getD i []).flatMap enc) := fun j v hv =>
  Cell.chg ((OwC.cells (C := C) (Pick.head (A := OwE enc e sz (rv.getD i undef) (xss.getD i [])))) j v hv) (p.rowIn hi)
variable {ops : Array Oper} {K : KP} {rest : List Oper} {d : Nat} {ty : TypeId} {pos : String} {af : Array Edge} {x y : Operand} {T : TypeId}
theorem rep_flat (n : Nat) : (List.replicate n (0 : Int)).flatMap encI = List.replicate n (.int .i64 0) := by
  induction n with
  | zero => rfl
  | succ n ih => rw [List.replicate_succ, List.flatMap_cons, ih, List.replicate_succ]; rfl
/-- numbers that are made -/
theorem WO.makeI {e by' : Nat} {n : Nat} {k k' : IntKind} (hT : C.tt.sl? T = some (e, 1, by')) (hz : C.tt.z? e = some (.int .i64 0)) (hx : ev E x = some (.int k (n : Int))) (hy : ev E y = some (.int k' (n : Int)))
    (hb : by' * n ≤ 281474976710656) (h63 : n ≤ 9223372036854775807) (hN : Nat.blt d C.N = true)
    (h : ∀ b, WO C ops rest K ((d, .slice (some ⟨b, 0, none⟩) n n) :: E) (OwE encI e 1 (.slice (some ⟨b, 0, none⟩) n n) (List.replicate n 0) :: H)) : WO C ops (⟨some d, .makeSlice T x y, ty, pos, af, none⟩ :: rest) K E H := by
  refine WO.makeOw hT hz rfl hx hy hb h63 hN fun b => ?_
  have := h b
  unfold OwE at this
  rw [rep_flat, List.length_replicate] at this
  exact this
theorem setRow_same {w : World} {g : Nat} {cur cur' : List Value} {t : TypeId} {fr : Nat × Nat} (h : w.heap[g]? = some (.cells cur.toArray t fr)) : (w.setRow g cur'.toArray).heap[g]? = some (.cells cur'.toArray t fr) := by
  obtain ⟨hlt, hv⟩ := Array.getElem?_eq_some_iff.1 h
  simp [World.setRow, hlt, Array.getElem_modify, hv]
theorem setRow_other {w : World} {g k : Nat} {cur' : List Value} (h : k ≠ g) : (w.setRow g cur'.toArray).heap[k]? = w.heap[k]? := by
  simp [World.setRow, Array.getElem?_modify, Ne.symm h]
/-- copy, of as many as there is room for -/
theorem WO.copyOw {e by' n : Nat} {v u : Value} {cs ws : List Value} {H' : List HP} (hT : C.tt.sl? T = some (e, 1, by')) (hx : ev E x = some v) (hy : ev E y = some u) (p : Pick (OwC e 1 v n cs) H H') (hS : IsSl u n) (hn : 0 < n)
    (hc : Cells C H (base u) ws) (hl : ws.length = n) (h1 : ∀ c ∈ ws, c.oneCell' = true) (hN : Nat.blt d C.N = true)
    (h : WO C ops rest K ((d, .int .i64 (n : Int)) :: E) (OwC e 1 v n ws :: H')) : WO C ops (⟨some d, .call ⟨.builtin .copy, #[x, y], #[T, T]⟩, ty, pos, af, none⟩ :: rest) K E H := by
  refine WO.step rfl rfl hN (XO.run (by simp) fun L a w hf hi => ?_)
  obtain ⟨hcl, hcase⟩ := OwC.open (hi.pickL p)
  rcases hcase with ⟨_, rfl, _⟩ | ⟨g, cap, cur, rfl, q1, q2, q3, q4, hv⟩
  · omega
  obtain ⟨_, ao, c, rfl, hao⟩ := hS
  obtain ⟨gg, oo, rfl⟩ := hao hn
  have hST := SlT.of hT
  have hlook := (hv.look (b := g) (o := .cells cur.toArray e (0, 0)) ((Pick.head).app L)).1
  have hmin : ws.length = Nat.min n n := by rw [hl]; exact (Nat.min_self n).symm
  have hrun := run_copy_row (P := P) w T T ty e g 0 n cap ⟨gg, oo, none⟩ n c cur.toArray e ws hST.u hST.size hlook hmin
    (fun j v' hj => by have := hc j v' hj L w hi; simpa [base] using this) (by simp [q3, hl]; omega) h1
  have hcur : ((cur.toArray.toList.take 0 ++ ws ++ cur.toArray.toList.drop (0 + ws.length)).toArray) = (ws ++ cur.drop n).toArray := by simp [hl]
  rw [hcur] at hrun
  refine ⟨_, w.setRow g (ws ++ cur.drop n).toArray, OwC e 1 (.slice (some ⟨g, 0, none⟩) n cap) n ws :: H', .inl ?_, h, ?_⟩
  · simp only [execOp, resolve, hf.eval hx, hf.eval hy]
    simp [hf.eval hx, hf.eval hy, Deferred.ofValue, invoke, builtin, hrun, goInt, hl]
  · have h2 := Inv.set (b := g) (o := .cells cur.toArray e (0, 0)) (o' := .cells (ws ++ cur.drop n).toArray e (0, 0)) (w' := w.setRow g (ws ++ cur.drop n).toArray) hv (Pick.mem) rfl rfl rfl (by simp [World.setRow]) (setRow_same hlook) (fun k hk => setRow_other hk)
    have h3 := h2.perm (List.perm_middle (l₁ := L) (l₂ := H')).symm
    exact OwC.shut (by simpa using hl) q1 q2 (by simp [q3, hl]; omega) (by simp [← hl]) h3
theorem WO.copyE {α : Type} {enc : α → List Value} {e by' : Nat} {v u : Value} {xs ys : List α} {H' : List HP} (he : EncOk enc 1) (hT : C.tt.sl? T = some (e, 1, by')) (hx : ev E x = some v) (hy : ev E y = some u) (p : Pick (OwE enc e 1 v xs) H H') (hS : IsSl u xs.length) (hn : 0 < xs.length)
    (hl : ys.length = xs.length) (hc : Cells C H (base u) (ys.flatMap enc)) (hN : Nat.blt d C.N = true)
    (h : WO C ops rest K ((d, .int .i64 (xs.length : Int)) :: E) (OwE enc e 1 v ys :: H')) : WO C ops (⟨some d, .call ⟨.builtin .copy, #[x, y], #[T, T]⟩, ty, pos, af, none⟩ :: rest) K E H := by
  refine WO.copyOw hT hx hy p hS hn hc (by rw [he.flat_len, hl]; omega) (fun c hc' => ?_) hN ?_
  · obtain ⟨x, _, hx'⟩ := List.mem_flatMap.1 hc'
    exact he.one x c hx'
  · unfold OwE at h; rw [hl] at h; exact h
end
end Go.TH
