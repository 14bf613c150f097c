/-
  What is proved here: the rules of a small program logic for memory, slices and calls. Conditions: none; each rule states its own.
-/
import Derived.Test.YtgihklgpehfbpaaKb
namespace Go.TH
open Go
section
variable {P : Program} {C : Cx P} {E : Env} {H : List HP}

/-- in each world of these pieces the cell p holds v -/
def Cell (C : Cx P) (H : List HP) (p : Addr) (v : Value) : Prop := ∀ (L : List HP) w, Inv C.w0 C.M (L ++ H) w → w.cell? p = some v
/-- the element at a place: by the list's own shape -/
def lget : List Value → Nat → Option Value
  | [], _ => none
  | v :: _, 0 => some v
  | _ :: r, n + 1 => lget r n
theorem lget_eq : ∀ (l : List Value) (n : Nat), lget l n = l[n]?
  | [], _ => by simp [lget]
  | _ :: _, 0 => by simp [lget]
  | _ :: r, n + 1 => by simp [lget, lget_eq r n]
theorem Cell.own {b : Nat} {cs : List Value} {t : TypeId} {fr : Nat × Nat} {H' : List HP} {off : Nat} {v : Value} (p : Pick (pt b (.cells cs.toArray t fr)) H H') (hv : lget cs off = some v) : Cell C H ⟨b, off, none⟩ v := by
  intro L w hi
  have h1 := (hi.look (p.app L)).1
  rw [lget_eq] at hv
  simp [World.cell?, h1, hv]
theorem Cell.old {p : Addr} {v : Value} (hb : p.block < C.B) (h : C.w0.cell? p = some v) : Cell C H p v := by
  intro L w hi
  have : w.heap[p.block]? = C.w0.heap[p.block]? := hi.keep _ (Nat.lt_of_lt_of_le hb C.hB) (fun hm => by have := C.hM _ hm; omega)
  rw [← h]
  simp only [World.cell?, this]
/-- n cells from p on -/
def Cells (C : Cx P) (H : List HP) (p : Addr) (vs : List Value) : Prop := ∀ j v, vs[j]? = some v → Cell C H (p.add j) v
theorem Cells.two {p : Addr} {u v : Value} (h0 : Cell C H p u) (h1 : Cell C H (p.add 1) v) : Cells C H p [u, v] := by
  intro j x hx
  match j with
  | 0 => simp at hx; subst hx; simpa [Addr.add] using h0
  | 1 => simp at hx; subst hx; exact h1
  | j + 2 => simp at hx
theorem Cells.own {b : Nat} {cs : List Value} {t : TypeId} {fr : Nat × Nat} {H' : List HP} (p : Pick (pt b (.cells cs.toArray t fr)) H H') : Cells C H ⟨b, 0, none⟩ cs := by
  intro j v hv
  have : (Addr.add ⟨b, 0, none⟩ j) = ⟨b, j, none⟩ := by unfold Addr.add; split <;> simp_all
  rw [this]
  exact Cell.own p (by rw [lget_eq]; exact hv)
theorem Cells.ownAt {b off n : Nat} {cs vs : List Value} {t : TypeId} {fr : Nat × Nat} {H' : List HP} (p : Pick (pt b (.cells cs.toArray t fr)) H H') (h : (cs.drop off).take n = vs) : Cells C H ⟨b, off, none⟩ vs := by
  intro j v hv
  have : (Addr.add ⟨b, off, none⟩ j) = ⟨b, off + j, none⟩ := by unfold Addr.add; split <;> simp_all
  rw [this]
  refine Cell.own p ?_
  rw [lget_eq]
  subst h
  rw [List.getElem?_take] at hv
  split at hv
  · rw [List.getElem?_drop] at hv; simpa using hv
  · cases hv

section rules
variable {ops : Array Oper} {K : KP} {rest : List Oper} {d : Nat} {ty : TypeId} {pos : String} {af : Array Edge} {x y z : Operand} {T T' : TypeId}

theorem WO.load {p : Addr} {v : Value} (hx : ev E x = some (.pointer (some p))) (hT : C.tt.one? T = true) (hc : Cell C H p v) (hN : Nat.blt d C.N = true) (h : WO C ops rest K ((d, v) :: E) H) : WO C ops (⟨some d, .load T x, ty, pos, af, none⟩ :: rest) K E H :=
  WO.pure v (by simp) (fun L a w hf hi => by simp [execOp, hf.eval hx, Instr.loadAt, Instr.sureAddr, run_loadVar1 (CT.of hT) (hc L w hi)]) hN h
theorem WO.loadA {p : Addr} {n : Nat} {vs : List Value} (hx : ev E x = some (.pointer (some p))) (hT : C.tt.ag? T = some n) (hc : Cells C H p vs) (hl : vs.length = n) (hN : Nat.blt d C.N = true) (h : WO C ops rest K ((d, .agg vs.toArray) :: E) H) : WO C ops (⟨some d, .load T x, ty, pos, af, none⟩ :: rest) K E H :=
  WO.pure _ (by simp) (fun L a w hf hi => by simp [execOp, hf.eval hx, Instr.loadAt, Instr.sureAddr, run_loadVarA (AT.of hT) hl (fun j v hv => hc j v hv L w hi)]) hN h

theorem Inv.alloc' {w0 : World} {M : List Nat} {L H : List HP} {w : World} (h : Inv w0 M (L ++ H) w) (o : Obj) : Inv w0 M (L ++ pt w.heap.size o :: H) (w.alloc o) := by
  have h1 := h.alloc o
  refine h1.sub ?_
  have : ∀ (L' : List HP), Sub (pt w.heap.size o :: (L' ++ H)) (L' ++ pt w.heap.size o :: H) := by
    intro L'
    induction L' with
    | nil => exact Sub.refl _
    | cons A L' ih => exact .cons (.tail .head) ih
  exact this L

theorem WO.boxA {cs : Array Value} (hx : ev E x = some (.agg cs)) (hN : Nat.blt d C.N = true) (h : ∀ b, C.w0.heap.size ≤ b → WO C ops rest K ((d, .pointer (some ⟨b, 0, none⟩)) :: E) (pt b (.cells cs T (0, 0)) :: H)) : WO C ops (⟨some d, .box T x, ty, pos, af, none⟩ :: rest) K E H :=
  WO.step rfl rfl hN (XO.run (by simp) fun L a w hf hi => ⟨_, w.alloc (.cells cs T), _, .inl (by simp [execOp, hf.eval hx, Instr.box, newVar, newRow, Value.cells]), h _ hi.size, hi.alloc' _⟩)
theorem WO.box1 {v : Value} (hx : ev E x = some v) (hv : v.oneCell' = true) (hN : Nat.blt d C.N = true) (h : ∀ b, C.w0.heap.size ≤ b → WO C ops rest K ((d, .pointer (some ⟨b, 0, none⟩)) :: E) (pt b (.cells #[v] T (0, 0)) :: H)) : WO C ops (⟨some d, .box T x, ty, pos, af, none⟩ :: rest) K E H :=
  WO.step rfl rfl hN (XO.run (by simp) fun L a w hf hi => ⟨_, w.alloc (.cells #[v] T), _, .inl (by
    have hc : v.cells = #[v] := by cases v <;> simp_all [Value.cells, Value.oneCell']
    simp [execOp, hf.eval hx, Instr.box, newVar, newRow, hc]), h _ hi.size, hi.alloc' _⟩)
theorem WO.alloc {z : Value} {cs : Array Value} (hz : C.tt.z? T = some z) (hc : z.cells = cs) (hN : Nat.blt d C.N = true) (h : ∀ b, C.w0.heap.size ≤ b → WO C ops rest K ((d, .pointer (some ⟨b, 0, none⟩)) :: E) (pt b (.cells cs T (0, 0)) :: H)) : WO C ops (⟨some d, .alloc T, ty, pos, af, none⟩ :: rest) K E H :=
  WO.step rfl rfl hN (XO.run (by simp) fun L a w hf hi => ⟨_, w.alloc (.cells cs T), _, .inl (by
    simp [execOp, Instr.alloc, run_zeroValue (ZT.of hz).zero, newVar, newRow, hc]), h _ hi.size, hi.alloc' _⟩)

theorem setCell_heap_same {w : World} {b off : Nat} {cs : Array Value} {t : TypeId} {fr : Nat × Nat} (v : Value) (h : w.heap[b]? = some (.cells cs t fr)) : (w.setCell ⟨b, off, none⟩ v).heap[b]? = some (.cells (cs.setIfInBounds off v) t fr) := by
  simp [World.setCell, Array.getElem?_modify, h]
theorem setCell_heap_other {w : World} {b off k : Nat} (v : Value) (h : k ≠ b) : (w.setCell ⟨b, off, none⟩ v).heap[k]? = w.heap[k]? := RowKit.Below.heap_setCell w ⟨b, off, none⟩ v k h

/-- cells written one behind the other -/
def wrl : List Value → Nat → List Value → List Value
  | cs, _, [] => cs
  | cs, i, v :: r => wrl (cs.set i v) (i + 1) r
theorem wrl_length : ∀ (vs cs : List Value) (i : Nat), (wrl cs i vs).length = cs.length
  | [], _, _ => rfl
  | v :: r, cs, i => by simp [wrl, wrl_length r]
theorem wrl_eq : ∀ (vs pre cs : List Value), vs.length ≤ cs.length → wrl (pre ++ cs) pre.length vs = pre ++ vs ++ cs.drop vs.length
  | [], pre, cs, _ => by simp [wrl]
  | v :: r, pre, [], h => by simp at h
  | v :: r, pre, c :: cs, h => by
    have h' : r.length ≤ cs.length := by simpa using h
    have := wrl_eq r (pre ++ [v]) cs h'
    simp only [wrl]
    have e : (pre ++ c :: cs).set pre.length v = (pre ++ [v]) ++ cs := by simp
    rw [e]
    simpa using this
theorem wrl_all {vs cs : List Value} (h : cs.length = vs.length) : wrl cs 0 vs = vs := by
  have := wrl_eq vs [] cs (by omega)
  simp at this
  rw [this, List.drop_eq_nil_of_le (by omega)]; simp

theorem run_storeCells_own {b off : Nat} {t : TypeId} : ∀ (vs : List Value) (i : Nat) (w : World) (cs : List Value), w.heap[b]? = some (.cells cs.toArray t (0, 0)) → off + i + vs.length ≤ cs.length → (∀ v ∈ vs, v.oneCell' = true) →
    ∃ w', (storeCells ⟨b, off, none⟩ vs i).run P w = .ok () w' ∧ w'.os = w.os ∧ w'.tape = w.tape ∧ w'.output = w.output ∧ w'.heap.size = w.heap.size ∧
      w'.heap[b]? = some (.cells (wrl cs (off + i) vs).toArray t (0, 0)) ∧ ∀ k, k ≠ b → w'.heap[k]? = w.heap[k]?
  | [], i, w, cs, h, _, _ => ⟨w, by simp [storeCells], rfl, rfl, rfl, rfl, h, fun _ _ => rfl⟩
  | v :: r, i, w, cs, h, hl, h1 => by
    have ea : (Addr.add ⟨b, off, none⟩ i) = ⟨b, off + i, none⟩ := by unfold Addr.add; split <;> simp_all
    have hlt : off + i < cs.length := by simp at hl; omega
    have hcell : w.cell? ⟨b, off + i, none⟩ = some cs[off + i] := by simp [World.cell?, h, hlt]
    have hfr : w.frozen? ⟨b, off + i, none⟩ = false := by simp [World.frozen?, h]
    have hw1 : (w.setCell ⟨b, off + i, none⟩ v).heap[b]? = some (.cells (cs.set (off + i) v).toArray t (0, 0)) := by
      rw [setCell_heap_same v h]; simp
    obtain ⟨w', hr, a1, a2, a3, a4, a5, a6⟩ := run_storeCells_own (off := off) r (i + 1) (w.setCell ⟨b, off + i, none⟩ v) (cs.set (off + i) v) hw1 (by simp at hl ⊢; omega) (fun u hu => h1 u (by simp [hu]))
    refine ⟨w', ?_, a1, a2, a3, ?_, ?_, fun k hk => ?_⟩
    · simp only [storeCells, Sem.run_bind, ea]
      rw [run_store P w _ v _ (h1 v (by simp))]
      simp only [hcell, hfr]
      simpa using hr
    · rw [a4]; simp
    · rw [a5]; simp [wrl, Nat.add_assoc]
    · rw [a6 k hk, setCell_heap_other v hk]

theorem run_storeVar_own {b off : Nat} {t : TypeId} {w : World} {cs : List Value} {v : Value} {vs : List Value} (hv : v.cells = vs.toArray) (hs : szv P T = some vs.length) (h : w.heap[b]? = some (.cells cs.toArray t (0, 0))) (hl : off + vs.length ≤ cs.length) (h1 : ∀ v ∈ vs, v.oneCell' = true) :
    ∃ w', (storeVar T ⟨b, off, none⟩ v).run P w = .ok () w' ∧ w'.os = w.os ∧ w'.tape = w.tape ∧ w'.output = w.output ∧ w'.heap.size = w.heap.size ∧
      w'.heap[b]? = some (.cells (wrl cs off vs).toArray t (0, 0)) ∧ ∀ k, k ≠ b → w'.heap[k]? = w.heap[k]? := by
  obtain ⟨w', hr, r⟩ := run_storeCells_own (P := P) (off := off) vs 0 w cs h (by omega) h1
  refine ⟨w', ?_, r⟩
  simp only [storeVar, Sem.run_bind, run_sizeOf hs, Result.andThen_ok, hv]
  simpa using hr

theorem XO.store {b off : Nat} {t : TypeId} {cs : List Value} {v : Value} {vs : List Value} {H' : List HP} {X : Value → List HP → Prop} (hx : ev E x = some (.pointer (some ⟨b, off, none⟩))) (hy : ev E y = some v) (hv : v.cells = vs.toArray) (hs : szv P T = some vs.length) (p : Pick (pt b (.cells cs.toArray t (0, 0))) H H') (hl : off + vs.length ≤ cs.length) (h1 : ∀ v ∈ vs, v.oneCell' = true)
    (h : X undef (pt b (.cells (wrl cs off vs).toArray t (0, 0)) :: H')) : XO C ⟨none, .store T x y, ty, pos, af, none⟩ X E H :=
  XO.run (by simp) fun L a w hf hi => by
    obtain ⟨w', hr, a1, a2, a3, a4, a5, a6⟩ := run_storeVar_own (P := P) hv hs (hi.look (p.app L)).1 hl h1
    refine ⟨undef, w', _, .inr ⟨?_, rfl⟩, h, ?_⟩
    · simp [execOp, hf.eval hx, hf.eval hy, Instr.storeAt, Instr.sureAddr, hr]
    · have := hi.set (p.app L) a1 a2 a3 a4 a5 a6
      refine this.sub ?_
      have : ∀ (L' : List HP) (A : HP), Sub (A :: (L' ++ H')) (L' ++ A :: H') := by
        intro L' A
        induction L' with
        | nil => exact Sub.refl _
        | cons B L' ih => exact .cons (.tail .head) ih
      exact this L _

/-- a store of a value of one cell -/
theorem WO.store1 {b off : Nat} {t : TypeId} {cs : List Value} {v : Value} {H' : List HP} (hx : ev E x = some (.pointer (some ⟨b, off, none⟩))) (hy : ev E y = some v) (hT : C.tt.one? T = true) (h1 : v.oneCell' = true) (p : Pick (pt b (.cells cs.toArray t (0, 0))) H H') (hl : Nat.blt off cs.length = true)
    (h : WO C ops rest K E (pt b (.cells (cs.set off v).toArray t (0, 0)) :: H')) : WO C ops (⟨none, .store T x y, ty, pos, af, none⟩ :: rest) K E H :=
  WO.step0 rfl rfl (XO.store (vs := [v]) hx hy (by cases v <;> simp_all [Value.cells, Value.oneCell']) (CT.of hT).size p (by simp; have := Nat.blt_eq.mp hl; omega) (by simp [h1]) h)
/-- a store of a whole struct or array into a whole block -/
theorem WO.storeA {b n : Nat} {t : TypeId} {cs vs : List Value} {H' : List HP} (hx : ev E x = some (.pointer (some ⟨b, 0, none⟩))) (hy : ev E y = some (.agg vs.toArray)) (hT : C.tt.ag? T = some n) (hn : vs.length = n) (p : Pick (pt b (.cells cs.toArray t (0, 0))) H H') (hl : cs.length = n) (h1 : vs.all (·.oneCell') = true)
    (h : WO C ops rest K E (pt b (.cells vs.toArray t (0, 0)) :: H')) : WO C ops (⟨none, .store T x y, ty, pos, af, none⟩ :: rest) K E H :=
  WO.step0 rfl rfl (XO.store (vs := vs) hx hy (by simp [Value.cells]) (by rw [(AT.of hT).size, hn]) p (by omega) (by simpa using h1) (by rw [wrl_all (by omega)]; exact h))
/-- a store of a struct or array into a part of a block -/
theorem WO.storeP {b off n : Nat} {t : TypeId} {cs vs : List Value} {H' : List HP} (hx : ev E x = some (.pointer (some ⟨b, off, none⟩))) (hy : ev E y = some (.agg vs.toArray)) (hT : C.tt.ag? T = some n) (hn : vs.length = n) (p : Pick (pt b (.cells cs.toArray t (0, 0))) H H') (hl : off + n ≤ cs.length) (h1 : vs.all (·.oneCell') = true)
    (h : WO C ops rest K E (pt b (.cells (wrl cs off vs).toArray t (0, 0)) :: H')) : WO C ops (⟨none, .store T x y, ty, pos, af, none⟩ :: rest) K E H :=
  WO.step0 rfl rfl (XO.store (vs := vs) hx hy (by simp [Value.cells]) (by rw [(AT.of hT).size, hn]) p (by omega) (by simpa using h1) h)

/-- where a slice begins -/
def base (v : Value) : Addr := match v with | .slice (some a) _ _ => a | _ => ⟨0, 0, none⟩
/-- the address of element i (of sz cells) of the slice v; a part of what lies at an address -/
@[irreducible] def elt (v : Value) (i : Nat) (sz : Nat) : Addr := (base v).add (i * sz)
@[irreducible] def prt (p : Addr) (fo : Nat) : Addr := p.add fo
theorem elt_eq (v : Value) (i : Nat) (sz : Nat) : elt v i sz = (base v).add (i * sz) := by unfold elt; rfl
theorem prt_eq (p : Addr) (fo : Nat) : prt p fo = p.add fo := by unfold prt; rfl
/-! ### Addresses of parts -/
theorem run_fieldAt {f fo ft : Nat} {w : World} {p : Addr} (hT : FT P T f fo ft) : (Instr.fieldAt T (.pointer (some p)) f).run P w = .ok (.pointer (some (p.add fo))) w := by
  have h := hT.at_
  unfold fieldOf at h
  cases hu : P.underlying T with
  | none => simp [hu] at h
  | some d =>
    cases d <;> simp [hu] at h
    rename_i fs
    obtain ⟨x, hx, rfl, rfl⟩ := h
    have hs := hT.size
    cases hz : szv P x.type with
    | none => simp [hz] at hs
    | some n =>
      simp [hz] at hs
      have hn : n ≠ 0 := by
        intro e; subst e; simp at hs
      simp only [Instr.fieldAt, Sem.run_bind, run_underlying hu, Result.andThen_ok, hx, Instr.sureAddr]
      simp [fieldPlace, run_sizeOf hz, hn]
theorem WO.field0 {f ft : Nat} {p : Addr} (hT : C.tt.fd? T f = some (0, ft)) (hx : ev E x = some (.pointer (some p))) (hN : Nat.blt d C.N = true) (h : WO C ops rest K ((d, .pointer (some p)) :: E) H) : WO C ops (⟨some d, .fieldAddr T x f, ty, pos, af, none⟩ :: rest) K E H :=
  WO.pure _ (by simp) (fun L a w hf hi => by simp [execOp, hf.eval hx, run_fieldAt (FT.of hT), Addr.add]) hN h
theorem WO.fieldL {f fo ft b off : Nat} (hT : C.tt.fd? T f = some (fo, ft)) (hx : ev E x = some (.pointer (some ⟨b, off, none⟩))) (hN : Nat.blt d C.N = true) (h : WO C ops rest K ((d, .pointer (some ⟨b, off + fo, none⟩)) :: E) H) : WO C ops (⟨some d, .fieldAddr T x f, ty, pos, af, none⟩ :: rest) K E H :=
  WO.pure _ (by simp) (fun L a w hf hi => by
    have : (Addr.add ⟨b, off, none⟩ fo) = ⟨b, off + fo, none⟩ := by unfold Addr.add; split <;> simp_all
    simp [execOp, hf.eval hx, run_fieldAt (FT.of hT), this]) hN h
theorem WO.field {f fo ft : Nat} {p : Addr} (hT : C.tt.fd? T f = some (fo, ft)) (hx : ev E x = some (.pointer (some p))) (hN : Nat.blt d C.N = true) (h : WO C ops rest K ((d, .pointer (some (prt p fo))) :: E) H) : WO C ops (⟨some d, .fieldAddr T x f, ty, pos, af, none⟩ :: rest) K E H :=
  WO.pure _ (by simp) (fun L a w hf hi => by simp [execOp, hf.eval hx, run_fieldAt (FT.of hT), prt_eq]) hN h

/-! ### Slices -/
/-- v is a slice of n elements -/
structure IsSl (v : Value) (n : Nat) : Prop where
  le : n ≤ 9223372036854775807
  is : ∃ a c, v = .slice a n c ∧ (0 < n → ∃ b o, a = some ⟨b, o, none⟩)
theorem WO.len {n by' e sz : Nat} {v : Value} (hT : C.tt.sl? T = some (e, sz, by')) (hx : ev E x = some v) (hS : IsSl v n) (hN : Nat.blt d C.N = true) (h : WO C ops rest K ((d, .int .i64 (n : Int)) :: E) H) : WO C ops (⟨some d, .call ⟨.builtin .len, #[x], #[T]⟩, ty, pos, af, none⟩ :: rest) K E H :=
  WO.pure _ (by simp) (fun L a w hf hi => by
    obtain ⟨a0, c, rfl, _⟩ := hS.is
    simp [execOp, resolve, hf.eval hx, invoke, builtin, Builtin.len_, run_underlying (SlT.of hT).u, goInt]) hN h
theorem WO.indexAddrZ {n by' e sz : Nat} {k : IntKind} {i : Int} {v : Value} (hT : C.tt.sl? T = some (e, sz, by')) (hx : ev E x = some v) (hy : ev E y = some (.int k i)) (hS : IsSl v n) (h0 : 0 ≤ i) (h1 : i < n) (hN : Nat.blt d C.N = true)
    (h : WO C ops rest K ((d, .pointer (some (elt v i.toNat sz))) :: E) H) : WO C ops (⟨some d, .indexAddr T x y, ty, pos, af, none⟩ :: rest) K E H :=
  WO.pure _ (by simp) (fun L a w hf hi => by
    obtain ⟨a0, c, rfl, hb⟩ := hS.is
    obtain ⟨b, o, rfl⟩ := hb (by omega)
    simp [execOp, hf.eval hx, hf.eval hy, Instr.indexAt, run_underlying (SlT.of hT).u, asIntOf, h0, h1, run_sizeOf (SlT.of hT).size, base, elt_eq]) hN h
theorem WO.indexAddr {n by' e sz : Nat} {k : IntKind} {i : Nat} {v : Value} (hT : C.tt.sl? T = some (e, sz, by')) (hx : ev E x = some v) (hy : ev E y = some (.int k (i : Int))) (hS : IsSl v n) (h1 : i < n) (hN : Nat.blt d C.N = true)
    (h : WO C ops rest K ((d, .pointer (some (elt v i sz))) :: E) H) : WO C ops (⟨some d, .indexAddr T x y, ty, pos, af, none⟩ :: rest) K E H :=
  WO.indexAddrZ hT hx hy hS (by omega) (by omega) hN h

/-- an array behind an address -/
theorem WO.indexArr {len e sz : Nat} {k : IntKind} {i : Int} {p : Addr} (hT : C.tt.ar? T = some (len, e, sz)) (hx : ev E x = some (.pointer (some p))) (hy : ev E y = some (.int k i)) (h0 : 0 ≤ i) (h1 : i < len) (hN : Nat.blt d C.N = true)
    (h : WO C ops rest K ((d, .pointer (some (p.add (i.toNat * sz)))) :: E) H) : WO C ops (⟨some d, .indexAddr T x y, ty, pos, af, none⟩ :: rest) K E H :=
  WO.pure _ (by simp) (fun L a w hf hi => by
    simp [execOp, hf.eval hx, hf.eval hy, Instr.indexAt, run_underlying (ArT.of hT).u, asIntOf, h0, h1, run_sizeOf (ArT.of hT).size, Instr.sureAddr]) hN h

/-! ### Reading what lies in memory -/
/-- v is a slice of the elements xs, each of sz cells, below block B -/
structure RdF {α : Type} (enc : α → List Value) (sz : Nat) (B : Nat) (w : World) (v : Value) (xs : List α) : Prop where
  sl : IsSl v xs.length
  blk : 0 < xs.length → (base v).block < B
  cell : ∀ (i : Nat) (x : α), xs[i]? = some x → ∀ (j : Nat) (u : Value), (enc x)[j]? = some u → w.cell? (((base v).add (i * sz)).add j) = some u
theorem addr_add_block (a : Addr) (n : Nat) : (a.add n).block = a.block := by unfold Addr.add; split <;> rfl
theorem RdF.cellNat {α : Type} {enc : α → List Value} {sz : Nat} {v : Value} {xs : List α} (h : RdF enc sz C.B C.w0 v xs) {i : Nat} {x : α} (hx : xs[i]? = some x) {j : Nat} {u : Value} (hu : (enc x)[j]? = some u) : Cell C H (((base v).add (i * sz)).add j) u := by
  refine Cell.old ?_ (h.cell i _ hx j u hu)
  rw [addr_add_block, addr_add_block]; exact h.blk (by have := (List.getElem?_eq_some_iff.1 hx).1; omega)
theorem getD_some {α : Type} {xs : List α} {i : Nat} (h1 : i < xs.length) (z : α) : xs[i]? = some (xs.getD i z) := by simp [h1]
/-- part j of element i -/
theorem RdF.cellAt {α : Type} {enc : α → List Value} {sz : Nat} {v : Value} {xs : List α} (h : RdF enc sz C.B C.w0 v xs) {i : Nat} (h1 : i < xs.length) (z : α) {j : Nat} {u : Value} (hu : lget (enc (xs.getD i z)) j = some u) : Cell C H (prt (elt v i sz) j) u := by
  rw [lget_eq] at hu
  rw [prt_eq, elt_eq]
  exact h.cellNat (getD_some h1 z) hu
theorem RdF.cell0 {α : Type} {enc : α → List Value} {sz : Nat} {v : Value} {xs : List α} (h : RdF enc sz C.B C.w0 v xs) {i : Nat} (h1 : i < xs.length) (z : α) {u : Value} (hu : lget (enc (xs.getD i z)) 0 = some u) : Cell C H (elt v i sz) u := by
  rw [lget_eq] at hu
  have := h.cellNat (H := H) (getD_some h1 z) hu
  rw [elt_eq]
  simpa [Addr.add] using this
theorem RdF.cells {α : Type} {enc : α → List Value} {sz : Nat} {v : Value} {xs : List α} (h : RdF enc sz C.B C.w0 v xs) {i : Nat} (h1 : i < xs.length) (z : α) : Cells C H (elt v i sz) (enc (xs.getD i z)) :=
  fun _ _ hu => by rw [elt_eq]; exact h.cellNat (getD_some h1 z) hu
def encI (n : Int) : List Value := [.int .i64 n]
def encP (r : Int × Int) : List Value := [.int .i64 r.1, .int .i64 r.2]
def encV (v : Value) : List Value := [v]
/-- v is a slice of slices: the rows' values rv, the rows' elements xss -/
structure RdR {α : Type} (enc : α → List Value) (sz : Nat) (B : Nat) (w : World) (v : Value) (rv : List Value) (xss : List (List α)) : Prop where
  out : RdF encV 1 B w v rv
  len : rv.length = xss.length
  row' : ∀ i, i < xss.length → RdF enc sz B w (rv.getD i undef) (xss.getD i [])
theorem RdR.row {α : Type} {enc : α → List Value} {sz B : Nat} {w : World} {v : Value} {rv : List Value} {xss : List (List α)} (h : RdR enc sz B w v rv xss) (i : Nat) (h1 : i < xss.length) : RdF enc sz B w (rv.getD i undef) (xss.getD i []) := h.row' _ h1
theorem RdR.sl {α : Type} {enc : α → List Value} {sz B : Nat} {w : World} {v : Value} {rv : List Value} {xss : List (List α)} (h : RdR enc sz B w v rv xss) : IsSl v xss.length := h.len ▸ h.out.sl
theorem RdR.cellV {α : Type} {enc : α → List Value} {sz : Nat} {v : Value} {rv : List Value} {xss : List (List α)} (h : RdR enc sz C.B C.w0 v rv xss) {i : Nat} (h1 : i < xss.length) : Cell C H (elt v i 1) (rv.getD i undef) :=
  h.out.cell0 (by rw [h.len]; exact h1) undef rfl
/-- what is read at a world is read at a later one -/
theorem RdF.later {α : Type} {enc : α → List Value} {sz : Nat} {v : Value} {xs : List α} {L : List HP} {w : World} (h : RdF enc sz C.B C.w0 v xs) (hi : Inv C.w0 C.M (L ++ H) w) : RdF enc sz w.heap.size w v xs :=
  ⟨h.sl, fun hl => Nat.lt_of_lt_of_le (h.blk hl) (Nat.le_trans C.hB hi.size), fun _ _ hx _ _ hu => (h.cellNat (H := H) hx hu) L w hi⟩
theorem RdR.later {α : Type} {enc : α → List Value} {sz : Nat} {v : Value} {rv : List Value} {xss : List (List α)} {L : List HP} {w : World} (h : RdR enc sz C.B C.w0 v rv xss) (hi : Inv C.w0 C.M (L ++ H) w) : RdR enc sz w.heap.size w v rv xss :=
  ⟨h.out.later hi, h.len, fun i hl => (h.row' i hl).later hi⟩
end rules
end
end Go.TH
