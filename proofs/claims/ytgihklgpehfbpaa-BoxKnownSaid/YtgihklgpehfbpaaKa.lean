/-
  What is proved here: the rules of a small program logic over the walk's calculus (frames as lists of facts, memory as a list of disjoint pieces). Conditions: none; each rule states its own.
-/
import Derived.RangeFuncLeaves
import Derived.RangeFuncIn
import Derived.OrdersIn
import Derived.TacticsIn
import Derived.WalkKit
namespace Go.TH
open Go

/-! ## Frames -/
abbrev Env := List (Nat × Value)
def lk : Env → Nat → Option Value
  | [], _ => none
  | (k, v) :: r, t => bif Nat.beq k t then some v else lk r t
def ev (E : Env) : Operand → Option Value
  | .tmp t => lk E t
  | .const v => some v
  | .global g => some (.pointer (some ⟨g, 0, none⟩))
  | .func f => some (.func (.func f) #[] #[])

structure Fr (N : Nat) (E : Env) (a : Act) : Prop where
  size : a.tmps.size = N
  get : ∀ t v, lk E t = some v → a.tmps[t]? = some v

theorem Fr.eval {N : Nat} {E : Env} {a : Act} (h : Fr N E a) {x : Operand} {v : Value} (he : ev E x = some v) : a.eval x = v := by
  cases x with
  | tmp t =>
    have h1 := h.get t v he
    simp only [Act.eval]
    simp [Array.getD_eq_getD_getElem?, h1]
  | const u => simpa [ev, Act.eval] using he
  | global g => simpa [ev, Act.eval] using he
  | func f => simpa [ev, Act.eval] using he

theorem Fr.put {N : Nat} {E : Env} {a : Act} (h : Fr N E a) {d : Nat} {v : Value} (hd : Nat.blt d N = true) : Fr N ((d, v) :: E) (a.put (some d) v) := by
  have hd' : d < N := by simpa [Nat.blt_eq] using hd
  refine ⟨by simp [Act.put, h.size], fun t u hu => ?_⟩
  simp only [lk] at hu
  by_cases e : d = t
  · subst e
    simp at hu
    subst hu
    simp [Act.put, h.size, hd']
  · have : Nat.beq d t = false := by
      cases hb : Nat.beq d t with
      | false => rfl
      | true => exact absurd (Nat.eq_of_beq_eq_true hb) e
    rw [this] at hu
    simp at hu
    have := h.get t u hu
    simp [Act.put, Array.getElem?_setIfInBounds_ne e, this]

theorem Fr.put_none {N : Nat} {E : Env} {a : Act} (h : Fr N E a) {v : Value} : Fr N E (a.put none v) := h

theorem Fr.weaken {N : Nat} {E E' : Env} {a : Act} (h : Fr N E a) (hE : ∀ t v, lk E' t = some v → lk E t = some v) : Fr N E' a := ⟨h.size, fun t v hv => h.get t v (hE t v hv)⟩

/-- each pair of the second list is met in the first -/
def EnvIn (E : Env) : Env → Prop
  | [] => True
  | (k, v) :: r => lk E k = some v ∧ EnvIn E r
theorem EnvIn.lk {E : Env} : ∀ {E' : Env}, EnvIn E E' → ∀ t v, lk E' t = some v → lk E t = some v
  | [], _, _, _, h => by simp [TH.lk] at h
  | (k, u) :: r, hi, t, v, h => by
    simp only [TH.lk] at h
    cases hb : Nat.beq k t with
    | true =>
      rw [hb] at h
      simp at h
      have := Nat.eq_of_beq_eq_true hb
      subst this; subst h
      exact hi.1
    | false =>
      rw [hb] at h
      simp at h
      exact EnvIn.lk hi.2 t v h

/-! ## Memory as pieces -/
abbrev Hp := Nat → Option Obj
abbrev HP := Hp → Prop
def Split (h h1 h2 : Hp) : Prop := ∀ k, (h1 k = none ∧ h k = h2 k) ∨ (h2 k = none ∧ h k = h1 k)
def sat : List HP → HP
  | [], _ => True
  | A :: H, h => ∃ h1 h2, Split h h1 h2 ∧ A h1 ∧ sat H h2
/-- block b holds o -/
def pt (b : Nat) (o : Obj) : HP := fun h => ∀ k, h k = if k = b then some o else none

theorem Split.comm {h h1 h2 : Hp} (s : Split h h1 h2) : Split h h2 h1 := fun k => (s k).symm
/-- (A + (B + C)) = (B + (A + C)) -/
theorem Split.swap {h a r b c : Hp} (s : Split h a r) (t : Split r b c) : ∃ r', Split h b r' ∧ Split r' a c := by
  refine ⟨fun k => (a k).orElse fun _ => c k, fun k => ?_, fun k => ?_⟩
  · have h1 := s k; have h2 := t k
    cases ha : a k <;> cases hb : b k <;> cases hc : c k <;> simp_all
  · have h1 := s k; have h2 := t k
    cases ha : a k <;> cases hb : b k <;> cases hc : c k <;> simp_all

inductive Pick : HP → List HP → List HP → Prop
  | head {A : HP} {H : List HP} : Pick A (A :: H) H
  | tail {A B : HP} {H H' : List HP} : Pick A H H' → Pick A (B :: H) (B :: H')

theorem Pick.sat {A : HP} {H H' : List HP} (p : Pick A H H') : ∀ {h : Hp}, sat H h → sat (A :: H') h := by
  induction p with
  | head => exact fun h => h
  | tail p ih =>
    intro h hs
    obtain ⟨hb, r, s, hB, hr⟩ := hs
    obtain ⟨ha, c, t, hA, hc⟩ := ih hr
    obtain ⟨r', s', t'⟩ := s.swap t
    exact ⟨ha, r', s', hA, hb, c, t', hB, hc⟩

theorem Pick.back {A : HP} {H H' : List HP} (p : Pick A H H') : ∀ {h : Hp}, TH.sat (A :: H') h → TH.sat H h := by
  induction p with
  | head => exact fun h => h
  | tail p ih =>
    intro h hs
    obtain ⟨ha, r, s, hA, hb, c, t, hB, hc⟩ := hs
    obtain ⟨r', s', t'⟩ := s.swap t
    exact ⟨hb, r', s', hB, ih ⟨ha, c, t', hA, hc⟩⟩

theorem Pick.app {A : HP} {H H' : List HP} (p : Pick A H H') : ∀ (L : List HP), Pick A (L ++ H) (L ++ H')
  | [] => p
  | _ :: L => .tail (p.app L)

theorem sat_mono {A A' : HP} {H : List HP} {h : Hp} (hA : ∀ h, A h → A' h) (hs : sat (A :: H) h) : sat (A' :: H) h :=
  let ⟨h1, h2, s, a, r⟩ := hs; ⟨h1, h2, s, hA _ a, r⟩

theorem sat_sub {h : Hp} : ∀ {h' : Hp} (H : List HP), (∀ k o, h' k = some o → h k = some o) → sat H h' → sat H h := by
  intro h' H hs
  induction H generalizing h h' with
  | nil => exact fun _ => trivial
  | cons A H ih =>
    rintro ⟨h1, h2, s, hA, hr⟩
    refine ⟨h1, fun k => if h1 k = none then h k else none, fun k => ?_, hA, ih ?_ hr⟩
    · rcases s k with ⟨a, b⟩ | ⟨a, b⟩
      · left; simp [a]
      · by_cases hn : h1 k = none
        · left; simp [hn]
        · right
          simp only [hn, if_false, true_and]
          obtain ⟨o, ho⟩ := Option.ne_none_iff_exists'.1 hn
          rw [ho]; exact hs k o (by rw [b, ho])
    · intro k o ho
      rcases s k with ⟨a, b⟩ | ⟨a, b⟩
      · simp only [a, if_true]; exact hs k o (by rw [b, ho])
      · rw [a] at ho; cases ho

/-- to drop pieces, and order them anew -/
inductive Sub : List HP → List HP → Prop
  | nil {H : List HP} : Sub H []
  | cons {A : HP} {H H' L : List HP} : Pick A H H' → Sub H' L → Sub H (A :: L)
theorem Sub.sat {H L : List HP} (s : Sub H L) : ∀ {h : Hp}, TH.sat H h → TH.sat L h := by
  induction s with
  | nil => exact fun _ => trivial
  | cons p _ ih =>
    intro h hs
    obtain ⟨h1, h2, sp, a, r⟩ := p.sat hs
    exact ⟨h1, h2, sp, a, ih r⟩
theorem Sub.refl : ∀ (H : List HP), Sub H H
  | [] => .nil
  | _ :: H => .cons .head (Sub.refl H)
theorem Sub.tail {A : HP} {H L : List HP} (s : Sub H L) : Sub (A :: H) L := by
  induction s with
  | nil => exact .nil
  | cons p _ ih => exact .cons (.tail p) ih
theorem Sub.drop (A : HP) (H : List HP) : Sub (A :: H) H := (Sub.refl H).tail
theorem Sub.app {H L : List HP} (s : Sub H L) : ∀ (K : List HP), Sub (K ++ H) (K ++ L)
  | [] => s
  | _ :: K => .cons .head (s.app K)

theorem sat_app {H1 : List HP} : ∀ {H2 : List HP} {h : Hp}, sat (H1 ++ H2) h → ∃ h1 h2, Split h h1 h2 ∧ sat H1 h1 ∧ sat H2 h2 := by
  induction H1 with
  | nil => exact fun {H2 h} hs => ⟨fun _ => none, h, fun k => .inl ⟨rfl, rfl⟩, trivial, hs⟩
  | cons A H1 ih =>
    intro H2 h hs
    obtain ⟨ha, r, s, hA, hr⟩ := hs
    obtain ⟨h1, h2, t, x, y⟩ := ih hr
    refine ⟨fun k => (ha k).orElse fun _ => h1 k, h2, fun k => ?_, ⟨ha, h1, fun k => ?_, hA, x⟩, y⟩
    · have e1 := s k; have e2 := t k
      cases p : ha k <;> cases q : h1 k <;> cases u : h2 k <;> simp_all
    · have e1 := s k; have e2 := t k
      cases p : ha k <;> cases q : h1 k <;> cases u : h2 k <;> simp_all
theorem sat_join {H1 : List HP} : ∀ {H2 : List HP} {h h1 h2 : Hp}, Split h h1 h2 → sat H1 h1 → sat H2 h2 → sat (H1 ++ H2) h := by
  induction H1 with
  | nil =>
    intro H2 h h1 h2 s _ y
    refine sat_sub H2 (fun k o ho => ?_) y
    rcases s k with ⟨a, b⟩ | ⟨a, b⟩
    · rw [b]; exact ho
    · rw [a] at ho; cases ho
  | cons A H1 ih =>
    rintro H2 h h1 h2 s ⟨ha, r, t, hA, hr⟩ y
    have sc := s.comm
    obtain ⟨r', s', t'⟩ := sc.swap t
    exact ⟨ha, r', s', hA, ih t'.comm hr y⟩

theorem Pick.mem {A : HP} : ∀ {H1 H2 : List HP}, Pick A (H1 ++ A :: H2) (H1 ++ H2)
  | [], _ => .head
  | _ :: H1, H2 => .tail (Pick.mem (H1 := H1) (H2 := H2))
theorem Sub.rot : ∀ (L Hp Hr : List HP), Sub (L ++ (Hp ++ Hr)) (Hp ++ (L ++ Hr))
  | L, [], Hr => Sub.refl _
  | L, A :: Hp, Hr => by
    show Sub (L ++ A :: (Hp ++ Hr)) (A :: (Hp ++ (L ++ Hr)))
    exact .cons Pick.mem (Sub.rot L Hp Hr)
theorem Sub.rot' : ∀ (L Hq Hr : List HP), Sub (Hq ++ (L ++ Hr)) (L ++ (Hq ++ Hr)) := fun L Hq Hr => Sub.rot Hq L Hr
theorem Pick.sub {A : HP} {H H' H0 : List HP} (p : Pick A H H') (s : Sub H0 H) : ∃ H0', Pick A H0 H0' ∧ Sub H0' H' := by
  induction p generalizing H0 with
  | head => cases s with | cons p s => exact ⟨_, p, s⟩
  | tail p ih =>
    cases s with
    | cons q s =>
      obtain ⟨H1, p1, s1⟩ := ih s
      obtain ⟨H2, p2, q2⟩ := Pick.swap q p1
      exact ⟨H2, p2, .cons q2 s1⟩
where
  Pick.swap {A B : HP} {H0 H1 H2 : List HP} (q : Pick B H0 H1) (p : Pick A H1 H2) : ∃ H3, Pick A H0 H3 ∧ Pick B H3 H2 := by
    induction q generalizing H2 with
    | head => exact ⟨_, .tail p, .head⟩
    | tail q ih =>
      cases p with
      | head => exact ⟨_, .head, q⟩
      | tail p =>
        obtain ⟨H3, a, b⟩ := ih p
        exact ⟨_, .tail a, .tail b⟩
theorem Sub.trans {H1 H2 H3 : List HP} (s : Sub H1 H2) (t : Sub H2 H3) : Sub H1 H3 := by
  induction t generalizing H1 with
  | nil => exact .nil
  | cons p _ ih =>
    obtain ⟨H', p', s'⟩ := p.sub s
    exact .cons p' (ih s')

/-! ## Worlds -/
/-- the blocks of one's own: those made since w0, and those handed over (M) -/
def own (w0 : World) (M : List Nat) (w : World) : Hp := fun k => if k < w0.heap.size ∧ k ∉ M then none else w.heap[k]?
structure Inv (w0 : World) (M : List Nat) (H : List HP) (w : World) : Prop where
  os : w.os = w0.os
  tape : w.tape = w0.tape
  output : w.output = w0.output
  size : w0.heap.size ≤ w.heap.size
  keep : ∀ k, k < w0.heap.size → k ∉ M → w.heap[k]? = w0.heap[k]?
  mine : sat H (own w0 M w)

theorem Inv.sub {w0 : World} {M : List Nat} {H H' : List HP} {w : World} (h : Inv w0 M H w) (s : Sub H H') : Inv w0 M H' w :=
  ⟨h.os, h.tape, h.output, h.size, h.keep, s.sat h.mine⟩

theorem Inv.pick {w0 : World} {M : List Nat} {A : HP} {H H' : List HP} {w : World} (h : Inv w0 M H w) (p : Pick A H H') : Inv w0 M (A :: H') w :=
  ⟨h.os, h.tape, h.output, h.size, h.keep, p.sat h.mine⟩

/-- what an owned block holds -/
theorem Inv.look {w0 : World} {M : List Nat} {b : Nat} {o : Obj} {H H' : List HP} {w : World} (h : Inv w0 M H w) (p : Pick (pt b o) H H') : w.heap[b]? = some o ∧ (w0.heap.size ≤ b ∨ b ∈ M) := by
  obtain ⟨h1, h2, s, a, _⟩ := (h.pick p).mine
  have e : TH.own w0 M w b = some o := by
    have e1 : h1 b = some o := by rw [a b]; simp
    rcases s b with ⟨x, _⟩ | ⟨_, y⟩
    · rw [e1] at x; cases x
    · rw [y, e1]
  unfold TH.own at e
  split at e
  · cases e
  · rename_i hn
    refine ⟨e, ?_⟩
    by_cases hb : w0.heap.size ≤ b
    · exact .inl hb
    · exact .inr (Decidable.byContradiction fun hm => hn ⟨by omega, hm⟩)

theorem Inv.alloc {w0 : World} {M : List Nat} {H : List HP} {w : World} (h : Inv w0 M H w) (o : Obj) : Inv w0 M (pt w.heap.size o :: H) (w.alloc o) := by
  refine ⟨h.os, h.tape, h.output, by simp; have := h.size; omega, fun k hk hm => ?_, ?_⟩
  · rw [← h.keep k hk hm]
    show (w.heap.push o)[k]? = _
    rw [Array.getElem?_push, if_neg (by have := h.size; omega)]
  · refine ⟨fun k => if k = w.heap.size then some o else none, own w0 M w, fun k => ?_, fun k => rfl, h.mine⟩
    show (_ ∧ own w0 M (w.alloc o) k = _) ∨ (_ ∧ own w0 M (w.alloc o) k = _)
    by_cases hk : k = w.heap.size
    · subst hk
      right
      have hs := h.size
      constructor
      · unfold TH.own; split
        · rfl
        · simp
      · have : ¬ (w.heap.size < w0.heap.size ∧ w.heap.size ∉ M) := fun x => by omega
        simp only [TH.own, this, if_false]
        show (w.heap.push o)[w.heap.size]? = _
        simp
    · left
      refine ⟨by simp [hk], ?_⟩
      have e : (w.alloc o).heap[k]? = w.heap[k]? := by
        show (w.heap.push o)[k]? = _
        rw [Array.getElem?_push, if_neg hk]
      simp only [TH.own, e]

/-- a change of one owned block -/
theorem Inv.set {w0 : World} {M : List Nat} {b : Nat} {o o' : Obj} {H H' : List HP} {w w' : World} (h : Inv w0 M H w) (p : Pick (pt b o) H H')
    (hos : w'.os = w.os) (ht : w'.tape = w.tape) (hout : w'.output = w.output) (hs : w'.heap.size = w.heap.size)
    (hb : w'.heap[b]? = some o') (hk : ∀ k, k ≠ b → w'.heap[k]? = w.heap[k]?) : Inv w0 M (pt b o' :: H') w' := by
  have hl := h.look p
  refine ⟨hos.trans h.os, ht.trans h.tape, hout.trans h.output, by rw [hs]; exact h.size, fun k hk' hm => ?_, ?_⟩
  · have : k ≠ b := fun e => by subst e; rcases hl.2 with x | x; omega; exact hm x
    rw [hk k this]; exact h.keep k hk' hm
  · obtain ⟨h1, h2, s, a, r⟩ := (h.pick p).mine
    refine ⟨fun k => if k = b then some o' else none, h2, fun k => ?_, fun k => rfl, r⟩
    show (_ ∧ own w0 M w' k = _) ∨ (_ ∧ own w0 M w' k = _)
    by_cases e : k = b
    · subst e
      right
      have e1 : h1 k = some o := by rw [a k]; simp
      have e2 : h2 k = none := by
        rcases s k with ⟨x, _⟩ | ⟨y, _⟩
        · rw [e1] at x; cases x
        · exact y
      refine ⟨e2, ?_⟩
      have : ¬ (k < w0.heap.size ∧ k ∉ M) := fun ⟨x, y⟩ => by rcases hl.2 with z | z; omega; exact y z
      simp only [TH.own, this, if_false, hb, if_true]
    · left
      refine ⟨by simp [e], ?_⟩
      have e1 : h1 k = none := by rw [a k]; simp [e]
      have e3 : own w0 M w' k = own w0 M w k := by simp only [TH.own, hk k e]
      rw [e3]
      rcases s k with ⟨_, y⟩ | ⟨y, z⟩
      · exact y
      · rw [z, e1, y]

theorem Inv.drawn {w0 : World} {M : List Nat} {H : List HP} {w : World} (h : Inv w0 M H w) : Inv w0 M H { w with drawn := w.drawn + 1 } :=
  ⟨h.os, h.tape, h.output, h.size, h.keep, h.mine⟩

/-! ## Facts on types, as premises of the rules -/
def isAggB (P : Program) (T : TypeId) : Option Bool := (P.underlying T).map fun | .struct _ | .array _ _ => true | _ => false
def szv (P : Program) (T : TypeId) : Option Nat := (P.info? T).map (·.size)
def zv (P : Program) (T : TypeId) : Option Value := (P.info? T).bind (·.zero)
def byv (P : Program) (T : TypeId) : Option Nat := (P.info? T).map (·.bytes)
/-- a type of one cell -/
structure CT (P : Program) (T : TypeId) : Prop where
  one : isAggB P T = some false
  size : szv P T = some 1
/-- a struct or an array, of n cells -/
structure AT (P : Program) (T : TypeId) (n : Nat) : Prop where
  agg : isAggB P T = some true
  size : szv P T = some n
/-- a slice type: its element type, that one's cells and bytes -/
structure SlT (P : Program) (T e sz by' : Nat) : Prop where
  u : P.underlying T = some (.slice e)
  size : szv P e = some sz
  bytes : byv P e = some by'
/-- an array type -/
structure ArT (P : Program) (T len e sz : Nat) : Prop where
  u : P.underlying T = some (.array len e)
  size : szv P e = some sz
/-- field f of the struct T: its place and its type -/
def fieldOf (P : Program) (T f : Nat) : Option (Nat × Nat) := match P.underlying T with | some (.struct fs) => (fs[f]?).map fun x => (x.offset, x.type) | _ => none
structure FT (P : Program) (T f fo ft : Nat) : Prop where
  at_ : fieldOf P T f = some (fo, ft)
  size : (szv P ft).map (Nat.beq · 0) = some false
/-- the zero value -/
structure ZT (P : Program) (T : Nat) (z : Value) : Prop where
  zero : zv P T = some z
/-- an integer type -/
structure IT (P : Program) (T : Nat) (k : IntKind) : Prop where
  u : P.underlying T = some (.int k)

/-! ## A table of types, held against the program once -/
inductive TK where
  | none
  | int (k : IntKind)
  | one
  | sl (e sz by' : Nat)
  | st (fs : List (Nat × Nat))
  | ar (len e sz : Nat)
structure TI where
  kind : TK
  n : Nat
  z : Option Value
def veq : Value → Value → Bool
  | .int k n, .int k' n' => k == k' && n == n'
  | .bool b, .bool b' => b == b'
  | .slice none 0 0, .slice none 0 0 => true
  | .pointer none, .pointer none => true
  | .map none, .map none => true
  | .nilFunc, .nilFunc => true
  | .nilIface, .nilIface => true
  | _, _ => false
theorem veq_eq : ∀ {u v : Value}, veq u v = true → u = v := by
  intro u v h
  unfold veq at h
  split at h <;> simp_all
def veqs : List Value → List Value → Bool
  | [], [] => true
  | u :: r, v :: s => veq u v && veqs r s
  | _, _ => false
theorem veqs_eq : ∀ {us vs : List Value}, veqs us vs = true → us = vs
  | [], [], _ => rfl
  | [], _ :: _, h => by simp [veqs] at h
  | _ :: _, [], h => by simp [veqs] at h
  | u :: r, v :: s, h => by simp only [veqs, Bool.and_eq_true] at h; rw [veq_eq h.1, veqs_eq h.2]
def zeq : Value → Value → Bool
  | .agg us, .agg vs => veqs us.toList vs.toList
  | u, v => veq u v
theorem zeq_eq {u v : Value} (h : zeq u v = true) : u = v := by
  unfold zeq at h
  split at h
  · have := veqs_eq h
    rename_i us vs
    exact congrArg Value.agg (Array.toList_inj.1 this)
  · exact veq_eq h
def oeq (o : Option Nat) (n : Nat) : Bool := match o with | some m => Nat.beq m n | none => false
theorem oeq_eq {o : Option Nat} {n : Nat} (h : oeq o n = true) : o = some n := by
  cases o with
  | none => simp [oeq] at h
  | some m => exact congrArg some (Nat.eq_of_beq_eq_true h)
def kindChk (P : Program) (T : TypeId) : TK → Bool
  | .none => true
  | .int k => match P.underlying T with | some (.int k') => decide (k' = k) | _ => false
  | .one => match isAggB P T with | some b => !b | none => false
  | .sl e sz by' => match P.underlying T with | some (.slice e') => Nat.beq e' e && oeq (szv P e) sz && oeq (byv P e) by' | _ => false
  | .st fs => match P.underlying T with | some (.struct fs') => decide (fs'.toList.map (fun f => (f.offset, f.type)) = fs) && fs.all (fun f => (szv P f.2).map (Nat.beq · 0) == some false) | _ => false
  | .ar len e sz => match P.underlying T with | some (.array len' e') => Nat.beq len' len && Nat.beq e' e && oeq (szv P e) sz | _ => false
def tiChk (P : Program) (T : TypeId) (ti : TI) : Bool :=
  match ti.kind with
  | .none => true
  | k => kindChk P T k && oeq (szv P T) ti.n && (match ti.z with | some z => (match zv P T with | some u => zeq u z | none => false) | none => true)
structure TTab (P : Program) where
  tab : List TI
  ok : (tab.zipIdx.all fun (ti, T) => tiChk P T ti) = true
variable {P : Program}
def TTab.get (t : TTab P) (T : Nat) : TI := t.tab.getD T ⟨.none, 0, none⟩
theorem TTab.chk (t : TTab P) (T : Nat) : tiChk P T (t.get T) = true := by
  unfold TTab.get
  cases h : t.tab[T]? with
  | none => simp [List.getD, h, tiChk]
  | some ti =>
    have := List.all_eq_true.1 t.ok (ti, T) (by rw [List.mem_zipIdx_iff_getElem?]; simpa using h)
    simpa [List.getD, h] using this
def TTab.one? (t : TTab P) (T : Nat) : Bool := match (t.get T).kind with | .int _ | .one | .sl .. => Nat.beq (t.get T).n 1 | _ => false
def TTab.ag? (t : TTab P) (T : Nat) : Option Nat := match (t.get T).kind with | .st _ | .ar .. => some (t.get T).n | _ => none
def TTab.sl? (t : TTab P) (T : Nat) : Option (Nat × Nat × Nat) := match (t.get T).kind with | .sl e sz by' => some (e, sz, by') | _ => none
def TTab.ar? (t : TTab P) (T : Nat) : Option (Nat × Nat × Nat) := match (t.get T).kind with | .ar len e sz => some (len, e, sz) | _ => none
def TTab.fd? (t : TTab P) (T f : Nat) : Option (Nat × Nat) := match (t.get T).kind with | .st fs => fs[f]? | _ => none
def TTab.z? (t : TTab P) (T : Nat) : Option Value := match (t.get T).kind with | .none => none | _ => (t.get T).z
def TTab.it? (t : TTab P) (T : Nat) : Option IntKind := match (t.get T).kind with | .int k => some k | _ => none
def TTab.some? (t : TTab P) (T : Nat) : Bool := match (t.get T).kind with | .none => false | _ => true
theorem tiChk_kind {T : Nat} {ti : TI} (h : tiChk P T ti = true) : kindChk P T ti.kind = true := by
  unfold tiChk at h
  cases hk : ti.kind <;> simp_all [kindChk]
theorem tiChk_size {T : Nat} {ti : TI} (h : tiChk P T ti = true) (hn : ti.kind ≠ .none) : szv P T = some ti.n := by
  unfold tiChk at h
  cases hk : ti.kind <;> simp_all <;> exact oeq_eq h.1.2
theorem CT.of {t : TTab P} {T : Nat} (h : t.one? T = true) : CT P T := by
  have hc := t.chk T
  have hk := tiChk_kind hc
  unfold TTab.one? at h
  cases hkd : (t.get T).kind <;> simp only [hkd] at h <;> try (cases h; done)
  all_goals
    have hs := tiChk_size hc (by rw [hkd]; simp)
    rw [Nat.eq_of_beq_eq_true h] at hs
    refine ⟨?_, hs⟩
    rw [hkd] at hk
  · simp only [kindChk] at hk
    unfold isAggB
    split at hk
    · rename_i hu; rw [hu]; rfl
    · cases hk
  · simp only [kindChk] at hk
    split at hk
    · rename_i b hu; rw [hu]; simpa using hk
    · cases hk
  · simp only [kindChk] at hk
    unfold isAggB
    split at hk
    · rename_i hu; rw [hu]; rfl
    · cases hk
theorem AT.of {t : TTab P} {T n : Nat} (h : t.ag? T = some n) : AT P T n := by
  have hc := t.chk T
  have hk := tiChk_kind hc
  unfold TTab.ag? at h
  cases hkd : (t.get T).kind <;> simp only [hkd] at h <;> try (cases h; done)
  all_goals
    have hs := tiChk_size hc (by rw [hkd]; simp)
    cases h
    refine ⟨?_, hs⟩
    rw [hkd] at hk
    simp only [kindChk] at hk
    unfold isAggB
    split at hk
    · rename_i hu; rw [hu]; rfl
    · cases hk
theorem SlT.of {t : TTab P} {T e sz by' : Nat} (h : t.sl? T = some (e, sz, by')) : SlT P T e sz by' := by
  have hk := tiChk_kind (t.chk T)
  unfold TTab.sl? at h
  cases hkd : (t.get T).kind <;> simp only [hkd] at h <;> try (cases h; done)
  cases h
  rw [hkd] at hk
  simp only [kindChk] at hk
  split at hk
  · rename_i e' hu
    simp only [Bool.and_eq_true] at hk
    rw [Nat.eq_of_beq_eq_true hk.1.1] at hu
    exact ⟨hu, oeq_eq hk.1.2, oeq_eq hk.2⟩
  · cases hk
theorem ArT.of {t : TTab P} {T len e sz : Nat} (h : t.ar? T = some (len, e, sz)) : ArT P T len e sz := by
  have hk := tiChk_kind (t.chk T)
  unfold TTab.ar? at h
  cases hkd : (t.get T).kind <;> simp only [hkd] at h <;> try (cases h; done)
  cases h
  rw [hkd] at hk
  simp only [kindChk] at hk
  split at hk
  · rename_i e' l' hu
    simp only [Bool.and_eq_true] at hk
    rw [Nat.eq_of_beq_eq_true hk.1.1, Nat.eq_of_beq_eq_true hk.1.2] at hu
    exact ⟨hu, oeq_eq hk.2⟩
  · cases hk
theorem FT.of {t : TTab P} {T f fo ft : Nat} (h : t.fd? T f = some (fo, ft)) : FT P T f fo ft := by
  have hk := tiChk_kind (t.chk T)
  unfold TTab.fd? at h
  cases hkd : (t.get T).kind <;> simp only [hkd] at h <;> try (cases h; done)
  rw [hkd] at hk
  simp only [kindChk] at hk
  split at hk
  · rename_i fs' hu
    simp only [Bool.and_eq_true, decide_eq_true_eq] at hk
    obtain ⟨hk1, hk2⟩ := hk
    refine ⟨?_, ?_⟩
    · unfold fieldOf
      rw [hu]
      rw [← hk1] at h
      simp only [List.getElem?_map] at h
      cases hx : fs'.toList[f]? with
      | none => simp [hx] at h
      | some x =>
        simp [hx] at h
        have : fs'[f]? = some x := by simpa using hx
        simp [this, h]
    · have := List.all_eq_true.1 hk2 (fo, ft) (List.mem_of_getElem? h)
      simpa using this
  · cases hk
theorem ZT.of {t : TTab P} {T : Nat} {z : Value} (h : t.z? T = some z) : ZT P T z := by
  have hc := t.chk T
  unfold TTab.z? at h
  have hz : (t.get T).z = some z := by cases hkd : (t.get T).kind <;> simp_all
  have hn : (t.get T).kind ≠ .none := by intro e; simp [e] at h
  refine ⟨?_⟩
  unfold tiChk at hc
  cases hkd : (t.get T).kind <;> simp only [hkd] at hc hn <;> try (exact absurd rfl hn)
  all_goals
    simp only [Bool.and_eq_true, hz] at hc
    have h2 := hc.2
    split at h2
    · rename_i u hu; rw [hu, zeq_eq h2]
    · cases h2
theorem IT.of {t : TTab P} {T : Nat} {k : IntKind} (h : t.it? T = some k) : IT P T k := by
  have hk := tiChk_kind (t.chk T)
  unfold TTab.it? at h
  cases hkd : (t.get T).kind <;> simp only [hkd] at h <;> try (cases h; done)
  cases h
  rw [hkd] at hk
  simp only [kindChk] at hk
  split at hk
  · rename_i k' hu; simp at hk; subst hk; exact ⟨hu⟩
  · cases hk
theorem some?_of {t : TTab P} {T : Nat} (h : t.some? T = true) : (P.underlying T).isSome = true := by
  have hk := tiChk_kind (t.chk T)
  unfold TTab.some? at h
  cases hkd : (t.get T).kind <;> simp only [hkd] at h hk <;> try (cases h; done)
  all_goals
    simp only [kindChk, isAggB] at hk
    cases hu : P.underlying T <;> simp_all

/-! ## Contexts and states -/
structure Cx (P : Program) where
  ro : Option Nat
  N : Nat
  w0 : World
  M : List Nat
  /-- memory below B is not written -/
  B : Nat
  hB : B ≤ w0.heap.size
  hM : ∀ b ∈ M, B ≤ b
  mixed : P.follows .mixedOrders = true
  tt : TTab P
def Cx.F {P : Program} (C : Cx P) : Fence := { Fence.wide with round := C.ro }
theorem Cx.F_fn {P : Program} (C : Cx P) (f : FuncId) : C.F.fn f := trivial
theorem Cx.F_depth {P : Program} (C : Cx P) : (C.F.depth.isSome = true → 1 ≤ 0) := fun h => by simp [Cx.F, Fence.wide] at h

def mark (r : Nat) : Deferred := { target := .collected r, args := #[] }
def ptd (r : Nat) : HP := pt r (.deferred (some []))
structure St {P : Program} (C : Cx P) (L : List HP) (ds : List Nat) (E : Env) (H : List HP) (a : Act) (w : World) : Prop where
  defers : a.defers = ds.map mark
  fr : Fr C.N E a
  inv : Inv C.w0 C.M ((ds.map ptd ++ L) ++ H) w

abbrev Post := Exit → Env → List HP → Prop
/-- the code's law: from each state of these facts it comes to one that the post takes -/
def W {P : Program} (C : Cx P) (c : Code) (Q : Post) (E : Env) (H : List HP) : Prop :=
  ∀ L ds a w, St C L ds E H a w → c.wpIn C.F 0 P (fun e a' w' => ∃ ds' E' H', Q e E' H' ∧ St C L ds' E' H' a' w') a w

section
variable {P : Program} {C : Cx P} {Q : Post} {E : Env} {H : List HP}

theorem W.mono {c : Code} {Q' : Post} (h : W C c Q E H) (hq : ∀ e E H, Q e E H → Q' e E H) : W C c Q' E H :=
  fun L ds a w hs => wpIn_mono (h L ds a w hs) fun e _ _ ⟨ds', E', H', q, s⟩ => ⟨ds', E', H', hq e E' H' q, s⟩

theorem W.weaken {c : Code} {E' : Env} {H' : List HP} (hE : EnvIn E E') (hH : Sub H H') (h : W C c Q E' H') : W C c Q E H :=
  fun L ds a w hs => h L ds a w ⟨hs.defers, hs.fr.weaken hE.lk, hs.inv.sub (hH.app _)⟩

/-- pieces that are not looked at -/
theorem W.frame {c : Code} {H' : List HP} (h : W C c Q E H) : W C c (fun e E' Hx => ∃ H1, Q e E' H1 ∧ Hx = H' ++ H1) E (H' ++ H) := by
  intro L ds a w hs
  refine wpIn_mono (h (L ++ H') ds a w ⟨hs.defers, hs.fr, by simpa [List.append_assoc] using hs.inv⟩) ?_
  rintro e a' w' ⟨ds', E', H1, q, s⟩
  exact ⟨ds', E', H' ++ H1, ⟨H1, q, rfl⟩, s.defers, s.fr, by simpa [List.append_assoc] using s.inv⟩

theorem W.skip (h : Q .normal E H) : W C .skip Q E H := fun _ ds _ _ hs => wpIn_skip ⟨ds, E, H, h, hs⟩
theorem W.exit {id : Nat} (h : Q (.exit id) E H) : W C (.exit id) Q E H := fun _ ds _ _ hs => wpIn_exit ⟨ds, E, H, h, hs⟩
theorem W.ret (h : Q .ret E H) : W C .ret Q E H := fun _ ds _ _ hs => wpIn_ret ⟨ds, E, H, h, hs⟩

/-- what is asked behind the first of two -/
@[reducible] def thn (K : Env → List HP → Prop) (Q : Post) : Post
  | .normal => K
  | e => Q e
theorem W.seq {x y : Code} (h : W C x (thn (fun E H => W C y Q E H) Q) E H) : W C (.seq x y) Q E H := by
  intro L ds a w hs
  refine wpIn_seq (wpIn_mono (h L ds a w hs) ?_)
  rintro e a' w' ⟨ds', E', H', q, s⟩
  cases e with
  | normal => exact q L ds' a' w' s
  | exit id => exact ⟨ds', E', H', q, s⟩
  | goto l => exact ⟨ds', E', H', q, s⟩
  | ret => exact ⟨ds', E', H', q, s⟩
  | panic c => exact ⟨ds', E', H', q, s⟩
  | outgrown => exact ⟨ds', E', H', q, s⟩

@[reducible] def blk (id : Nat) (Q : Post) : Post
  | .exit id' => if id' = id then Q .normal else Q (.exit id')
  | e => Q e
theorem W.block {id : Nat} {c : Code} (h : W C c (blk id Q) E H) : W C (.block id c) Q E H := by
  intro L ds a w hs
  refine wpIn_block (wpIn_mono (h L ds a w hs) ?_)
  rintro e a' w' ⟨ds', E', H', q, s⟩
  cases e with
  | exit id' =>
    simp only [blk] at q
    simp only [Exit.inBlock]
    split
    · rename_i e; rw [if_pos e] at q; exact ⟨ds', E', H', q, s⟩
    · rename_i e; rw [if_neg e] at q; exact ⟨ds', E', H', q, s⟩
  | normal => exact ⟨ds', E', H', q, s⟩
  | goto l => exact ⟨ds', E', H', q, s⟩
  | ret => exact ⟨ds', E', H', q, s⟩
  | panic c => exact ⟨ds', E', H', q, s⟩
  | outgrown => exact ⟨ds', E', H', q, s⟩
theorem blk_same {id : Nat} (h : Q .normal E H) : blk id Q (.exit id) E H := by simp only [blk, if_true]; exact h
theorem blk_other {id id' : Nat} (hn : Nat.beq id' id = false) (h : Q (.exit id') E H) : blk id Q (.exit id') E H := by
  have : ¬ id' = id := fun e => by subst e; simp at hn
  simp only [blk, this, if_false]; exact h

theorem W.cond_t {c : Operand} {x y : Code} (hc : ev E c = some (.bool true)) (h : W C x Q E H) : W C (.cond c x y) Q E H :=
  fun L ds a w hs => wpIn_cond_true (hs.fr.eval hc) (h L ds a w hs)
theorem W.cond_f {c : Operand} {x y : Code} (hc : ev E c = some (.bool false)) (h : W C y Q E H) : W C (.cond c x y) Q E H :=
  fun L ds a w hs => wpIn_cond_false (hs.fr.eval hc) (h L ds a w hs)
theorem W.cond {c : Operand} {x y : Code} {t : Bool} (hc : ev E c = some (.bool t)) (ht : t = true → W C x Q E H) (hf : t = false → W C y Q E H) : W C (.cond c x y) Q E H :=
  fun L ds a w hs => wpIn_cond_split (hs.fr.eval hc) (fun e => ht e L ds a w hs) (fun e => hf e L ds a w hs)

/-- a loop: what holds at the head of each round, as a family of states; a measure -/
theorem W.loop {X : Type} {c : Code} (p : X → Prop) (e : X → Env) (m : X → List HP) (μ : X → Nat) (x0 : X) (h0 : p x0) (hE : EnvIn E (e x0)) (hH : Sub H (m x0))
    (round : ∀ x, p x → W C c (thn (fun E' H' => ∃ x', p x' ∧ μ x' < μ x ∧ EnvIn E' (e x') ∧ Sub H' (m x')) Q) (e x) (m x)) : W C (.loop c) Q E H := by
  intro L ds a w hs b k cs hro hb hr
  have key : ∀ j x, μ x = j → p x → ∀ ds a w, St C L ds (e x) (m x) a w →
      ∃ e' a' w', (∃ ds' E' H', Q e' E' H' ∧ St C L ds' E' H' a' w') ∧ ArrivesIn (Machine.fenced P C.F) P (lone (b.atR a (.code c :: .inLoop c :: k)) cs w) b k cs e' a' w' := by
    intro j
    induction j using Nat.strongRecOn with
    | _ j ih =>
      intro x hn hp ds a w hs
      obtain ⟨e', a₁, w₁, ⟨ds₁, E₁, H₁, hq, hs₁⟩, harr⟩ := round x hp L ds a w hs b (.inLoop c :: k) cs hro hb hr
      cases e' with
      | normal =>
        obtain ⟨x', hp', hlt, hE', hH'⟩ := hq
        obtain ⟨e₂, a₂, w₂, hq₂, harr₂⟩ := ih (μ x') (hn ▸ hlt) x' rfl hp' ds₁ a₁ w₁ ⟨hs₁.defers, hs₁.fr.weaken hE'.lk, hs₁.inv.sub (hH'.app _)⟩
        exact ⟨e₂, a₂, w₂, hq₂, .of_steps (StepsIn.trans harr (.one (fenced_calm hb hr rfl) stepR_inLoop)) harr₂⟩
      | exit id => exact ⟨_, a₁, w₁, ⟨ds₁, E₁, H₁, hq, hs₁⟩, .pass (x := .inLoop c) rfl (fun _ _ => .inl (by simp)) harr⟩
      | goto l => exact ⟨_, a₁, w₁, ⟨ds₁, E₁, H₁, hq, hs₁⟩, .pass (x := .inLoop c) rfl (fun _ _ => .inl (by simp)) harr⟩
      | ret => exact ⟨_, a₁, w₁, ⟨ds₁, E₁, H₁, hq, hs₁⟩, .pass (x := .inLoop c) rfl (fun _ _ => .inl (by simp)) harr⟩
      | panic ch => exact ⟨_, a₁, w₁, ⟨ds₁, E₁, H₁, hq, hs₁⟩, .pass (x := .inLoop c) rfl (fun _ _ => .inl (by simp)) harr⟩
      | outgrown => exact ⟨_, a₁, w₁, ⟨ds₁, E₁, H₁, hq, hs₁⟩, .pass (x := .inLoop c) rfl (fun _ _ => .inl (by simp)) harr⟩
  obtain ⟨e', a', w', hq, harr⟩ := key _ x0 rfl h0 ds a w ⟨hs.defers, hs.fr.weaken hE.lk, hs.inv.sub (hH.app _)⟩
  exact ⟨e', a', w', hq, .of_steps (.one (fenced_calm hb hr rfl) stepR_loop) harr⟩
end
end Go.TH
