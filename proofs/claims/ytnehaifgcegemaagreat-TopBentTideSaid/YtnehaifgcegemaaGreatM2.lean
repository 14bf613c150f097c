/-
  What is proved here: regions that draw their order, some of whose operations allocate, or call what allocates. Conditions: none; each rule states its own.
  What is proved here: slices of one's own (append, make, store), and slices of such slices. Conditions: none; each rule states its own.
  What is proved here: own slices of encoded elements, and own slices of such slices. Conditions: none; each rule states its own.
  What is proved here: literals of structs, arrays and slices; tests of bools and structs; min, max and copy. Conditions: none; each rule states its own.
  What is proved here: a range over a function: the statement, and the call of yield. Conditions: none; each rule states its own.
  What is proved here: the steps of a drawn region, one by one. Conditions: none; each rule states its own.
  What is proved here: calls of function values. Conditions: none; each rule states its own.
  What is proved here: structs behind pointers, pieces as one piece, and functions that yield. Conditions: none; each rule states its own.
  What is proved here: scopes, labels, slices of numbers that are made, and copy. Conditions: none; each rule states its own.
  What is proved here: from a law's contract to what its row asks. Conditions: none; each rule states its own.
  What is proved here: what is read as data is read as lists. Conditions: none; each rule states its own.
-/
import Derived.Test.YtnehaifgcegemaaGreatM1
import Derived.Great.BuildSlice
import Derived.Laws.IdiomCopy
import Derived.RangeFuncRecord
import Derived.Laws.CopyRow
import Derived.Below
import Derived.ChangeSame
import Derived.ProofKit
import Derived.Deep.Slices
import Derived.Carry
set_option linter.unusedVariables false
set_option linter.unusedSimpArgs false
namespace Go.TH
open Go

theorem sat_perm {H H' : List HP} (p : H.Perm H') : ∀ {h : Hp}, sat H h → sat H' h := by
  induction p with
  | nil => exact fun h => h
  | cons A _ ih => exact fun ⟨h1, h2, s, a, r⟩ => ⟨h1, h2, s, a, ih r⟩
  | swap A B H =>
    rintro h ⟨hb, r, s, hB, ha, c, t, hA, hc⟩
    obtain ⟨r', s', t'⟩ := s.swap t
    exact ⟨ha, r', s', hA, hb, c, t', hB, hc⟩
  | trans _ _ ih1 ih2 => exact fun h => ih2 (ih1 h)
theorem Inv.perm {w0 : World} {M : List Nat} {H H' : List HP} {w : World} (h : Inv w0 M H w) (p : H.Perm H') : Inv w0 M H' w :=
  ⟨h.os, h.tape, h.output, h.size, h.keep, sat_perm p h.mine⟩

theorem Pick.perm {A : HP} {H H' : List HP} (p : Pick A H H') : H.Perm (A :: H') := by
  induction p with
  | head => exact .refl _
  | tail p ih => exact (List.Perm.cons _ ih).trans (.swap _ _ _)

/-- how an operation is taken: r reads no memory, g reads one piece that stays till it is done, b reads what was there before, f reads what is there now, c changes what is new, s likewise but yields nothing, a makes a variable; X: the slots that may be written ahead of it -/
inductive Nd
  | g (k : Nat) (X : List Nat) (Q : HP) | r (k : Nat) (X : List Nat) | b (k : Nat) (X : List Nat) | f (k : Nat) (X : List Nat) | c (k : Nat) (X : List Nat) | s (k : Nat) (X : List Nat) | a (k d : Nat) (z : Obj)
def Nd.ix : Nd → Nat
  | .g k _ _ => k
  | .r k _ => k
  | .b k _ => k
  | .f k _ => k
  | .c k _ => k
  | .s k _ => k
  | .a k _ _ => k
def Nd.isF : Nd → Bool
  | .f _ _ => true
  | _ => false
def Nd.al : Nd → List Nat
  | .a k _ _ => [k]
  | _ => []
def Nd.X : Nd → List Nat
  | .g _ X _ => X
  | .r _ X => X
  | .b _ X => X
  | .f _ X => X
  | .c _ X => X
  | .s _ X => X
  | .a _ _ _ => []
def cloT (l : List Oper) : List (List Nat) :=
  l.foldl (fun T o => T ++ [(List.range T.length).filter fun j => (afs o).any fun a => Nat.beq a j || (T.getD a []).elem j]) []
def cloOk (l : List Oper) (T : List (List Nat)) : Bool :=
  l.zipIdx.all fun (o, i) => (T.getD i []).all fun j => (afs o).any fun a => Nat.beq a j || (T.getD a []).elem j
def dtChk (l : List Oper) (T : List (List Nat)) (m : Nat) (AL : List Nat) : List Nd → List Nd → Bool
  | [], dn => (List.range m).all fun i => (dn.map Nd.ix).elem i
  | nd :: p, dn =>
    (!(dn.map Nd.ix).elem nd.ix && Nat.blt nd.ix m && Nat.blt nd.ix l.length &&
    (match nd with
     | .c k _ => !AL.elem k && dn.all (fun n => !n.isF || (T.getD k []).elem n.ix) && l.zipIdx.all (fun (o, j) => (dn.map Nd.ix).elem j || AL.elem j || Nat.beq j k || (afs o).any fun x => !(dn.map Nd.ix).elem x && !AL.elem x)
     | .s k _ => !AL.elem k && dn.all (fun n => !n.isF || (T.getD k []).elem n.ix) && l.zipIdx.all (fun (o, j) => (dn.map Nd.ix).elem j || AL.elem j || Nat.beq j k || (afs o).any fun x => !(dn.map Nd.ix).elem x && !AL.elem x)
     | .a k _ _ => AL.elem k && l.zipIdx.all (fun (o, j) => (dn.map Nd.ix).elem j || AL.elem j || (afs o).any fun x => !(dn.map Nd.ix).elem x && (Nat.beq x k || !AL.elem x))
     | n => !AL.elem n.ix)) && dtChk l T m AL p (nd :: dn)
def distinct : List Nat → Bool
  | [] => true
  | x :: r => !r.elem x && distinct r
def xOk (l : List Oper) (T : List (List Nat)) (m : Nat) (EK : List Nat) (n : Nd) : Bool :=
  (l.take m).zipIdx.all fun (o, k) => (T.getD k []).elem n.ix || match o.dst with
    | none => true
    | some d => n.X.elem d || !EK.elem d
def drawDOk (l : List Oper) (m : Nat) (plan : List Nd) (XT EK : List Nat) : Bool :=
  (plan.all fun n => xOk l (cloT l) m EK n) &&
  ((l.take m).all fun o => match o.dst with
    | none => true
    | some d => XT.elem d || !EK.elem d) &&
  (l.zipIdx.all fun (o, i) => (afs o).all (Nat.blt · i)) &&
  ((l.take m).zipIdx.all fun (o, i) => (l.take m).zipIdx.all fun (o', j) => i == j || o.dst.isNone || o.dst != o'.dst) &&
  cloOk l (cloT l) &&
  (l.zipIdx.drop m).all (fun (_, i) => (List.range i).all fun j => ((cloT l).getD i []).elem j) &&
  (plan.flatMap Nd.al).all (Nat.blt · m) && distinct (plan.map Nd.ix) &&
  dtChk l (cloT l) m (plan.flatMap Nd.al) plan []

theorem distinct_inj {α : Type} {f : α → Nat} : ∀ {l : List α}, distinct (l.map f) = true → ∀ {x y : α}, x ∈ l → y ∈ l → f x = f y → x = y
  | [], _, _, _, h, _, _ => by simp at h
  | z :: r, hd, x, y, hx, hy, e => by
    simp only [List.map_cons, distinct, Bool.and_eq_true, Bool.not_eq_true'] at hd
    have hn : ∀ u ∈ r, f u ≠ f z := fun u hu e => by
      have : (r.map f).elem (f z) = true := by
        simp only [List.elem_eq_mem, decide_eq_true_eq]
        exact List.mem_map.2 ⟨u, hu, e⟩
      rw [this] at hd; exact absurd hd.1 (by simp)
    rcases List.mem_cons.1 hx with ex | hx1
    · rcases List.mem_cons.1 hy with ey | hy1
      · rw [ex, ey]
      · exact absurd (by rw [← e, ex]) (hn y hy1)
    · rcases List.mem_cons.1 hy with ey | hy1
      · exact absurd (by rw [e, ey]) (hn x hx1)
      · exact distinct_inj hd.2 hx1 hy1 e

section
variable {P : Program} {C : Cx P} {E : Env} {H : List HP}

/-- what is still to be read stays -/
def Keep (l : List Oper) (k : Nat) (H : List HP) : List Nd → Prop
  | [] => True
  | .g j _ Q :: dn => (((cloT l).getD k []).elem j = true ∨ ∃ R, Pick Q H R) ∧ Keep l k H dn
  | _ :: dn => Keep l k H dn
theorem Keep.at {l : List Oper} {k : Nat} {H : List HP} {j : Nat} {X : List Nat} {Q : HP} : ∀ {dn : List Nd}, Keep l k H dn → Nd.g j X Q ∈ dn → ((cloT l).getD k []).elem j = true ∨ ∃ R, Pick Q H R
  | [], _, h => by simp at h
  | nd :: dn, hk, h => by
    rcases List.mem_cons.1 h with rfl | h'
    · exact hk.1
    · clear h
      cases nd with
      | g k X Q => exact Keep.at (And.right hk) h'
      | r k X => have hk2 : Keep l _ H dn := hk; exact Keep.at hk2 h'
      | b k X => have hk2 : Keep l _ H dn := hk; exact Keep.at hk2 h'
      | f k X => have hk2 : Keep l _ H dn := hk; exact Keep.at hk2 h'
      | c k X => have hk2 : Keep l _ H dn := hk; exact Keep.at hk2 h'
      | s k X => have hk2 : Keep l _ H dn := hk; exact Keep.at hk2 h'
      | a k d z => have hk2 : Keep l _ H dn := hk; exact Keep.at hk2 h'
def DT (C : Cx P) (l : List Oper) (m : Nat) (K : KP) (XT : List Nat) (E0 : Env) (H0 : List HP) : List Nd → List Nd → List SE → List HP → Prop
  | [], _, pre, A => WO C l.toArray (l.drop m) K (allE (delE XT E0) pre) (A ++ H0)
  | .r k X :: p, dn, pre, A => ∃ o d v, l[k]? = some o ∧ o.dst = some d ∧ Nat.blt d C.N = true ∧ WO C l.toArray [o] (fun E' H' => E' = (d, v) :: selE (afs o) (delE X E0) pre ∧ H' = []) (selE (afs o) (delE X E0) pre) [] ∧ DT C l m K XT E0 H0 p (.r k X :: dn) (⟨k, d, v⟩ :: pre) A
  | .b k X :: p, dn, pre, A => ∃ o d v, l[k]? = some o ∧ o.dst = some d ∧ Nat.blt d C.N = true ∧ WO C l.toArray [o] (fun E' H' => E' = (d, v) :: selE (afs o) (delE X E0) pre ∧ H' = H0) (selE (afs o) (delE X E0) pre) H0 ∧ DT C l m K XT E0 H0 p (.b k X :: dn) (⟨k, d, v⟩ :: pre) A
  | .f k X :: p, dn, pre, A => ∃ o d v, l[k]? = some o ∧ o.dst = some d ∧ Nat.blt d C.N = true ∧ WO C l.toArray [o] (fun E' H' => E' = (d, v) :: selE (afs o) (delE X E0) pre ∧ H' = A ++ H0) (selE (afs o) (delE X E0) pre) (A ++ H0) ∧ DT C l m K XT E0 H0 p (.f k X :: dn) (⟨k, d, v⟩ :: pre) A
  | .c k X :: p, dn, pre, A => ∃ o d, l[k]? = some o ∧ o.dst = some d ∧ Nat.blt d C.N = true ∧ WO C l.toArray [o] (fun E' H' => ∃ v A', E' = (d, v) :: selE (afs o) (delE X E0) pre ∧ H' = A' ++ H0 ∧ Keep l k (A' ++ H0) dn ∧ DT C l m K XT E0 H0 p (.c k X :: dn) (⟨k, d, v⟩ :: pre) A') (selE (afs o) (delE X E0) pre) (A ++ H0)
  | .s k X :: p, dn, pre, A => ∃ o, l[k]? = some o ∧ o.dst = none ∧ WO C l.toArray [o] (fun E' H' => ∃ A', E' = selE (afs o) (delE X E0) pre ∧ H' = A' ++ H0 ∧ Keep l k (A' ++ H0) dn ∧ DT C l m K XT E0 H0 p (.s k X :: dn) pre A') (selE (afs o) (delE X E0) pre) (A ++ H0)
  | .a k d z :: p, dn, pre, A => ∀ b, DT C l m K XT E0 H0 p (.a k d z :: dn) (⟨k, d, .pointer (some ⟨b, 0, none⟩)⟩ :: pre) (pt b z :: A)
  | .g k X Q :: p, dn, pre, A => ∃ o d v, l[k]? = some o ∧ o.dst = some d ∧ Nat.blt d C.N = true ∧ (∃ R, Pick Q (A ++ H0) R) ∧ WO C l.toArray [o] (fun E' H' => E' = (d, v) :: selE (afs o) (delE X E0) pre ∧ H' = [Q]) (selE (afs o) (delE X E0) pre) [Q] ∧ DT C l m K XT E0 H0 p (.g k X Q :: dn) (⟨k, d, v⟩ :: pre) A

/-- the variables that are made, whenever it be -/
def ALok (C : Cx P) (l : List Oper) : List Nd → Prop
  | [] => True
  | .a k d z :: p => (∃ o, l[k]? = some o ∧ o.dst = some d ∧ Nat.blt d C.N = true ∧ WO C l.toArray [o] (fun E' H' => ∃ b, E' = [(d, .pointer (some ⟨b, 0, none⟩))] ∧ H' = [pt b z]) [] []) ∧ ALok C l p
  | _ :: p => ALok C l p
theorem ALok.at {l : List Oper} {plan : List Nd} (ha : ALok C l plan) {k d : Nat} {z : Obj} (h : Nd.a k d z ∈ plan) : ∃ o, l[k]? = some o ∧ o.dst = some d ∧ Nat.blt d C.N = true ∧ WO C l.toArray [o] (fun E' H' => ∃ b, E' = [(d, .pointer (some ⟨b, 0, none⟩))] ∧ H' = [pt b z]) [] [] := by
  induction plan with
  | nil => simp at h
  | cons nd p ih =>
    rcases List.mem_cons.1 h with rfl | h'
    · exact ha.1
    · clear h
      cases nd <;> first | exact ih ha h' | exact ih ha.2 h'

structure AE where
  k : Nat
  d : Nat
  b : Nat
  z : Obj
def AE.p (x : AE) : HP := pt x.b x.z

/-- a reading operation that is told, and not yet done -/
def PQ (C : Cx P) (l : List Oper) (E0 : Env) (pre : List SE) (k : Nat) (X : List Nat) (Hq : List HP) : Prop :=
  ∃ o d v Eq, l[k]? = some o ∧ o.dst = some d ∧ Nat.blt d C.N = true ∧ ⟨k, d, v⟩ ∈ pre ∧ WO C l.toArray [o] (fun E' H' => E' = (d, v) :: Eq ∧ H' = Hq) Eq Hq ∧
    ∀ t u, lk Eq t = some u → (∃ s ∈ pre, s.ix ∈ afs o ∧ s.d = t ∧ s.v = u) ∨ lk (delE X E0) t = some u
def Pd (C : Cx P) (l : List Oper) (E0 : Env) (H0 : List HP) (pre : List SE) (A : List HP) : Nd → Prop
  | .g k X Q => (∃ R, Pick Q (A ++ H0) R) ∧ PQ C l E0 pre k X [Q]
  | .r k X => PQ C l E0 pre k X []
  | .b k X => PQ C l E0 pre k X H0
  | .f k X => ∃ As Aq, A = As ++ Aq ∧ PQ C l E0 pre k X (Aq ++ H0)
  | .c _ _ => False
  | .s _ _ => False
  | .a _ _ _ => False
theorem PQ.more {l : List Oper} {E0 : Env} {pre : List SE} {k : Nat} {X : List Nat} {Hq : List HP} (h : PQ C l E0 pre k X Hq) (s : SE) : PQ C l E0 (s :: pre) k X Hq := by
  obtain ⟨o, d, v, Eq, h1, h2, h3, h4, h5, h6⟩ := h
  refine ⟨o, d, v, Eq, h1, h2, h3, by simp [h4], h5, fun t u hu => ?_⟩
  rcases h6 t u hu with ⟨s', a, b⟩ | h
  · exact .inl ⟨s', by simp [a], b⟩
  · exact .inr h
theorem Pd.more {l : List Oper} {E0 : Env} {H0 : List HP} {pre : List SE} {A : List HP} {nd : Nd} (h : Pd C l E0 H0 pre A nd) (s : SE) : Pd C l E0 H0 (s :: pre) A nd := by
  cases nd <;> simp only [Pd] at h ⊢
  · exact ⟨h.1, h.2.more s⟩
  · exact h.more s
  · exact h.more s
  · obtain ⟨As, Aq, e, h⟩ := h; exact ⟨As, Aq, e, h.more s⟩
theorem Pd.moreA {l : List Oper} {E0 : Env} {H0 : List HP} {pre : List SE} {A : List HP} {nd : Nd} (h : Pd C l E0 H0 pre A nd) (B : HP) : Pd C l E0 H0 pre (B :: A) nd := by
  cases nd <;> simp only [Pd] at h ⊢
  · obtain ⟨⟨R, p⟩, h⟩ := h; exact ⟨⟨_, .tail p⟩, h⟩
  · exact h
  · exact h
  · obtain ⟨As, Aq, e, h⟩ := h; exact ⟨B :: As, Aq, by simp [e], h⟩

structure DS (C : Cx P) (l : List Oper) (m : Nat) (K : KP) (XT : List Nat) (E0 : Env) (H0 L : List HP) (plan : List Nd) (ls : Array Bool) (a : Act) (w : World) (p dn : List Nd) (pre : List SE) (A : List HP) (al : List AE) : Prop where
  chk : dtChk l (cloT l) m (plan.flatMap Nd.al) p dn = true
  dt : DT C l m K XT E0 H0 p dn pre A
  sub : ∀ n ∈ p, n ∈ plan
  exe : ∀ i, i < l.length → ls.getD i true = true → i ∈ dn.map Nd.ix ∨ i ∈ plan.flatMap Nd.al
  dnM : ∀ n ∈ dn, n.ix < m
  dnP : ∀ n ∈ dn, n ∈ plan
  preD : ∀ s ∈ pre, s.ix ∈ dn.map Nd.ix
  uniq : ∀ s ∈ pre, ∀ s' ∈ pre, s.ix = s'.ix → s = s'
  preO : ∀ s ∈ pre, ∃ o, l[s.ix]? = some o ∧ o.dst = some s.d ∧ s.ix < m
  val : ∀ s ∈ pre, ls.getD s.ix true = true → a.tmps[s.d]? = some s.v
  alO : ∀ x ∈ al, Nd.a x.k x.d x.z ∈ plan ∧ x.k ∉ dn.map Nd.ix ∧ a.tmps[x.d]? = some (.pointer (some ⟨x.b, 0, none⟩))
  alX : ∀ x ∈ al, ls.getD x.k true = true
  alC : ∀ k ∈ plan.flatMap Nd.al, k ∉ dn.map Nd.ix → ls.getD k true = true → ∃ x ∈ al, x.k = k
  pend : ∀ nd ∈ dn, ls.getD nd.ix true = false → Pd C l E0 H0 pre A nd
  mem : ∃ ds : List Nat, a.defers = ds.map mark ∧ Inv C.w0 C.M ((ds.map ptd ++ L) ++ (al.map AE.p ++ (A ++ H0))) w
  frN : a.tmps.size = C.N
  frE : ∀ t v, lk E0 t = some v → a.tmps[t]? = some v ∨ ∃ k o, l[k]? = some o ∧ k < m ∧ o.dst = some t ∧ ls.getD k true = true

def NF (ls : Array Bool) : List Nd → Prop
  | [] => True
  | .c _ _ :: _ => True
  | .s _ _ :: _ => True
  | .a k _ _ :: _ => ls.getD k true = false
  | _ :: _ => False

theorem al_mem {plan : List Nd} {k d : Nat} {z : Obj} (h : Nd.a k d z ∈ plan) : k ∈ plan.flatMap Nd.al := List.mem_flatMap.2 ⟨_, h, by simp [Nd.al]⟩
theorem mem_al {plan : List Nd} {k : Nat} (h : k ∈ plan.flatMap Nd.al) : ∃ d z, Nd.a k d z ∈ plan := by
  obtain ⟨n, hn, hk⟩ := List.mem_flatMap.1 h
  cases n <;> simp [Nd.al] at hk
  subst hk
  exact ⟨_, _, hn⟩

section norm
variable {l : List Oper} {m : Nat} {K : KP} {XT : List Nat} {E0 : Env} {H0 L : List HP} {plan : List Nd} {ls : Array Bool} {a : Act} {w : World}

theorem DS.quiet {nd : Nd} {p dn : List Nd} {pre : List SE} {A : List HP} {al : List AE} (h : DS C l m K XT E0 H0 L plan ls a w (nd :: p) dn pre A al) (hal : nd.ix ∉ plan.flatMap Nd.al) {o : Oper} {d : Nat} {v : Value}
    (ho : l[nd.ix]? = some o) (hd : o.dst = some d) (hm : nd.ix < m) (hn : nd.ix ∉ dn.map Nd.ix) (hc : dtChk l (cloT l) m (plan.flatMap Nd.al) p (nd :: dn) = true) (hdt : DT C l m K XT E0 H0 p (nd :: dn) (⟨nd.ix, d, v⟩ :: pre) A)
    (hp : Pd C l E0 H0 (⟨nd.ix, d, v⟩ :: pre) A nd) : DS C l m K XT E0 H0 L plan ls a w p (nd :: dn) (⟨nd.ix, d, v⟩ :: pre) A al := by
  have hlt : nd.ix < l.length := (List.getElem?_eq_some_iff.1 ho).1
  have hf : ls.getD nd.ix true = false := by
    cases hg : ls.getD nd.ix true with
    | false => rfl
    | true => rcases h.exe _ hlt hg with x | x; exact absurd x hn; exact absurd x hal
  refine ⟨hc, hdt, fun n hn' => h.sub n (by simp [hn']), fun i hi hi' => ?_, ?_, ?_, ?_, ?_, ?_, ?_, ?_, h.alX, ?_, ?_, h.mem, h.frN, h.frE⟩
  · rcases h.exe i hi hi' with x | x
    · exact .inl (by simp only [List.map_cons, List.mem_cons]; exact .inr x)
    · exact .inr x
  · intro n hn'
    rcases List.mem_cons.1 hn' with rfl | hn'
    · exact hm
    · exact h.dnM n hn'
  · intro n hn'
    rcases List.mem_cons.1 hn' with rfl | hn'
    · exact h.sub _ (by simp)
    · exact h.dnP n hn'
  · intro s hs
    rcases List.mem_cons.1 hs with rfl | hs
    · simp
    · simp only [List.map_cons, List.mem_cons]; exact .inr (h.preD s hs)
  · intro s hs s' hs' e
    rcases List.mem_cons.1 hs with rfl | hs <;> rcases List.mem_cons.1 hs' with rfl | hs'
    · rfl
    · exact absurd (by have := h.preD s' hs'; rw [← e] at this; exact this) hn
    · exact absurd (by have := h.preD s hs; rw [e] at this; exact this) hn
    · exact h.uniq s hs s' hs' e
  · intro s hs
    rcases List.mem_cons.1 hs with rfl | hs
    · exact ⟨o, ho, hd, hm⟩
    · exact h.preO s hs
  · intro s hs hl
    rcases List.mem_cons.1 hs with rfl | hs
    · rw [hf] at hl; cases hl
    · exact h.val s hs hl
  · intro x hx
    obtain ⟨h1, h2, h3⟩ := h.alO x hx
    refine ⟨h1, ?_, h3⟩
    simp only [List.map_cons, List.mem_cons, not_or]
    exact ⟨fun e => hal (e ▸ al_mem h1), h2⟩
  · intro k hk hk' hl
    simp only [List.map_cons, List.mem_cons, not_or] at hk'
    exact h.alC k hk hk'.2 hl
  · intro n hn' hl
    rcases List.mem_cons.1 hn' with rfl | hn'
    · exact hp
    · exact (h.pend n hn' hl).more _

theorem DS.takeA {k d : Nat} {z : Obj} {p dn : List Nd} {pre : List SE} {A : List HP} {al : List AE} (h : DS C l m K XT E0 H0 L plan ls a w (.a k d z :: p) dn pre A al) (hdis : distinct (plan.map Nd.ix) = true) (hl : ls.getD k true = true)
    (hm : k < m) (hn : k ∉ dn.map Nd.ix) (hc : dtChk l (cloT l) m (plan.flatMap Nd.al) p (.a k d z :: dn) = true) (hal : ALok C l plan) :
    ∃ pre' A' al', DS C l m K XT E0 H0 L plan ls a w p (.a k d z :: dn) pre' A' al' := by
  have hpl : Nd.a k d z ∈ plan := h.sub _ (by simp)
  obtain ⟨x, hx, hxk⟩ := h.alC k (al_mem hpl) hn hl
  obtain ⟨x1, x2, x3⟩ := h.alO x hx
  have e : Nd.a x.k x.d x.z = .a k d z := distinct_inj hdis x1 hpl (by simpa [Nd.ix] using hxk)
  simp only [Nd.a.injEq] at e
  obtain ⟨e1, e2, e3⟩ := e
  obtain ⟨al1, al2, rfl⟩ := List.append_of_mem hx
  obtain ⟨o, ho, hd, _, _⟩ := hal.at hpl
  obtain ⟨ds, hds, hi⟩ := h.mem
  -- two of the same operation are one
  have hdup : ∀ y ∈ al1 ++ al2, y.k = k → ∃ s : Unit, True := fun _ _ _ => ⟨(), trivial⟩
  refine ⟨⟨k, d, .pointer (some ⟨x.b, 0, none⟩)⟩ :: pre, pt x.b z :: A, (al1 ++ al2).filter (fun y => !Nat.beq y.k k), hc, ?_, fun n hn' => h.sub n (by simp [hn']), fun i hi hi' => ?_, ?_, ?_, ?_, ?_, ?_, ?_, ?_, fun y hy => h.alX y (by rcases List.mem_append.1 (List.mem_filter.1 hy).1 with q | q <;> simp [q]), ?_, ?_, ⟨ds, hds, ?_⟩, h.frN, h.frE⟩
  · exact h.dt x.b
  · rcases h.exe i hi hi' with y | y
    · exact .inl (by simp only [List.map_cons, List.mem_cons]; exact .inr y)
    · exact .inr y
  · intro n hn'
    rcases List.mem_cons.1 hn' with rfl | hn'
    · exact hm
    · exact h.dnM n hn'
  · intro n hn'
    rcases List.mem_cons.1 hn' with rfl | hn'
    · exact h.sub _ (by simp)
    · exact h.dnP n hn'
  · intro s hs
    rcases List.mem_cons.1 hs with rfl | hs
    · simp [Nd.ix]
    · simp only [List.map_cons, List.mem_cons]; exact .inr (h.preD s hs)
  · intro s hs s' hs' e
    rcases List.mem_cons.1 hs with rfl | hs <;> rcases List.mem_cons.1 hs' with rfl | hs'
    · rfl
    · exact absurd (by have := h.preD s' hs'; rw [← e] at this; exact this) hn
    · exact absurd (by have := h.preD s hs; rw [e] at this; exact this) hn
    · exact h.uniq s hs s' hs' e
  · intro s hs
    rcases List.mem_cons.1 hs with rfl | hs
    · exact ⟨o, ho, hd, hm⟩
    · exact h.preO s hs
  · intro s hs hl'
    rcases List.mem_cons.1 hs with rfl | hs
    · rw [e2] at x3; exact x3
    · exact h.val s hs hl'
  · intro y hy
    obtain ⟨hy1, hy2⟩ := List.mem_filter.1 hy
    obtain ⟨h1, h2, h3⟩ := h.alO y (by rcases List.mem_append.1 hy1 with q | q <;> simp [q])
    refine ⟨h1, ?_, h3⟩
    simp only [List.map_cons, List.mem_cons, not_or]
    refine ⟨fun e => ?_, h2⟩
    simp only [Nd.ix] at e
    simp [e] at hy2
  · intro k' hk hk' hl'
    simp only [List.map_cons, List.mem_cons, not_or] at hk'
    obtain ⟨y, hy, hyk⟩ := h.alC k' hk hk'.2 hl'
    refine ⟨y, List.mem_filter.2 ⟨?_, ?_⟩, hyk⟩
    · rcases List.mem_append.1 hy with q | q
      · simp [q]
      · rcases List.mem_cons.1 q with rfl | q
        · exact absurd (hyk.symm.trans e1) hk'.1
        · simp [q]
    · have : ¬ y.k = k := fun e => hk'.1 (hyk.symm.trans e)
      cases hb : Nat.beq y.k k with
      | false => rfl
      | true => exact absurd (Nat.eq_of_beq_eq_true hb) this
  · intro n hn' hl'
    rcases List.mem_cons.1 hn' with rfl | hn'
    · simp only [Nd.ix] at hl'; rw [hl] at hl'; cases hl'
    · exact ((h.pend n hn' hl').more _).moreA _
  · -- the memory
    refine hi.sub ?_
    refine Sub.app ?_ _
    have hxp : AE.p x = pt x.b z := by simp [AE.p, e3]
    have hs : ∀ (q : AE → Bool) (l1 : List AE) (R : List HP), Sub (l1.map AE.p ++ R) ((l1.filter q).map AE.p ++ R) := by
      intro q l1 R
      induction l1 with
      | nil => exact Sub.refl _
      | cons y l1 ih =>
        simp only [List.filter_cons]
        split
        · exact .cons .head ih
        · exact Sub.tail ih
    have p1 : Sub (List.map AE.p (al1 ++ x :: al2) ++ (A ++ H0)) ((al1 ++ al2).map AE.p ++ (pt x.b z :: (A ++ H0))) := by
      have := Sub.rot (al1.map AE.p) [AE.p x] (al2.map AE.p ++ (A ++ H0))
      have q2 := Sub.rot [pt x.b z] ((al1 ++ al2).map AE.p) (A ++ H0)
      refine Sub.trans (H2 := [AE.p x] ++ (al1.map AE.p ++ (al2.map AE.p ++ (A ++ H0)))) ?_ ?_
      · simpa [List.append_assoc] using this
      · rw [hxp]; simpa [List.append_assoc] using q2
    exact p1.trans (hs _ _ _)

theorem DS.norm (hdis : distinct (plan.map Nd.ix) = true) (hal : ALok C l plan) : ∀ {p dn : List Nd} {pre : List SE} {A : List HP} {al : List AE}, DS C l m K XT E0 H0 L plan ls a w p dn pre A al →
    ∃ p' dn' pre' A' al', DS C l m K XT E0 H0 L plan ls a w p' dn' pre' A' al' ∧ NF ls p' := by
  intro p
  induction p with
  | nil => exact fun h => ⟨_, _, _, _, _, h, trivial⟩
  | cons nd p ih =>
    intro dn pre A al h
    have hc := h.chk
    simp only [dtChk, Bool.and_eq_true, Bool.not_eq_true'] at hc
    obtain ⟨⟨⟨⟨c1, c2⟩, c3⟩, c4⟩, c5⟩ := hc
    have c1' : nd.ix ∉ dn.map Nd.ix := by simpa using c1
    have c2' := Nat.blt_eq.mp c2
    cases nd with
    | g k X Q =>
      obtain ⟨o, d, v, ho, hd, hN, hpk, hwo, hdt⟩ := h.dt
      refine ih (h.quiet (by simpa using c4) ho hd c2' c1' c5 hdt ⟨hpk, o, d, v, _, ho, hd, hN, by simp [Nd.ix], hwo, fun t u hu => ?_⟩)
      rcases lk_selE hu with ⟨s, s1, s2⟩ | hu
      · exact .inl ⟨s, by simp [s1], s2⟩
      · exact .inr hu
    | r k X =>
      obtain ⟨o, d, v, ho, hd, hN, hwo, hdt⟩ := h.dt
      refine ih (h.quiet (by simpa using c4) ho hd c2' c1' c5 hdt ⟨o, d, v, _, ho, hd, hN, by simp [Nd.ix], hwo, fun t u hu => ?_⟩)
      rcases lk_selE hu with ⟨s, s1, s2⟩ | hu
      · exact .inl ⟨s, by simp [s1], s2⟩
      · exact .inr hu
    | b k X =>
      obtain ⟨o, d, v, ho, hd, hN, hwo, hdt⟩ := h.dt
      refine ih (h.quiet (by simpa using c4) ho hd c2' c1' c5 hdt ⟨o, d, v, _, ho, hd, hN, by simp [Nd.ix], hwo, fun t u hu => ?_⟩)
      rcases lk_selE hu with ⟨s, s1, s2⟩ | hu
      · exact .inl ⟨s, by simp [s1], s2⟩
      · exact .inr hu
    | f k X =>
      obtain ⟨o, d, v, ho, hd, hN, hwo, hdt⟩ := h.dt
      refine ih (h.quiet (by simpa using c4) ho hd c2' c1' c5 hdt ⟨[], A, rfl, o, d, v, _, ho, hd, hN, by simp [Nd.ix], hwo, fun t u hu => ?_⟩)
      rcases lk_selE hu with ⟨s, s1, s2⟩ | hu
      · exact .inl ⟨s, by simp [s1], s2⟩
      · exact .inr hu
    | c k X => exact ⟨_, _, _, _, _, h, trivial⟩
    | s k X => exact ⟨_, _, _, _, _, h, trivial⟩
    | a k d z =>
      cases hl : ls.getD k true with
      | false => exact ⟨_, _, _, _, _, h, hl⟩
      | true =>
        obtain ⟨pre', A', al', h'⟩ := h.takeA hdis hl c2' c1' c5 hal
        exact ih h'
end norm

theorem cloOk_at {l : List Oper} {T : List (List Nat)} (h : cloOk l T = true) {i : Nat} {o : Oper} (ho : l[i]? = some o) {j : Nat} (hj : j ∈ T.getD i []) : ∃ x ∈ afs o, x = j ∨ j ∈ T.getD x [] := by
  have := List.all_eq_true.1 h (o, i) (by rw [List.mem_zipIdx_iff_getElem?]; simpa using ho)
  have := List.all_eq_true.1 this j hj
  obtain ⟨x, hx, hx'⟩ := List.any_eq_true.1 this
  refine ⟨x, hx, ?_⟩
  rcases Bool.or_eq_true_iff.1 hx' with h | h
  · exact .inl (Nat.eq_of_beq_eq_true h)
  · exact .inr (by simpa using h)

theorem W.drawD {Q : Post} {id : Nat} {l : List Oper} (m : Nat) (plan : List Nd) (XT : List Nat) {A0 H0 : List HP} (hsub : Sub H (A0 ++ H0)) (hchk : drawDOk l m plan XT (E.map Prod.fst) = true) (hal : ALok C l plan)
    (h : DT C l m (Q .normal) XT E H0 plan [] [] A0) : W C (.region id l.toArray true) Q E H := by
  intro L ds a w hs
  refine wpIn_region_any C.mixed ?_
  simp only [drawDOk, Bool.and_eq_true] at hchk
  obtain ⟨⟨⟨⟨⟨⟨⟨⟨hxp, hxt⟩, hc1⟩, hc3⟩, hT⟩, hc2⟩, hALm⟩, hdis⟩, hdt⟩ := hchk
  have hc1 : ∀ i o, l[i]? = some o → ∀ j ∈ afs o, j < i := by
    intro i o hi j hj
    have := List.all_eq_true.1 hc1 (o, i) (by rw [List.mem_zipIdx_iff_getElem?]; simpa using hi)
    have := List.all_eq_true.1 this j hj
    exact Nat.blt_eq.mp this
  have hc2 : ∀ i, m ≤ i → i < l.length → ∀ j, j < i → j ∈ (cloT l).getD i [] := by
    intro i hm hi j hj
    have hmem : (l[i], i) ∈ l.zipIdx.drop m := by
      refine List.mem_iff_getElem?.2 ⟨i - m, ?_⟩
      rw [List.getElem?_drop]
      have : m + (i - m) = i := by omega
      rw [this]; simp [hi]
    have := List.all_eq_true.1 hc2 (l[i], i) hmem
    have := List.all_eq_true.1 this j (by simpa using hj)
    simpa using this
  have hc3 : ∀ i j o o', i < m → j < m → l[i]? = some o → l[j]? = some o' → i ≠ j → o.dst.isNone = false → o.dst ≠ o'.dst := by
    intro i j o o' him hjm hi hj hne hnn
    have m1 : (o, i) ∈ (l.take m).zipIdx := by rw [List.mem_zipIdx_iff_getElem?]; simp [List.getElem?_take, him, hi]
    have m2 : (o', j) ∈ (l.take m).zipIdx := by rw [List.mem_zipIdx_iff_getElem?]; simp [List.getElem?_take, hjm, hj]
    have := List.all_eq_true.1 hc3 (o, i) m1
    have := List.all_eq_true.1 this (o', j) m2
    simp only [hnn, Bool.or_false, Bool.or_eq_true, beq_iff_eq, bne_iff_ne, hne, false_or] at this
    exact this
  have hALm : ∀ k ∈ plan.flatMap Nd.al, k < m := fun k hk => Nat.blt_eq.mp (List.all_eq_true.1 hALm k hk)
  have hn : l.toArray.size = l.length := by simp
  -- what is behind a done operation is done
  have clo : ∀ (ls : Array Bool), (∀ i o, l[i]? = some o → ls.getD i true = true → ∀ j ∈ afs o, ls.getD j true = true) → ∀ i o, l[i]? = some o → (∀ j ∈ afs o, ls.getD j true = true) → ∀ j ∈ (cloT l).getD i [], ls.getD j true = true := by
    intro ls hd i
    induction i using Nat.strongRecOn with
    | _ i ih =>
      intro o ho ha j hj
      obtain ⟨x, hx, hx'⟩ := cloOk_at hT ho hj
      rcases hx' with rfl | hx'
      · exact ha _ hx
      · have hlt := hc1 i o ho x hx
        have hxl : x < l.length := by have := (List.getElem?_eq_some_iff.1 ho).1; omega
        exact ih x hlt l[x] (by simp [hxl]) (hd x l[x] (by simp [hxl]) (ha x hx)) j hx'
  have hkey : ∀ t v, lk E t = some v → t ∈ E.map Prod.fst := by
    intro t v
    generalize E = F
    induction F with
    | nil => intro h; simp [lk] at h
    | cons x r ih =>
      obtain ⟨k, u⟩ := x
      intro h
      simp only [lk] at h
      cases hb : Nat.beq k t with
      | true => have := Nat.eq_of_beq_eq_true hb; simp [this]
      | false => rw [hb] at h; simp only [List.map_cons, List.mem_cons]; exact .inr (ih h)
  -- what a node looks at is not yet written
  have hX : ∀ n ∈ plan, ∀ (ls : Array Bool) (a : Act), (∀ i o, l[i]? = some o → ls.getD i true = true → ∀ j ∈ afs o, ls.getD j true = true) → ls.getD n.ix true = false →
      (∀ t v, lk E t = some v → a.tmps[t]? = some v ∨ ∃ k o, l[k]? = some o ∧ k < m ∧ o.dst = some t ∧ ls.getD k true = true) → ∀ t u, lk (delE n.X E) t = some u → a.tmps[t]? = some u := by
    intro n hn ls a hcl hl hfr t u hu
    obtain ⟨h1, h2⟩ := lk_delE hu
    rcases hfr t u h1 with h | ⟨k, o, ho, hk, hd, hlk⟩
    · exact h
    · exfalso
      have := List.all_eq_true.1 hxp n hn
      have := List.all_eq_true.1 this (o, k) (by rw [List.mem_zipIdx_iff_getElem?]; simp [List.getElem?_take, hk, ho])
      simp only [hd, Bool.or_eq_true, Bool.not_eq_true'] at this
      rcases this with h | h | h
      · have := clo ls hcl k o ho (hcl k o ho hlk) n.ix (by simpa using h)
        rw [hl] at this; cases this
      · exact h2 (by simpa using h)
      · exact absurd (hkey t u h1) (by simpa using h)
  have hXT : ∀ (ls : Array Bool) (a : Act), (∀ t v, lk E t = some v → a.tmps[t]? = some v ∨ ∃ k o, l[k]? = some o ∧ k < m ∧ o.dst = some t ∧ ls.getD k true = true) → ∀ t u, lk (delE XT E) t = some u → a.tmps[t]? = some u := by
    intro ls a hfr t u hu
    obtain ⟨h1, h2⟩ := lk_delE hu
    rcases hfr t u h1 with h | ⟨k, o, ho, hk, hd, hlk⟩
    · exact h
    · exfalso
      have := List.all_eq_true.1 hxt o (List.mem_iff_getElem?.2 ⟨k, by rw [List.getElem?_take]; simp [hk, ho]⟩)
      simp only [hd, Bool.or_eq_true, Bool.not_eq_true'] at this
      rcases this with h | h
      · exact h2 (by simpa using h)
      · exact absurd (hkey t u h1) (by simpa using h)
  let Q' : Exit → Act → World → Prop := fun e a' w' => ∃ ds' E' H', Q e E' H' ∧ St C L ds' E' H' a' w'
  -- the tail, one behind the other
  have tailQ : ∀ pre A a w, WO C l.toArray (l.drop m) (Q .normal) (allE (delE XT E) pre) (A ++ H0) → (∃ ds, St C L ds (allE (delE XT E) pre) (A ++ H0) a w) → wpListIn C.F 0 P l.toArray Q' (l.drop m) a w := by
    rintro pre A a w ht ⟨ds, hst⟩
    have := ht L ds a w hst
    have key : ∀ (k : List Oper) a w, wpListIn C.F 0 P l.toArray (fun e a' w' => ∃ ds' E' H', thn (Q .normal) (fun _ _ _ => False) e E' H' ∧ St C L ds' E' H' a' w') k a w → wpListIn C.F 0 P l.toArray Q' k a w := by
      intro k
      have hQ : ∀ e a' w', (∃ ds' E' H', thn (Q .normal) (fun _ _ _ => False) e E' H' ∧ St C L ds' E' H' a' w') → Q' e a' w' := by
        rintro e a' w' ⟨ds', E', H', q, s⟩
        cases e <;> first | exact ⟨ds', E', H', q, s⟩ | exact q.elim
      induction k with
      | nil => exact fun a w h => hQ _ _ _ h
      | cons o k ih =>
        intro a w h
        simp only [wpListIn] at h ⊢
        split
        · rename_i hw; rw [if_pos hw] at h; exact Oper.wpIn_mono2 (fun a w => ih a w) (fun e a w _ => hQ e a w) h
        · rename_i hw; rw [if_neg hw] at h; exact ⟨h.1, ih _ _ h.2⟩
    exact key _ a w this
  have hlist : ∀ i o a w, l[i]? = some o → wpListIn C.F 0 P l.toArray Q' (l.drop i) a w → wpOpIn C.F 0 P l.toArray Q' i (wpListIn C.F 0 P l.toArray Q' (l.drop (i + 1))) a w := by
    intro i o a w hi h
    have hd : l.drop i = o :: l.drop (i + 1) := by
      obtain ⟨hlt, rfl⟩ := List.getElem?_eq_some_iff.1 hi
      exact List.drop_eq_getElem_cons hlt
    rw [hd] at h
    simp only [wpListIn] at h
    simp only [wpOpIn, List.getElem?_toArray, hi]
    exact h
  -- one operation out of its own law
  have hone : ∀ i o Ls ds Eq Hq (K : KP) (R : Act → World → Prop) a w, l[i]? = some o → WO C l.toArray [o] K Eq Hq → St C Ls ds Eq Hq a w →
      (∀ ds' E' H' a' w', K E' H' → St C Ls ds' E' H' a' w' → (∃ u, a'.tmps = (a.put o.dst u).tmps) → R a' w') → wpOpIn C.F 0 P l.toArray Q' i R a w := by
    intro i o Ls ds Eq Hq K R a w ho hwo hst hR
    have hw := hwo Ls ds a w hst
    simp only [wpListIn] at hw
    simp only [wpOpIn, List.getElem?_toArray, ho]
    split
    · rename_i hwant
      rw [if_pos hwant] at hw
      refine Oper.wpIn_mono2 (fun a' w' h => ?_) (fun e a' w' hne h => ?_) (wpIn_put hw)
      · obtain ⟨⟨ds', E', H', q, s⟩, hu⟩ := h
        exact hR ds' E' H' a' w' q s hu
      · obtain ⟨ds', E', H', q, s⟩ := h
        cases e <;> first | exact q.elim | exact absurd rfl hne
    · rename_i hwant
      rw [if_neg hwant] at hw
      obtain ⟨hab, ds', E', H', q, s⟩ := hw
      exact ⟨hab, hR ds' E' H' _ w q s ⟨undef, rfl⟩⟩
  let S : Array Bool → Act → World → Prop := fun ls a w =>
    (∃ p dn pre A al, DS C l m (Q .normal) XT E H0 L plan ls a w p dn pre A al ∧ NF ls p) ∨
    (∃ t, m < t ∧ (∀ i, i < l.length → ls.getD i true = Nat.blt i t) ∧ wpListIn C.F 0 P l.toArray Q' (l.drop t) a w)
  have main : ∀ (fuel : Nat) (ls : Array Bool) (a : Act) (w : World), ls.size = l.length → ls.toList.count false ≤ fuel → (∀ i o, l[i]? = some o → ls.getD i true = true → ∀ j ∈ afs o, ls.getD j true = true) →
      S ls a w → wpAnyIn C.F 0 P .any l.toArray Q' fuel ls a w := by
    intro fuel
    -- no operation is ready: all are listed
    have allDone : ∀ (ls : Array Bool), ls.size = l.length → Region.ready .any l.toArray ls = [] → ∀ i, i < l.length → ls.getD i true = true := by
      intro ls hsz hr i
      induction i using Nat.strongRecOn with
      | _ i ih =>
        intro hi
        cases hg : ls.getD i true with
        | true => rfl
        | false =>
          exfalso
          have : i ∈ Region.ready .any l.toArray ls := by
            refine mem_ready.2 ⟨hg, l[i], by simp [hi], fun e he hb => ?_⟩
            have hlt : e.on < i := hc1 i l[i] (by simp [hi]) _ (by
              simp only [afs, List.mem_filterMap]
              exact ⟨e, by simpa using he, by simp [hb]⟩)
            have := ih e.on hlt (by omega)
            have hs' : e.on < ls.size := by omega
            simp only [Array.getD_eq_getD_getElem?, Array.getElem?_eq_getElem hs', Option.getD_some] at this ⊢
            exact this
          rw [hr] at this
          cases this
    -- where the plan is at its end, and all of the first are done
    have toTail : ∀ ls a w dn pre A al, DS C l m (Q .normal) XT E H0 L plan ls a w [] dn pre A al → (∀ i, i < m → i < l.length → ls.getD i true = true) → wpListIn C.F 0 P l.toArray Q' (l.drop m) a w := by
      intro ls a w dn pre A al hD hall
      have hck := hD.chk
      simp only [dtChk] at hck
      have hin : ∀ i, i < m → i ∈ dn.map Nd.ix := fun i hi => by
        have := List.all_eq_true.1 hck i (by simpa using hi)
        simpa using this
      have hal0 : al = [] := by
        cases al with
        | nil => rfl
        | cons x al =>
          obtain ⟨h1, h2, _⟩ := hD.alO x (by simp)
          exact absurd (hin _ (hALm _ (al_mem h1))) h2
      obtain ⟨ds, hds, hi⟩ := hD.mem
      refine tailQ pre A a w hD.dt ⟨ds, hds, ⟨hD.frN, fun t u hu => ?_⟩, by rw [hal0] at hi; simpa using hi⟩
      rcases lk_allE hu with ⟨s, hs1, rfl, rfl⟩ | hu
      · obtain ⟨o, ho, _, hm⟩ := hD.preO s hs1
        exact hD.val s hs1 (hall _ hm (List.getElem?_eq_some_iff.1 ho).1)
      · exact hXT ls a hD.frE t u hu
    have finish : ∀ (ls : Array Bool) a w, ls.size = l.length → Region.ready .any l.toArray ls = [] → S ls a w → Q' .normal a w := by
      intro ls a w hsz hr hS
      have hall := allDone ls hsz hr
      rcases hS with ⟨p, dn, pre, A, al, hD, hN⟩ | ⟨t, h1, h2, h3⟩
      · have hck := hD.chk
        cases p with
        | nil =>
          have hm : l.length ≤ m := by
            rcases Nat.lt_or_ge m l.length with h | h
            · simp only [dtChk] at hck
              rcases hD.exe m h (hall m h) with x | x
              · obtain ⟨n, hn1, hn2⟩ := List.mem_map.1 x
                have := hD.dnM n hn1
                omega
              · exact absurd (hALm _ x) (by omega)
            · exact h
          have := toTail ls a w dn pre A al hD (fun i _ hi => hall i hi)
          rw [List.drop_eq_nil_of_le hm] at this; exact this
        | cons nd p =>
          simp only [dtChk, Bool.and_eq_true, Bool.not_eq_true'] at hck
          obtain ⟨⟨⟨⟨c1, c2⟩, c3⟩, c4⟩, c5⟩ := hck
          have c3' := Nat.blt_eq.mp c3
          cases nd <;> simp only [NF] at hN
          case c k X =>
            simp only [Bool.and_eq_true, Bool.not_eq_true'] at c4
            rcases hD.exe k c3' (hall k c3') with x | x
            · exact absurd x (by simpa [Nd.ix] using c1)
            · exact absurd x (by simpa using c4.1.1)
          case s k X =>
            simp only [Bool.and_eq_true, Bool.not_eq_true'] at c4
            rcases hD.exe k c3' (hall k c3') with x | x
            · exact absurd x (by simpa [Nd.ix] using c1)
            · exact absurd x (by simpa using c4.1.1)
          case a k d z =>
            have := hall k c3'
            rw [hN] at this; cases this
      · have : l.length ≤ t := by
          rcases Nat.lt_or_ge t l.length with h | h
          · have e1 := h2 t h
            rw [hall t h] at e1
            have := Nat.blt_eq.mp e1.symm
            omega
          · exact h
        rw [List.drop_eq_nil_of_le this] at h3; exact h3
    induction fuel with
    | zero =>
      intro ls a w hsz hcnt hcl hS
      have hr : Region.ready .any l.toArray ls = [] := by
        cases hr : Region.ready .any l.toArray ls with
        | nil => rfl
        | cons i r =>
          have hi : i ∈ Region.ready .any l.toArray ls := by rw [hr]; simp
          obtain ⟨h1, o, h2, _⟩ := mem_ready.1 hi
          have hlt : i < ls.size := by
            rw [hsz]; have := (Array.getElem?_eq_some_iff.1 h2).1; simpa using this
          have : false ∈ ls.toList := by
            have e : ls[i]? = some false := by
              simp only [Array.getD_eq_getD_getElem?, Array.getElem?_eq_getElem hlt, Option.getD_some] at h1
              rw [Array.getElem?_eq_getElem hlt, h1]
            exact Array.mem_toList_iff.2 (Array.mem_of_getElem? e)
          have := List.count_pos_iff.2 this
          omega
      exact ⟨hr, finish ls a w hsz hr hS⟩
    | succ fuel ih =>
      intro ls a w hsz hcnt hcl hS
      refine ⟨fun hr => finish ls a w hsz hr hS, fun i hi => ?_⟩
      obtain ⟨h1, o, ho, haf⟩ := mem_ready.1 hi
      have ho' : l[i]? = some o := by simpa using ho
      have hil : i < l.length := (List.getElem?_eq_some_iff.1 ho').1
      have his : i < ls.size := by omega
      have hcnt' : (ls.setIfInBounds i true).toList.count false ≤ fuel := by
        have e : ls.toList[i]? = some false := by
          simp only [Array.getD_eq_getD_getElem?, Array.getElem?_eq_getElem his, Option.getD_some] at h1
          simp [his, h1]
        have := count_set ls.toList i e
        rw [Array.toList_setIfInBounds]
        omega
      have hsz' : (ls.setIfInBounds i true).size = l.length := by simp [hsz]
      have hbefore : ∀ j, j ∈ afs o → ls.getD j true = true := by
        intro j hj
        simp only [afs, List.mem_filterMap] at hj
        obtain ⟨e, he, hb⟩ := hj
        split at hb
        · rename_i hb'
          simp at hb
          subst hb
          have hh := haf e (by simpa using he) hb'
          have hlt : e.on < ls.size := by
            have := hc1 i o ho' e.on (by simp only [afs, List.mem_filterMap]; exact ⟨e, he, by simp [hb']⟩)
            omega
          simp only [Array.getD_eq_getD_getElem?, Array.getElem?_eq_getElem hlt, Option.getD_some] at hh ⊢
          exact hh
        · cases hb
      have hset : ∀ j, j ≠ i → (ls.setIfInBounds i true).getD j true = ls.getD j true := by
        intro j hj
        rw [getD_set ls i j his]
        have : (i == j) = false := by simp; omega
        rw [this]; simp
      have hseti : (ls.setIfInBounds i true).getD i true = true := by rw [getD_set ls i i his]; simp
      have hcl' : ∀ i' o', l[i']? = some o' → (ls.setIfInBounds i true).getD i' true = true → ∀ j ∈ afs o', (ls.setIfInBounds i true).getD j true = true := by
        intro i' o' ho2 hl' j hj
        by_cases ej : j = i
        · rw [ej]; exact hseti
        · rw [hset j ej]
          by_cases ei : i' = i
          · subst ei
            rw [ho'] at ho2
            obtain rfl : o = o' := by simpa using ho2
            exact hbefore j hj
          · exact hcl i' o' ho2 (by rw [← hset i' ei]; exact hl') j hj
      have hT' : ∀ j ∈ (cloT l).getD i [], ls.getD j true = true := clo ls hcl i o ho' hbefore
      -- the tail's step
      have tailStep : ∀ a w, (∀ j, j < i → ls.getD j true = true) → m ≤ i → (∀ j, i ≤ j → j < l.length → ls.getD j true = false) → wpListIn C.F 0 P l.toArray Q' (l.drop i) a w →
          wpOpIn C.F 0 P l.toArray Q' i (wpAnyIn C.F 0 P .any l.toArray Q' fuel (ls.setIfInBounds i true)) a w := by
        intro a w hlo hm hhi hw
        refine wpOpIn_mono (fun a' w' h' => ih _ a' w' hsz' hcnt' hcl' (.inr ⟨i + 1, by omega, fun j hj => ?_, h'⟩)) (hlist i o a w ho' hw)
        rw [getD_set ls i j his]
        rcases Nat.lt_trichotomy j i with h | h | h
        · rw [hlo j h]; have : Nat.blt j (i + 1) = true := Nat.blt_eq.mpr (by omega)
          rw [this]; rfl
        · subst h; have : Nat.blt j (j + 1) = true := Nat.blt_eq.mpr (by omega)
          rw [this]; simp
        · rw [hhi j (by omega) hj]
          have e1 : (i == j) = false := by simp; omega
          have e2 : Nat.blt j (i + 1) = false := by
            cases hb : Nat.blt j (i + 1) with
            | false => rfl
            | true => have := Nat.blt_eq.mp hb; omega
          rw [e1, e2]; rfl
      have go : ∀ a' w' p dn pre A al, DS C l m (Q .normal) XT E H0 L plan (ls.setIfInBounds i true) a' w' p dn pre A al → wpAnyIn C.F 0 P .any l.toArray Q' fuel (ls.setIfInBounds i true) a' w' := by
        intro a' w' p dn pre A al hD
        obtain ⟨p', dn', pre', A', al', hD', hN'⟩ := hD.norm hdis hal
        exact ih _ a' w' hsz' hcnt' hcl' (.inl ⟨p', dn', pre', A', al', hD', hN'⟩)
      rcases hS with ⟨p, dn, pre, A, al, hD, hN⟩ | ⟨t, g1, g2, g3⟩
      · obtain ⟨ds0, hds, hmem⟩ := hD.mem
        have ixM : ∀ j ∈ dn.map Nd.ix, j < m := fun j hj => by
          obtain ⟨n, hn1, rfl⟩ := List.mem_map.1 hj
          exact hD.dnM n hn1
        -- the slot of i is no other's
        have keepS : ∀ (d : Nat) (a' : Act) (u : Value), i < m → o.dst = some d → a'.tmps = (a.put o.dst u).tmps →
            (∀ t, t ≠ d → a'.tmps[t]? = a.tmps[t]?) ∧ (∀ s ∈ pre, s.ix ≠ i → s.d ≠ d) ∧ (∀ x ∈ al, x.k ≠ i → x.d ≠ d) := by
          intro d a' u him hd hu
          refine ⟨fun t ht => ?_, fun s hs hne e => ?_, fun x hx hne e => ?_⟩
          · rw [hu, hd]; simp [Act.put, Array.getElem?_setIfInBounds_ne (Ne.symm ht)]
          · obtain ⟨o2, ho2, hd2, hm2⟩ := hD.preO s hs
            exact hc3 s.ix i o2 o hm2 him ho2 ho' hne (by rw [hd2]; rfl) (by rw [hd2, hd, e])
          · obtain ⟨x1, _, _⟩ := hD.alO x hx
            obtain ⟨o2, ho2, hd2, _, _⟩ := hal.at x1
            exact hc3 x.k i o2 o (hALm _ (al_mem x1)) him ho2 ho' hne (by rw [hd2]; rfl) (by rw [hd2, hd, e])
        have frNext : ∀ (d : Nat) (a' : Act), i < m → o.dst = some d → (∀ t, t ≠ d → a'.tmps[t]? = a.tmps[t]?) → ∀ t v, lk E t = some v → a'.tmps[t]? = some v ∨ ∃ k o, l[k]? = some o ∧ k < m ∧ o.dst = some t ∧ (ls.setIfInBounds i true).getD k true = true := by
          intro d a' him hd hk t v hv
          by_cases e : t = d
          · exact .inr ⟨i, o, ho', him, by rw [hd, e], hseti⟩
          · rcases hD.frE t v hv with h | ⟨k, o2, g1, g2, g3, g4⟩
            · exact .inl (by rw [hk t e]; exact h)
            · refine .inr ⟨k, o2, g1, g2, g3, ?_⟩
              by_cases e2 : k = i
              · rw [e2]; exact hseti
              · rw [hset k e2]; exact g4
        by_cases hid : i ∈ dn.map Nd.ix
        · -- one that was told
          have him := ixM i hid
          obtain ⟨nd, hnd, hix⟩ := List.mem_map.1 hid
          have hp := hD.pend nd hnd (by rw [hix]; exact h1)
          have runQ : ∀ (X : List Nat) (Hq B : List HP), PQ C l E pre i X Hq → (∀ t u, lk (delE X E) t = some u → a.tmps[t]? = some u) → (al.map AE.p ++ (A ++ H0)).Perm (B ++ Hq) → wpOpIn C.F 0 P l.toArray Q' i (wpAnyIn C.F 0 P .any l.toArray Q' fuel (ls.setIfInBounds i true)) a w := by
            intro X Hq B hpq hXn hB
            obtain ⟨o', d, v, Eq, q1, q2, q3, q4, q5, q6⟩ := hpq
            rw [ho'] at q1
            obtain rfl : o = o' := by simpa using q1
            refine hone i o (L ++ B) ds0 Eq Hq _ _ a w ho' q5 ⟨hds, ⟨hD.frN, fun t u hu => ?_⟩, ?_⟩ ?_
            · rcases q6 t u hu with ⟨s, s1, s2, s3, s4⟩ | hu
              · rw [← s3, ← s4]; exact hD.val s s1 (hbefore _ s2)
              · exact hXn t u hu
            · have hm2 := hmem.perm (hB.append_left _)
              simpa [List.append_assoc] using hm2
            · rintro ds' E' H' a' w' ⟨rfl, rfl⟩ hst ⟨u, hu⟩
              obtain ⟨k1, k2, k3⟩ := keepS d a' u him q2 hu
              refine go a' w' p dn pre A al ⟨hD.chk, hD.dt, hD.sub, fun j hj hl' => ?_, hD.dnM, hD.dnP, hD.preD, hD.uniq, hD.preO, fun s hs hl' => ?_, fun x hx => ?_, fun x hx => ?_, fun k hk hk' hl' => ?_, fun n hn' hl' => ?_, ⟨ds', hst.defers, ?_⟩, hst.fr.size, frNext d a' him q2 k1⟩
              · by_cases e : j = i
                · exact .inl (e ▸ hid)
                · exact hD.exe j hj (by rw [← hset j e]; exact hl')
              · by_cases e : s.ix = i
                · have := hD.uniq s hs ⟨i, d, v⟩ q4 e
                  rw [this]
                  exact hst.fr.get d v (by simp [lk])
                · rw [k1 _ (k2 s hs e)]; exact hD.val s hs (by rw [← hset _ e]; exact hl')
              · obtain ⟨x1, x2, x3⟩ := hD.alO x hx
                refine ⟨x1, x2, ?_⟩
                rw [k1 _ (k3 x hx (fun e => x2 (e ▸ hid)))]; exact x3
              · by_cases e : x.k = i
                · rw [e]; exact hseti
                · rw [hset _ e]; exact hD.alX x hx
              · exact hD.alC k hk hk' (by rw [← hset k (fun e => hk' (e ▸ hid))]; exact hl')
              · have : n.ix ≠ i := fun e => by rw [e, hseti] at hl'; cases hl'
                exact hD.pend n hn' (by rw [← hset _ this]; exact hl')
              · exact Inv.perm (by have := hst.inv; simpa [List.append_assoc] using this) (hB.symm.append_left (ds'.map ptd ++ L))
          cases nd with
          | g k X Q =>
            simp only [Nd.ix] at hix; subst hix
            obtain ⟨⟨R, pk⟩, hp⟩ := hp
            refine runQ X [Q] (al.map AE.p ++ R) hp (hX _ (hD.dnP _ hnd) ls a hcl h1 hD.frE) ?_
            rw [List.append_assoc]
            exact (pk.perm.trans (List.perm_append_comm (l₁ := [Q]) (l₂ := R))).append_left _
          | r k X => simp only [Nd.ix] at hix; subst hix; exact runQ X [] (al.map AE.p ++ (A ++ H0)) hp (hX _ (hD.dnP _ hnd) ls a hcl h1 hD.frE) (by simp)
          | b k X => simp only [Nd.ix] at hix; subst hix; exact runQ X H0 (al.map AE.p ++ A) hp (hX _ (hD.dnP _ hnd) ls a hcl h1 hD.frE) (by simp)
          | f k X =>
            simp only [Nd.ix] at hix; subst hix
            obtain ⟨As, Aq, e, hp⟩ := hp
            exact runQ X (Aq ++ H0) (al.map AE.p ++ As) hp (hX _ (hD.dnP _ hnd) ls a hcl h1 hD.frE) (by simp [e])
          | c k X => exact hp.elim
          | s k X => exact hp.elim
          | a k d z => exact hp.elim
        · by_cases hia : i ∈ plan.flatMap Nd.al
          · -- a variable is made
            have him := hALm i hia
            obtain ⟨d, z, hpl⟩ := mem_al hia
            obtain ⟨o', q1, q2, q3, q4⟩ := hal.at hpl
            rw [ho'] at q1
            obtain rfl : o = o' := by simpa using q1
            refine hone i o (L ++ (al.map AE.p ++ (A ++ H0))) ds0 [] [] _ _ a w ho' q4 ⟨hds, ⟨hD.frN, fun t u hu => by simp [lk] at hu⟩, by simpa [List.append_assoc] using hmem⟩ ?_
            rintro ds' E' H' a' w' ⟨b, rfl, rfl⟩ hst ⟨u, hu⟩
            obtain ⟨k1, k2, k3⟩ := keepS d a' u him q2 hu
            refine go a' w' p dn pre A (⟨i, d, b, z⟩ :: al) ⟨hD.chk, hD.dt, hD.sub, fun j hj hl' => ?_, hD.dnM, hD.dnP, hD.preD, hD.uniq, hD.preO, fun s hs hl' => ?_, fun x hx => ?_, fun x hx => ?_, fun k hk hk' hl' => ?_, fun n hn' hl' => ?_, ⟨ds', hst.defers, ?_⟩, hst.fr.size, frNext d a' him q2 k1⟩
            · by_cases e : j = i
              · exact .inr (e ▸ hia)
              · exact hD.exe j hj (by rw [← hset j e]; exact hl')
            · have e : s.ix ≠ i := fun e => hid (e ▸ hD.preD s hs)
              rw [k1 _ (k2 s hs e)]; exact hD.val s hs (by rw [← hset _ e]; exact hl')
            · rcases List.mem_cons.1 hx with rfl | hx
              · exact ⟨hpl, hid, hst.fr.get d _ (by simp [lk])⟩
              · obtain ⟨x1, x2, x3⟩ := hD.alO x hx
                refine ⟨x1, x2, ?_⟩
                have e : x.k ≠ i := fun e => by have := hD.alX x hx; rw [e, h1] at this; cases this
                rw [k1 _ (k3 x hx e)]; exact x3
            · by_cases e : x.k = i
              · rw [e]; exact hseti
              · rcases List.mem_cons.1 hx with rfl | hx
                · exact absurd rfl e
                · rw [hset _ e]; exact hD.alX x hx
            · by_cases e : k = i
              · exact ⟨⟨i, d, b, z⟩, by simp, e.symm⟩
              · obtain ⟨x, hx, hxk⟩ := hD.alC k hk hk' (by rw [← hset k e]; exact hl')
                exact ⟨x, by simp [hx], hxk⟩
            · have : n.ix ≠ i := fun e => by rw [e, hseti] at hl'; cases hl'
              exact hD.pend n hn' (by rw [← hset _ this]; exact hl')
            · have := hst.inv
              refine this.perm ?_
              have e : List.map AE.p (⟨i, d, b, z⟩ :: al) = pt b z :: al.map AE.p := rfl
              rw [e]
              have := List.perm_append_comm (l₁ := al.map AE.p ++ (A ++ H0)) (l₂ := [pt b z])
              have := List.Perm.append_left (ds'.map ptd ++ L) this
              simpa [List.append_assoc] using this
          · -- what the plan waits for
            have hexe : ∀ x ∈ afs o, x ∈ dn.map Nd.ix ∨ x ∈ plan.flatMap Nd.al := fun x hx => hD.exe x (by have := hc1 i o ho' x hx; omega) (hbefore x hx)
            have hck := hD.chk
            cases p with
            | nil =>
              simp only [dtChk] at hck
              have hin : ∀ j, j < m → j ∈ dn.map Nd.ix := fun j hj => by
                have := List.all_eq_true.1 hck j (by simpa using hj)
                simpa using this
              have him : m ≤ i := by
                rcases Nat.lt_or_ge i m with h | h
                · exact absurd (hin i h) hid
                · exact h
              have hlo : ∀ j, j < i → ls.getD j true = true := fun j hj => hT' j (hc2 i him hil j hj)
              have hno : ∀ j, m ≤ j → j < l.length → ls.getD j true = false := by
                intro j hj hjl
                cases hg : ls.getD j true with
                | false => rfl
                | true =>
                  rcases hD.exe j hjl hg with x | x
                  · have := ixM j x; omega
                  · have := hALm j x; omega
              have e : i = m := by
                rcases Nat.lt_or_ge m i with h | h
                · have e1 := hno m (Nat.le_refl _) (by omega)
                  rw [hlo m h] at e1; cases e1
                · omega
              subst e
              exact tailStep a w hlo (Nat.le_refl _) (fun j hj1 hj2 => hno j hj1 hj2) (toTail ls a w dn pre A al hD (fun j hj _ => hlo j hj))
            | cons nd p =>
              simp only [dtChk, Bool.and_eq_true, Bool.not_eq_true'] at hck
              obtain ⟨⟨⟨⟨c1, c2⟩, c3⟩, c4⟩, c5⟩ := hck
              cases nd <;> simp only [NF] at hN
              case c k X =>
                simp only [Bool.and_eq_true, Bool.not_eq_true'] at c4
                obtain ⟨⟨c6, c7⟩, c8⟩ := c4
                have hik : i = k := by
                  have := List.all_eq_true.1 c8 (o, i) (by rw [List.mem_zipIdx_iff_getElem?]; simpa using ho')
                  simp only [Bool.or_eq_true] at this
                  rcases this with ((h | h) | h) | h
                  · exact absurd (by simpa using h) hid
                  · exact absurd (by simpa using h) hia
                  · exact Nat.eq_of_beq_eq_true h
                  · obtain ⟨x, hx, hx'⟩ := List.any_eq_true.1 h
                    simp only [Bool.and_eq_true, Bool.not_eq_true'] at hx'
                    rcases hexe x hx with y | y
                    · exact absurd y (by simpa using hx'.1)
                    · exact absurd y (by simpa using hx'.2)
                subst hik
                have him := Nat.blt_eq.mp c2
                simp only [Nd.ix] at him
                obtain ⟨o', d, q1, q2, q3, q4⟩ := hD.dt
                rw [ho'] at q1
                obtain rfl : o = o' := by simpa using q1
                refine hone i o (L ++ al.map AE.p) ds0 _ (A ++ H0) _ _ a w ho' q4 ⟨hds, ⟨hD.frN, fun t u hu => ?_⟩, by simpa [List.append_assoc] using hmem⟩ ?_
                · rcases lk_selE hu with ⟨s, s1, s2, s3, s4⟩ | hu
                  · rw [← s3, ← s4]; exact hD.val s s1 (hbefore _ s2)
                  · exact hX (.c i X) (hD.sub _ (by simp)) ls a hcl h1 hD.frE t u hu
                rintro ds' E' H' a' w' ⟨v, A', rfl, rfl, hkp, hdt'⟩ hst ⟨u, hu⟩
                obtain ⟨k1, k2, k3⟩ := keepS d a' u him q2 hu
                have hne : ∀ s ∈ pre, s.ix ≠ i := fun s hs e => hid (e ▸ hD.preD s hs)
                refine go a' w' p (.c i X :: dn) (⟨i, d, v⟩ :: pre) A' al ⟨c5, hdt', fun n hn' => hD.sub n (by simp [hn']), fun j hj hl' => ?_, ?_, ?_, ?_, ?_, ?_, ?_, fun x hx => ?_, fun x hx => ?_, fun k hk hk' hl' => ?_, fun n hn' hl' => ?_, ⟨ds', hst.defers, ?_⟩, hst.fr.size, frNext d a' him q2 k1⟩
                · by_cases e : j = i
                  · exact .inl (by simp [Nd.ix, e])
                  · rcases hD.exe j hj (by rw [← hset j e]; exact hl') with x | x
                    · exact .inl (by simp only [List.map_cons, List.mem_cons]; exact .inr x)
                    · exact .inr x
                · intro n hn'
                  rcases List.mem_cons.1 hn' with rfl | hn'
                  · exact him
                  · exact hD.dnM n hn'
                · intro n hn'
                  rcases List.mem_cons.1 hn' with rfl | hn'
                  · exact hD.sub _ (by simp)
                  · exact hD.dnP n hn'
                · intro s hs
                  rcases List.mem_cons.1 hs with rfl | hs
                  · simp [Nd.ix]
                  · simp only [List.map_cons, List.mem_cons]; exact .inr (hD.preD s hs)
                · intro s hs s' hs' e
                  rcases List.mem_cons.1 hs with rfl | hs <;> rcases List.mem_cons.1 hs' with rfl | hs'
                  · rfl
                  · exact absurd e.symm (hne s' hs')
                  · exact absurd e (hne s hs)
                  · exact hD.uniq s hs s' hs' e
                · intro s hs
                  rcases List.mem_cons.1 hs with rfl | hs
                  · exact ⟨o, ho', q2, him⟩
                  · exact hD.preO s hs
                · intro s hs hl'
                  rcases List.mem_cons.1 hs with rfl | hs
                  · exact hst.fr.get d v (by simp [lk])
                  · rw [k1 _ (k2 s hs (hne s hs))]; exact hD.val s hs (by rw [← hset _ (hne s hs)]; exact hl')
                · obtain ⟨x1, x2, x3⟩ := hD.alO x hx
                  have hxi : x.k ≠ i := fun e => hia (e ▸ al_mem x1)
                  refine ⟨x1, ?_, ?_⟩
                  · simp only [List.map_cons, List.mem_cons, not_or]; exact ⟨hxi, x2⟩
                  · rw [k1 _ (k3 x hx hxi)]; exact x3
                · by_cases e : x.k = i
                  · rw [e]; exact hseti
                  · rw [hset _ e]; exact hD.alX x hx
                · have hki : k ≠ i := fun e => hia (e ▸ hk)
                  simp only [List.map_cons, List.mem_cons, not_or] at hk'
                  exact hD.alC k hk hk'.2 (by rw [← hset k hki]; exact hl')
                · rcases List.mem_cons.1 hn' with rfl | hn'
                  · simp only [Nd.ix] at hl'; rw [hseti] at hl'; cases hl'
                  · have hni : n.ix ≠ i := fun e => hid (e ▸ List.mem_map.2 ⟨n, hn', rfl⟩)
                    rw [hset _ hni] at hl'
                    have hp := hD.pend n hn' hl'
                    cases n with
                    | g k _ Q =>
                      rcases hkp.at hn' with hk | hk
                      · have := hT' k (by simpa using hk)
                        simp only [Nd.ix] at hl'
                        rw [this] at hl'; cases hl'
                      · exact ⟨hk, PQ.more hp.2 _⟩
                    | r k _ => exact PQ.more hp _
                    | b k _ => exact PQ.more hp _
                    | f k _ =>
                      have := List.all_eq_true.1 c7 _ hn'
                      simp only [Nd.isF, Nd.ix, Bool.not_true, Bool.false_or] at this
                      have := hT' k (by simpa using this)
                      simp only [Nd.ix] at hl'
                      rw [this] at hl'; cases hl'
                    | c k _ => exact hp.elim
                    | s k _ => exact hp.elim
                    | a k d z => exact hp.elim
                · have := hst.inv
                  simpa [List.append_assoc] using this
              case s k X =>
                simp only [Bool.and_eq_true, Bool.not_eq_true'] at c4
                obtain ⟨⟨c6, c7⟩, c8⟩ := c4
                have hik : i = k := by
                  have := List.all_eq_true.1 c8 (o, i) (by rw [List.mem_zipIdx_iff_getElem?]; simpa using ho')
                  simp only [Bool.or_eq_true] at this
                  rcases this with ((h | h) | h) | h
                  · exact absurd (by simpa using h) hid
                  · exact absurd (by simpa using h) hia
                  · exact Nat.eq_of_beq_eq_true h
                  · obtain ⟨x, hx, hx'⟩ := List.any_eq_true.1 h
                    simp only [Bool.and_eq_true, Bool.not_eq_true'] at hx'
                    rcases hexe x hx with y | y
                    · exact absurd y (by simpa using hx'.1)
                    · exact absurd y (by simpa using hx'.2)
                subst hik
                have him := Nat.blt_eq.mp c2
                simp only [Nd.ix] at him
                obtain ⟨o', q1, q2, q4⟩ := hD.dt
                rw [ho'] at q1
                obtain rfl : o = o' := by simpa using q1
                refine hone i o (L ++ al.map AE.p) ds0 _ (A ++ H0) _ _ a w ho' q4 ⟨hds, ⟨hD.frN, fun t u hu => ?_⟩, by simpa [List.append_assoc] using hmem⟩ ?_
                · rcases lk_selE hu with ⟨s, s1, s2, s3, s4⟩ | hu
                  · rw [← s3, ← s4]; exact hD.val s s1 (hbefore _ s2)
                  · exact hX (.s i X) (hD.sub _ (by simp)) ls a hcl h1 hD.frE t u hu
                rintro ds' E' H' a' w' ⟨A', rfl, rfl, hkp, hdt'⟩ hst ⟨u, hu⟩
                have k1 : a'.tmps = a.tmps := by rw [hu, q2]; rfl
                have hne : ∀ s ∈ pre, s.ix ≠ i := fun s hs e => hid (e ▸ hD.preD s hs)
                refine go a' w' p (.s i X :: dn) pre A' al ⟨c5, hdt', fun n hn' => hD.sub n (by simp [hn']), fun j hj hl' => ?_, ?_, ?_, ?_, ?_, ?_, ?_, fun x hx => ?_, fun x hx => ?_, fun k hk hk' hl' => ?_, fun n hn' hl' => ?_, ⟨ds', hst.defers, ?_⟩, hst.fr.size, fun t u' hu' => ?_⟩
                · by_cases e : j = i
                  · exact .inl (by simp [Nd.ix, e])
                  · rcases hD.exe j hj (by rw [← hset j e]; exact hl') with x | x
                    · exact .inl (by simp only [List.map_cons, List.mem_cons]; exact .inr x)
                    · exact .inr x
                · intro n hn'
                  rcases List.mem_cons.1 hn' with rfl | hn'
                  · exact him
                  · exact hD.dnM n hn'
                · intro n hn'
                  rcases List.mem_cons.1 hn' with rfl | hn'
                  · exact hD.sub _ (by simp)
                  · exact hD.dnP n hn'
                · intro s hs
                  simp only [List.map_cons, List.mem_cons]; exact .inr (hD.preD s hs)
                · exact hD.uniq
                · exact hD.preO
                · intro s hs hl'
                  rw [k1]; exact hD.val s hs (by rw [← hset _ (hne s hs)]; exact hl')
                · obtain ⟨x1, x2, x3⟩ := hD.alO x hx
                  have hxi : x.k ≠ i := fun e => hia (e ▸ al_mem x1)
                  refine ⟨x1, ?_, ?_⟩
                  · simp only [List.map_cons, List.mem_cons, not_or]; exact ⟨hxi, x2⟩
                  · rw [k1]; exact x3
                · by_cases e : x.k = i
                  · rw [e]; exact hseti
                  · rw [hset _ e]; exact hD.alX x hx
                · have hki : k ≠ i := fun e => hia (e ▸ hk)
                  simp only [List.map_cons, List.mem_cons, not_or] at hk'
                  exact hD.alC k hk hk'.2 (by rw [← hset k hki]; exact hl')
                · rcases List.mem_cons.1 hn' with rfl | hn'
                  · simp only [Nd.ix] at hl'; rw [hseti] at hl'; cases hl'
                  · have hni : n.ix ≠ i := fun e => hid (e ▸ List.mem_map.2 ⟨n, hn', rfl⟩)
                    rw [hset _ hni] at hl'
                    have hp := hD.pend n hn' hl'
                    cases n with
                    | g k _ Q =>
                      rcases hkp.at hn' with hk | hk
                      · have := hT' k (by simpa using hk)
                        simp only [Nd.ix] at hl'
                        rw [this] at hl'; cases hl'
                      · exact ⟨hk, hp.2⟩
                    | r k _ => exact hp
                    | b k _ => exact hp
                    | f k _ =>
                      have := List.all_eq_true.1 c7 _ hn'
                      simp only [Nd.isF, Nd.ix, Bool.not_true, Bool.false_or] at this
                      have := hT' k (by simpa using this)
                      simp only [Nd.ix] at hl'
                      rw [this] at hl'; cases hl'
                    | c k _ => exact hp.elim
                    | s k _ => exact hp.elim
                    | a k d z => exact hp.elim
                · have := hst.inv
                  simpa [List.append_assoc] using this
                · rw [k1]
                  rcases hD.frE t u' hu' with h | ⟨k, o2, g1, g2, g3, g4⟩
                  · exact .inl h
                  · refine .inr ⟨k, o2, g1, g2, g3, ?_⟩
                    by_cases e2 : k = i
                    · rw [e2]; exact hseti
                    · rw [hset k e2]; exact g4
              case a k d z =>
                simp only [Bool.and_eq_true] at c4
                exfalso
                have := List.all_eq_true.1 c4.2 (o, i) (by rw [List.mem_zipIdx_iff_getElem?]; simpa using ho')
                simp only [Bool.or_eq_true] at this
                rcases this with (h | h) | h
                · exact absurd (by simpa using h) hid
                · exact absurd (by simpa using h) hia
                · obtain ⟨x, hx, hx'⟩ := List.any_eq_true.1 h
                  simp only [Bool.and_eq_true, Bool.not_eq_true', Bool.or_eq_true] at hx'
                  rcases hx'.2 with e | e
                  · have e' := Nat.eq_of_beq_eq_true e
                    have := hbefore x hx
                    rw [e', hN] at this; cases this
                  · rcases hexe x hx with y | y
                    · exact absurd y (by simpa using hx'.1)
                    · exact absurd y (by simpa using e)
      · have hit : t ≤ i := by
          rcases Nat.lt_or_ge i t with h | h
          · have e1 := g2 i hil
            rw [h1, Nat.blt_eq.mpr h] at e1; cases e1
          · exact h
        have hlo : ∀ j, j < i → ls.getD j true = true := fun j hj => hT' j (hc2 i (by omega) hil j hj)
        have e : i = t := by
          rcases Nat.lt_or_ge t i with h | h
          · have e1 := g2 t (by omega)
            rw [hlo t h] at e1
            have := Nat.blt_eq.mp e1.symm
            omega
          · omega
        subst e
        refine tailStep a w hlo (by omega) (fun j hj1 hj2 => ?_) g3
        rw [g2 j hj2]
        cases hb : Nat.blt j i with
        | false => rfl
        | true => have := Nat.blt_eq.mp hb; omega
  have hD0 : DS C l m (Q .normal) XT E H0 L plan (Array.replicate l.toArray.size false) a { w with drawn := w.drawn + 1 } plan [] [] A0 [] := by
    refine ⟨hdt, h, fun _ h => h, fun i hi hl' => ?_, by simp, by simp, by simp, by simp, by simp, by simp, by simp, by simp, fun k hk _ hl' => ?_, by simp, ⟨ds, hs.defers, ?_⟩, hs.fr.size, fun t v hv => .inl (hs.fr.get t v hv)⟩
    · simp [Array.getD_eq_getD_getElem?, hi] at hl'
    · obtain ⟨d, z, hpl⟩ := mem_al hk
      obtain ⟨o, ho, _, _, _⟩ := hal.at hpl
      have := (List.getElem?_eq_some_iff.1 ho).1
      simp [Array.getD_eq_getD_getElem?, this] at hl'
    · have := hs.inv.drawn
      exact this.sub (Sub.app (by simpa using hsub) _)
  obtain ⟨p, dn, pre, A, al, hD, hN⟩ := hD0.norm hdis hal
  refine main _ _ a _ (by simp) (by simp) (fun i o ho hl' => ?_) (.inl ⟨p, dn, pre, A, al, hD, hN⟩)
  have := (List.getElem?_eq_some_iff.1 ho).1
  simp [Array.getD_eq_getD_getElem?, this] at hl'
end
end Go.TH
namespace Go.TH
open Go

theorem Inv.mono {w0 : World} {M : List Nat} {L H : List HP} {A A' : HP} {w : World} (hA : ∀ h, A h → A' h) (h : Inv w0 M (L ++ A :: H) w) : Inv w0 M (L ++ A' :: H) w := by
  have h1 := h.perm List.perm_middle
  have h2 : Inv w0 M (A' :: (L ++ H)) w := ⟨h1.os, h1.tape, h1.output, h1.size, h1.keep, sat_mono hA h1.mine⟩
  exact h2.perm List.perm_middle.symm
theorem Inv.piece {w0 : World} {M : List Nat} {L H : List HP} {A : HP} {w : World} (h : Inv w0 M (L ++ A :: H) w) : ∃ h1, A h1 :=
  let ⟨h1, _, _, a, _⟩ := (h.perm List.perm_middle).mine; ⟨h1, a⟩
theorem Inv.pickL {w0 : World} {M : List Nat} {L H H' : List HP} {A : HP} {w : World} (h : Inv w0 M (L ++ H) w) (p : Pick A H H') : Inv w0 M (L ++ A :: H') w :=
  h.sub (Sub.app (.cons p (Sub.refl H')) L)
theorem Inv.dropL {w0 : World} {M : List Nat} {L H : List HP} {A : HP} {w : World} (h : Inv w0 M (L ++ A :: H) w) : Inv w0 M (L ++ H) w :=
  h.sub (Sub.app (Sub.drop A H) L)
/-- v is a slice of one's own, with n elements of sz cells each; cs are their cells -/
def OwC (e sz : Nat) (v : Value) (n : Nat) (cs : List Value) : HP := fun h =>
  cs.length = n * sz ∧ ((v = .slice none 0 0 ∧ n = 0) ∨
    ∃ (g cap : Nat) (cur : List Value), v = .slice (some ⟨g, 0, none⟩) n cap ∧ n ≤ cap ∧ cap ≤ maxLen ∧ cur.length = cap * sz ∧ cur.take (n * sz) = cs ∧ pt g (.cells cur.toArray e (0, 0)) h)

theorem OwC.open {w0 : World} {M : List Nat} {L H : List HP} {w : World} {e sz n : Nat} {v : Value} {cs : List Value} (h : Inv w0 M (L ++ OwC e sz v n cs :: H) w) :
    cs.length = n * sz ∧ ((v = .slice none 0 0 ∧ n = 0 ∧ Inv w0 M (L ++ H) w) ∨
      ∃ (g cap : Nat) (cur : List Value), v = .slice (some ⟨g, 0, none⟩) n cap ∧ n ≤ cap ∧ cap ≤ maxLen ∧ cur.length = cap * sz ∧ cur.take (n * sz) = cs ∧ Inv w0 M (L ++ pt g (.cells cur.toArray e (0, 0)) :: H) w) := by
  have h1 := h.perm List.perm_middle
  obtain ⟨ha, hb, s, ⟨hl, hc⟩, hr⟩ := h1.mine
  refine ⟨hl, ?_⟩
  rcases hc with ⟨h2, h3⟩ | ⟨g, cap, cur, h2, h3, h4, h5, h6, h7⟩
  · exact .inl ⟨h2, h3, h.dropL⟩
  · refine .inr ⟨g, cap, cur, h2, h3, h4, h5, h6, ?_⟩
    have : Inv w0 M (pt g (.cells cur.toArray e (0, 0)) :: (L ++ H)) w := ⟨h1.os, h1.tape, h1.output, h1.size, h1.keep, ha, hb, s, h7, hr⟩
    exact this.perm List.perm_middle.symm
theorem OwC.shut {w0 : World} {M : List Nat} {L H : List HP} {w : World} {e sz n g cap : Nat} {cs cur : List Value} (hl : cs.length = n * sz) (hn : n ≤ cap) (hm : cap ≤ maxLen) (hc : cur.length = cap * sz) (ht : cur.take (n * sz) = cs)
    (h : Inv w0 M (L ++ pt g (.cells cur.toArray e (0, 0)) :: H) w) : Inv w0 M (L ++ OwC e sz (.slice (some ⟨g, 0, none⟩) n cap) n cs :: H) w :=
  h.mono fun h hp => ⟨hl, .inr ⟨g, cap, cur, rfl, hn, hm, hc, ht, hp⟩⟩
theorem OwC.isSl {w0 : World} {M : List Nat} {L H : List HP} {w : World} {e sz n : Nat} {v : Value} {cs : List Value} (h : Inv w0 M (L ++ OwC e sz v n cs :: H) w) : IsSl v n := by
  obtain ⟨_, h⟩ := OwC.open h
  rcases h with ⟨rfl, rfl, _⟩ | ⟨g, cap, cur, rfl, h1, h2, _⟩
  · exact ⟨by omega, none, 0, rfl, fun h => by omega⟩
  · simp only [maxLen] at h2
    exact ⟨by omega, _, _, rfl, fun _ => ⟨_, _, rfl⟩⟩

section
variable {P : Program} {C : Cx P} {E : Env} {H : List HP}

theorem WO.chg {ops : Array Oper} {l : List Oper} {K : KP} {H' : List HP} (hi : ∀ h, sat H h → sat H' h) (h : WO C ops l K E H') : WO C ops l K E H := by
  intro L ds a w hs
  refine h L ds a w ⟨hs.defers, hs.fr, ?_⟩
  have hv := hs.inv
  refine ⟨hv.os, hv.tape, hv.output, hv.size, hv.keep, ?_⟩
  obtain ⟨h1, h2, s, x, y⟩ := sat_app hv.mine
  exact sat_join s x (hi _ y)
theorem W.chg {c : Code} {Q : Post} {H' : List HP} (hi : ∀ h, sat H h → sat H' h) (h : W C c Q E H') : W C c Q E H := by
  intro L ds a w hs
  refine h L ds a w ⟨hs.defers, hs.fr, ?_⟩
  have hv := hs.inv
  refine ⟨hv.os, hv.tape, hv.output, hv.size, hv.keep, ?_⟩
  obtain ⟨h1, h2, s, x, y⟩ := sat_app hv.mine
  exact sat_join s x (hi _ y)
/-- a fact that the memory tells -/
theorem WO.fact {ops : Array Oper} {l : List Oper} {K : KP} {p : Prop} (hp : ∀ (L : List HP) w, Inv C.w0 C.M (L ++ H) w → p) (h : p → WO C ops l K E H) : WO C ops l K E H :=
  fun L ds a w hs => h (hp _ w hs.inv) L ds a w hs
theorem W.fact {c : Code} {Q : Post} {p : Prop} (hp : ∀ (L : List HP) w, Inv C.w0 C.M (L ++ H) w → p) (h : p → W C c Q E H) : W C c Q E H :=
  fun L ds a w hs => h (hp _ w hs.inv) L ds a w hs
/-- it has a slice's form -/
theorem OwC.form {e sz n : Nat} {v : Value} {cs : List Value} {H' : List HP} (p : Pick (OwC e sz v n cs) H H') : ∀ (L : List HP) w, Inv C.w0 C.M (L ++ H) w → ∃ a c, v = .slice a n c := fun _ _ hi => by
  obtain ⟨_, h⟩ := OwC.open (hi.pickL p)
  rcases h with ⟨rfl, rfl, _⟩ | ⟨g, cap, cur, rfl, _⟩
  · exact ⟨_, _, rfl⟩
  · exact ⟨_, _, rfl⟩
theorem OwC.sl {e sz n : Nat} {v : Value} {cs : List Value} {H' : List HP} (p : Pick (OwC e sz v n cs) H H') : ∀ (L : List HP) w, Inv C.w0 C.M (L ++ H) w → IsSl v n := fun _ _ hi => OwC.isSl (hi.pickL p)
theorem OwC.cellAt {e sz n i j : Nat} {v u : Value} {cs : List Value} {H' : List HP} (p : Pick (OwC e sz v n cs) H H') (hu : cs[i * sz + j]? = some u) : Cell C H (((base v).add (i * sz)).add j) u := by
  intro L w hi
  obtain ⟨hl, hc⟩ := OwC.open (hi.pickL p)
  have hlt := (List.getElem?_eq_some_iff.1 hu).1
  rcases hc with ⟨rfl, rfl, _⟩ | ⟨g, cap, cur, rfl, h1, h2, h3, h4, hi'⟩
  · simp at hl; subst hl; simp at hlt
  · have hlook := (hi'.look (b := g) (o := .cells cur.toArray e (0, 0)) ((Pick.head).app L)).1
    have ea : ((base (.slice (some ⟨g, 0, none⟩) n cap)).add (i * sz)).add j = ⟨g, i * sz + j, none⟩ := by simp [base, Addr.add_lit]
    rw [ea]
    subst h4
    rw [List.getElem?_take] at hu
    split at hu
    · simp [World.cell?, hlook, hu]
    · cases hu
theorem OwC.cell1 {e n i : Nat} {v : Value} {cs : List Value} {H' : List HP} (p : Pick (OwC e 1 v n cs) H H') (hl : i < cs.length) : Cell C H (elt v i 1) (cs.getD i undef) := by
  have := OwC.cellAt (C := C) (i := i) (j := 0) (u := cs.getD i undef) p (by simp [hl])
  rw [elt_eq]
  simpa [Addr.add] using this
theorem OwC.cells {e sz n : Nat} {v : Value} {cs : List Value} {H' : List HP} (p : Pick (OwC e sz v n cs) H H') : Cells C H (base v) cs := by
  intro j u hu
  have := OwC.cellAt (C := C) (i := 0) (j := j) (u := u) p (by simpa using hu)
  simpa [Addr.add] using this

section rules
variable {ops : Array Oper} {K : KP} {rest : List Oper} {d : Nat} {ty : TypeId} {pos : String} {af : Array Edge} {x y z : Operand} {T T' : TypeId}

theorem sl_info {t : TTab P} {e sz by' : Nat} {zv : Value} (hT : t.sl? T = some (e, sz, by')) (hz : t.z? e = some zv) : ∃ i, P.info? e = some i ∧ i.size = sz ∧ i.bytes = by' ∧ i.zero = some zv := by
  have h1 := (SlT.of hT).size
  have h2 := (SlT.of hT).bytes
  have h3 := (ZT.of hz).zero
  unfold szv at h1; unfold byv at h2; unfold TH.zv at h3
  cases hi : P.info? e with
  | none => simp [hi] at h1
  | some i => simp [hi] at h1 h2 h3; exact ⟨i, rfl, h1, h2, h3⟩

theorem WO.append {e sz by' n m : Nat} {v u zv : Value} {cs news : List Value} {H' : List HP} (hT : C.tt.sl? T = some (e, sz, by')) (hz : C.tt.z? e = some zv) (hzs : Nat.beq zv.cells.size sz = true)
    (hx : ev E x = some v) (hy : ev E y = some u) (p : Pick (OwC e sz v n cs) H H') (hS : IsSl u m) (hm : 0 < m) (hc : Cells C H (base u) news) (hl : news.length = m * sz) (h1 : ∀ u ∈ news, u.oneCell' = true)
    (hb : (n + m) * by' ≤ 140737488355328) (h63 : n + m ≤ 9223372036854775807) (hN : Nat.blt d C.N = true)
    (h : ∀ g c, WO C ops rest K ((d, .slice (some ⟨g, 0, none⟩) (n + m) c) :: E) (OwC e sz (.slice (some ⟨g, 0, none⟩) (n + m) c) (n + m) (cs ++ news) :: H')) : WO C ops (⟨some d, .call ⟨.builtin .append, #[x, y], #[T, T]⟩, ty, pos, af, none⟩ :: rest) K E H := by
  refine WO.step rfl rfl hN (XO.run (by simp) fun L a w hf hi => ?_)
  obtain ⟨i, hi1, hi2, hi3, hi4⟩ := sl_info hT hz
  subst hi2; subst hi3
  have hzs' := Nat.eq_of_beq_eq_true hzs
  have hmax : n + m ≤ maxLen := by simpa [maxLen] using h63
  obtain ⟨a0, c0, rfl, ha0⟩ := hS.is
  obtain ⟨b0, o0, rfl⟩ := ha0 hm
  have hnews : ∀ j v, news[j]? = some v → w.cell? ((⟨b0, o0, none⟩ : Addr).add j) = some v := fun j v hv => hc j v hv L w hi
  obtain ⟨hcl, hcase⟩ := OwC.open (hi.pickL p)
  have hrun : ∀ (v' : Value) (w' : World), (Builtin.append_ #[T, T] ty #[v, .slice (some ⟨b0, o0, none⟩) m c0]).run P w = .ok v' w' → (execOp a.eval ⟨some d, .call ⟨.builtin .append, #[x, y], #[T, T]⟩, ty, pos, af, none⟩).run P w = .ok (.value v') w' := by
    intro v' w' hr
    simp [execOp, resolve, hf.eval hx, hf.eval hy, invoke, builtin, hr]
  have hlen : (cs ++ news).length = (n + m) * i.size := by rw [List.length_append, hcl, hl, Nat.add_mul]
  -- a new row
  have grown : ∀ (old : Nat), Inv C.w0 C.M (L ++ H') w → Inv C.w0 C.M (L ++ OwC e i.size (.slice (some ⟨w.heap.size, 0, none⟩) (n + m) (grownCap w (n + m) old e)) (n + m) (cs ++ news) :: H')
      (w.drew.alloc (.cells (cs.toArray ++ news.toArray ++ Builtin.zeroCells zv.cells (grownCap w (n + m) old e - (n + m))) e)) := by
    intro old hv
    have hge := grownCap_ge w (n + m) old e
    have hcm : grownCap w (n + m) old e ≤ maxLen := grownCap_le_maxLen w (n + m) old e hmax
    have h2 := (hv.drawn).alloc' (.cells (cs.toArray ++ news.toArray ++ Builtin.zeroCells zv.cells (grownCap w (n + m) old e - (n + m))) e)
    have e1 : cs.toArray ++ news.toArray ++ Builtin.zeroCells zv.cells (grownCap w (n + m) old e - (n + m)) = ((cs ++ news) ++ (Builtin.zeroCells zv.cells (grownCap w (n + m) old e - (n + m))).toList).toArray := by
      apply Array.ext'; simp
    refine OwC.shut (cur := (cs ++ news) ++ (Builtin.zeroCells zv.cells (grownCap w (n + m) old e - (n + m))).toList) hlen hge hcm ?_ ?_ ?_
    · rw [List.length_append, hlen, Array.length_toList, size_zeroCells, hzs', ← Nat.add_mul]; congr 1; omega
    · rw [← hlen]; exact List.take_left
    · rw [← e1]; exact h2
  rcases hcase with ⟨rfl, rfl, hv⟩ | ⟨g, cap, cur, rfl, q1, q2, q3, q4, hv⟩
  · have hcs : cs = [] := List.eq_nil_of_length_eq_zero (by simpa using hcl)
    subst hcs
    have hr := run_append_nil (P := P) w T ty e i zv (SlT.of hT).u hi1 hi4 ⟨b0, o0, none⟩ m c0 news hl hnews hm (by omega) (by have := hb; simp only [Nat.zero_add] at this; omega)
    have hg := grown 0 hv
    simp only [Nat.zero_add, List.nil_append, Array.empty_append] at hg ⊢
    exact ⟨_, _, _, .inl (hrun _ _ hr), by simpa using h _ _, hg⟩
  · have hlook := (hv.look (b := g) (o := .cells cur.toArray e (0, 0)) ((Pick.head).app L)).1
    by_cases hroom : n + m ≤ cap
    · have hfit : n * i.size + news.length ≤ cur.toArray.size := by rw [hl, List.size_toArray, q3, ← Nat.add_mul]; exact Nat.mul_le_mul_right _ hroom
      have hr := run_append_room (P := P) w T ty e i (SlT.of hT).u hi1 g n cap cur.toArray hlook ⟨b0, o0, none⟩ m c0 news hl hnews h1 hroom hfit
      refine ⟨_, _, _, .inl (hrun _ _ hr), h _ _, ?_⟩
      have h2 := hv.set (b := g) (o := .cells cur.toArray e (0, 0)) (o' := .cells (cur.toArray.toList.take (n * i.size) ++ news ++ cur.toArray.toList.drop (n * i.size + news.length)).toArray e (0, 0)) (H' := L ++ H') (w' := w.setRow g (cur.toArray.toList.take (n * i.size) ++ news ++ cur.toArray.toList.drop (n * i.size + news.length)).toArray) ((Pick.mem)) rfl rfl rfl (setRow_size w g _) (setRow_heap w g _ _ _ _ hlook) (fun k hk => setRow_other w g k _ hk)
      have h3 := h2.perm (List.perm_middle (l₁ := L) (l₂ := H')).symm
      refine OwC.shut hlen hroom q2 ?_ ?_ h3
      · simp only [List.length_append, List.length_take, List.length_drop]
        rw [hl] at hfit ⊢
        simp only [List.size_toArray] at hfit
        omega
      · rw [show cur.toArray.toList.take (n * i.size) = cs from q4, ← hlen]
        exact List.take_left
    · have holds : ∀ j u, cs[j]? = some u → w.cell? ((⟨g, 0, none⟩ : Addr).add j) = some u := by
        intro j u hu
        have := OwC.cells (C := C) p j u hu L w hi
        simpa [base] using this
      have hr := run_append_grow (P := P) w T ty e i zv (SlT.of hT).u hi1 hi4 ⟨g, 0, none⟩ n cap cs hcl holds ⟨b0, o0, none⟩ m c0 news hl hnews (by omega) (by omega) (growslice_fits (by omega) hb)
      exact ⟨_, _, _, .inl (hrun _ _ hr), h _ _, grown cap hv.dropL⟩

end rules
end
end Go.TH
namespace Go.TH
open Go

structure EncOk {α : Type} (enc : α → List Value) (sz : Nat) : Prop where
  len : ∀ x, (enc x).length = sz
  one : ∀ x, ∀ u ∈ enc x, u.oneCell' = true
  pos : 0 < sz
theorem encI_ok : EncOk encI 1 := ⟨fun _ => rfl, fun x u hu => by simp [encI] at hu; subst hu; rfl, by omega⟩
section
variable {α : Type} {enc : α → List Value} {sz : Nat}
theorem EncOk.flat_len (he : EncOk enc sz) : ∀ (xs : List α), (xs.flatMap enc).length = xs.length * sz
  | [] => by simp
  | x :: r => by simp only [List.flatMap_cons, List.length_append, he.len, he.flat_len r, List.length_cons, Nat.add_mul]; omega
theorem EncOk.flat_get (he : EncOk enc sz) : ∀ (xs : List α) (i j : Nat) (x : α), xs[i]? = some x → j < sz → (xs.flatMap enc)[i * sz + j]? = (enc x)[j]?
  | [], _, _, _, h, _ => by simp at h
  | y :: r, 0, j, x, h, hj => by
    simp at h; subst h
    simp only [List.flatMap_cons, Nat.zero_mul, Nat.zero_add]
    rw [List.getElem?_append_left (by rw [he.len]; exact hj)]
  | y :: r, i + 1, j, x, h, hj => by
    simp at h
    simp only [List.flatMap_cons]
    rw [List.getElem?_append_right (by rw [he.len, Nat.add_mul]; omega), he.len]
    have : (i + 1) * sz + j - sz = i * sz + j := by rw [Nat.add_mul]; omega
    rw [this]
    exact he.flat_get r i j x h hj
/-- v is a slice of one's own with the elements xs -/
def OwE (enc : α → List Value) (e sz : Nat) (v : Value) (xs : List α) : HP := OwC e sz v xs.length (xs.flatMap enc)
/-- the rows, each one's own -/
def RowsE (enc : α → List Value) (e sz : Nat) : List Value → List (List α) → HP
  | [], [] => fun _ => True
  | r :: rv, xs :: xss => fun h => ∃ h1 h2, Split h h1 h2 ∧ OwE enc e sz r xs h1 ∧ RowsE enc e sz rv xss h2
  | _, _ => fun _ => False
/-- all rows but the one with index i -/
def RowsBut (enc : α → List Value) (e sz : Nat) (i : Nat) (rv : List Value) (xss : List (List α)) : HP := fun h2 => ∀ h h1 xs, Split h h1 h2 → OwE enc e sz (rv.getD i undef) xs h1 → RowsE enc e sz rv (xss.set i xs) h
variable {e : Nat}
theorem RowsE.len : ∀ {rv : List Value} {xss : List (List α)} {h : Hp}, RowsE enc e sz rv xss h → rv.length = xss.length
  | [], [], _, _ => rfl
  | _ :: rv, _ :: xss, _, ⟨_, _, _, _, r⟩ => by simp [RowsE.len r]
  | [], _ :: _, _, h => h.elim
  | _ :: _, [], _, h => h.elim
theorem split_none (h : Hp) : Split h (fun _ => none) h := fun _ => .inl ⟨rfl, rfl⟩
theorem split_assoc {h a r b c : Hp} (s : Split h a r) (t : Split r b c) : ∃ r', Split h r' c ∧ Split r' a b := by
  refine ⟨fun k => (a k).orElse fun _ => b k, fun k => ?_, fun k => ?_⟩
  · have h1 := s k; have h2 := t k
    cases ha : a k <;> cases hb : b k <;> cases hc : c k <;> simp_all
  · have h1 := s k; have h2 := t k
    cases ha : a k <;> cases hb : b k <;> cases hc : c k <;> simp_all
theorem RowsE.snoc : ∀ {rv : List Value} {xss : List (List α)} {r : Value} {xs : List α} {h h1 h2 : Hp}, Split h h1 h2 → RowsE enc e sz rv xss h1 → OwE enc e sz r xs h2 → RowsE enc e sz (rv ++ [r]) (xss ++ [xs]) h
  | [], [], r, xs, h, h1, h2, s, _, o => by
    refine ⟨h2, fun k => if h2 k = none then h1 k else none, fun k => ?_, o, trivial⟩
    have := s k
    cases ha : h1 k <;> cases hb : h2 k <;> simp_all
  | r' :: rv, xs' :: xss, r, xs, h, h1, h2, s, ⟨a, b, t, oa, rb⟩, o => by
    have s' := s.comm
    obtain ⟨r1, u1, u2⟩ := s'.swap t
    exact ⟨a, r1, u1, oa, RowsE.snoc u2.comm rb o⟩
  | [], _ :: _, _, _, _, _, _, _, h, _ => h.elim
  | _ :: _, [], _, _, _, _, _, _, h, _ => h.elim
theorem RowsE.part : ∀ {rv : List Value} {xss : List (List α)} {i : Nat} {h : Hp}, i < xss.length → RowsE enc e sz rv xss h → ∃ h1 h2, Split h h1 h2 ∧ OwE enc e sz (rv.getD i undef) (xss.getD i []) h1 ∧ RowsBut enc e sz i rv xss h2
  | r :: rv, xs :: xss, 0, h, _, ⟨a, b, s, o, rb⟩ => ⟨a, b, s, by simpa using o, fun h' h1 ys t p => ⟨h1, b, t, by simpa using p, rb⟩⟩
  | r :: rv, xs :: xss, i + 1, h, hi, ⟨a, b, s, o, rb⟩ => by
    obtain ⟨h1, h2, t, p, q⟩ := RowsE.part (i := i) (by simpa using hi) rb
    obtain ⟨r', s', t'⟩ := s.swap t
    refine ⟨h1, r', s', by simpa using p, fun h' h1' ys u p' => ?_⟩
    obtain ⟨r2, u1, u2⟩ := u.swap t'
    exact ⟨a, r2, u1, o, q r2 h1' ys u2 (by simpa using p')⟩
  | [], [], i, h, hi, _ => by simp at hi
  | [], _ :: _, _, _, _, h => h.elim
  | _ :: _, [], _, _, _, h => h.elim
end

section
variable {P : Program} {C : Cx P} {E : Env} {H : List HP} {α : Type} {enc : α → List Value} {sz e : Nat}

theorem OwE.form {v : Value} {xs : List α} {H' : List HP} (p : Pick (OwE enc e sz v xs) H H') : ∀ (L : List HP) w, Inv C.w0 C.M (L ++ H) w → ∃ a c, v = .slice a xs.length c := OwC.form p
theorem OwE.sl {v : Value} {xs : List α} {H' : List HP} (p : Pick (OwE enc e sz v xs) H H') : ∀ (L : List HP) w, Inv C.w0 C.M (L ++ H) w → IsSl v xs.length := OwC.sl p
theorem OwE.cellAt (he : EncOk enc sz) {v : Value} {xs : List α} {H' : List HP} (p : Pick (OwE enc e sz v xs) H H') {i : Nat} (hi : i < xs.length) (z : α) {j : Nat} {u : Value} (hu : lget (enc (xs.getD i z)) j = some u) : Cell C H (prt (elt v i sz) j) u := by
  rw [prt_eq, elt_eq]
  rw [lget_eq] at hu
  refine OwC.cellAt p ?_
  rw [he.flat_get xs i j _ (getD_some hi z) (by have := (List.getElem?_eq_some_iff.1 hu).1; rw [he.len] at this; exact this)]
  exact hu
theorem OwE.cell0 (he : EncOk enc sz) {v : Value} {xs : List α} {H' : List HP} (p : Pick (OwE enc e sz v xs) H H') {i : Nat} (hi : i < xs.length) (z : α) {u : Value} (hu : lget (enc (xs.getD i z)) 0 = some u) : Cell C H (elt v i sz) u := by
  have := OwE.cellAt (C := C) he p hi z hu
  rw [prt_eq] at this
  simpa [Addr.add] using this
theorem OwE.cells (he : EncOk enc sz) {v : Value} {xs : List α} {H' : List HP} (p : Pick (OwE enc e sz v xs) H H') {i : Nat} (hi : i < xs.length) (z : α) : Cells C H (elt v i sz) (enc (xs.getD i z)) := by
  intro j u hu
  have := OwE.cellAt (C := C) he p hi z (j := j) (u := u) (by rw [lget_eq]; exact hu)
  rwa [prt_eq] at this

theorem Pick.rowIn {rv : List Value} {xss : List (List α)} {H' : List HP} {i : Nat} (p : Pick (RowsE enc e sz rv xss) H H') (hi : i < xss.length) : ∀ h, TH.sat H h → TH.sat (OwE enc e sz (rv.getD i undef) (xss.getD i []) :: RowsBut enc e sz i rv xss :: H') h := by
  intro h hs
  obtain ⟨a, b, s, ha, hb⟩ := p.sat hs
  obtain ⟨a1, a2, t, q1, q2⟩ := RowsE.part hi ha
  obtain ⟨r', s', t'⟩ := s.comm.swap t
  exact ⟨a1, r', s', q1, a2, b, t'.comm, q2, hb⟩
theorem sat_app_imp {H H' : List HP} (hi : ∀ h, sat H h → sat H' h) (L : List HP) : ∀ h, sat (L ++ H) h → sat (L ++ H') h := by
  intro h hs
  obtain ⟨h1, h2, s, x, y⟩ := sat_app hs
  exact sat_join s x (hi _ y)
theorem Inv.chg {w0 : World} {M : List Nat} {L H H' : List HP} {w : World} (h : Inv w0 M (L ++ H) w) (hi : ∀ h, sat H h → sat H' h) : Inv w0 M (L ++ H') w :=
  ⟨h.os, h.tape, h.output, h.size, h.keep, sat_app_imp hi L _ h.mine⟩
theorem Cell.chg {H' : List HP} {p : Addr} {v : Value} (hc : Cell C H' p v) (hi : ∀ h, sat H h → sat H' h) : Cell C H p v := fun L w h => hc L w (h.chg hi)
theorem RowsE.rowsLen {rv : List Value} {xss : List (List α)} {H' : List HP} (p : Pick (RowsE enc e sz rv xss) H H') : ∀ (L : List HP) w, Inv C.w0 C.M (L ++ H) w → rv.length = xss.length := fun _ _ hi =>
  let ⟨_, h⟩ := (hi.pickL p).piece; RowsE.len h
theorem RowsE.cell0 (he : EncOk enc sz) {rv : List Value} {xss : List (List α)} {H' : List HP} {i k : Nat} (p : Pick (RowsE enc e sz rv xss) H H') (hi : i < xss.length) (hk : k < (xss.getD i []).length) (z : α) {u : Value} (hu : lget (enc ((xss.getD i []).getD k z)) 0 = some u) : Cell C H (elt (rv.getD i undef) k sz) u :=
  (OwE.cell0 (C := C) he .head hk z hu).chg (p.rowIn hi)
theorem RowsE.cellAt (he : EncOk enc sz) {rv : List Value} {xss : List (List α)} {H' : List HP} {i k j : Nat} (p : Pick (RowsE enc e sz rv xss) H H') (hi : i < xss.length) (hk : k < (xss.getD i []).length) (z : α) {u : Value} (hu : lget (enc ((xss.getD i []).getD k z)) j = some u) : Cell C H (prt (elt (rv.getD i undef) k sz) j) u :=
  (OwE.cellAt (C := C) he .head hk z hu).chg (p.rowIn hi)

/-- own slices are read by whoever is called -/
theorem RdF.of_ow (he : EncOk enc sz) {v : Value} {xs : List α} {H' : List HP} {L : List HP} {w : World} (p : Pick (OwE enc e sz v xs) H H') (hi : Inv C.w0 C.M (L ++ H) w) : RdF enc sz w.heap.size w v xs := by
  refine ⟨OwE.sl p L w hi, fun hl => ?_, fun i x hx j u hu => ?_⟩
  · have h00 : lget (enc (xs.getD 0 xs[0])) 0 = some ((enc (xs.getD 0 xs[0])).getD 0 undef) := by
      generalize xs.getD 0 xs[0] = q
      have h1 := he.len q
      have h2 := he.pos
      rw [lget_eq]
      cases hq : enc q with
      | nil => rw [hq] at h1; simp at h1; omega
      | cons a r => simp
    have h0 := OwE.cell0 (C := C) he p hl xs[0] h00
    have := World.block_lt_of_cell? w _ (h0 L w hi)
    rw [elt_eq, addr_add_block] at this
    exact this
  · have hlt := (List.getElem?_eq_some_iff.1 hx).1
    have := OwE.cells (C := C) he p hlt x j u (by simpa [hx] using hu) L w hi
    rwa [elt_eq] at this
theorem RdR.of_ow (he : EncOk enc sz) {e' : Nat} {v : Value} {rv : List Value} {xss : List (List α)} {H1 H2 : List HP} {L : List HP} {w : World} {n : Nat} (p : Pick (OwC e' 1 v n rv) H H1) (q : Pick (RowsE enc e sz rv xss) H H2) (hi : Inv C.w0 C.M (L ++ H) w) : RdR enc sz w.heap.size w v rv xss := by
  have hlen := RowsE.rowsLen (C := C) q L w hi
  have hn : rv.length = n := by have := (OwC.open (hi.pickL p)).1; omega
  subst hn
  refine ⟨⟨OwC.sl p L w hi, fun hl => ?_, fun i x hx j u hu => ?_⟩, hlen, fun i hl => ?_⟩
  · have := World.block_lt_of_cell? w _ (OwC.cell1 (C := C) p hl L w hi)
    rw [elt_eq, addr_add_block] at this
    exact this
  · have hlt := (List.getElem?_eq_some_iff.1 hx).1
    obtain ⟨rfl, rfl⟩ : j = 0 ∧ u = x := by
      cases j with
      | zero => simp [encV] at hu; exact ⟨rfl, hu.symm⟩
      | succ j => simp [encV] at hu
    have := OwC.cell1 (C := C) p hlt L w hi
    rw [elt_eq] at this
    simpa [hx, Addr.add] using this
  · exact RdF.of_ow (C := C) he (.head) (hi.chg (q.rowIn hl))

section rules
variable {ops : Array Oper} {K : KP} {rest : List Oper} {d : Nat} {ty : TypeId} {pos : String} {af : Array Edge} {x y z : Operand} {T T' : TypeId}

theorem WO.appendE (he : EncOk enc sz) {by' m : Nat} {v u zv : Value} {xs ys : List α} {H' : List HP} (hT : C.tt.sl? T = some (e, sz, by')) (hz : C.tt.z? e = some zv) (hzs : Nat.beq zv.cells.size sz = true)
    (hx : ev E x = some v) (hy : ev E y = some u) (p : Pick (OwE enc e sz v xs) H H') (hS : IsSl u m) (hm : 0 < m) (hl : ys.length = m) (hc : Cells C H (base u) (ys.flatMap enc))
    (hb : (xs.length + m) * by' ≤ 140737488355328) (h63 : xs.length + m ≤ 9223372036854775807) (hN : Nat.blt d C.N = true)
    (h : ∀ g c, WO C ops rest K ((d, .slice (some ⟨g, 0, none⟩) (xs.length + m) c) :: E) (OwE enc e sz (.slice (some ⟨g, 0, none⟩) (xs.length + m) c) (xs ++ ys) :: H')) : WO C ops (⟨some d, .call ⟨.builtin .append, #[x, y], #[T, T]⟩, ty, pos, af, none⟩ :: rest) K E H := by
  subst hl
  refine WO.append hT hz hzs hx hy p hS hm hc (he.flat_len ys) (fun u hu => ?_) hb h63 hN fun g c => ?_
  · obtain ⟨x, _, hx⟩ := List.mem_flatMap.1 hu
    exact he.one x u hx
  · have := h g c
    unfold OwE at this
    rw [List.flatMap_append, List.length_append] at this
    exact this
end rules
theorem owNil : ∀ h, sat H h → sat (OwE enc e sz (.slice none 0 0) [] :: H) h := fun h hs => ⟨fun _ => none, h, split_none h, ⟨by simp, .inl ⟨rfl, rfl⟩⟩, hs⟩
end
end Go.TH
namespace Go.TH
open Go

/-- a value's cells, as a list -/
def vcl : Value → List Value
  | .agg vs => vs.toList
  | v => [v]
theorem vcl_eq (v : Value) : v.cells.toList = vcl v := by cases v <;> rfl
/-- 'fill', by lists -/
def fillL (place : Nat → Option (Nat × Nat)) (cells : List Value) : List (Nat × Value) → Option (List Value)
  | [] => some cells
  | (i, v) :: rest => match place i with
    | none => none
    | some (off, size) => bif Nat.beq (vcl v).length size && Nat.ble (off + (vcl v).length) cells.length then fillL place (wrl cells off (vcl v)) rest else none
theorem foldl_wrl : ∀ (vs : List Value) (cs : Array Value) (off k : Nat), (vs.zipIdx k).foldl (fun cs (x : Value × Nat) => cs.setIfInBounds (off + x.2) x.1) cs = (wrl cs.toList (off + k) vs).toArray
  | [], cs, off, k => by simp [wrl]
  | v :: r, cs, off, k => by
    simp only [List.zipIdx_cons, List.foldl_cons, wrl]
    rw [foldl_wrl r _ off (k + 1)]
    simp [Nat.add_assoc]
theorem fillL_eq (place : Nat → Option (Nat × Nat)) : ∀ (parts : List (Nat × Value)) (cells : List Value) (cs : List Value), fillL place cells parts = some cs → Instr.fill place cells.toArray parts = some cs.toArray
  | [], cells, cs, h => by simp [fillL] at h; subst h; rfl
  | (i, v) :: rest, cells, cs, h => by
    simp only [fillL] at h
    simp only [Instr.fill]
    cases hp : place i with
    | none => simp [hp] at h
    | some q =>
      obtain ⟨off, size⟩ := q
      simp only [hp] at h ⊢
      have hvl : v.cells.size = (vcl v).length := by rw [← vcl_eq]; simp
      cases hb : (Nat.beq (vcl v).length size && Nat.ble (off + (vcl v).length) cells.length) with
      | false => simp [hb] at h
      | true =>
        rw [hb] at h
        simp only [cond_true] at h
        simp only [Bool.and_eq_true] at hb
        have e1 := Nat.eq_of_beq_eq_true hb.1
        have e2 := Nat.ble_eq.mp hb.2
        rw [if_neg (by rw [hvl]; simp; omega)]
        have := fillL_eq place rest _ cs h
        rw [← this]
        congr 1
        rw [← Array.foldl_toList]
        have hz : v.cells.zipIdx.toList = (vcl v).zipIdx 0 := by rw [Array.toList_zipIdx, vcl_eq]
        rw [hz]
        have := foldl_wrl (vcl v) cells.toArray off 0
        simpa using this

section
variable {P : Program} {C : Cx P} {E : Env} {H : List HP}

/-- evaluated parts -/
def evp (E : Env) : List (Nat × Operand) → Option (List (Nat × Value))
  | [] => some []
  | (i, x) :: r => match ev E x, evp E r with
    | some v, some vs => some ((i, v) :: vs)
    | _, _ => none
theorem evp_map {N : Nat} {a : Act} (hf : Fr N E a) : ∀ {xs : List (Nat × Operand)} {vs : List (Nat × Value)}, evp E xs = some vs → xs.map (fun (i, x) => (i, a.eval x)) = vs
  | [], vs, h => by simp [evp] at h; simp [h]
  | (i, x) :: r, vs, h => by
    simp only [evp] at h
    cases hx : ev E x with
    | none => simp [hx] at h
    | some v =>
      cases hr : evp E r with
      | none => simp [hx, hr] at h
      | some us =>
        simp [hx, hr] at h
        subst h
        simp [hf.eval hx, evp_map hf hr]

/-- where the parts of a struct or an array lie -/
def TTab.pl? (t : TTab P) (T : Nat) : Option (Nat → Option (Nat × Nat)) :=
  match (t.get T).kind with
  | .st fs => bif fs.all (fun f => t.some? f.2) then some fun i => (lget' fs i).map fun f => (f.1, (t.get f.2).n) else none
  | .ar _ _ sz => some fun i => some (i * sz, sz)
  | _ => none
where
  lget' : List (Nat × Nat) → Nat → Option (Nat × Nat)
  | [], _ => none
  | f :: _, 0 => some f
  | _ :: r, n + 1 => lget' r n
theorem pl_lget : ∀ (fs : List (Nat × Nat)) (i : Nat), TTab.pl?.lget' fs i = fs[i]?
  | [], _ => by simp [TTab.pl?.lget']
  | _ :: _, 0 => by simp [TTab.pl?.lget']
  | _ :: r, n + 1 => by simp [TTab.pl?.lget', pl_lget r n]
theorem some?_size {t : TTab P} {T : Nat} (h : t.some? T = true) : szv P T = some (t.get T).n := by
  refine tiChk_size (t.chk T) fun e => ?_
  simp [TTab.some?, e] at h
theorem built_of {t : TTab P} {T : Nat} {pl : Nat → Option (Nat × Nat)} {z : Value} {parts : List (Nat × Value)} {cs : List Value} (hp : t.pl? T = some pl) (hz : t.z? T = some z) (hf : fillL pl (vcl z) parts = some cs) : P.built T parts = some cs.toArray := by
  have hc := t.chk T
  have hk := tiChk_kind hc
  have hzv := (ZT.of hz).zero
  unfold zv at hzv
  unfold TTab.pl? at hp
  unfold Program.built
  cases hi : P.info? T with
  | none => simp [hi] at hzv
  | some i =>
    simp only [hi, Option.bind_some] at hzv
    have hz' : z.cells = (vcl z).toArray := by apply Array.ext'; simp [vcl_eq]
    cases hkd : (t.get T).kind <;> simp only [hkd] at hp hk <;> try (cases hp; done)
    case st fs =>
      cases hall : fs.all (fun f => t.some? f.2) with
      | false => simp [hall] at hp
      | true =>
        rw [hall] at hp
        simp only [cond_true, Option.some.injEq] at hp
        simp only [kindChk] at hk
        split at hk
        · rename_i fs' hu
          simp only [Bool.and_eq_true, decide_eq_true_eq] at hk
          obtain ⟨hk1, _⟩ := hk
          rw [hu]
          have hm : fs'.toList.mapM (fun f => (P.info? f.type).map fun i => (f.offset, i.size)) = some (fs.map fun f => (f.1, (t.get f.2).n)) := by
            rw [← hk1] at hall ⊢
            clear hk1 hp hkd hu
            generalize fs'.toList = l at *
            induction l with
            | nil => rfl
            | cons f l ih =>
              simp only [List.map_cons, List.all_cons, Bool.and_eq_true] at hall
              have h1 := some?_size hall.1
              unfold szv at h1
              cases hq : P.info? f.type with
              | none => simp [hq] at h1
              | some q =>
                simp [hq] at h1
                simp only [List.mapM_cons, hq, Option.map_some, ih hall.2]
                simp [h1]
          simp only [hzv, hm]
          have e : (fun i => ((fs.map fun f => (f.1, (t.get f.2).n)).toArray[i]? : Option (Nat × Nat))) = pl := by
            rw [← hp]
            funext i
            rw [pl_lget]
            simp
          rw [e, hz']
          exact fillL_eq pl parts _ cs hf
        · cases hk
    case ar len e' sz =>
      simp only [Option.some.injEq] at hp
      simp only [kindChk] at hk
      split at hk
      · rename_i len' e'' hu
        simp only [Bool.and_eq_true] at hk
        rw [hu]
        have h2 := Nat.eq_of_beq_eq_true hk.1.2
        subst h2
        have h3 := oeq_eq hk.2
        unfold szv at h3
        cases hq : P.info? e'' with
        | none => simp [hq] at h3
        | some q =>
          simp [hq] at h3
          simp only [hzv, hq, h3]
          rw [hp, hz']
          exact fillL_eq pl parts _ cs hf
      · cases hk

section rules
variable {ops : Array Oper} {K : KP} {rest : List Oper} {d : Nat} {ty : TypeId} {pos : String} {af : Array Edge} {x y z : Operand} {T T' : TypeId}

theorem WO.build {parts : List (Nat × Operand)} {vs : List (Nat × Value)} {pl : Nat → Option (Nat × Nat)} {zv : Value} {cs : List Value} (hp : C.tt.pl? T = some pl) (hz : C.tt.z? T = some zv) (he : evp E parts = some vs) (hf : fillL pl (vcl zv) vs = some cs) (hN : Nat.blt d C.N = true)
    (h : WO C ops rest K ((d, .agg cs.toArray) :: E) H) : WO C ops (⟨some d, .build T parts.toArray, ty, pos, af, none⟩ :: rest) K E H :=
  WO.pure _ (by simp) (fun L a w hfr hi => by
    have hb := built_of hp hz hf
    have e1 := evp_map hfr he
    have := run_build (P := P) w T vs.toArray cs.toArray (by simpa using hb)
    simp only [execOp, Sem.run_bind]
    have e2 : (parts.toArray.map fun (x : Nat × Operand) => (x.1, a.eval x.2)) = vs.toArray := by rw [← e1]; simp
    simp only [e2, this]; simp) hN h
theorem WO.buildSl {e sz by' len : Nat} {parts : List (Nat × Operand)} {vs : List (Nat × Value)} {zv : Value} {cs : List Value} (hT : C.tt.sl? T = some (e, sz, by')) (hz : C.tt.z? e = some zv) (hzs : Nat.beq (vcl zv).length sz = true) (he : evp E parts = some vs)
    (hf : fillL (fun i => some (i * sz, sz)) ((List.replicate len (vcl zv)).flatten) vs = some cs) (hsm : Nat.ble (len * sz) 16777216 = true) (hpos : Nat.blt 0 (len * sz) = true) (hlen : Nat.beq cs.length (len * sz) = true) (hN : Nat.blt d C.N = true)
    (h : ∀ b, WO C ops rest K ((d, .slice (some ⟨b, 0, none⟩) len len) :: E) (OwC e sz (.slice (some ⟨b, 0, none⟩) len len) len cs :: H)) : WO C ops (⟨some d, .buildSlice T len parts.toArray, ty, pos, af, none⟩ :: rest) K E H := by
  refine WO.step rfl rfl hN (XO.run (by simp) fun L a w hfr hi => ?_)
  obtain ⟨i, hi1, hi2, hi3, hi4⟩ := sl_info hT hz
  subst hi2
  have hzs' := Nat.eq_of_beq_eq_true hzs
  have hsm' := Nat.ble_eq.mp hsm
  have hpos' := Nat.blt_eq.mp hpos
  have hlen' := Nat.eq_of_beq_eq_true hlen
  have ez : ((Array.range (len * i.size)).map (zv.cells[· % zv.cells.size]!)) = ((List.replicate len (vcl zv)).flatten).toArray := by
    have hzc : zv.cells = (vcl zv).toArray := by apply Array.ext'; simp [vcl_eq]
    rw [hzc]
    generalize vcl zv = zs at hzs'
    apply Array.ext'
    rw [Array.toList_map, Array.toList_range]
    simp only [List.size_toArray]
    rw [hzs']
    clear hf hsm hpos hlen h hlen' hsm'
    have hp0 : 0 < i.size := Nat.pos_of_mul_pos_left hpos'
    clear hpos'
    induction len with
    | zero => simp
    | succ n ih =>
      rw [List.replicate_succ', List.flatten_append, ← ih, Nat.add_mul, Nat.one_mul, List.range_add, List.map_append]
      congr 1
      simp only [List.map_map, List.flatten_cons, List.flatten_nil, List.append_nil]
      apply List.ext_getElem
      · simp [hzs']
      · intro j h1 h2
        simp only [List.length_map, List.length_range] at h1
        have e1 : (n * i.size + j) % i.size = j := by rw [Nat.add_comm, Nat.add_mul_mod_self_right, Nat.mod_eq_of_lt h1]
        simp [e1, hzs', h1]
  have e1 := evp_map hfr he
  have e2 : (parts.toArray.map fun (x : Nat × Operand) => (x.1, a.eval x.2)) = vs.toArray := by rw [← e1]; simp
  have hr := run_buildSlice (P := P) w T e len vs.toArray cs.toArray i zv (SlT.of hT).u hi1 hi4 (by omega) (by omega) (by rw [ez]; exact fillL_eq _ vs _ cs hf)
  refine ⟨.slice (some ⟨w.heap.size, 0, none⟩) len len, w.alloc (.cells cs.toArray e), OwC e i.size (.slice (some ⟨w.heap.size, 0, none⟩) len len) len cs :: H, .inl ?_, h _, ?_⟩
  · simp only [execOp, Sem.run_bind]
    simp only [e2, hr]; rfl
  · have h2 := hi.alloc' (.cells cs.toArray e)
    refine OwC.shut hlen' (Nat.le_refl _) ?_ hlen' (by rw [← hlen', List.take_length]) h2
    have h0 : 0 < i.size := Nat.pos_of_mul_pos_left hpos'
    have : len ≤ len * i.size := Nat.le_mul_of_pos_right len h0
    simp only [maxLen]; omega

/-! ### Tests of bools and of structs -/
theorem WO.eqB {bop : BinOp} {a b r : Bool} (hx : ev E x = some (.bool a)) (hy : ev E y = some (.bool b)) (hT : P.underlying T = some .bool) (hr : (match bop with | .eql => some (a == b) | .neq => some (!(a == b)) | _ => none) = some r) (hN : Nat.blt d C.N = true)
    (h : WO C ops rest K ((d, .bool r) :: E) H) : WO C ops (⟨some d, .binOp bop T x y T', ty, pos, af, none⟩ :: rest) K E H :=
  WO.pure _ (by simp) (fun L c w hf _ => by
    cases bop <;> simp only [Option.some.injEq, reduceCtorEq] at hr <;> subst hr <;> simp only [execOp, hf.eval hx, hf.eval hy] <;> simp [eqGuard, run_eql_bool w T a b hT, run_neq_bool w T a b hT]) hN h
/-- how the values of a type are compared -/
def EqT (P : Program) (bop : BinOp) (T : TypeId) (u v r : Value) : Prop := ∀ (x y : Operand) (w : World), (do eqGuard bop T x y u v; binOp bop T u v : Sem Value).run P w = .ok r w
theorem WO.eqT {bop : BinOp} {u v r : Value} (hx : ev E x = some u) (hy : ev E y = some v) (hq : EqT P bop T u v r) (hN : Nat.blt d C.N = true)
    (h : WO C ops rest K ((d, r) :: E) H) : WO C ops (⟨some d, .binOp bop T x y T', ty, pos, af, none⟩ :: rest) K E H :=
  WO.pure _ (by simp) (fun L c w hf _ => by
    have := hq x y w
    simp only [Sem.run_bind] at this
    simp only [execOp, hf.eval hx, hf.eval hy, Sem.run_bind, this]; simp) hN h
/-! ### min, max -/
theorem WO.max2 {k k' : IntKind} {a b : Int} {ts : Array TypeId} (hx : ev E x = some (.int k a)) (hy : ev E y = some (.int k' b)) (hN : Nat.blt d C.N = true)
    (h : WO C ops rest K ((d, .int k (max a b)) :: E) H) : WO C ops (⟨some d, .call ⟨.builtin .max, #[x, y], ts⟩, ty, pos, af, none⟩ :: rest) K E H :=
  WO.pure _ (by simp) (fun L c w hf _ => by
    simp [execOp, resolve, hf.eval hx, hf.eval hy, invoke, builtin, run_max_int2]
    split <;> omega) hN h
theorem WO.min2 {k k' : IntKind} {a b : Int} {ts : Array TypeId} (hx : ev E x = some (.int k a)) (hy : ev E y = some (.int k' b)) (hN : Nat.blt d C.N = true)
    (h : WO C ops rest K ((d, .int k (min a b)) :: E) H) : WO C ops (⟨some d, .call ⟨.builtin .min, #[x, y], ts⟩, ty, pos, af, none⟩ :: rest) K E H :=
  WO.pure _ (by simp) (fun L c w hf _ => by
    simp [execOp, resolve, hf.eval hx, hf.eval hy, invoke, builtin, run_min_int2]
    split <;> omega) hN h
end rules
end
end Go.TH
namespace Go.TH
open Go

section
variable {P : Program}

/-- a round of the loop l: handed the pieces Hp it hands back true, and leaves the pieces Hq -/
def YieldOK (P : Program) (B : Nat) (wr : World) (l : Nat) (args : Array Value) (Hp Hq : List HP) : Prop :=
  ∀ w M', B ≤ w.heap.size → (∀ k, k < B → w.heap[k]? = wr.heap[k]?) → (∀ b ∈ M', B ≤ b) → Inv w M' Hp w →
    ∃ f tmps assign body, (Instr.yield l args).run P w = .ok (.round l f tmps assign body) w ∧ RoundIn Fence.wide 0 P l f tmps assign body w (fun e w' => e = .returned (.bool true) ∧ Inv w M' Hq w')
theorem roundIn_round {ro : Option Nat} {n : Nat} {l : Nat} {f : FuncId} {tmps : Array Value} {assign body : Code} {w : World} {R : Ending → World → Prop} (h : RoundIn Fence.wide n P l f tmps assign body w R) : RoundIn { Fence.wide with round := ro } n P l f tmps assign body w R := h

variable {C : Cx P} {E : Env} {H : List HP}
theorem Inv.keepB {w : World} {H : List HP} (hi : Inv C.w0 C.M H w) : ∀ k, k < C.B → w.heap[k]? = C.w0.heap[k]? := fun k hk =>
  hi.keep k (Nat.lt_of_lt_of_le hk C.hB) (fun hm => by have := C.hM k hm; omega)

theorem uponIn_round_of {F : Fence} {n : Nat} {o : Oper} {a : Act} {K : Act → World → Prop} {Q : Exit → Act → World → Prop} {l : Nat} {f : FuncId} {tmps : Array Value} {assign body : Code} {w : World} {r : Option Nat} {R : Ending → World → Prop} (hF : F = { Fence.wide with round := r }) (hn : n = 0)
    (h : RoundIn Fence.wide 0 P l f tmps assign body w R) (hR : ∀ e w', R e w' → ∃ v, e = .returned v ∧ K (a.put o.dst v) w') : o.uponIn F n P a K Q (.ok (.round l f tmps assign body) w) := by
  subst hF; subst hn
  rw [Oper.uponIn_round]
  refine ⟨fun h => by simp [Fence.wide] at h, RoundIn.mono (roundIn_round (ro := r) h) ?_⟩
  intro e w' hr
  obtain ⟨v, rfl, hk⟩ := hR e w' hr
  exact hk

theorem XO.yield {X : Value → List HP → Prop} {dst : Option Tmp} {x : Operand} {xs : List Operand} {ats : Array TypeId} {ty : TypeId} {pos : String} {af : Array Edge} {l : Nat} {vs : List Value} {Hp Hr Hq : List HP}
    (hf : ev E x = some (.func (.yield l) #[] #[])) (hxs : evs E xs = some vs) (hH : Sub H (Hp ++ Hr)) (hy : YieldOK P C.B C.w0 l vs.toArray Hp Hq) (h : X (.bool true) (Hq ++ Hr)) : XO C ⟨dst, .call ⟨.value x, xs.toArray, ats⟩, ty, pos, af, none⟩ X E H := by
  intro L a w hfr hi
  refine ⟨fun _ _ => trivial, ?_⟩
  rw [Oper.semAt_eq _ _ _ (by simp)]
  have hi2 : Inv C.w0 C.M (Hp ++ (L ++ Hr)) w := by
    refine hi.sub ?_
    have s1 := hH.app L
    refine Sub.trans s1 ?_
    exact Sub.rot L Hp Hr
  obtain ⟨M', h1, h2, s, pa, pb, hM⟩ := handed hi2
  have hMB : ∀ b ∈ M', C.B ≤ b := fun b hb => by
    rcases (handed_own s hM b hb).1 with h | h
    · exact Nat.le_trans C.hB h
    · exact C.hM b h
  obtain ⟨f, tmps, assign, body, hr, hround⟩ := hy w M' (Nat.le_trans C.hB hi.size) hi.keepB hMB (handed_start s pa hM)
  have hev : (execOp a.eval ⟨dst, .call ⟨.value x, xs.toArray, ats⟩, ty, pos, af, none⟩).run P w = .ok (.round l f tmps assign body) w := by
    have := evs_map hfr hxs
    simp [execOp, resolve, hfr.eval hf, Deferred.ofValue, invoke, this, hr]
  rw [hev]
  refine uponIn_round_of (r := C.ro) rfl rfl hround ?_
  rintro e w' ⟨rfl, hi'⟩
  refine ⟨_, rfl, .bool true, Hq ++ Hr, h, rfl, ?_⟩
  have := handed_back (hi.sub .nil) s pb hM hi'
  exact this.sub (Sub.rot' L Hq Hr)

/-- the context of a round -/
def rdCx (C : Cx P) (l : Nat) (w : World) (M : List Nat) (hB : C.B ≤ w.heap.size) (hM : ∀ b ∈ M, C.B ≤ b) : Cx P := ⟨some l, C.N, w, M, C.B, hB, hM, C.mixed, C.tt⟩

theorem putObj_inv {w0 : World} {M : List Nat} {L H : List HP} {w : World} {b : Nat} {o o' : Obj} (h : Inv w0 M (L ++ pt b o :: H) w) : Inv w0 M (L ++ pt b o' :: H) (w.putObj b o') := by
  have hl := (h.look (b := b) (o := o) ((Pick.head).app L)).1
  have hlt : b < w.heap.size := (Array.getElem?_eq_some_iff.1 hl).1
  have h2 := h.set (b := b) (o := o) (o' := o') (H' := L ++ H) (w' := w.putObj b o') Pick.mem rfl rfl rfl (by simp) (World.putObj_heap_same hlt) (fun k hk => World.putObj_heap_other hk)
  exact h2.perm (List.perm_middle (l₁ := L) (l₂ := H)).symm

/-- a range over a function whose rounds all go on -/
theorem W.rangeFunc {g : Operand} {p : Tmp} {assign body : Code} {Q : Post} {f : FuncId} {captured : List Value} (Hit : List HP) (HI : Nat → List HP) (xs : List Value) (hro : C.ro = none) (hN : Nat.blt p C.N = true)
    (hg : ev E g = some (.func (.func f) #[] captured.toArray)) (hcall : ∀ (args : Array Value) (w : World), (callFunc f args).run P w = .ok (.enter f args) w)
    (hH : Sub H (Hit ++ HI 0))
    (hiter : ∀ (l : Nat) (Hc : Nat → List HP), (∀ k x, xs[k]? = some x → YieldOK P C.B C.w0 l #[x] (Hc k) (Hc (k + 1))) →
      ∀ w M', C.B ≤ w.heap.size → (∀ k, k < C.B → w.heap[k]? = C.w0.heap[k]?) → (∀ b ∈ M', C.B ≤ b) → Inv w M' (Hit ++ Hc 0) w → Ct P f (#[.func (.yield l) #[] #[]] ++ captured.toArray) w fun _ w' => Inv w M' (Hit ++ Hc xs.length) w')
    (hround : ∀ (l : Nat) (w : World) (M : List Nat) (hB : C.B ≤ w.heap.size) (hM : ∀ b ∈ M, C.B ≤ b), (∀ k, k < C.B → w.heap[k]? = C.w0.heap[k]?) → ∀ k x, xs[k]? = some x →
      W (rdCx C l w M hB hM) assign (thn (fun E2 H2 => W (rdCx C l w M hB hM) body (thn (fun _ H3 => Sub H3 (HI (k + 1))) (fun _ _ _ => False)) E2 H2) (fun _ _ _ => False)) ((p, x) :: E) (HI k))
    (h : Q .normal E (Hit ++ HI xs.length)) : W C (.rangeFunc g #[p] assign body) Q E H := by
  intro L ds a w hs
  have hF : C.F = Fence.wide := by unfold Cx.F; rw [hro]; rfl
  rw [hF]
  refine wpIn_rangeFunc ?_
  intro fn hfn
  obtain ⟨rec, hrec⟩ : ∃ rec : LoopState → Option Code → Loop, rec = fun st pe => { state := st, pending := pe, fn, tmps := a.tmps, params := #[p], assign, body, defers := w.heap.size } := ⟨_, rfl⟩
  obtain ⟨W1, hW1⟩ : ∃ W1, (w.alloc (.deferred (some []))).alloc (.loop (rec .ready none)) = W1 := ⟨_, rfl⟩
  let D := w.heap.size
  let l := w.heap.size + 1
  have hinv1 : Inv C.w0 C.M ((((D :: ds).map ptd) ++ L) ++ ((Hit ++ (pt l (.loop (rec .ready none)) :: HI 0)))) W1 := by
    have i1 := hs.inv.sub (Sub.app hH _)
    have i2 := i1.alloc (.deferred (some []))
    have i3 := i2.alloc (.loop (rec .ready none))
    rw [hW1] at i3
    have e : (w.alloc (.deferred (some []))).heap.size = l := by simp [l]
    rw [e] at i3
    refine i3.perm ?_
    have q1 : (pt l (.loop (rec .ready none)) :: ptd D :: ((ds.map ptd ++ L) ++ (Hit ++ HI 0))).Perm (pt l (.loop (rec .ready none)) :: ((((D :: ds).map ptd) ++ L ++ Hit) ++ HI 0)) := by
      simp [List.append_assoc]
    refine q1.trans ?_
    have q2 := (List.perm_middle (a := pt l (.loop (rec .ready none))) (l₁ := ((D :: ds).map ptd) ++ L ++ Hit) (l₂ := HI 0)).symm
    simpa [List.append_assoc] using q2
  refine ⟨l, [{ target := .collected D, args := #[] }], W1, { target := .fn (.func f) captured.toArray, args := #[.func (.yield l) #[] #[]] }, W1, f, #[.func (.yield l) #[] #[]] ++ captured.toArray, W1, ?_, ?_, ?_, ?_, fun h => by simp [Fence.wide] at h, ?_⟩
  · rw [← hW1, hrec]; exact run_enterLoop_outer _ _ _ _ _
  · simp only [resolve, hs.fr.eval hg]
    simp [go_sem, Deferred.ofValue, Act.eval]
  · intro f' hf'; trivial
  · simp [invoke, hcall]
  · -- the iterator is handed its own pieces, and the caller's
    let Hc : Nat → List HP := fun k => pt l (.loop (rec .ready none)) :: HI k
    have hi2 : Inv C.w0 C.M ((Hit ++ Hc 0) ++ (((D :: ds).map ptd) ++ L)) W1 := hinv1.perm List.perm_append_comm
    obtain ⟨M', h1, h2, s, pa, pb, hM⟩ := handed hi2
    have hMB : ∀ b ∈ M', C.B ≤ b := fun b hb => by
      rcases (handed_own s hM b hb).1 with h | h
      · exact Nat.le_trans C.hB h
      · exact C.hM b h
    have hy : ∀ k x, xs[k]? = some x → YieldOK P C.B C.w0 l #[x] (Hc k) (Hc (k + 1)) := by
      intro k x hx wy My hyB hyk hyM hyi
      have hl : wy.heap[l]? = some (.loop (rec .ready none)) := (hyi.look .head).1
      have hy := run_yield (P := P) (args := #[x]) hl (by rw [hrec]; rfl)
      refine ⟨_, _, _, _, hy, roundIn_of_wpIn trivial ?_⟩
      have hrd := hround l wy My hyB hyM hyk k x hx
      have hst : St (rdCx C l wy My hyB hyM) [pt l (.loop (rec .ready none))] [] ((p, x) :: E) (HI k) { tmps := (#[p].zip #[x]).foldl (fun tmps (t, a) => tmps.setIfInBounds t a) a.tmps, defers := [] } wy := by
        refine ⟨rfl, ?_, hyi⟩
        have := hs.fr.put (v := x) hN
        exact ⟨by have := this.size; simpa [Act.put, rdCx] using this, fun t u hu => by have := this.get t u hu; simpa [Act.put] using this⟩
      have hw := hrd _ _ _ _ hst
      have hFr : (rdCx C l wy My hyB hyM).F = Fence.wide.inRound l := rfl
      rw [hFr] at hw
      rw [hrec]
      rw [hrec] at hw hl
      refine wpIn_mono hw ?_
      rintro e a2 w2 ⟨ds2, E2, H2, q, st2⟩
      cases e <;> first | exact q.elim | skip
      have i2 : Inv wy My (ds2.map ptd ++ pt l (.loop (rec .ready none)) :: H2) w2 := by have := st2.inv; rw [hrec]; simpa [List.append_assoc, rdCx] using this
      have hl2 := (i2.look (b := l) (o := .loop (rec .ready none)) ((Pick.head).app (ds2.map ptd))).1
      have i3 := putObj_inv (o' := .loop (rec .busy none)) i2
      have hb2 := run_beginRound (P := P) hl2 (by rw [hrec])
      have e3 : ({ rec .ready none with state := .busy } : Loop) = rec .busy none := by rw [hrec]
      rw [e3] at hb2
      refine ⟨_, hb2, ?_⟩
      have hw3 := q [pt l (.loop (rec .busy none))] ds2 a2 _ ⟨st2.defers, st2.fr, by simpa [List.append_assoc, rdCx] using i3⟩
      rw [hFr] at hw3
      refine wpIn_mono hw3 ?_
      rintro e4 a4 w4 ⟨ds4, E4, H4, q4, st4⟩
      cases e4 <;> first | exact q4.elim | skip
      have i4 : Inv wy My (ds4.map ptd ++ pt l (.loop (rec .busy none)) :: H4) w4 := by simpa [List.append_assoc, rdCx] using st4.inv
      have hl4 := (i4.look (b := l) (o := .loop (rec .busy none)) ((Pick.head).app (ds4.map ptd))).1
      have i5 := putObj_inv (o' := .loop (rec .ready none)) i4
      have hb4 := run_endRound (P := P) none hl4
      have e5 : ({ rec .busy none with state := if (none : Option Code).isNone then .ready else .done, pending := none } : Loop) = rec .ready none := by rw [hrec]; rfl
      rw [e5] at hb4
      refine ⟨_, _, hb4, rfl, ?_⟩
      have q4' : Sub H4 (HI (k + 1)) := q4
      refine i5.sub ?_
      have s1 : Sub (ds4.map ptd ++ pt l (.loop (rec .ready none)) :: H4) (pt l (.loop (rec .ready none)) :: H4) := by
        induction ds4.map ptd with
        | nil => exact Sub.refl _
        | cons A r ih => exact Sub.tail ih
      exact s1.trans (.cons .head q4')
    have hct := hiter l Hc hy W1 M' (Nat.le_trans C.hB (by have := hinv1.size; exact this)) hinv1.keepB hMB (handed_start s pa hM)
    refine CallsIn.mono hct ?_
    rintro e w' ⟨v, rfl, hi'⟩
    have hb := handed_back (hi2.sub .nil) s pb hM hi'
    have hb2 : Inv C.w0 C.M ((((D :: ds).map ptd) ++ L ++ Hit) ++ pt l (.loop (rec .ready none)) :: HI xs.length) w' := by
      refine hb.perm ?_
      have := List.perm_append_comm (l₁ := Hit ++ Hc xs.length) (l₂ := ((D :: ds).map ptd) ++ L)
      simpa [Hc, List.append_assoc] using this
    have hl := (hb2.look (b := l) (o := .loop (rec .ready none)) ((Pick.head).app _)).1
    refine ⟨none, w'.putObj l (.loop { rec .ready none with state := .exhausted }), ?_, ?_⟩
    · have := run_endLoop (P := P) hl (by rw [hrec]; simp)
      have e6 : (rec .ready none).pending = none := by rw [hrec]
      rw [this]; exact congrArg (fun q => Result.ok q _) e6
    · have h6 := putObj_inv (o' := .loop { rec .ready none with state := .exhausted }) hb2
      have h7 := h6.dropL
      refine ⟨D :: ds, E, Hit ++ HI xs.length, h, ⟨?_, ⟨hs.fr.size, hs.fr.get⟩, by simpa [List.append_assoc] using h7⟩⟩
      show [_] ++ a.defers = _
      rw [hs.defers]; rfl
end
end Go.TH
namespace Go.TH
open Go
section
variable {P : Program} {C : Cx P} {E : Env} {H : List HP} {l : List Oper} {m : Nat} {K : KP} {XT : List Nat} {E0 : Env} {H0 A : List HP} {p : List Nd} {pre : List SE} {k d : Nat} {X : List Nat} {o : Oper}
theorem DT.nil {dn : List Nd} (H' : List HP) (e : A ++ H0 = H') (h : WO C l.toArray (l.drop m) K (allE (delE XT E0) pre) H') : DT C l m K XT E0 H0 [] dn pre A := by subst e; exact h
theorem DT.r {dn : List Nd} {v : Value} (ho : l[k]? = some o) (hd : o.dst = some d) (hN : Nat.blt d C.N = true) (h : WO C l.toArray [o] (fun E' H' => E' = (d, v) :: selE (afs o) (delE X E0) pre ∧ H' = []) (selE (afs o) (delE X E0) pre) [])
    (r : DT C l m K XT E0 H0 p (.r k X :: dn) (⟨k, d, v⟩ :: pre) A) : DT C l m K XT E0 H0 (.r k X :: p) dn pre A := ⟨o, d, v, ho, hd, hN, h, r⟩
theorem DT.b {dn : List Nd} {v : Value} (ho : l[k]? = some o) (hd : o.dst = some d) (hN : Nat.blt d C.N = true) (h : WO C l.toArray [o] (fun E' H' => E' = (d, v) :: selE (afs o) (delE X E0) pre ∧ H' = H0) (selE (afs o) (delE X E0) pre) H0)
    (r : DT C l m K XT E0 H0 p (.b k X :: dn) (⟨k, d, v⟩ :: pre) A) : DT C l m K XT E0 H0 (.b k X :: p) dn pre A := ⟨o, d, v, ho, hd, hN, h, r⟩
theorem DT.g {dn : List Nd} {Q : HP} {R : List HP} {v : Value} (pk : Pick Q (A ++ H0) R) (ho : l[k]? = some o) (hd : o.dst = some d) (hN : Nat.blt d C.N = true) (h : WO C l.toArray [o] (fun E' H' => E' = (d, v) :: selE (afs o) (delE X E0) pre ∧ H' = [Q]) (selE (afs o) (delE X E0) pre) [Q])
    (r : DT C l m K XT E0 H0 p (.g k X Q :: dn) (⟨k, d, v⟩ :: pre) A) : DT C l m K XT E0 H0 (.g k X Q :: p) dn pre A := ⟨o, d, v, ho, hd, hN, ⟨R, pk⟩, h, r⟩
theorem DT.f {dn : List Nd} {v : Value} (H' : List HP) (e : A ++ H0 = H') (ho : l[k]? = some o) (hd : o.dst = some d) (hN : Nat.blt d C.N = true) (h : WO C l.toArray [o] (fun E' H1 => E' = (d, v) :: selE (afs o) (delE X E0) pre ∧ H1 = H') (selE (afs o) (delE X E0) pre) H')
    (r : DT C l m K XT E0 H0 p (.f k X :: dn) (⟨k, d, v⟩ :: pre) A) : DT C l m K XT E0 H0 (.f k X :: p) dn pre A := by subst e; exact ⟨o, d, v, ho, hd, hN, h, r⟩
theorem DT.c {dn : List Nd} (H' : List HP) (e : A ++ H0 = H') (ho : l[k]? = some o) (hd : o.dst = some d) (hN : Nat.blt d C.N = true)
    (h : WO C l.toArray [o] (fun E' H1 => ∃ v A', E' = (d, v) :: selE (afs o) (delE X E0) pre ∧ H1 = A' ++ H0 ∧ Keep l k (A' ++ H0) dn ∧ DT C l m K XT E0 H0 p (.c k X :: dn) (⟨k, d, v⟩ :: pre) A') (selE (afs o) (delE X E0) pre) H') : DT C l m K XT E0 H0 (.c k X :: p) dn pre A := by subst e; exact ⟨o, d, ho, hd, hN, h⟩
theorem DT.s {dn : List Nd} (H' : List HP) (e : A ++ H0 = H') (ho : l[k]? = some o) (hd : o.dst = none)
    (h : WO C l.toArray [o] (fun E' H1 => ∃ A', E' = selE (afs o) (delE X E0) pre ∧ H1 = A' ++ H0 ∧ Keep l k (A' ++ H0) dn ∧ DT C l m K XT E0 H0 p (.s k X :: dn) pre A') (selE (afs o) (delE X E0) pre) H') : DT C l m K XT E0 H0 (.s k X :: p) dn pre A := by subst e; exact ⟨o, ho, hd, h⟩
theorem DT.a {dn : List Nd} {z : Obj} (h : ∀ b, DT C l m K XT E0 H0 p (.a k d z :: dn) (⟨k, d, .pointer (some ⟨b, 0, none⟩)⟩ :: pre) (pt b z :: A)) : DT C l m K XT E0 H0 (.a k d z :: p) dn pre A := h
theorem DT.rB {dn : List Nd} {q : Prop} {_inst : Decidable q} (ho : l[k]? = some o) (hd : o.dst = some d) (hN : Nat.blt d C.N = true) (h : WO C l.toArray [o] (fun E' H' => E' = (d, .bool (bl q)) :: selE (afs o) (delE X E0) pre ∧ H' = []) (selE (afs o) (delE X E0) pre) [])
    (ht : q → DT C l m K XT E0 H0 p (.r k X :: dn) (⟨k, d, .bool true⟩ :: pre) A) (hf : ¬ q → DT C l m K XT E0 H0 p (.r k X :: dn) (⟨k, d, .bool false⟩ :: pre) A) : DT C l m K XT E0 H0 (.r k X :: p) dn pre A := by
  by_cases hp : q
  · exact DT.r ho hd hN (by rw [bl_t.2 hp] at h; exact h) (ht hp)
  · exact DT.r ho hd hN (by rw [bl_f.2 hp] at h; exact h) (hf hp)
theorem DT.rNB {dn : List Nd} {q : Prop} {_inst : Decidable q} (ho : l[k]? = some o) (hd : o.dst = some d) (hN : Nat.blt d C.N = true) (h : WO C l.toArray [o] (fun E' H' => E' = (d, .bool (!(bl q))) :: selE (afs o) (delE X E0) pre ∧ H' = []) (selE (afs o) (delE X E0) pre) [])
    (ht : ¬ q → DT C l m K XT E0 H0 p (.r k X :: dn) (⟨k, d, .bool true⟩ :: pre) A) (hf : q → DT C l m K XT E0 H0 p (.r k X :: dn) (⟨k, d, .bool false⟩ :: pre) A) : DT C l m K XT E0 H0 (.r k X :: p) dn pre A := by
  by_cases hp : q
  · exact DT.r ho hd hN (by rw [bl_t.2 hp] at h; exact h) (hf hp)
  · exact DT.r ho hd hN (by rw [bl_f.2 hp] at h; exact h) (ht hp)
theorem Keep.g {dn : List Nd} {j : Nat} {Q : HP} (h : ((cloT l).getD k []).elem j = true ∨ ∃ R, Pick Q H R) (r : Keep l k H dn) : Keep l k H (.g j X Q :: dn) := ⟨h, r⟩
theorem Keep.r {dn : List Nd} {j : Nat} (h : Keep l k H dn) : Keep l k H (.r j X :: dn) := h
theorem Keep.b {dn : List Nd} {j : Nat} (h : Keep l k H dn) : Keep l k H (.b j X :: dn) := h
theorem Keep.f {dn : List Nd} {j : Nat} (h : Keep l k H dn) : Keep l k H (.f j X :: dn) := h
theorem Keep.c {dn : List Nd} {j : Nat} (h : Keep l k H dn) : Keep l k H (.c j X :: dn) := h
theorem Keep.s {dn : List Nd} {j : Nat} (h : Keep l k H dn) : Keep l k H (.s j X :: dn) := h
theorem Keep.a {dn : List Nd} {j : Nat} {z : Obj} (h : Keep l k H dn) : Keep l k H (.a j d z :: dn) := h
theorem Keep.nil : Keep l k H [] := trivial
/-- the variables that are made at will -/
theorem ALok.cons {T : TypeId} {z : Value} {cs : Array Value} {ty : TypeId} {pos : String} {af : Array Edge} {x : Obj} (ho : l[k]? = some ⟨some d, .alloc T, ty, pos, af, none⟩) (hz : C.tt.z? T = some z) (hc : z.cells = cs) (hN : Nat.blt d C.N = true) (hx : x = .cells cs T (0, 0)) (r : ALok C l p) : ALok C l (.a k d x :: p) := by
  subst hx
  exact ⟨⟨_, ho, rfl, hN, WO.alloc hz hc hN fun b _ => WO.nil ⟨b, rfl, rfl⟩⟩, r⟩
theorem ALok.r (h : ALok C l p) : ALok C l (.r k X :: p) := h
theorem ALok.b (h : ALok C l p) : ALok C l (.b k X :: p) := h
theorem ALok.f (h : ALok C l p) : ALok C l (.f k X :: p) := h
theorem ALok.c (h : ALok C l p) : ALok C l (.c k X :: p) := h
theorem ALok.s (h : ALok C l p) : ALok C l (.s k X :: p) := h
theorem ALok.g {Q : HP} (h : ALok C l p) : ALok C l (.g k X Q :: p) := h
theorem ALok.nil : ALok C l [] := trivial
end
end Go.TH
namespace Go.TH
open Go
section
variable {P : Program} {C : Cx P} {E : Env} {H : List HP}
variable {ops : Array Oper} {K : KP} {rest : List Oper} {d : Nat} {ty : TypeId} {pos : String} {af : Array Edge} {x : Operand} {xs : List Operand} {ats : Array TypeId} {f : FuncId} {first captured vs : List Value}
/-- no piece is handed over -/
theorem WO.callC {Post : Value → List HP → Prop} (hx : ev E x = some (.func (.func f) first.toArray captured.toArray)) (hxs : evs E xs = some vs) (hcall : ∀ (args : Array Value) (w : World), (callFunc f args).run P w = .ok (.enter f args) w)
    (hspec : ∀ (L : List HP) w, Inv C.w0 C.M (L ++ H) w → Ct P f (first ++ vs ++ captured).toArray w fun v w' => ∃ Hq, Post v Hq ∧ Inv w [] Hq w') (hN : Nat.blt d C.N = true)
    (h : ∀ v Hq, Post v Hq → WO C ops rest K ((d, v) :: E) (Hq ++ H)) : WO C ops (⟨some d, .call ⟨.value x, xs.toArray, ats⟩, ty, pos, af, none⟩ :: rest) K E H := by
  refine WO.step rfl rfl hN (XO.callF (Hp := []) (Hr := H) (Post := Post) (first := first.toArray) (captured := captured.toArray) hx hxs hcall (Sub.refl _) (fun L w M' hi _ _ => ?_) h)
  have hc := hspec L w hi
  have e : first.toArray ++ vs.toArray ++ captured.toArray = (first ++ vs ++ captured).toArray := by simp
  rw [e]
  refine hc.mono fun v w' ⟨Hq, hp, hi'⟩ => ⟨Hq, hp, ?_⟩
  exact ⟨hi'.os, hi'.tape, hi'.output, hi'.size, fun k hk _ => hi'.keep k hk (by simp), sat_sub Hq (fun k o ho => by
    unfold own at ho ⊢
    split at ho
    · cases ho
    · rename_i hn
      rw [if_neg (fun hh => hn ⟨hh.1, by simp⟩)]; exact ho) hi'.mine⟩
theorem WO.callCR {r : Value} (hx : ev E x = some (.func (.func f) first.toArray captured.toArray)) (hxs : evs E xs = some vs) (hcall : ∀ (args : Array Value) (w : World), (callFunc f args).run P w = .ok (.enter f args) w)
    (hspec : ∀ (L : List HP) w, Inv C.w0 C.M (L ++ H) w → Ret P f (first ++ vs ++ captured).toArray w r) (hN : Nat.blt d C.N = true)
    (h : WO C ops rest K ((d, r) :: E) H) : WO C ops (⟨some d, .call ⟨.value x, xs.toArray, ats⟩, ty, pos, af, none⟩ :: rest) K E H :=
  WO.callC hx hxs hcall hspec hN fun v Hq ⟨e1, e2⟩ => by subst e1; subst e2; exact h
/-- what a function value's own variable holds, when it is called -/
structure Cap (w : World) (p : Addr) (v : Value) : Prop where
  lt : p.block < w.heap.size
  at_ : w.cell? p = some v
theorem Cap.of {b off : Nat} {cs : List Value} {t : TypeId} {fr : Nat × Nat} {H' L : List HP} {v : Value} {w : World} (p : Pick (pt b (.cells cs.toArray t fr)) H H') (hv : lget cs off = some v) (hi : Inv C.w0 C.M (L ++ H) w) : Cap w ⟨b, off, none⟩ v :=
  ⟨by have h1 := (hi.look (p.app L)).1; exact (Array.getElem?_eq_some_iff.1 h1).1, Cell.own (C := C) p hv L w hi⟩
theorem Cap.old {p : Addr} {v : Value} {L : List HP} {w : World} (hB : C.B = C.w0.heap.size) (h : Cap C.w0 p v) (hi : Inv C.w0 C.M (L ++ H) w) : Cap w p v :=
  ⟨by have h1 := h.lt; have h2 := hi.size; omega, Cell.old (C := C) (H := H) (by rw [hB]; exact h.lt) h.at_ L w hi⟩
theorem Cap.cell {p : Addr} {v : Value} (hB : C.B = C.w0.heap.size) (h : Cap C.w0 p v) : Cell C H p v := Cell.old (by rw [hB]; exact h.lt) h.at_
/-- a contract that says something of the result -/
def RetE (P : Program) (f : FuncId) (args : Array Value) (w : World) (Q : Value → Prop) : Prop := Ct P f args w fun v w' => ∃ Hq, (Q v ∧ Hq = []) ∧ Inv w [] Hq w'
theorem RetE.of {f : FuncId} {fn : Func} {c : Code} {vs : List Value} {w : World} {Q : Value → Prop} (hm : P.follows .mixedOrders = true) (tt : TTab P)
    (hf : P.funcs[f]? = some fn) (hb : fn.body = some c) (ha : Nat.ble vs.length fn.ntmps = true)
    (h : W (fnCx hm tt fn.ntmps w) c (fin (fnCx hm tt fn.ntmps w) fn (fun v _ => Q v)) (enumE 0 vs) []) : RetE P f vs.toArray w Q :=
  (Ct.of hm tt hf hb ha h).mono fun v w' ⟨Hq, q, hi⟩ => ⟨[], ⟨q, rfl⟩, hi.sub .nil⟩
theorem WO.callE {Q : Value → Prop} (hxs : evs E xs = some vs) (hcall : ∀ (args : Array Value) (w : World), (callFunc f args).run P w = .ok (.enter f args) w)
    (hspec : ∀ (L : List HP) w, Inv C.w0 C.M (L ++ H) w → RetE P f vs.toArray w Q) (hN : Nat.blt d C.N = true)
    (h : ∀ v, Q v → WO C ops rest K ((d, v) :: E) H) : WO C ops (⟨some d, .call ⟨.value (.func f), xs.toArray, ats⟩, ty, pos, af, none⟩ :: rest) K E H :=
  WO.call hxs hcall hspec hN fun v Hq ⟨e1, e2⟩ => by subst e2; exact h v e1
end
end Go.TH
namespace Go.TH
open Go
section
variable {P : Program} {C : Cx P} {E : Env} {H : List HP}
/-- p points to the cells vs, below block B -/
structure RdC (B : Nat) (w : World) (p : Addr) (vs : List Value) : Prop where
  lt : p.block < B
  at_ : ∀ j v, vs[j]? = some v → w.cell? (p.add j) = some v
theorem RdC.cellAt {p : Addr} {vs : List Value} (h : RdC C.B C.w0 p vs) {j : Nat} {u : Value} (hu : lget vs j = some u) : Cell C H (prt p j) u := by
  rw [lget_eq] at hu
  rw [prt_eq]
  exact Cell.old (by rw [addr_add_block]; exact h.lt) (h.at_ j u hu)
theorem addr_add_zero (p : Addr) : p.add 0 = p := by simp [Addr.add]
theorem RdC.cell0 {p : Addr} {vs : List Value} (h : RdC C.B C.w0 p vs) {u : Value} (hu : lget vs 0 = some u) : Cell C H p u := by
  have := h.cellAt (H := H) hu
  rw [prt_eq, addr_add_zero] at this
  exact this
theorem RdC.cells {p : Addr} {vs : List Value} (h : RdC C.B C.w0 p vs) : Cells C H p vs := fun j v hv => Cell.old (by rw [addr_add_block]; exact h.lt) (h.at_ j v hv)
theorem RdC.part {B : Nat} {w : World} {p : Addr} {vs us : List Value} (h : RdC B w p vs) (hs : ∀ (j : Nat) (v : Value), us[j]? = some v → vs[j]? = some v) : RdC B w p us := ⟨h.lt, fun j v hv => h.at_ j v (hs j v hv)⟩
theorem RdC.later {p : Addr} {vs : List Value} {L : List HP} {w : World} (h : RdC C.B C.w0 p vs) (hi : Inv C.w0 C.M (L ++ H) w) : RdC w.heap.size w p vs :=
  ⟨Nat.lt_of_lt_of_le h.lt (Nat.le_trans C.hB hi.size), fun j v hv => (h.cells (H := H)) j v hv L w hi⟩
theorem RdC.own {b : Nat} {cs : List Value} {t : TypeId} {fr : Nat × Nat} {H' L : List HP} {w : World} (p : Pick (pt b (.cells cs.toArray t fr)) H H') (hi : Inv C.w0 C.M (L ++ H) w) : RdC w.heap.size w ⟨b, 0, none⟩ cs :=
  ⟨by have h1 := (hi.look (p.app L)).1; exact (Array.getElem?_eq_some_iff.1 h1).1, fun j v hv => (Cells.own (C := C) p) j v hv L w hi⟩
/-! what is read below B, at another world that is alike below B -/
theorem cell_agree {B : Nat} {w w' : World} (hk : ∀ k, k < B → w'.heap[k]? = w.heap[k]?) {p : Addr} (hb : p.block < B) : w'.cell? p = w.cell? p := by
  unfold World.cell?
  rw [hk _ hb]
theorem RdC.agree {B : Nat} {w w' : World} {p : Addr} {vs : List Value} (h : RdC B w p vs) (hk : ∀ k, k < B → w'.heap[k]? = w.heap[k]?) : RdC B w' p vs :=
  ⟨h.lt, fun j v hv => by rw [cell_agree hk (by rw [addr_add_block]; exact h.lt)]; exact h.at_ j v hv⟩
theorem RdF.agree {α : Type} {enc : α → List Value} {sz B : Nat} {w w' : World} {v : Value} {xs : List α} (h : RdF enc sz B w v xs) (hk : ∀ k, k < B → w'.heap[k]? = w.heap[k]?) : RdF enc sz B w' v xs :=
  ⟨h.sl, h.blk, fun i x hx j u hu => by
    rw [cell_agree hk (by rw [addr_add_block, addr_add_block]; exact h.blk (by have := (List.getElem?_eq_some_iff.1 hx).1; omega))]; exact h.cell i x hx j u hu⟩
theorem RdR.agree {α : Type} {enc : α → List Value} {sz B : Nat} {w w' : World} {v : Value} {rv : List Value} {xss : List (List α)} (h : RdR enc sz B w v rv xss) (hk : ∀ k, k < B → w'.heap[k]? = w.heap[k]?) : RdR enc sz B w' v rv xss :=
  ⟨h.out.agree hk, h.len, fun i hl => (h.row' i hl).agree hk⟩
theorem RdC.up {B B' : Nat} {w : World} {p : Addr} {vs : List Value} (h : RdC B w p vs) (hB : B ≤ B') : RdC B' w p vs := ⟨Nat.lt_of_lt_of_le h.lt hB, h.at_⟩
theorem RdF.up {α : Type} {enc : α → List Value} {sz B B' : Nat} {w : World} {v : Value} {xs : List α} (h : RdF enc sz B w v xs) (hB : B ≤ B') : RdF enc sz B' w v xs := ⟨h.sl, fun hl => Nat.lt_of_lt_of_le (h.blk hl) hB, h.cell⟩
theorem RdR.up {α : Type} {enc : α → List Value} {sz B B' : Nat} {w : World} {v : Value} {rv : List Value} {xss : List (List α)} (h : RdR enc sz B w v rv xss) (hB : B ≤ B') : RdR enc sz B' w v rv xss := ⟨h.out.up hB, h.len, fun i hl => (h.row' i hl).up hB⟩
theorem IsSl.oc {v : Value} {n : Nat} (h : IsSl v n) : v.oneCell' = true := by
  obtain ⟨_, a, c, rfl, _⟩ := h
  rfl
/-! ## Some pieces as one -/
theorem sat_one {Hs H : List HP} : ∀ h, sat (Hs ++ H) h → sat (sat Hs :: H) h := fun h hs => by
  obtain ⟨h1, h2, s, x, y⟩ := sat_app hs
  exact ⟨h1, h2, s, x, y⟩
theorem sat_many {Hs H : List HP} : ∀ h, sat (sat Hs :: H) h → sat (Hs ++ H) h := fun _ ⟨_, _, s, x, y⟩ => sat_join s x y
/-- an array of one's own, at a number that is known -/
theorem WO.indexArrL {ops : Array Oper} {K : KP} {rest : List Oper} {d : Nat} {ty : TypeId} {pos : String} {af : Array Edge} {x y : Operand} {T : TypeId} {len e sz b off o' : Nat} {k : IntKind} {i : Nat} (hT : C.tt.ar? T = some (len, e, sz)) (hx : ev E x = some (.pointer (some ⟨b, off, none⟩))) (hy : ev E y = some (.int k (i : Int))) (h1 : i < len) (ho : off + i * sz = o') (hN : Nat.blt d C.N = true)
    (h : WO C ops rest K ((d, .pointer (some ⟨b, o', none⟩)) :: E) H) : WO C ops (⟨some d, .indexAddr T x y, ty, pos, af, none⟩ :: rest) K E H := by
  subst ho
  refine WO.indexArr hT hx hy (by omega) (by omega) hN ?_
  have e : Addr.add ⟨b, off, none⟩ ((i : Int).toNat * sz) = ⟨b, off + i * sz, none⟩ := by
    rw [Int.toNat_natCast]; unfold Addr.add; split
    · rename_i h0; simp [h0]
    · rfl
  rw [e]; exact h
/-! ## A function that yields -/
variable {ops : Array Oper} {K : KP} {rest : List Oper} {d : Nat} {ty : TypeId} {pos : String} {af : Array Edge} {x : Operand} {xs : List Operand} {ats : Array TypeId} {vs : List Value}
theorem YieldOK.one {B : Nat} {wr : World} {l : Nat} {args : Array Value} {Hp Hq : List HP} (h : YieldOK P B wr l args Hp Hq) : YieldOK P B wr l args [sat Hp] [sat Hq] := fun w M' h1 h2 h3 h4 => by
  have e : ∀ (Hx : List HP) (w : World), Inv w M' [sat Hx] w → Inv w M' Hx w := fun Hx w hi => by
    have := Inv.chg (L := []) hi (sat_many (Hs := Hx) (H := []))
    simpa using this
  obtain ⟨f, tmps, as9, body, hr, hd⟩ := h w M' h1 h2 h3 (e Hp w h4)
  refine ⟨f, tmps, as9, body, hr, RoundIn.mono hd ?_⟩
  rintro e w' ⟨rfl, hi⟩
  refine ⟨rfl, ?_⟩
  have := Inv.chg (L := []) (H := Hq ++ []) (by simpa using hi) (sat_one (Hs := Hq) (H := []))
  simpa using this
theorem YieldOK.agree {B : Nat} {wr w0 : World} {l : Nat} {args : Array Value} {Hp Hq : List HP} (h : YieldOK P B wr l args Hp Hq) (hk : ∀ k, k < B → w0.heap[k]? = wr.heap[k]?) : YieldOK P B w0 l args Hp Hq := fun w M' h1 h2 h3 h4 =>
  h w M' h1 (fun k hlt => by rw [h2 k hlt, hk k hlt]) h3 h4
theorem WO.yield {l : Nat} {A A' : HP} {H' : List HP} (hx : ev E x = some (.func (.yield l) #[] #[])) (hxs : evs E xs = some vs) (p : Pick A H H') (hy : YieldOK P C.B C.w0 l vs.toArray [A] [A']) (hN : Nat.blt d C.N = true)
    (h : WO C ops rest K ((d, .bool true) :: E) (A' :: H')) : WO C ops (⟨some d, .call ⟨.value x, xs.toArray, ats⟩, ty, pos, af, none⟩ :: rest) K E H :=
  WO.step rfl rfl hN (XO.yield (Hp := [A]) (Hr := H') (Hq := [A']) hx hxs (.cons p (Sub.refl _)) hy h)
/-- the context of a function that yields -/
def itCx (hm : P.follows .mixedOrders = true) (tt : TTab P) (N : Nat) (w : World) (M : List Nat) (B : Nat) (hB : B ≤ w.heap.size) (hM : ∀ b ∈ M, B ≤ b) : Cx P := ⟨none, N, w, M, B, hB, hM, hm, tt⟩
theorem Iter.of {f : FuncId} {fn : Func} {c : Code} {vs : List Value} {w : World} {M : List Nat} {B : Nat} {Hit : List HP} {A A' : List HP} (hm : P.follows .mixedOrders = true) (tt : TTab P) (hB : B ≤ w.heap.size) (hM : ∀ b ∈ M, B ≤ b)
    (hf : P.funcs[f]? = some fn) (hb : fn.body = some c) (ha : Nat.ble vs.length fn.ntmps = true) (hi : Inv w M (Hit ++ A) w)
    (h : W (itCx hm tt fn.ntmps w M B hB hM) c (fin (itCx hm tt fn.ntmps w M B hB hM) fn (fun _ H => Sub H (Hit ++ [sat A']))) (enumE 0 vs) (Hit ++ [sat A])) : Ct P f vs.toArray w fun _ w' => Inv w M (Hit ++ A') w' := by
  have h1 : Inv w M (Hit ++ [sat A]) w := Inv.chg (L := Hit) (H := A ++ []) (by simpa using hi) sat_one
  refine (Ct.of_W (M := M) (Hp := Hit ++ [sat A]) (itCx hm tt fn.ntmps w M B hB hM) rfl rfl rfl hf hb rfl (by simpa [itCx] using Nat.ble_eq.mp ha) (fun t v hv => by
    have := lk_enumE vs 0 t v hv
    simpa using this.2) h h1).mono ?_
  rintro v w' ⟨Hq, s, hi'⟩
  have h2 : Inv w M (Hit ++ (A' ++ [])) w' := Inv.chg (L := Hit) (hi'.sub s) sat_many
  simpa using h2
end
end Go.TH
namespace Go.TH
open Go
section
variable {P : Program} {C : Cx P} {E : Env} {H : List HP}
theorem stepR_scope {b : Frame} {a : Act} {k : List Item} {cs : List Frame} {w : World} {c : Code} : step P (lone (b.atR a (.code (.scope c) :: k)) cs w) = .next (lone (b.atR a (.code c :: .inScope c :: k)) cs w) :=
  step_lone_go (by simp [stepG, stepG.exec, Frame.atR])
theorem stepR_inScope {b : Frame} {a : Act} {k : List Item} {cs : List Frame} {w : World} {c : Code} : step P (lone (b.atR a (.inScope c :: k)) cs w) = .next (lone (b.atR a k) cs w) :=
  step_lone_go (by simp [stepG, stepG.exec, Frame.atR])
/-- no jump out of it -/
@[reducible] def sco (Q : Post) : Post
  | .goto _ => fun _ _ => False
  | e => Q e
theorem W.scope {c : Code} {Q : Post} (h : W C c (sco Q) E H) : W C (.scope c) Q E H := by
  intro L ds a w hs b k cs hro hb hr
  obtain ⟨e, a₁, w₁, ⟨ds', E', H', hq, hs'⟩, harr⟩ := h L ds a w hs b (.inScope c :: k) cs hro hb hr
  cases e with
  | normal => exact ⟨.normal, a₁, w₁, ⟨ds', E', H', hq, hs'⟩, .of_steps (.one (fenced_calm hb hr rfl) stepR_scope) (StepsIn.trans harr (.one (fenced_calm hb hr rfl) stepR_inScope))⟩
  | exit id => exact ⟨.exit id, a₁, w₁, ⟨ds', E', H', hq, hs'⟩, .of_steps (.one (fenced_calm hb hr rfl) stepR_scope) ⟨fun k' hk => harr.1 k' (by simp [exitTo, hk]), fun hr' hk => harr.2 hr' (by simp [exitTo, hk])⟩⟩
  | goto l => exact hq.elim
  | ret => exact ⟨_, a₁, w₁, ⟨ds', E', H', hq, hs'⟩, .of_steps (.one (fenced_calm hb hr rfl) stepR_scope) harr⟩
  | panic ch => exact ⟨_, a₁, w₁, ⟨ds', E', H', hq, hs'⟩, .of_steps (.one (fenced_calm hb hr rfl) stepR_scope) harr⟩
  | outgrown => exact ⟨_, a₁, w₁, ⟨ds', E', H', hq, hs'⟩, .of_steps (.one (fenced_calm hb hr rfl) stepR_scope) harr⟩
theorem W.label {l : Nat} {Q : Post} (h : Q .normal E H) : W C (.label l) Q E H := fun _ ds _ _ hs => wpIn_label ⟨ds, E, H, h, hs⟩
/-- the memory tells of something that there is -/
theorem W.chgE {X : Type} {c : Code} {Q : Post} {p : X → Prop} {H' : X → List HP} (hi : ∀ h, sat H h → ∃ x, p x ∧ sat (H' x) h) (h : ∀ x, p x → W C c Q E (H' x)) : W C c Q E H := by
  intro L ds a w hs
  have hv := hs.inv
  obtain ⟨h1, h2, s, x, y⟩ := sat_app hv.mine
  obtain ⟨u, hu, y'⟩ := hi _ y
  exact h u hu L ds a w ⟨hs.defers, hs.fr, hv.os, hv.tape, hv.output, hv.size, hv.keep, sat_join s x y'⟩
/-- a pointer to a variable of one's own, if e is 0 -/
def PtrP (pv : Value) (e : Int) (cs : List Value) (t : TypeId) : HP := fun h => e = 0 → ∃ b, pv = .pointer (some ⟨b, 0, none⟩) ∧ pt b (.cells cs.toArray t (0, 0)) h
theorem PtrP.open {pv : Value} {e : Int} {cs : List Value} {t : TypeId} {H' : List HP} (p : Pick (PtrP pv e cs t) H H') (he : e = 0) : ∀ h, sat H h → ∃ b, pv = .pointer (some ⟨b, 0, none⟩) ∧ sat (pt b (.cells cs.toArray t (0, 0)) :: H') h := fun h hs => by
  obtain ⟨h1, h2, s, hp, hr⟩ := p.sat hs
  obtain ⟨b, e1, e2⟩ := hp he
  exact ⟨b, e1, h1, h2, s, e2, hr⟩
theorem PtrP.no {pv : Value} {e : Int} {cs : List Value} {t : TypeId} (he : e ≠ 0) : ∀ h, sat H h → sat (PtrP pv e cs t :: H) h := fun h hs => ⟨fun _ => none, h, split_none h, fun e0 => absurd e0 he, hs⟩
theorem PtrP.yes {b : Nat} {e : Int} {cs : List Value} {t : TypeId} {H' : List HP} (p : Pick (pt b (.cells cs.toArray t (0, 0))) H H') : ∀ h, sat H h → sat (PtrP (.pointer (some ⟨b, 0, none⟩)) e cs t :: H') h := fun h hs => by
  obtain ⟨h1, h2, s, hp, hr⟩ := p.sat hs
  exact ⟨h1, h2, s, fun _ => ⟨b, rfl, hp⟩, hr⟩
theorem W.keep {c : Code} {Q : Post} {H' : List HP} (s : Sub H H') (h : W C c Q E H') : W C c Q E H := W.chg (fun _ hs => s.sat hs) h
/-- a contract whose pieces are told by something that there is -/
theorem Ct.ofI {X : Type} {p : X → Value → Prop} {Hx : X → List HP} {f : FuncId} {fn : Func} {c : Code} {vs : List Value} {w : World} (hm : P.follows .mixedOrders = true) (tt : TTab P)
    (hf : P.funcs[f]? = some fn) (hb : fn.body = some c) (ha : Nat.ble vs.length fn.ntmps = true)
    (h : W (fnCx hm tt fn.ntmps w) c (fin (fnCx hm tt fn.ntmps w) fn (fun v H => ∃ x, p x v ∧ ∀ h, sat H h → sat (Hx x) h)) (enumE 0 vs) []) : Ct P f vs.toArray w fun v w' => ∃ Hq, (∃ x, p x v ∧ Hq = Hx x) ∧ Inv w [] Hq w' :=
  (Ct.of hm tt hf hb ha h).mono fun _ _ ⟨_, ⟨x, hp, hi⟩, hv⟩ => ⟨Hx x, ⟨x, hp, rfl⟩, Inv.chg (L := []) hv hi⟩
variable {ops : Array Oper} {K : KP} {rest : List Oper} {d : Nat} {ty : TypeId} {pos : String} {af : Array Edge} {x y : Operand} {T : TypeId}
theorem setRow_other {w : World} {g k : Nat} {cur' : List Value} (h : k ≠ g) : (w.setRow g cur'.toArray).heap[k]? = w.heap[k]? := by
  simp [World.setRow, Array.getElem?_modify, Ne.symm h]
end
end Go.TH
namespace Go.TH
open Go Go.RowKit Go.WideShapes Go.ChangeShapes
theorem Inv.below {w w' : World} {H : List HP} (h : Inv w [] H w') : Below w.heap.size w w' := ⟨h.os, h.tape, h.output, h.size, fun k hk => h.keep k hk (by simp)⟩
theorem Ret.calls {P : Program} {f : FuncId} {args : Array Value} {w : World} {r : Value} (h : Ret P f args w r) : Calls P f args w fun e w' => e = .returned r ∧ Below w.heap.size w w' :=
  callsIn_wide.1 (CallsIn.mono h fun e w' ⟨v, he, Hq, ⟨hv, _⟩, hi⟩ => ⟨by rw [he, hv], hi.below⟩)
/-- what a row asks of a call that answers, turns nothing that was there, and hands its arguments back as they were -/
theorem post_law {H : Type} {enc : TypeId × Value → H} {P : Program} {f : Func} {s : ChangeSpec} {apart fresh handsOn again : Bool} {W W' : World} {args : Array Value} {v : Value} {ds gs : List (DataW H)} {before pa pv : List MemPlace}
    (hW : DataW.Whole enc P f.params.toList s.vars apart W args.toList ds gs before)
    (hres : ∀ (b : Nat) (sp : Nat → Bool) (hd : Bool), DataW.TrodAll enc P W' b sp hd f.resultTypes.toList (v.resultList f.resultTypes.size) (s.fn H (ds ++ gs)).results [])
    (hargs : ∀ sp : Nat → Bool, (∀ p ∈ before, sp p.block = true) → DataW.TrodAll enc P W' 0 sp true f.params.toList args.toList (s.fn H (ds ++ gs)).args pa)
    (hvars : ∀ sp : Nat → Bool, (∀ p ∈ before, sp p.block = true) → DataW.TrodVars enc P W' sp s.vars (s.fn H (ds ++ gs)).vars pv)
    (hps : before = pa ++ pv) (hb : Below W.heap.size W W')
    (hok : ∀ (j : Nat) (t : TypeId) (r : Value), f.resultTypes[j]? = some t → (v.resultList f.resultTypes.size)[j]? = some r → Value.okWide P W' .any 0 t r) :
    s.post enc P f apart fresh handsOn again W args v W' := by
  subst hps
  have hin : ∀ p ∈ pa ++ pv, decide (p.block < W.heap.size) = true := fun p hp => decide_eq_true (hW.lt p hp)
  refine ⟨ds, gs, pa ++ pv, [], pa, pv, hW, hres _ _ _, hargs _ hin, hvars _ hin, World.keptBut_mono (fun p hp => ⟨hp, .inr (List.mem_append.1 hp)⟩) (hb.frame (· ∈ pa ++ pv)), fun _ => ?_⟩
  obtain ⟨_, _, _, _, _, hz, hn⟩ := hW
  refine ⟨hok, _, _, ([] ++ pa) ++ pv, ⟨[] ++ pa, pv, trodAll_append (hargs _ fun _ _ => rfl) (hres _ _ _), hvars _ fun _ _ => rfl, rfl, fun b off hp => ?_, fun ha => hn ha⟩, fun p hp _ => hp⟩
  have hp' : MemPlace.cell b off ∈ pa ++ pv := hp
  rw [hb.frozen (of_decide_eq_true (hin _ hp'))]
  exact hz b off hp'
end Go.TH
namespace Go.TH
open Go Go.RowKit Go.WideShapes Go.ChangeShapes
section
variable {H : Type} {enc : TypeId × Value → H} {P : Program} {w : World} {base : Nat} {spare : Nat → Bool} {held : Bool}
theorem mapM_get {α β : Type} {f : α → Option β} : ∀ {l : List α} {r : List β}, l.mapM f = some r → r.length = l.length ∧ ∀ (i : Nat) (x : α), l[i]? = some x → r[i]? = f x
  | [], r, h => by simp at h; subst h; exact ⟨rfl, fun i x hx => by simp at hx⟩
  | a :: l, r, h => by
    rw [List.mapM_cons] at h
    cases ha : f a with
    | none => simp [ha] at h
    | some b =>
      cases hl : l.mapM f with
      | none => simp [ha, hl] at h
      | some r' =>
        simp [ha, hl] at h
        subst h
        obtain ⟨h1, h2⟩ := mapM_get hl
        refine ⟨by simp [h1], fun i x hx => ?_⟩
        cases i with
        | zero => simp at hx; subst hx; simp [ha]
        | succ i => simp at hx ⊢; exact h2 i x hx
theorem cells_get {a : Addr} {n : Nat} {cs : List Value} (h : w.cells? base a n = some cs) : cs.length = n ∧ ∀ j, j < n → w.cell? (a.add j) = cs[j]? := by
  unfold World.cells? at h
  split at h
  · obtain ⟨h1, h2⟩ := mapM_get h
    refine ⟨by simpa using h1, fun j hj => ?_⟩
    exact (h2 j j (by simp [hj])).symm
  · cases h
theorem cell_in {p : Addr} {v : Value} (h : w.cell? p = some v) : p.block < w.heap.size ∧ p.spot = none := by
  unfold World.cell? at h
  cases hb : w.heap[p.block]? with
  | none => simp [hb] at h
  | some o =>
    refine ⟨(Array.getElem?_eq_some_iff.1 hb).1, ?_⟩
    rw [hb] at h
    cases o <;> simp at h
    cases hs : p.spot with
    | none => rfl
    | some x => simp [hs] at h
theorem choose_list {α : Type} {n : Nat} {p : Nat → α → Prop} (h : ∀ i, i < n → ∃ x, p i x) : ∃ l : List α, l.length = n ∧ ∀ (i : Nat) (x : α), l[i]? = some x → p i x := by
  induction n with
  | zero => exact ⟨[], rfl, fun i x hx => by simp at hx⟩
  | succ n ih =>
    obtain ⟨l, hl, hp⟩ := ih fun i hi => h i (by omega)
    obtain ⟨x, hx⟩ := h n (by omega)
    refine ⟨l ++ [x], by simp [hl], fun i y hy => ?_⟩
    rcases Nat.lt_or_ge i n with hi | hi
    · rw [List.getElem?_append_left (by omega)] at hy; exact hp i y hy
    · have hlt := (List.getElem?_eq_some_iff.1 hy).1
      simp [hl] at hlt
      obtain rfl : i = n := by omega
      rw [List.getElem?_append_right (by omega)] at hy
      simp [hl] at hy; subst hy; exact hx
/-- a slice whose elements read as data, each by its type: a list -/
theorem open_rd {α : Type} {en : α → List Value} {sz T e fuel : Nat} {cs : List Value} {x : DataW H × List MemPlace} {Q : α → Prop} (ht : P.underlying T = some (.slice e)) (hc : P.cellsOf e = sz) (hsz : 0 < sz)
    (hx : ∀ n c y, c.length = sz → DataW.trod enc P w base spare held n e c = some y → ∃ z : α, c = en z ∧ Q z) (h : DataW.trod enc P w base spare held fuel T cs = some x) :
    ∃ v xs, cs = [v] ∧ RdF en sz w.heap.size w v xs ∧ ∀ z ∈ xs, Q z := by
  rcases Deep.open_slice ht h with ⟨rfl, _⟩ | ⟨a, len, cap, m, n, D, Pl, rfl, hb, hl, hm, hme, _, hel⟩
  · exact ⟨_, [], rfl, ⟨⟨by simp, none, 0, rfl, fun h => by simp at h⟩, fun h => by simp at h, fun i x h => by simp at h⟩, by simp⟩
  · have hlm : len ≤ m := by rw [hme]; split <;> omega
    have hpt : ∀ i, i < len → ∃ z : α, (∀ (j : Nat) (u : Value), (en z)[j]? = some u → w.cell? ((a.add (i * sz)).add j) = some u) ∧ Q z ∧ (en z).length = sz := by
      intro i hi
      obtain ⟨c, h1, h2⟩ := hel i (by omega)
      rw [hc] at h1
      obtain ⟨h3, h4⟩ := cells_get h1
      obtain ⟨z, rfl, hz⟩ := hx n c _ h3 h2
      refine ⟨z, fun j u hu => ?_, hz, h3⟩
      have hj := (List.getElem?_eq_some_iff.1 hu).1
      rw [h4 j (by omega)]; exact hu
    obtain ⟨xs, hxl, hxp⟩ := choose_list hpt
    have h0 : 0 < len → a.block < w.heap.size ∧ a.spot = none := fun hp => by
      obtain ⟨z, h1, h2⟩ : ∃ z, xs[0]? = some z ∧ True := by
        obtain ⟨z, hz⟩ : ∃ z, xs[0]? = some z := ⟨xs[0]'(by omega), by simp⟩
        exact ⟨z, hz, trivial⟩
      obtain ⟨g1, _, g3⟩ := hxp 0 z h1
      have := cell_in (g1 0 ((en z)[0]'(by omega)) (by simp))
      simpa [Addr.add] using this
    simp only [maxLen] at hm
    refine ⟨_, xs, rfl, ⟨⟨by omega, some a, cap, by rw [hxl], fun hp => ?_⟩, fun hp => (h0 (by omega)).1, fun i z hz j u hu => (hxp i z hz).1 j u hu⟩, fun z hz => ?_⟩
    · have := (h0 (by omega)).2
      exact ⟨a.block, a.off, by cases a; simp_all⟩
    · obtain ⟨i, hi⟩ := List.mem_iff_getElem?.1 hz
      exact (hxp i z hi).2.1
/-- an argument reads behind a call as it read before -/
theorem trod_stay {W W' : World} {t : TypeId} {v : Value} {d : DataW H} {ps : List MemPlace} (hl : laidOutB P = true) (hr : P.readableRec t = true) (hrow : t < P.types.size) (h : DataW.Trod enc P W 0 (fun _ => true) true t v d ps) (hb : Below W.heap.size W W') (hlt : ∀ x ∈ ps, x.block < W.heap.size) (sp : Nat → Bool) (hsp : ∀ x ∈ ps, sp x.block = true) : DataW.Trod enc P W' 0 sp true t v d ps :=
  WideElems.Trod_stays hl hr hrow h (fun x hx => hb.same (hlt x hx)) hsp
end
end Go.TH
