/-
  What is proved here: regions that draw their order, where what is made may hang on what was drawn first. Conditions: none; each rule states its own.
-/
import Derived.Test.YtpecakgebhmnfaaM2
set_option linter.unusedVariables false
set_option linter.unusedSimpArgs false
namespace Go.TH.DB
open Go Go.TH

/-- how an operation is taken: r reads no memory, g reads one piece that stays till it is done, b reads what was there before, f reads what is there now, c changes what is new, s likewise but yields nothing, a makes a variable; X: the slots that may be written ahead of it -/
inductive Nd
  | g (k : Nat) (X : List Nat) (Q : HP) | r (k : Nat) (X : List Nat) | b (k : Nat) (X : List Nat) | f (k : Nat) (X : List Nat) | c (k : Nat) (X : List Nat) | s (k : Nat) (X : List Nat) | a (k d : Nat) (z : Nat → HP) (y : Nat → Value)
def Nd.ix : Nd → Nat
  | .g k _ _ => k
  | .r k _ => k
  | .b k _ => k
  | .f k _ => k
  | .c k _ => k
  | .s k _ => k
  | .a k _ _ _ => k
def Nd.isF : Nd → Bool
  | .f _ _ => true
  | _ => false
def Nd.al : Nd → List Nat
  | .a k _ _ _ => [k]
  | _ => []
def Nd.X : Nd → List Nat
  | .g _ X _ => X
  | .r _ X => X
  | .b _ X => X
  | .f _ X => X
  | .c _ X => X
  | .s _ X => X
  | .a _ _ _ _ => []
def cloT (l : List Oper) : List (List Nat) :=
  l.foldl (fun T o => T ++ [(List.range T.length).filter fun j => (afs o).any fun a => Nat.beq a j || (T.getD a []).elem j]) []
def cloOk (l : List Oper) (T : List (List Nat)) : Bool :=
  l.zipIdx.all fun (o, i) => (T.getD i []).all fun j => (afs o).any fun a => Nat.beq a j || (T.getD a []).elem j
def dtChk (l : List Oper) (T : List (List Nat)) (m : Nat) (AL : List Nat) : List Nd → List Nd → Bool
  | [], dn => (List.range m).all fun i => (dn.map Nd.ix).elem i
  | nd :: p, dn =>
    (!(dn.map Nd.ix).elem nd.ix && Nat.blt nd.ix m && Nat.blt nd.ix l.length &&
    (match nd with
     | .c k _ => !AL.elem k && dn.all (fun n => !n.isF || (T.getD k []).elem n.ix) && l.zipIdx.all (fun (o, j) => (dn.map Nd.ix).elem j || AL.elem j || Nat.beq j k || (afs o).any fun x => !(dn.map Nd.ix).elem x && !AL.elem x)
     | .s k _ => !AL.elem k && dn.all (fun n => !n.isF || (T.getD k []).elem n.ix) && l.zipIdx.all (fun (o, j) => (dn.map Nd.ix).elem j || AL.elem j || Nat.beq j k || (afs o).any fun x => !(dn.map Nd.ix).elem x && !AL.elem x)
     | .a k _ _ _ => AL.elem k && l.zipIdx.all (fun (o, j) => (dn.map Nd.ix).elem j || AL.elem j || (afs o).any fun x => !(dn.map Nd.ix).elem x && (Nat.beq x k || !AL.elem x))
     | n => !AL.elem n.ix)) && dtChk l T m AL p (nd :: dn)
def distinct : List Nat → Bool
  | [] => true
  | x :: r => !r.elem x && distinct r
def xOk (l : List Oper) (T : List (List Nat)) (m : Nat) (EK : List Nat) (n : Nd) : Bool :=
  (l.take m).zipIdx.all fun (o, k) => (T.getD k []).elem n.ix || match o.dst with
    | none => true
    | some d => n.X.elem d || !EK.elem d
def drawDOk (l : List Oper) (m : Nat) (plan : List Nd) (XT EK : List Nat) : Bool :=
  (plan.all fun n => xOk l (cloT l) m EK n) &&
  ((l.take m).all fun o => match o.dst with
    | none => true
    | some d => XT.elem d || !EK.elem d) &&
  (l.zipIdx.all fun (o, i) => (afs o).all (Nat.blt · i)) &&
  ((l.take m).zipIdx.all fun (o, i) => (l.take m).zipIdx.all fun (o', j) => i == j || o.dst.isNone || o.dst != o'.dst) &&
  cloOk l (cloT l) &&
  (l.zipIdx.drop m).all (fun (_, i) => (List.range i).all fun j => ((cloT l).getD i []).elem j) &&
  (plan.flatMap Nd.al).all (Nat.blt · m) && distinct (plan.map Nd.ix) &&
  dtChk l (cloT l) m (plan.flatMap Nd.al) plan []

theorem distinct_inj {α : Type} {f : α → Nat} : ∀ {l : List α}, distinct (l.map f) = true → ∀ {x y : α}, x ∈ l → y ∈ l → f x = f y → x = y
  | [], _, _, _, h, _, _ => by simp at h
  | z :: r, hd, x, y, hx, hy, e => by
    simp only [List.map_cons, distinct, Bool.and_eq_true, Bool.not_eq_true'] at hd
    have hn : ∀ u ∈ r, f u ≠ f z := fun u hu e => by
      have : (r.map f).elem (f z) = true := by
        simp only [List.elem_eq_mem, decide_eq_true_eq]
        exact List.mem_map.2 ⟨u, hu, e⟩
      rw [this] at hd; exact absurd hd.1 (by simp)
    rcases List.mem_cons.1 hx with ex | hx1
    · rcases List.mem_cons.1 hy with ey | hy1
      · rw [ex, ey]
      · exact absurd (by rw [← e, ex]) (hn y hy1)
    · rcases List.mem_cons.1 hy with ey | hy1
      · exact absurd (by rw [e, ey]) (hn x hx1)
      · exact distinct_inj hd.2 hx1 hy1 e

section
variable {P : Program} {C : Cx P} {E : Env} {H : List HP}

/-- what is still to be read stays -/
def Keep (l : List Oper) (k : Nat) (H : List HP) : List Nd → Prop
  | [] => True
  | .g j _ Q :: dn => (((cloT l).getD k []).elem j = true ∨ ∃ R, Pick Q H R) ∧ Keep l k H dn
  | _ :: dn => Keep l k H dn
theorem Keep.at {l : List Oper} {k : Nat} {H : List HP} {j : Nat} {X : List Nat} {Q : HP} : ∀ {dn : List Nd}, Keep l k H dn → Nd.g j X Q ∈ dn → ((cloT l).getD k []).elem j = true ∨ ∃ R, Pick Q H R
  | [], _, h => by simp at h
  | nd :: dn, hk, h => by
    rcases List.mem_cons.1 h with rfl | h'
    · exact hk.1
    · clear h
      cases nd with
      | g k X Q => exact Keep.at (And.right hk) h'
      | r k X => have hk2 : Keep l _ H dn := hk; exact Keep.at hk2 h'
      | b k X => have hk2 : Keep l _ H dn := hk; exact Keep.at hk2 h'
      | f k X => have hk2 : Keep l _ H dn := hk; exact Keep.at hk2 h'
      | c k X => have hk2 : Keep l _ H dn := hk; exact Keep.at hk2 h'
      | s k X => have hk2 : Keep l _ H dn := hk; exact Keep.at hk2 h'
      | a k d z y => have hk2 : Keep l _ H dn := hk; exact Keep.at hk2 h'
def DT (C : Cx P) (l : List Oper) (m : Nat) (K : KP) (XT : List Nat) (E0 : Env) (H0 : List HP) : List Nd → List Nd → List SE → List HP → Prop
  | [], _, pre, A => WO C l.toArray (l.drop m) K (allE (delE XT E0) pre) (A ++ H0)
  | .r k X :: p, dn, pre, A => ∃ o d v, l[k]? = some o ∧ o.dst = some d ∧ Nat.blt d C.N = true ∧ WO C l.toArray [o] (fun E' H' => E' = (d, v) :: selE (afs o) (delE X E0) pre ∧ H' = []) (selE (afs o) (delE X E0) pre) [] ∧ DT C l m K XT E0 H0 p (.r k X :: dn) (⟨k, d, v⟩ :: pre) A
  | .b k X :: p, dn, pre, A => ∃ o d v, l[k]? = some o ∧ o.dst = some d ∧ Nat.blt d C.N = true ∧ WO C l.toArray [o] (fun E' H' => E' = (d, v) :: selE (afs o) (delE X E0) pre ∧ H' = H0) (selE (afs o) (delE X E0) pre) H0 ∧ DT C l m K XT E0 H0 p (.b k X :: dn) (⟨k, d, v⟩ :: pre) A
  | .f k X :: p, dn, pre, A => ∃ o d v, l[k]? = some o ∧ o.dst = some d ∧ Nat.blt d C.N = true ∧ WO C l.toArray [o] (fun E' H' => E' = (d, v) :: selE (afs o) (delE X E0) pre ∧ H' = A ++ H0) (selE (afs o) (delE X E0) pre) (A ++ H0) ∧ DT C l m K XT E0 H0 p (.f k X :: dn) (⟨k, d, v⟩ :: pre) A
  | .c k X :: p, dn, pre, A => ∃ o d, l[k]? = some o ∧ o.dst = some d ∧ Nat.blt d C.N = true ∧ WO C l.toArray [o] (fun E' H' => ∃ v A', E' = (d, v) :: selE (afs o) (delE X E0) pre ∧ H' = A' ++ H0 ∧ Keep l k (A' ++ H0) dn ∧ DT C l m K XT E0 H0 p (.c k X :: dn) (⟨k, d, v⟩ :: pre) A') (selE (afs o) (delE X E0) pre) (A ++ H0)
  | .s k X :: p, dn, pre, A => ∃ o, l[k]? = some o ∧ o.dst = none ∧ WO C l.toArray [o] (fun E' H' => ∃ A', E' = selE (afs o) (delE X E0) pre ∧ H' = A' ++ H0 ∧ Keep l k (A' ++ H0) dn ∧ DT C l m K XT E0 H0 p (.s k X :: dn) pre A') (selE (afs o) (delE X E0) pre) (A ++ H0)
  | .a k d z y :: p, dn, pre, A => ∀ b, DT C l m K XT E0 H0 p (.a k d z y :: dn) (⟨k, d, y b⟩ :: pre) (z b :: A)
  | .g k X Q :: p, dn, pre, A => ∃ o d v, l[k]? = some o ∧ o.dst = some d ∧ Nat.blt d C.N = true ∧ (∃ R, Pick Q (A ++ H0) R) ∧ WO C l.toArray [o] (fun E' H' => E' = (d, v) :: selE (afs o) (delE X E0) pre ∧ H' = [Q]) (selE (afs o) (delE X E0) pre) [Q] ∧ DT C l m K XT E0 H0 p (.g k X Q :: dn) (⟨k, d, v⟩ :: pre) A

/-- what is made, whenever it be -/
def ALok (C : Cx P) (l : List Oper) (pre0 : List SE) : List Nd → Prop
  | [] => True
  | .a k d z y :: p => (∃ o, l[k]? = some o ∧ o.dst = some d ∧ Nat.blt d C.N = true ∧ WO C l.toArray [o] (fun E' H' => ∃ b, E' = (d, y b) :: selE (afs o) [] pre0 ∧ H' = [z b]) (selE (afs o) [] pre0) []) ∧ ALok C l pre0 p
  | _ :: p => ALok C l pre0 p
theorem ALok.at {l : List Oper} {pre0 : List SE} {plan : List Nd} (ha : ALok C l pre0 plan) {k d : Nat} {z : Nat → HP} {y : Nat → Value} (h : Nd.a k d z y ∈ plan) : ∃ o, l[k]? = some o ∧ o.dst = some d ∧ Nat.blt d C.N = true ∧ WO C l.toArray [o] (fun E' H' => ∃ b, E' = (d, y b) :: selE (afs o) [] pre0 ∧ H' = [z b]) (selE (afs o) [] pre0) [] := by
  induction plan with
  | nil => simp at h
  | cons nd p ih =>
    rcases List.mem_cons.1 h with rfl | h'
    · exact ha.1
    · clear h
      cases nd <;> first | exact ih ha h' | exact ih ha.2 h'

structure AE where
  k : Nat
  d : Nat
  b : Nat
  z : Nat → HP
  y : Nat → Value
def AE.p (x : AE) : HP := x.z x.b

/-- a reading operation that is told, and not yet done -/
def PQ (C : Cx P) (l : List Oper) (E0 : Env) (pre : List SE) (k : Nat) (X : List Nat) (Hq : List HP) : Prop :=
  ∃ o d v Eq, l[k]? = some o ∧ o.dst = some d ∧ Nat.blt d C.N = true ∧ ⟨k, d, v⟩ ∈ pre ∧ WO C l.toArray [o] (fun E' H' => E' = (d, v) :: Eq ∧ H' = Hq) Eq Hq ∧
    ∀ t u, lk Eq t = some u → (∃ s ∈ pre, s.ix ∈ afs o ∧ s.d = t ∧ s.v = u) ∨ lk (delE X E0) t = some u
def Pd (C : Cx P) (l : List Oper) (E0 : Env) (H0 : List HP) (pre : List SE) (A : List HP) : Nd → Prop
  | .g k X Q => (∃ R, Pick Q (A ++ H0) R) ∧ PQ C l E0 pre k X [Q]
  | .r k X => PQ C l E0 pre k X []
  | .b k X => PQ C l E0 pre k X H0
  | .f k X => ∃ As Aq, A = As ++ Aq ∧ PQ C l E0 pre k X (Aq ++ H0)
  | .c _ _ => False
  | .s _ _ => False
  | .a _ _ _ _ => False
theorem PQ.more {l : List Oper} {E0 : Env} {pre : List SE} {k : Nat} {X : List Nat} {Hq : List HP} (h : PQ C l E0 pre k X Hq) (s : SE) : PQ C l E0 (s :: pre) k X Hq := by
  obtain ⟨o, d, v, Eq, h1, h2, h3, h4, h5, h6⟩ := h
  refine ⟨o, d, v, Eq, h1, h2, h3, by simp [h4], h5, fun t u hu => ?_⟩
  rcases h6 t u hu with ⟨s', a, b⟩ | h
  · exact .inl ⟨s', by simp [a], b⟩
  · exact .inr h
theorem Pd.more {l : List Oper} {E0 : Env} {H0 : List HP} {pre : List SE} {A : List HP} {nd : Nd} (h : Pd C l E0 H0 pre A nd) (s : SE) : Pd C l E0 H0 (s :: pre) A nd := by
  cases nd <;> simp only [Pd] at h ⊢
  · exact ⟨h.1, h.2.more s⟩
  · exact h.more s
  · exact h.more s
  · obtain ⟨As, Aq, e, h⟩ := h; exact ⟨As, Aq, e, h.more s⟩
theorem Pd.moreA {l : List Oper} {E0 : Env} {H0 : List HP} {pre : List SE} {A : List HP} {nd : Nd} (h : Pd C l E0 H0 pre A nd) (B : HP) : Pd C l E0 H0 pre (B :: A) nd := by
  cases nd <;> simp only [Pd] at h ⊢
  · obtain ⟨⟨R, p⟩, h⟩ := h; exact ⟨⟨_, .tail p⟩, h⟩
  · exact h
  · exact h
  · obtain ⟨As, Aq, e, h⟩ := h; exact ⟨B :: As, Aq, by simp [e], h⟩

structure DS (C : Cx P) (l : List Oper) (m : Nat) (K : KP) (XT : List Nat) (E0 : Env) (H0 L : List HP) (plan : List Nd) (ls : Array Bool) (a : Act) (w : World) (p dn : List Nd) (pre : List SE) (A : List HP) (al : List AE) : Prop where
  chk : dtChk l (cloT l) m (plan.flatMap Nd.al) p dn = true
  dt : DT C l m K XT E0 H0 p dn pre A
  sub : ∀ n ∈ p, n ∈ plan
  exe : ∀ i, i < l.length → ls.getD i true = true → i ∈ dn.map Nd.ix ∨ i ∈ plan.flatMap Nd.al
  dnM : ∀ n ∈ dn, n.ix < m
  dnP : ∀ n ∈ dn, n ∈ plan
  preD : ∀ s ∈ pre, s.ix ∈ dn.map Nd.ix
  uniq : ∀ s ∈ pre, ∀ s' ∈ pre, s.ix = s'.ix → s = s'
  preO : ∀ s ∈ pre, ∃ o, l[s.ix]? = some o ∧ o.dst = some s.d ∧ s.ix < m
  val : ∀ s ∈ pre, ls.getD s.ix true = true → a.tmps[s.d]? = some s.v
  alO : ∀ x ∈ al, Nd.a x.k x.d x.z x.y ∈ plan ∧ x.k ∉ dn.map Nd.ix ∧ a.tmps[x.d]? = some (x.y x.b)
  alX : ∀ x ∈ al, ls.getD x.k true = true
  alC : ∀ k ∈ plan.flatMap Nd.al, k ∉ dn.map Nd.ix → ls.getD k true = true → ∃ x ∈ al, x.k = k
  pend : ∀ nd ∈ dn, ls.getD nd.ix true = false → Pd C l E0 H0 pre A nd
  mem : ∃ ds : List Nat, a.defers = ds.map mark ∧ Inv C.w0 C.M ((ds.map ptd ++ L) ++ (al.map AE.p ++ (A ++ H0))) w
  frN : a.tmps.size = C.N
  frE : ∀ t v, lk E0 t = some v → a.tmps[t]? = some v ∨ ∃ k o, l[k]? = some o ∧ k < m ∧ o.dst = some t ∧ ls.getD k true = true

def NF (ls : Array Bool) : List Nd → Prop
  | [] => True
  | .c _ _ :: _ => True
  | .s _ _ :: _ => True
  | .a k _ _ _ :: _ => ls.getD k true = false
  | _ :: _ => False

theorem al_mem {plan : List Nd} {k d : Nat} {z : Nat → HP} {y : Nat → Value} (h : Nd.a k d z y ∈ plan) : k ∈ plan.flatMap Nd.al := List.mem_flatMap.2 ⟨_, h, by simp [Nd.al]⟩
theorem mem_al {plan : List Nd} {k : Nat} (h : k ∈ plan.flatMap Nd.al) : ∃ d z y, Nd.a k d z y ∈ plan := by
  obtain ⟨n, hn, hk⟩ := List.mem_flatMap.1 h
  cases n <;> simp [Nd.al] at hk
  subst hk
  exact ⟨_, _, _, hn⟩

section norm
variable {l : List Oper} {m : Nat} {K : KP} {XT : List Nat} {E0 : Env} {H0 L : List HP} {plan : List Nd} {ls : Array Bool} {a : Act} {w : World}

theorem DS.quiet {nd : Nd} {p dn : List Nd} {pre : List SE} {A : List HP} {al : List AE} (h : DS C l m K XT E0 H0 L plan ls a w (nd :: p) dn pre A al) (hal : nd.ix ∉ plan.flatMap Nd.al) {o : Oper} {d : Nat} {v : Value}
    (ho : l[nd.ix]? = some o) (hd : o.dst = some d) (hm : nd.ix < m) (hn : nd.ix ∉ dn.map Nd.ix) (hc : dtChk l (cloT l) m (plan.flatMap Nd.al) p (nd :: dn) = true) (hdt : DT C l m K XT E0 H0 p (nd :: dn) (⟨nd.ix, d, v⟩ :: pre) A)
    (hp : Pd C l E0 H0 (⟨nd.ix, d, v⟩ :: pre) A nd) : DS C l m K XT E0 H0 L plan ls a w p (nd :: dn) (⟨nd.ix, d, v⟩ :: pre) A al := by
  have hlt : nd.ix < l.length := (List.getElem?_eq_some_iff.1 ho).1
  have hf : ls.getD nd.ix true = false := by
    cases hg : ls.getD nd.ix true with
    | false => rfl
    | true => rcases h.exe _ hlt hg with x | x; exact absurd x hn; exact absurd x hal
  refine ⟨hc, hdt, fun n hn' => h.sub n (by simp [hn']), fun i hi hi' => ?_, ?_, ?_, ?_, ?_, ?_, ?_, ?_, h.alX, ?_, ?_, h.mem, h.frN, h.frE⟩
  · rcases h.exe i hi hi' with x | x
    · exact .inl (by simp only [List.map_cons, List.mem_cons]; exact .inr x)
    · exact .inr x
  · intro n hn'
    rcases List.mem_cons.1 hn' with rfl | hn'
    · exact hm
    · exact h.dnM n hn'
  · intro n hn'
    rcases List.mem_cons.1 hn' with rfl | hn'
    · exact h.sub _ (by simp)
    · exact h.dnP n hn'
  · intro s hs
    rcases List.mem_cons.1 hs with rfl | hs
    · simp
    · simp only [List.map_cons, List.mem_cons]; exact .inr (h.preD s hs)
  · intro s hs s' hs' e
    rcases List.mem_cons.1 hs with rfl | hs <;> rcases List.mem_cons.1 hs' with rfl | hs'
    · rfl
    · exact absurd (by have := h.preD s' hs'; rw [← e] at this; exact this) hn
    · exact absurd (by have := h.preD s hs; rw [e] at this; exact this) hn
    · exact h.uniq s hs s' hs' e
  · intro s hs
    rcases List.mem_cons.1 hs with rfl | hs
    · exact ⟨o, ho, hd, hm⟩
    · exact h.preO s hs
  · intro s hs hl
    rcases List.mem_cons.1 hs with rfl | hs
    · rw [hf] at hl; cases hl
    · exact h.val s hs hl
  · intro x hx
    obtain ⟨h1, h2, h3⟩ := h.alO x hx
    refine ⟨h1, ?_, h3⟩
    simp only [List.map_cons, List.mem_cons, not_or]
    exact ⟨fun e => hal (e ▸ al_mem h1), h2⟩
  · intro k hk hk' hl
    simp only [List.map_cons, List.mem_cons, not_or] at hk'
    exact h.alC k hk hk'.2 hl
  · intro n hn' hl
    rcases List.mem_cons.1 hn' with rfl | hn'
    · exact hp
    · exact (h.pend n hn' hl).more _

theorem DS.takeA {k d : Nat} {z : Nat → HP} {y : Nat → Value} {pre0 : List SE} {p dn : List Nd} {pre : List SE} {A : List HP} {al : List AE} (h : DS C l m K XT E0 H0 L plan ls a w (.a k d z y :: p) dn pre A al) (hdis : distinct (plan.map Nd.ix) = true) (hl : ls.getD k true = true)
    (hm : k < m) (hn : k ∉ dn.map Nd.ix) (hc : dtChk l (cloT l) m (plan.flatMap Nd.al) p (.a k d z y :: dn) = true) (hal : ALok C l pre0 plan) :
    ∃ pre' A' al', DS C l m K XT E0 H0 L plan ls a w p (.a k d z y :: dn) pre' A' al' ∧ ∀ s ∈ pre, s ∈ pre' := by
  have hpl : Nd.a k d z y ∈ plan := h.sub _ (by simp)
  obtain ⟨x, hx, hxk⟩ := h.alC k (al_mem hpl) hn hl
  obtain ⟨x1, x2, x3⟩ := h.alO x hx
  have e : Nd.a x.k x.d x.z x.y = .a k d z y := distinct_inj hdis x1 hpl (by simpa [Nd.ix] using hxk)
  simp only [Nd.a.injEq] at e
  obtain ⟨e1, e2, e3, e4⟩ := e
  obtain ⟨al1, al2, rfl⟩ := List.append_of_mem hx
  obtain ⟨o, ho, hd, _, _⟩ := hal.at hpl
  obtain ⟨ds, hds, hi⟩ := h.mem
  -- two of the same operation are one
  have hdup : ∀ y ∈ al1 ++ al2, y.k = k → ∃ s : Unit, True := fun _ _ _ => ⟨(), trivial⟩
  refine ⟨⟨k, d, y x.b⟩ :: pre, z x.b :: A, (al1 ++ al2).filter (fun y => !Nat.beq y.k k), ⟨hc, ?_, fun n hn' => h.sub n (by simp [hn']), fun i hi hi' => ?_, ?_, ?_, ?_, ?_, ?_, ?_, ?_, fun y hy => h.alX y (by rcases List.mem_append.1 (List.mem_filter.1 hy).1 with q | q <;> simp [q]), ?_, ?_, ⟨ds, hds, ?_⟩, h.frN, h.frE⟩, fun s hs => List.mem_cons_of_mem _ hs⟩
  · exact h.dt x.b
  · rcases h.exe i hi hi' with y | y
    · exact .inl (by simp only [List.map_cons, List.mem_cons]; exact .inr y)
    · exact .inr y
  · intro n hn'
    rcases List.mem_cons.1 hn' with rfl | hn'
    · exact hm
    · exact h.dnM n hn'
  · intro n hn'
    rcases List.mem_cons.1 hn' with rfl | hn'
    · exact h.sub _ (by simp)
    · exact h.dnP n hn'
  · intro s hs
    rcases List.mem_cons.1 hs with rfl | hs
    · simp [Nd.ix]
    · simp only [List.map_cons, List.mem_cons]; exact .inr (h.preD s hs)
  · intro s hs s' hs' e
    rcases List.mem_cons.1 hs with rfl | hs <;> rcases List.mem_cons.1 hs' with rfl | hs'
    · rfl
    · exact absurd (by have := h.preD s' hs'; rw [← e] at this; exact this) hn
    · exact absurd (by have := h.preD s hs; rw [e] at this; exact this) hn
    · exact h.uniq s hs s' hs' e
  · intro s hs
    rcases List.mem_cons.1 hs with rfl | hs
    · exact ⟨o, ho, hd, hm⟩
    · exact h.preO s hs
  · intro s hs hl'
    rcases List.mem_cons.1 hs with rfl | hs
    · rw [e2, e4] at x3; exact x3
    · exact h.val s hs hl'
  · intro y hy
    obtain ⟨hy1, hy2⟩ := List.mem_filter.1 hy
    obtain ⟨h1, h2, h3⟩ := h.alO y (by rcases List.mem_append.1 hy1 with q | q <;> simp [q])
    refine ⟨h1, ?_, h3⟩
    simp only [List.map_cons, List.mem_cons, not_or]
    refine ⟨fun e => ?_, h2⟩
    simp only [Nd.ix] at e
    simp [e] at hy2
  · intro k' hk hk' hl'
    simp only [List.map_cons, List.mem_cons, not_or] at hk'
    obtain ⟨y, hy, hyk⟩ := h.alC k' hk hk'.2 hl'
    refine ⟨y, List.mem_filter.2 ⟨?_, ?_⟩, hyk⟩
    · rcases List.mem_append.1 hy with q | q
      · simp [q]
      · rcases List.mem_cons.1 q with rfl | q
        · exact absurd (hyk.symm.trans e1) hk'.1
        · simp [q]
    · have : ¬ y.k = k := fun e => hk'.1 (hyk.symm.trans e)
      cases hb : Nat.beq y.k k with
      | false => rfl
      | true => exact absurd (Nat.eq_of_beq_eq_true hb) this
  · intro n hn' hl'
    rcases List.mem_cons.1 hn' with rfl | hn'
    · simp only [Nd.ix] at hl'; rw [hl] at hl'; cases hl'
    · exact ((h.pend n hn' hl').more _).moreA _
  · -- the memory
    refine hi.sub ?_
    refine Sub.app ?_ _
    have hxp : AE.p x = z x.b := by simp [AE.p, e3]
    have hs : ∀ (q : AE → Bool) (l1 : List AE) (R : List HP), Sub (l1.map AE.p ++ R) ((l1.filter q).map AE.p ++ R) := by
      intro q l1 R
      induction l1 with
      | nil => exact Sub.refl _
      | cons y l1 ih =>
        simp only [List.filter_cons]
        split
        · exact .cons .head ih
        · exact Sub.tail ih
    have p1 : Sub (List.map AE.p (al1 ++ x :: al2) ++ (A ++ H0)) ((al1 ++ al2).map AE.p ++ (z x.b :: (A ++ H0))) := by
      have := Sub.rot (al1.map AE.p) [AE.p x] (al2.map AE.p ++ (A ++ H0))
      have q2 := Sub.rot [z x.b] ((al1 ++ al2).map AE.p) (A ++ H0)
      refine Sub.trans (H2 := [AE.p x] ++ (al1.map AE.p ++ (al2.map AE.p ++ (A ++ H0)))) ?_ ?_
      · simpa [List.append_assoc] using this
      · rw [hxp]; simpa [List.append_assoc] using q2
    exact p1.trans (hs _ _ _)

theorem DS.norm (hdis : distinct (plan.map Nd.ix) = true) {pre0 : List SE} (hal : ALok C l pre0 plan) : ∀ {p dn : List Nd} {pre : List SE} {A : List HP} {al : List AE}, DS C l m K XT E0 H0 L plan ls a w p dn pre A al →
    ∃ p' dn' pre' A' al', DS C l m K XT E0 H0 L plan ls a w p' dn' pre' A' al' ∧ NF ls p' ∧ ∀ s ∈ pre, s ∈ pre' := by
  intro p
  induction p with
  | nil => exact fun h => ⟨_, _, _, _, _, h, trivial, fun _ h => h⟩
  | cons nd p ih =>
    intro dn pre A al h
    have hc := h.chk
    simp only [dtChk, Bool.and_eq_true, Bool.not_eq_true'] at hc
    obtain ⟨⟨⟨⟨c1, c2⟩, c3⟩, c4⟩, c5⟩ := hc
    have c1' : nd.ix ∉ dn.map Nd.ix := by simpa using c1
    have c2' := Nat.blt_eq.mp c2
    have more : ∀ {nd2 : Nd} {s0 : SE}, DS C l m K XT E0 H0 L plan ls a w p (nd2 :: dn) (s0 :: pre) A al → ∃ p' dn' pre' A' al', DS C l m K XT E0 H0 L plan ls a w p' dn' pre' A' al' ∧ NF ls p' ∧ ∀ s ∈ pre, s ∈ pre' := fun h2 => by
      obtain ⟨p2, dn2, pre2, A2, al2, g1, g2, g3⟩ := ih h2
      exact ⟨p2, dn2, pre2, A2, al2, g1, g2, fun s h => g3 s (List.mem_cons_of_mem _ h)⟩
    cases nd with
    | g k X Q =>
      obtain ⟨o, d, v, ho, hd, hN, hpk, hwo, hdt⟩ := h.dt
      refine more (h.quiet (by simpa using c4) ho hd c2' c1' c5 hdt ⟨hpk, o, d, v, _, ho, hd, hN, by simp [Nd.ix], hwo, fun t u hu => ?_⟩)
      rcases lk_selE hu with ⟨s, s1, s2⟩ | hu
      · exact .inl ⟨s, by simp [s1], s2⟩
      · exact .inr hu
    | r k X =>
      obtain ⟨o, d, v, ho, hd, hN, hwo, hdt⟩ := h.dt
      refine more (h.quiet (by simpa using c4) ho hd c2' c1' c5 hdt ⟨o, d, v, _, ho, hd, hN, by simp [Nd.ix], hwo, fun t u hu => ?_⟩)
      rcases lk_selE hu with ⟨s, s1, s2⟩ | hu
      · exact .inl ⟨s, by simp [s1], s2⟩
      · exact .inr hu
    | b k X =>
      obtain ⟨o, d, v, ho, hd, hN, hwo, hdt⟩ := h.dt
      refine more (h.quiet (by simpa using c4) ho hd c2' c1' c5 hdt ⟨o, d, v, _, ho, hd, hN, by simp [Nd.ix], hwo, fun t u hu => ?_⟩)
      rcases lk_selE hu with ⟨s, s1, s2⟩ | hu
      · exact .inl ⟨s, by simp [s1], s2⟩
      · exact .inr hu
    | f k X =>
      obtain ⟨o, d, v, ho, hd, hN, hwo, hdt⟩ := h.dt
      refine more (h.quiet (by simpa using c4) ho hd c2' c1' c5 hdt ⟨[], A, rfl, o, d, v, _, ho, hd, hN, by simp [Nd.ix], hwo, fun t u hu => ?_⟩)
      rcases lk_selE hu with ⟨s, s1, s2⟩ | hu
      · exact .inl ⟨s, by simp [s1], s2⟩
      · exact .inr hu
    | c k X => exact ⟨_, _, _, _, _, h, trivial, fun _ h => h⟩
    | s k X => exact ⟨_, _, _, _, _, h, trivial, fun _ h => h⟩
    | a k d z y =>
      cases hl : ls.getD k true with
      | false => exact ⟨_, _, _, _, _, h, hl, fun _ h => h⟩
      | true =>
        obtain ⟨pre', A', al', h', hs⟩ := h.takeA hdis hl c2' c1' c5 hal
        obtain ⟨p2, dn2, pre2, A2, al2, g1, g2, g3⟩ := ih h'
        exact ⟨p2, dn2, pre2, A2, al2, g1, g2, fun s h => g3 s (hs s h)⟩
end norm

theorem cloOk_at {l : List Oper} {T : List (List Nat)} (h : cloOk l T = true) {i : Nat} {o : Oper} (ho : l[i]? = some o) {j : Nat} (hj : j ∈ T.getD i []) : ∃ x ∈ afs o, x = j ∨ j ∈ T.getD x [] := by
  have := List.all_eq_true.1 h (o, i) (by rw [List.mem_zipIdx_iff_getElem?]; simpa using ho)
  have := List.all_eq_true.1 this j hj
  obtain ⟨x, hx, hx'⟩ := List.any_eq_true.1 this
  refine ⟨x, hx, ?_⟩
  rcases Bool.or_eq_true_iff.1 hx' with h | h
  · exact .inl (Nat.eq_of_beq_eq_true h)
  · exact .inr (by simpa using h)

/-- the quiet ones that are taken first -/
def QB (C : Cx P) (l : List Oper) (m : Nat) (K : KP) (XT : List Nat) (E0 : Env) (H0 : List HP) (p plan : List Nd) : List Nd → List Nd → List SE → List HP → Prop
  | [], dn, pre, A => ALok C l pre plan ∧ DT C l m K XT E0 H0 p dn pre A
  | .r k X :: q, dn, pre, A => ∃ o d v, l[k]? = some o ∧ o.dst = some d ∧ Nat.blt d C.N = true ∧ WO C l.toArray [o] (fun E' H' => E' = (d, v) :: selE (afs o) (delE X E0) pre ∧ H' = []) (selE (afs o) (delE X E0) pre) [] ∧ QB C l m K XT E0 H0 p plan q (.r k X :: dn) (⟨k, d, v⟩ :: pre) A
  | .b k X :: q, dn, pre, A => ∃ o d v, l[k]? = some o ∧ o.dst = some d ∧ Nat.blt d C.N = true ∧ WO C l.toArray [o] (fun E' H' => E' = (d, v) :: selE (afs o) (delE X E0) pre ∧ H' = H0) (selE (afs o) (delE X E0) pre) H0 ∧ QB C l m K XT E0 H0 p plan q (.b k X :: dn) (⟨k, d, v⟩ :: pre) A
  | _ :: _, _, _, _ => False
theorem QB.al {l : List Oper} {m : Nat} {K : KP} {XT : List Nat} {E0 : Env} {H0 : List HP} {p plan : List Nd} : ∀ {q dn : List Nd} {pre : List SE} {A : List HP}, QB C l m K XT E0 H0 p plan q dn pre A → ∃ pre0, ALok C l pre0 plan
  | [], _, _, _, h => ⟨_, h.1⟩
  | .r _ _ :: _, _, _, _, ⟨_, _, _, _, _, _, _, h⟩ => QB.al h
  | .b _ _ :: _, _, _, _, ⟨_, _, _, _, _, _, _, h⟩ => QB.al h
  | .g _ _ _ :: _, _, _, _, h => h.elim
  | .f _ _ :: _, _, _, _, h => h.elim
  | .c _ _ :: _, _, _, _, h => h.elim
  | .s _ _ :: _, _, _, _, h => h.elim
  | .a _ _ _ _ :: _, _, _, _, h => h.elim
theorem QB.dt {l : List Oper} {m : Nat} {K : KP} {XT : List Nat} {E0 : Env} {H0 : List HP} {p plan : List Nd} : ∀ {q dn : List Nd} {pre : List SE} {A : List HP}, QB C l m K XT E0 H0 p plan q dn pre A → DT C l m K XT E0 H0 (q ++ p) dn pre A
  | [], _, _, _, h => h.2
  | .r _ _ :: _, _, _, _, ⟨o, d, v, h1, h2, h3, h4, h⟩ => ⟨o, d, v, h1, h2, h3, h4, QB.dt h⟩
  | .b _ _ :: _, _, _, _, ⟨o, d, v, h1, h2, h3, h4, h⟩ => ⟨o, d, v, h1, h2, h3, h4, QB.dt h⟩
  | .g _ _ _ :: _, _, _, _, h => h.elim
  | .f _ _ :: _, _, _, _, h => h.elim
  | .c _ _ :: _, _, _, _, h => h.elim
  | .s _ _ :: _, _, _, _, h => h.elim
  | .a _ _ _ _ :: _, _, _, _, h => h.elim
theorem QB.ds {l : List Oper} {m : Nat} {K : KP} {XT : List Nat} {E0 : Env} {H0 L : List HP} {p plan : List Nd} {ls : Array Bool} {a : Act} {w : World} {A : List HP} {al : List AE} : ∀ {q dn : List Nd} {pre : List SE}, QB C l m K XT E0 H0 p plan q dn pre A → DS C l m K XT E0 H0 L plan ls a w (q ++ p) dn pre A al → ∃ dn0 pre0, ALok C l pre0 plan ∧ DS C l m K XT E0 H0 L plan ls a w p dn0 pre0 A al
  | [], _, _, h, hd => ⟨_, _, h.1, hd⟩
  | .r k X :: q, dn, pre, ⟨o, d, v, h1, h2, h3, h4, h⟩, hD => by
    have hc := hD.chk
    simp only [List.cons_append, dtChk, Bool.and_eq_true, Bool.not_eq_true'] at hc
    obtain ⟨⟨⟨⟨c1, c2⟩, c3⟩, c4⟩, c5⟩ := hc
    refine QB.ds h (hD.quiet (by simpa using c4) h1 h2 (Nat.blt_eq.mp c2) (by simpa using c1) c5 (QB.dt h) ⟨o, d, v, _, h1, h2, h3, by simp [Nd.ix], h4, fun t u hu => ?_⟩)
    rcases lk_selE hu with ⟨s, s1, s2⟩ | hu
    · exact .inl ⟨s, by simp [s1], s2⟩
    · exact .inr hu
  | .b k X :: q, dn, pre, ⟨o, d, v, h1, h2, h3, h4, h⟩, hD => by
    have hc := hD.chk
    simp only [List.cons_append, dtChk, Bool.and_eq_true, Bool.not_eq_true'] at hc
    obtain ⟨⟨⟨⟨c1, c2⟩, c3⟩, c4⟩, c5⟩ := hc
    refine QB.ds h (hD.quiet (by simpa using c4) h1 h2 (Nat.blt_eq.mp c2) (by simpa using c1) c5 (QB.dt h) ⟨o, d, v, _, h1, h2, h3, by simp [Nd.ix], h4, fun t u hu => ?_⟩)
    rcases lk_selE hu with ⟨s, s1, s2⟩ | hu
    · exact .inl ⟨s, by simp [s1], s2⟩
    · exact .inr hu
  | .g _ _ _ :: _, _, _, h, _ => h.elim
  | .f _ _ :: _, _, _, h, _ => h.elim
  | .c _ _ :: _, _, _, h, _ => h.elim
  | .s _ _ :: _, _, _, h, _ => h.elim
  | .a _ _ _ _ :: _, _, _, h, _ => h.elim

theorem W.drawB {Q : Post} {id : Nat} {l : List Oper} (m : Nat) (q0 p0 : List Nd) (XT : List Nat) {A0 H0 : List HP} (hsub : Sub H (A0 ++ H0)) (hchk : drawDOk l m (q0 ++ p0) XT (E.map Prod.fst) = true) 
    (h : QB C l m (Q .normal) XT E H0 p0 (q0 ++ p0) q0 [] [] A0) : W C (.region id l.toArray true) Q E H := by
  obtain ⟨plan, hplan⟩ : ∃ pl, pl = q0 ++ p0 := ⟨_, rfl⟩
  rw [← hplan] at hchk h
  intro L ds a w hs
  refine wpIn_region_any C.mixed ?_
  simp only [drawDOk, Bool.and_eq_true] at hchk
  obtain ⟨⟨⟨⟨⟨⟨⟨⟨hxp, hxt⟩, hc1⟩, hc3⟩, hT⟩, hc2⟩, hALm⟩, hdis⟩, hdt⟩ := hchk
  have hc1 : ∀ i o, l[i]? = some o → ∀ j ∈ afs o, j < i := by
    intro i o hi j hj
    have := List.all_eq_true.1 hc1 (o, i) (by rw [List.mem_zipIdx_iff_getElem?]; simpa using hi)
    have := List.all_eq_true.1 this j hj
    exact Nat.blt_eq.mp this
  have hc2 : ∀ i, m ≤ i → i < l.length → ∀ j, j < i → j ∈ (cloT l).getD i [] := by
    intro i hm hi j hj
    have hmem : (l[i], i) ∈ l.zipIdx.drop m := by
      refine List.mem_iff_getElem?.2 ⟨i - m, ?_⟩
      rw [List.getElem?_drop]
      have : m + (i - m) = i := by omega
      rw [this]; simp [hi]
    have := List.all_eq_true.1 hc2 (l[i], i) hmem
    have := List.all_eq_true.1 this j (by simpa using hj)
    simpa using this
  have hc3 : ∀ i j o o', i < m → j < m → l[i]? = some o → l[j]? = some o' → i ≠ j → o.dst.isNone = false → o.dst ≠ o'.dst := by
    intro i j o o' him hjm hi hj hne hnn
    have m1 : (o, i) ∈ (l.take m).zipIdx := by rw [List.mem_zipIdx_iff_getElem?]; simp [List.getElem?_take, him, hi]
    have m2 : (o', j) ∈ (l.take m).zipIdx := by rw [List.mem_zipIdx_iff_getElem?]; simp [List.getElem?_take, hjm, hj]
    have := List.all_eq_true.1 hc3 (o, i) m1
    have := List.all_eq_true.1 this (o', j) m2
    simp only [hnn, Bool.or_false, Bool.or_eq_true, beq_iff_eq, bne_iff_ne, hne, false_or] at this
    exact this
  have hALm : ∀ k ∈ plan.flatMap Nd.al, k < m := fun k hk => Nat.blt_eq.mp (List.all_eq_true.1 hALm k hk)
  have hn : l.toArray.size = l.length := by simp
  -- what is behind a done operation is done
  have clo : ∀ (ls : Array Bool), (∀ i o, l[i]? = some o → ls.getD i true = true → ∀ j ∈ afs o, ls.getD j true = true) → ∀ i o, l[i]? = some o → (∀ j ∈ afs o, ls.getD j true = true) → ∀ j ∈ (cloT l).getD i [], ls.getD j true = true := by
    intro ls hd i
    induction i using Nat.strongRecOn with
    | _ i ih =>
      intro o ho ha j hj
      obtain ⟨x, hx, hx'⟩ := cloOk_at hT ho hj
      rcases hx' with rfl | hx'
      · exact ha _ hx
      · have hlt := hc1 i o ho x hx
        have hxl : x < l.length := by have := (List.getElem?_eq_some_iff.1 ho).1; omega
        exact ih x hlt l[x] (by simp [hxl]) (hd x l[x] (by simp [hxl]) (ha x hx)) j hx'
  have hkey : ∀ t v, lk E t = some v → t ∈ E.map Prod.fst := by
    intro t v
    generalize E = F
    induction F with
    | nil => intro h; simp [lk] at h
    | cons x r ih =>
      obtain ⟨k, u⟩ := x
      intro h
      simp only [lk] at h
      cases hb : Nat.beq k t with
      | true => have := Nat.eq_of_beq_eq_true hb; simp [this]
      | false => rw [hb] at h; simp only [List.map_cons, List.mem_cons]; exact .inr (ih h)
  -- what a node looks at is not yet written
  have hX : ∀ n ∈ plan, ∀ (ls : Array Bool) (a : Act), (∀ i o, l[i]? = some o → ls.getD i true = true → ∀ j ∈ afs o, ls.getD j true = true) → ls.getD n.ix true = false →
      (∀ t v, lk E t = some v → a.tmps[t]? = some v ∨ ∃ k o, l[k]? = some o ∧ k < m ∧ o.dst = some t ∧ ls.getD k true = true) → ∀ t u, lk (delE n.X E) t = some u → a.tmps[t]? = some u := by
    intro n hn ls a hcl hl hfr t u hu
    obtain ⟨h1, h2⟩ := lk_delE hu
    rcases hfr t u h1 with h | ⟨k, o, ho, hk, hd, hlk⟩
    · exact h
    · exfalso
      have := List.all_eq_true.1 hxp n hn
      have := List.all_eq_true.1 this (o, k) (by rw [List.mem_zipIdx_iff_getElem?]; simp [List.getElem?_take, hk, ho])
      simp only [hd, Bool.or_eq_true, Bool.not_eq_true'] at this
      rcases this with h | h | h
      · have := clo ls hcl k o ho (hcl k o ho hlk) n.ix (by simpa using h)
        rw [hl] at this; cases this
      · exact h2 (by simpa using h)
      · exact absurd (hkey t u h1) (by simpa using h)
  have hXT : ∀ (ls : Array Bool) (a : Act), (∀ t v, lk E t = some v → a.tmps[t]? = some v ∨ ∃ k o, l[k]? = some o ∧ k < m ∧ o.dst = some t ∧ ls.getD k true = true) → ∀ t u, lk (delE XT E) t = some u → a.tmps[t]? = some u := by
    intro ls a hfr t u hu
    obtain ⟨h1, h2⟩ := lk_delE hu
    rcases hfr t u h1 with h | ⟨k, o, ho, hk, hd, hlk⟩
    · exact h
    · exfalso
      have := List.all_eq_true.1 hxt o (List.mem_iff_getElem?.2 ⟨k, by rw [List.getElem?_take]; simp [hk, ho]⟩)
      simp only [hd, Bool.or_eq_true, Bool.not_eq_true'] at this
      rcases this with h | h
      · exact h2 (by simpa using h)
      · exact absurd (hkey t u h1) (by simpa using h)
  let Q' : Exit → Act → World → Prop := fun e a' w' => ∃ ds' E' H', Q e E' H' ∧ St C L ds' E' H' a' w'
  -- the tail, one behind the other
  have tailQ : ∀ pre A a w, WO C l.toArray (l.drop m) (Q .normal) (allE (delE XT E) pre) (A ++ H0) → (∃ ds, St C L ds (allE (delE XT E) pre) (A ++ H0) a w) → wpListIn C.F 0 P l.toArray Q' (l.drop m) a w := by
    rintro pre A a w ht ⟨ds, hst⟩
    have := ht L ds a w hst
    have key : ∀ (k : List Oper) a w, wpListIn C.F 0 P l.toArray (fun e a' w' => ∃ ds' E' H', thn (Q .normal) (fun _ _ _ => False) e E' H' ∧ St C L ds' E' H' a' w') k a w → wpListIn C.F 0 P l.toArray Q' k a w := by
      intro k
      have hQ : ∀ e a' w', (∃ ds' E' H', thn (Q .normal) (fun _ _ _ => False) e E' H' ∧ St C L ds' E' H' a' w') → Q' e a' w' := by
        rintro e a' w' ⟨ds', E', H', q, s⟩
        cases e <;> first | exact ⟨ds', E', H', q, s⟩ | exact q.elim
      induction k with
      | nil => exact fun a w h => hQ _ _ _ h
      | cons o k ih =>
        intro a w h
        simp only [wpListIn] at h ⊢
        split
        · rename_i hw; rw [if_pos hw] at h; exact Oper.wpIn_mono2 (fun a w => ih a w) (fun e a w _ => hQ e a w) h
        · rename_i hw; rw [if_neg hw] at h; exact ⟨h.1, ih _ _ h.2⟩
    exact key _ a w this
  have hlist : ∀ i o a w, l[i]? = some o → wpListIn C.F 0 P l.toArray Q' (l.drop i) a w → wpOpIn C.F 0 P l.toArray Q' i (wpListIn C.F 0 P l.toArray Q' (l.drop (i + 1))) a w := by
    intro i o a w hi h
    have hd : l.drop i = o :: l.drop (i + 1) := by
      obtain ⟨hlt, rfl⟩ := List.getElem?_eq_some_iff.1 hi
      exact List.drop_eq_getElem_cons hlt
    rw [hd] at h
    simp only [wpListIn] at h
    simp only [wpOpIn, List.getElem?_toArray, hi]
    exact h
  -- one operation out of its own law
  have hone : ∀ i o Ls ds Eq Hq (K : KP) (R : Act → World → Prop) a w, l[i]? = some o → WO C l.toArray [o] K Eq Hq → St C Ls ds Eq Hq a w →
      (∀ ds' E' H' a' w', K E' H' → St C Ls ds' E' H' a' w' → (∃ u, a'.tmps = (a.put o.dst u).tmps) → R a' w') → wpOpIn C.F 0 P l.toArray Q' i R a w := by
    intro i o Ls ds Eq Hq K R a w ho hwo hst hR
    have hw := hwo Ls ds a w hst
    simp only [wpListIn] at hw
    simp only [wpOpIn, List.getElem?_toArray, ho]
    split
    · rename_i hwant
      rw [if_pos hwant] at hw
      refine Oper.wpIn_mono2 (fun a' w' h => ?_) (fun e a' w' hne h => ?_) (wpIn_put hw)
      · obtain ⟨⟨ds', E', H', q, s⟩, hu⟩ := h
        exact hR ds' E' H' a' w' q s hu
      · obtain ⟨ds', E', H', q, s⟩ := h
        cases e <;> first | exact q.elim | exact absurd rfl hne
    · rename_i hwant
      rw [if_neg hwant] at hw
      obtain ⟨hab, ds', E', H', q, s⟩ := hw
      exact ⟨hab, hR ds' E' H' _ w q s ⟨undef, rfl⟩⟩
  let S : Array Bool → Act → World → Prop := fun ls a w =>
    (∃ p dn pre A al pre0, DS C l m (Q .normal) XT E H0 L plan ls a w p dn pre A al ∧ NF ls p ∧ ALok C l pre0 plan ∧ ∀ s ∈ pre0, s ∈ pre) ∨
    (∃ t, m < t ∧ (∀ i, i < l.length → ls.getD i true = Nat.blt i t) ∧ wpListIn C.F 0 P l.toArray Q' (l.drop t) a w)
  have main : ∀ (fuel : Nat) (ls : Array Bool) (a : Act) (w : World), ls.size = l.length → ls.toList.count false ≤ fuel → (∀ i o, l[i]? = some o → ls.getD i true = true → ∀ j ∈ afs o, ls.getD j true = true) →
      S ls a w → wpAnyIn C.F 0 P .any l.toArray Q' fuel ls a w := by
    intro fuel
    -- no operation is ready: all are listed
    have allDone : ∀ (ls : Array Bool), ls.size = l.length → Region.ready .any l.toArray ls = [] → ∀ i, i < l.length → ls.getD i true = true := by
      intro ls hsz hr i
      induction i using Nat.strongRecOn with
      | _ i ih =>
        intro hi
        cases hg : ls.getD i true with
        | true => rfl
        | false =>
          exfalso
          have : i ∈ Region.ready .any l.toArray ls := by
            refine mem_ready.2 ⟨hg, l[i], by simp [hi], fun e he hb => ?_⟩
            have hlt : e.on < i := hc1 i l[i] (by simp [hi]) _ (by
              simp only [afs, List.mem_filterMap]
              exact ⟨e, by simpa using he, by simp [hb]⟩)
            have := ih e.on hlt (by omega)
            have hs' : e.on < ls.size := by omega
            simp only [Array.getD_eq_getD_getElem?, Array.getElem?_eq_getElem hs', Option.getD_some] at this ⊢
            exact this
          rw [hr] at this
          cases this
    -- where the plan is at its end, and all of the first are done
    have toTail : ∀ ls a w dn pre A al, DS C l m (Q .normal) XT E H0 L plan ls a w [] dn pre A al → (∀ i, i < m → i < l.length → ls.getD i true = true) → wpListIn C.F 0 P l.toArray Q' (l.drop m) a w := by
      intro ls a w dn pre A al hD hall
      have hck := hD.chk
      simp only [dtChk] at hck
      have hin : ∀ i, i < m → i ∈ dn.map Nd.ix := fun i hi => by
        have := List.all_eq_true.1 hck i (by simpa using hi)
        simpa using this
      have hal0 : al = [] := by
        cases al with
        | nil => rfl
        | cons x al =>
          obtain ⟨h1, h2, _⟩ := hD.alO x (by simp)
          exact absurd (hin _ (hALm _ (al_mem h1))) h2
      obtain ⟨ds, hds, hi⟩ := hD.mem
      refine tailQ pre A a w hD.dt ⟨ds, hds, ⟨hD.frN, fun t u hu => ?_⟩, by rw [hal0] at hi; simpa using hi⟩
      rcases lk_allE hu with ⟨s, hs1, rfl, rfl⟩ | hu
      · obtain ⟨o, ho, _, hm⟩ := hD.preO s hs1
        exact hD.val s hs1 (hall _ hm (List.getElem?_eq_some_iff.1 ho).1)
      · exact hXT ls a hD.frE t u hu
    have finish : ∀ (ls : Array Bool) a w, ls.size = l.length → Region.ready .any l.toArray ls = [] → S ls a w → Q' .normal a w := by
      intro ls a w hsz hr hS
      have hall := allDone ls hsz hr
      rcases hS with ⟨p, dn, pre, A, al, pre0, hD, hN, hal, hp0⟩ | ⟨t, h1, h2, h3⟩
      · have hck := hD.chk
        cases p with
        | nil =>
          have hm : l.length ≤ m := by
            rcases Nat.lt_or_ge m l.length with h | h
            · simp only [dtChk] at hck
              rcases hD.exe m h (hall m h) with x | x
              · obtain ⟨n, hn1, hn2⟩ := List.mem_map.1 x
                have := hD.dnM n hn1
                omega
              · exact absurd (hALm _ x) (by omega)
            · exact h
          have := toTail ls a w dn pre A al hD (fun i _ hi => hall i hi)
          rw [List.drop_eq_nil_of_le hm] at this; exact this
        | cons nd p =>
          simp only [dtChk, Bool.and_eq_true, Bool.not_eq_true'] at hck
          obtain ⟨⟨⟨⟨c1, c2⟩, c3⟩, c4⟩, c5⟩ := hck
          have c3' := Nat.blt_eq.mp c3
          cases nd <;> simp only [NF] at hN
          case c k X =>
            simp only [Bool.and_eq_true, Bool.not_eq_true'] at c4
            rcases hD.exe k c3' (hall k c3') with x | x
            · exact absurd x (by simpa [Nd.ix] using c1)
            · exact absurd x (by simpa using c4.1.1)
          case s k X =>
            simp only [Bool.and_eq_true, Bool.not_eq_true'] at c4
            rcases hD.exe k c3' (hall k c3') with x | x
            · exact absurd x (by simpa [Nd.ix] using c1)
            · exact absurd x (by simpa using c4.1.1)
          case a k d z y =>
            have := hall k c3'
            rw [hN] at this; cases this
      · have : l.length ≤ t := by
          rcases Nat.lt_or_ge t l.length with h | h
          · have e1 := h2 t h
            rw [hall t h] at e1
            have := Nat.blt_eq.mp e1.symm
            omega
          · exact h
        rw [List.drop_eq_nil_of_le this] at h3; exact h3
    induction fuel with
    | zero =>
      intro ls a w hsz hcnt hcl hS
      have hr : Region.ready .any l.toArray ls = [] := by
        cases hr : Region.ready .any l.toArray ls with
        | nil => rfl
        | cons i r =>
          have hi : i ∈ Region.ready .any l.toArray ls := by rw [hr]; simp
          obtain ⟨h1, o, h2, _⟩ := mem_ready.1 hi
          have hlt : i < ls.size := by
            rw [hsz]; have := (Array.getElem?_eq_some_iff.1 h2).1; simpa using this
          have : false ∈ ls.toList := by
            have e : ls[i]? = some false := by
              simp only [Array.getD_eq_getD_getElem?, Array.getElem?_eq_getElem hlt, Option.getD_some] at h1
              rw [Array.getElem?_eq_getElem hlt, h1]
            exact Array.mem_toList_iff.2 (Array.mem_of_getElem? e)
          have := List.count_pos_iff.2 this
          omega
      exact ⟨hr, finish ls a w hsz hr hS⟩
    | succ fuel ih =>
      intro ls a w hsz hcnt hcl hS
      refine ⟨fun hr => finish ls a w hsz hr hS, fun i hi => ?_⟩
      obtain ⟨h1, o, ho, haf⟩ := mem_ready.1 hi
      have ho' : l[i]? = some o := by simpa using ho
      have hil : i < l.length := (List.getElem?_eq_some_iff.1 ho').1
      have his : i < ls.size := by omega
      have hcnt' : (ls.setIfInBounds i true).toList.count false ≤ fuel := by
        have e : ls.toList[i]? = some false := by
          simp only [Array.getD_eq_getD_getElem?, Array.getElem?_eq_getElem his, Option.getD_some] at h1
          simp [his, h1]
        have := count_set ls.toList i e
        rw [Array.toList_setIfInBounds]
        omega
      have hsz' : (ls.setIfInBounds i true).size = l.length := by simp [hsz]
      have hbefore : ∀ j, j ∈ afs o → ls.getD j true = true := by
        intro j hj
        simp only [afs, List.mem_filterMap] at hj
        obtain ⟨e, he, hb⟩ := hj
        split at hb
        · rename_i hb'
          simp at hb
          subst hb
          have hh := haf e (by simpa using he) hb'
          have hlt : e.on < ls.size := by
            have := hc1 i o ho' e.on (by simp only [afs, List.mem_filterMap]; exact ⟨e, he, by simp [hb']⟩)
            omega
          simp only [Array.getD_eq_getD_getElem?, Array.getElem?_eq_getElem hlt, Option.getD_some] at hh ⊢
          exact hh
        · cases hb
      have hset : ∀ j, j ≠ i → (ls.setIfInBounds i true).getD j true = ls.getD j true := by
        intro j hj
        rw [getD_set ls i j his]
        have : (i == j) = false := by simp; omega
        rw [this]; simp
      have hseti : (ls.setIfInBounds i true).getD i true = true := by rw [getD_set ls i i his]; simp
      have hcl' : ∀ i' o', l[i']? = some o' → (ls.setIfInBounds i true).getD i' true = true → ∀ j ∈ afs o', (ls.setIfInBounds i true).getD j true = true := by
        intro i' o' ho2 hl' j hj
        by_cases ej : j = i
        · rw [ej]; exact hseti
        · rw [hset j ej]
          by_cases ei : i' = i
          · subst ei
            rw [ho'] at ho2
            obtain rfl : o = o' := by simpa using ho2
            exact hbefore j hj
          · exact hcl i' o' ho2 (by rw [← hset i' ei]; exact hl') j hj
      have hT' : ∀ j ∈ (cloT l).getD i [], ls.getD j true = true := clo ls hcl i o ho' hbefore
      -- the tail's step
      have tailStep : ∀ a w, (∀ j, j < i → ls.getD j true = true) → m ≤ i → (∀ j, i ≤ j → j < l.length → ls.getD j true = false) → wpListIn C.F 0 P l.toArray Q' (l.drop i) a w →
          wpOpIn C.F 0 P l.toArray Q' i (wpAnyIn C.F 0 P .any l.toArray Q' fuel (ls.setIfInBounds i true)) a w := by
        intro a w hlo hm hhi hw
        refine wpOpIn_mono (fun a' w' h' => ih _ a' w' hsz' hcnt' hcl' (.inr ⟨i + 1, by omega, fun j hj => ?_, h'⟩)) (hlist i o a w ho' hw)
        rw [getD_set ls i j his]
        rcases Nat.lt_trichotomy j i with h | h | h
        · rw [hlo j h]; have : Nat.blt j (i + 1) = true := Nat.blt_eq.mpr (by omega)
          rw [this]; rfl
        · subst h; have : Nat.blt j (j + 1) = true := Nat.blt_eq.mpr (by omega)
          rw [this]; simp
        · rw [hhi j (by omega) hj]
          have e1 : (i == j) = false := by simp; omega
          have e2 : Nat.blt j (i + 1) = false := by
            cases hb : Nat.blt j (i + 1) with
            | false => rfl
            | true => have := Nat.blt_eq.mp hb; omega
          rw [e1, e2]; rfl
      have go : ∀ a' w' p dn pre A al pre0, ALok C l pre0 plan → (∀ s ∈ pre0, s ∈ pre) → DS C l m (Q .normal) XT E H0 L plan (ls.setIfInBounds i true) a' w' p dn pre A al → wpAnyIn C.F 0 P .any l.toArray Q' fuel (ls.setIfInBounds i true) a' w' := by
        intro a' w' p dn pre A al pre0 hal hp0 hD
        obtain ⟨p', dn', pre', A', al', hD', hN', hs'⟩ := hD.norm hdis hal
        exact ih _ a' w' hsz' hcnt' hcl' (.inl ⟨p', dn', pre', A', al', pre0, hD', hN', hal, fun s h => hs' s (hp0 s h)⟩)
      rcases hS with ⟨p, dn, pre, A, al, pre0, hD, hN, hal, hp0⟩ | ⟨t, g1, g2, g3⟩
      · obtain ⟨ds0, hds, hmem⟩ := hD.mem
        have ixM : ∀ j ∈ dn.map Nd.ix, j < m := fun j hj => by
          obtain ⟨n, hn1, rfl⟩ := List.mem_map.1 hj
          exact hD.dnM n hn1
        -- the slot of i is no other's
        have keepS : ∀ (d : Nat) (a' : Act) (u : Value), i < m → o.dst = some d → a'.tmps = (a.put o.dst u).tmps →
            (∀ t, t ≠ d → a'.tmps[t]? = a.tmps[t]?) ∧ (∀ s ∈ pre, s.ix ≠ i → s.d ≠ d) ∧ (∀ x ∈ al, x.k ≠ i → x.d ≠ d) := by
          intro d a' u him hd hu
          refine ⟨fun t ht => ?_, fun s hs hne e => ?_, fun x hx hne e => ?_⟩
          · rw [hu, hd]; simp [Act.put, Array.getElem?_setIfInBounds_ne (Ne.symm ht)]
          · obtain ⟨o2, ho2, hd2, hm2⟩ := hD.preO s hs
            exact hc3 s.ix i o2 o hm2 him ho2 ho' hne (by rw [hd2]; rfl) (by rw [hd2, hd, e])
          · obtain ⟨x1, _, _⟩ := hD.alO x hx
            obtain ⟨o2, ho2, hd2, _, _⟩ := hal.at x1
            exact hc3 x.k i o2 o (hALm _ (al_mem x1)) him ho2 ho' hne (by rw [hd2]; rfl) (by rw [hd2, hd, e])
        have frNext : ∀ (d : Nat) (a' : Act), i < m → o.dst = some d → (∀ t, t ≠ d → a'.tmps[t]? = a.tmps[t]?) → ∀ t v, lk E t = some v → a'.tmps[t]? = some v ∨ ∃ k o, l[k]? = some o ∧ k < m ∧ o.dst = some t ∧ (ls.setIfInBounds i true).getD k true = true := by
          intro d a' him hd hk t v hv
          by_cases e : t = d
          · exact .inr ⟨i, o, ho', him, by rw [hd, e], hseti⟩
          · rcases hD.frE t v hv with h | ⟨k, o2, g1, g2, g3, g4⟩
            · exact .inl (by rw [hk t e]; exact h)
            · refine .inr ⟨k, o2, g1, g2, g3, ?_⟩
              by_cases e2 : k = i
              · rw [e2]; exact hseti
              · rw [hset k e2]; exact g4
        by_cases hid : i ∈ dn.map Nd.ix
        · -- one that was told
          have him := ixM i hid
          obtain ⟨nd, hnd, hix⟩ := List.mem_map.1 hid
          have hp := hD.pend nd hnd (by rw [hix]; exact h1)
          have runQ : ∀ (X : List Nat) (Hq B : List HP), PQ C l E pre i X Hq → (∀ t u, lk (delE X E) t = some u → a.tmps[t]? = some u) → (al.map AE.p ++ (A ++ H0)).Perm (B ++ Hq) → wpOpIn C.F 0 P l.toArray Q' i (wpAnyIn C.F 0 P .any l.toArray Q' fuel (ls.setIfInBounds i true)) a w := by
            intro X Hq B hpq hXn hB
            obtain ⟨o', d, v, Eq, q1, q2, q3, q4, q5, q6⟩ := hpq
            rw [ho'] at q1
            obtain rfl : o = o' := by simpa using q1
            refine hone i o (L ++ B) ds0 Eq Hq _ _ a w ho' q5 ⟨hds, ⟨hD.frN, fun t u hu => ?_⟩, ?_⟩ ?_
            · rcases q6 t u hu with ⟨s, s1, s2, s3, s4⟩ | hu
              · rw [← s3, ← s4]; exact hD.val s s1 (hbefore _ s2)
              · exact hXn t u hu
            · have hm2 := hmem.perm (hB.append_left _)
              simpa [List.append_assoc] using hm2
            · rintro ds' E' H' a' w' ⟨rfl, rfl⟩ hst ⟨u, hu⟩
              obtain ⟨k1, k2, k3⟩ := keepS d a' u him q2 hu
              refine go a' w' p dn pre A al pre0 hal hp0 ⟨hD.chk, hD.dt, hD.sub, fun j hj hl' => ?_, hD.dnM, hD.dnP, hD.preD, hD.uniq, hD.preO, fun s hs hl' => ?_, fun x hx => ?_, fun x hx => ?_, fun k hk hk' hl' => ?_, fun n hn' hl' => ?_, ⟨ds', hst.defers, ?_⟩, hst.fr.size, frNext d a' him q2 k1⟩
              · by_cases e : j = i
                · exact .inl (e ▸ hid)
                · exact hD.exe j hj (by rw [← hset j e]; exact hl')
              · by_cases e : s.ix = i
                · have := hD.uniq s hs ⟨i, d, v⟩ q4 e
                  rw [this]
                  exact hst.fr.get d v (by simp [lk])
                · rw [k1 _ (k2 s hs e)]; exact hD.val s hs (by rw [← hset _ e]; exact hl')
              · obtain ⟨x1, x2, x3⟩ := hD.alO x hx
                refine ⟨x1, x2, ?_⟩
                rw [k1 _ (k3 x hx (fun e => x2 (e ▸ hid)))]; exact x3
              · by_cases e : x.k = i
                · rw [e]; exact hseti
                · rw [hset _ e]; exact hD.alX x hx
              · exact hD.alC k hk hk' (by rw [← hset k (fun e => hk' (e ▸ hid))]; exact hl')
              · have : n.ix ≠ i := fun e => by rw [e, hseti] at hl'; cases hl'
                exact hD.pend n hn' (by rw [← hset _ this]; exact hl')
              · exact Inv.perm (by have := hst.inv; simpa [List.append_assoc] using this) (hB.symm.append_left (ds'.map ptd ++ L))
          cases nd with
          | g k X Q =>
            simp only [Nd.ix] at hix; subst hix
            obtain ⟨⟨R, pk⟩, hp⟩ := hp
            refine runQ X [Q] (al.map AE.p ++ R) hp (hX _ (hD.dnP _ hnd) ls a hcl h1 hD.frE) ?_
            rw [List.append_assoc]
            exact (pk.perm.trans (List.perm_append_comm (l₁ := [Q]) (l₂ := R))).append_left _
          | r k X => simp only [Nd.ix] at hix; subst hix; exact runQ X [] (al.map AE.p ++ (A ++ H0)) hp (hX _ (hD.dnP _ hnd) ls a hcl h1 hD.frE) (by simp)
          | b k X => simp only [Nd.ix] at hix; subst hix; exact runQ X H0 (al.map AE.p ++ A) hp (hX _ (hD.dnP _ hnd) ls a hcl h1 hD.frE) (by simp)
          | f k X =>
            simp only [Nd.ix] at hix; subst hix
            obtain ⟨As, Aq, e, hp⟩ := hp
            exact runQ X (Aq ++ H0) (al.map AE.p ++ As) hp (hX _ (hD.dnP _ hnd) ls a hcl h1 hD.frE) (by simp [e])
          | c k X => exact hp.elim
          | s k X => exact hp.elim
          | a k d z y => exact hp.elim
        · by_cases hia : i ∈ plan.flatMap Nd.al
          · -- a variable is made
            have him := hALm i hia
            obtain ⟨d, z, y, hpl⟩ := mem_al hia
            obtain ⟨o', q1, q2, q3, q4⟩ := hal.at hpl
            rw [ho'] at q1
            obtain rfl : o = o' := by simpa using q1
            refine hone i o (L ++ (al.map AE.p ++ (A ++ H0))) ds0 (selE (afs o) [] pre0) [] _ _ a w ho' q4 ⟨hds, ⟨hD.frN, fun t u hu => ?_⟩, by simpa [List.append_assoc] using hmem⟩ ?_
            · rcases lk_selE hu with ⟨s, s1, s2, s3, s4⟩ | hu
              · rw [← s3, ← s4]; exact hD.val s (hp0 s s1) (hbefore _ s2)
              · simp [lk] at hu
            rintro ds' E' H' a' w' ⟨b, rfl, rfl⟩ hst ⟨u, hu⟩
            obtain ⟨k1, k2, k3⟩ := keepS d a' u him q2 hu
            refine go a' w' p dn pre A (⟨i, d, b, z, y⟩ :: al) pre0 hal hp0 ⟨hD.chk, hD.dt, hD.sub, fun j hj hl' => ?_, hD.dnM, hD.dnP, hD.preD, hD.uniq, hD.preO, fun s hs hl' => ?_, fun x hx => ?_, fun x hx => ?_, fun k hk hk' hl' => ?_, fun n hn' hl' => ?_, ⟨ds', hst.defers, ?_⟩, hst.fr.size, frNext d a' him q2 k1⟩
            · by_cases e : j = i
              · exact .inr (e ▸ hia)
              · exact hD.exe j hj (by rw [← hset j e]; exact hl')
            · have e : s.ix ≠ i := fun e => hid (e ▸ hD.preD s hs)
              rw [k1 _ (k2 s hs e)]; exact hD.val s hs (by rw [← hset _ e]; exact hl')
            · rcases List.mem_cons.1 hx with rfl | hx
              · exact ⟨hpl, hid, hst.fr.get d _ (by simp [lk])⟩
              · obtain ⟨x1, x2, x3⟩ := hD.alO x hx
                refine ⟨x1, x2, ?_⟩
                have e : x.k ≠ i := fun e => by have := hD.alX x hx; rw [e, h1] at this; cases this
                rw [k1 _ (k3 x hx e)]; exact x3
            · by_cases e : x.k = i
              · rw [e]; exact hseti
              · rcases List.mem_cons.1 hx with rfl | hx
                · exact absurd rfl e
                · rw [hset _ e]; exact hD.alX x hx
            · by_cases e : k = i
              · exact ⟨⟨i, d, b, z, y⟩, by simp, e.symm⟩
              · obtain ⟨x, hx, hxk⟩ := hD.alC k hk hk' (by rw [← hset k e]; exact hl')
                exact ⟨x, by simp [hx], hxk⟩
            · have : n.ix ≠ i := fun e => by rw [e, hseti] at hl'; cases hl'
              exact hD.pend n hn' (by rw [← hset _ this]; exact hl')
            · have := hst.inv
              refine this.perm ?_
              have e : List.map AE.p (⟨i, d, b, z, y⟩ :: al) = z b :: al.map AE.p := rfl
              rw [e]
              have := List.perm_append_comm (l₁ := al.map AE.p ++ (A ++ H0)) (l₂ := [z b])
              have := List.Perm.append_left (ds'.map ptd ++ L) this
              simpa [List.append_assoc] using this
          · -- what the plan waits for
            have hexe : ∀ x ∈ afs o, x ∈ dn.map Nd.ix ∨ x ∈ plan.flatMap Nd.al := fun x hx => hD.exe x (by have := hc1 i o ho' x hx; omega) (hbefore x hx)
            have hck := hD.chk
            cases p with
            | nil =>
              simp only [dtChk] at hck
              have hin : ∀ j, j < m → j ∈ dn.map Nd.ix := fun j hj => by
                have := List.all_eq_true.1 hck j (by simpa using hj)
                simpa using this
              have him : m ≤ i := by
                rcases Nat.lt_or_ge i m with h | h
                · exact absurd (hin i h) hid
                · exact h
              have hlo : ∀ j, j < i → ls.getD j true = true := fun j hj => hT' j (hc2 i him hil j hj)
              have hno : ∀ j, m ≤ j → j < l.length → ls.getD j true = false := by
                intro j hj hjl
                cases hg : ls.getD j true with
                | false => rfl
                | true =>
                  rcases hD.exe j hjl hg with x | x
                  · have := ixM j x; omega
                  · have := hALm j x; omega
              have e : i = m := by
                rcases Nat.lt_or_ge m i with h | h
                · have e1 := hno m (Nat.le_refl _) (by omega)
                  rw [hlo m h] at e1; cases e1
                · omega
              subst e
              exact tailStep a w hlo (Nat.le_refl _) (fun j hj1 hj2 => hno j hj1 hj2) (toTail ls a w dn pre A al hD (fun j hj _ => hlo j hj))
            | cons nd p =>
              simp only [dtChk, Bool.and_eq_true, Bool.not_eq_true'] at hck
              obtain ⟨⟨⟨⟨c1, c2⟩, c3⟩, c4⟩, c5⟩ := hck
              cases nd <;> simp only [NF] at hN
              case c k X =>
                simp only [Bool.and_eq_true, Bool.not_eq_true'] at c4
                obtain ⟨⟨c6, c7⟩, c8⟩ := c4
                have hik : i = k := by
                  have := List.all_eq_true.1 c8 (o, i) (by rw [List.mem_zipIdx_iff_getElem?]; simpa using ho')
                  simp only [Bool.or_eq_true] at this
                  rcases this with ((h | h) | h) | h
                  · exact absurd (by simpa using h) hid
                  · exact absurd (by simpa using h) hia
                  · exact Nat.eq_of_beq_eq_true h
                  · obtain ⟨x, hx, hx'⟩ := List.any_eq_true.1 h
                    simp only [Bool.and_eq_true, Bool.not_eq_true'] at hx'
                    rcases hexe x hx with y | y
                    · exact absurd y (by simpa using hx'.1)
                    · exact absurd y (by simpa using hx'.2)
                subst hik
                have him := Nat.blt_eq.mp c2
                simp only [Nd.ix] at him
                obtain ⟨o', d, q1, q2, q3, q4⟩ := hD.dt
                rw [ho'] at q1
                obtain rfl : o = o' := by simpa using q1
                refine hone i o (L ++ al.map AE.p) ds0 _ (A ++ H0) _ _ a w ho' q4 ⟨hds, ⟨hD.frN, fun t u hu => ?_⟩, by simpa [List.append_assoc] using hmem⟩ ?_
                · rcases lk_selE hu with ⟨s, s1, s2, s3, s4⟩ | hu
                  · rw [← s3, ← s4]; exact hD.val s s1 (hbefore _ s2)
                  · exact hX (.c i X) (hD.sub _ (by simp)) ls a hcl h1 hD.frE t u hu
                rintro ds' E' H' a' w' ⟨v, A', rfl, rfl, hkp, hdt'⟩ hst ⟨u, hu⟩
                obtain ⟨k1, k2, k3⟩ := keepS d a' u him q2 hu
                have hne : ∀ s ∈ pre, s.ix ≠ i := fun s hs e => hid (e ▸ hD.preD s hs)
                refine go a' w' p (.c i X :: dn) (⟨i, d, v⟩ :: pre) A' al pre0 hal (fun s h => List.mem_cons_of_mem _ (hp0 s h)) ⟨c5, hdt', fun n hn' => hD.sub n (by simp [hn']), fun j hj hl' => ?_, ?_, ?_, ?_, ?_, ?_, ?_, fun x hx => ?_, fun x hx => ?_, fun k hk hk' hl' => ?_, fun n hn' hl' => ?_, ⟨ds', hst.defers, ?_⟩, hst.fr.size, frNext d a' him q2 k1⟩
                · by_cases e : j = i
                  · exact .inl (by simp [Nd.ix, e])
                  · rcases hD.exe j hj (by rw [← hset j e]; exact hl') with x | x
                    · exact .inl (by simp only [List.map_cons, List.mem_cons]; exact .inr x)
                    · exact .inr x
                · intro n hn'
                  rcases List.mem_cons.1 hn' with rfl | hn'
                  · exact him
                  · exact hD.dnM n hn'
                · intro n hn'
                  rcases List.mem_cons.1 hn' with rfl | hn'
                  · exact hD.sub _ (by simp)
                  · exact hD.dnP n hn'
                · intro s hs
                  rcases List.mem_cons.1 hs with rfl | hs
                  · simp [Nd.ix]
                  · simp only [List.map_cons, List.mem_cons]; exact .inr (hD.preD s hs)
                · intro s hs s' hs' e
                  rcases List.mem_cons.1 hs with rfl | hs <;> rcases List.mem_cons.1 hs' with rfl | hs'
                  · rfl
                  · exact absurd e.symm (hne s' hs')
                  · exact absurd e (hne s hs)
                  · exact hD.uniq s hs s' hs' e
                · intro s hs
                  rcases List.mem_cons.1 hs with rfl | hs
                  · exact ⟨o, ho', q2, him⟩
                  · exact hD.preO s hs
                · intro s hs hl'
                  rcases List.mem_cons.1 hs with rfl | hs
                  · exact hst.fr.get d v (by simp [lk])
                  · rw [k1 _ (k2 s hs (hne s hs))]; exact hD.val s hs (by rw [← hset _ (hne s hs)]; exact hl')
                · obtain ⟨x1, x2, x3⟩ := hD.alO x hx
                  have hxi : x.k ≠ i := fun e => hia (e ▸ al_mem x1)
                  refine ⟨x1, ?_, ?_⟩
                  · simp only [List.map_cons, List.mem_cons, not_or]; exact ⟨hxi, x2⟩
                  · rw [k1 _ (k3 x hx hxi)]; exact x3
                · by_cases e : x.k = i
                  · rw [e]; exact hseti
                  · rw [hset _ e]; exact hD.alX x hx
                · have hki : k ≠ i := fun e => hia (e ▸ hk)
                  simp only [List.map_cons, List.mem_cons, not_or] at hk'
                  exact hD.alC k hk hk'.2 (by rw [← hset k hki]; exact hl')
                · rcases List.mem_cons.1 hn' with rfl | hn'
                  · simp only [Nd.ix] at hl'; rw [hseti] at hl'; cases hl'
                  · have hni : n.ix ≠ i := fun e => hid (e ▸ List.mem_map.2 ⟨n, hn', rfl⟩)
                    rw [hset _ hni] at hl'
                    have hp := hD.pend n hn' hl'
                    cases n with
                    | g k _ Q =>
                      rcases hkp.at hn' with hk | hk
                      · have := hT' k (by simpa using hk)
                        simp only [Nd.ix] at hl'
                        rw [this] at hl'; cases hl'
                      · exact ⟨hk, PQ.more hp.2 _⟩
                    | r k _ => exact PQ.more hp _
                    | b k _ => exact PQ.more hp _
                    | f k _ =>
                      have := List.all_eq_true.1 c7 _ hn'
                      simp only [Nd.isF, Nd.ix, Bool.not_true, Bool.false_or] at this
                      have := hT' k (by simpa using this)
                      simp only [Nd.ix] at hl'
                      rw [this] at hl'; cases hl'
                    | c k _ => exact hp.elim
                    | s k _ => exact hp.elim
                    | a k d z y => exact hp.elim
                · have := hst.inv
                  simpa [List.append_assoc] using this
              case s k X =>
                simp only [Bool.and_eq_true, Bool.not_eq_true'] at c4
                obtain ⟨⟨c6, c7⟩, c8⟩ := c4
                have hik : i = k := by
                  have := List.all_eq_true.1 c8 (o, i) (by rw [List.mem_zipIdx_iff_getElem?]; simpa using ho')
                  simp only [Bool.or_eq_true] at this
                  rcases this with ((h | h) | h) | h
                  · exact absurd (by simpa using h) hid
                  · exact absurd (by simpa using h) hia
                  · exact Nat.eq_of_beq_eq_true h
                  · obtain ⟨x, hx, hx'⟩ := List.any_eq_true.1 h
                    simp only [Bool.and_eq_true, Bool.not_eq_true'] at hx'
                    rcases hexe x hx with y | y
                    · exact absurd y (by simpa using hx'.1)
                    · exact absurd y (by simpa using hx'.2)
                subst hik
                have him := Nat.blt_eq.mp c2
                simp only [Nd.ix] at him
                obtain ⟨o', q1, q2, q4⟩ := hD.dt
                rw [ho'] at q1
                obtain rfl : o = o' := by simpa using q1
                refine hone i o (L ++ al.map AE.p) ds0 _ (A ++ H0) _ _ a w ho' q4 ⟨hds, ⟨hD.frN, fun t u hu => ?_⟩, by simpa [List.append_assoc] using hmem⟩ ?_
                · rcases lk_selE hu with ⟨s, s1, s2, s3, s4⟩ | hu
                  · rw [← s3, ← s4]; exact hD.val s s1 (hbefore _ s2)
                  · exact hX (.s i X) (hD.sub _ (by simp)) ls a hcl h1 hD.frE t u hu
                rintro ds' E' H' a' w' ⟨A', rfl, rfl, hkp, hdt'⟩ hst ⟨u, hu⟩
                have k1 : a'.tmps = a.tmps := by rw [hu, q2]; rfl
                have hne : ∀ s ∈ pre, s.ix ≠ i := fun s hs e => hid (e ▸ hD.preD s hs)
                refine go a' w' p (.s i X :: dn) pre A' al pre0 hal hp0 ⟨c5, hdt', fun n hn' => hD.sub n (by simp [hn']), fun j hj hl' => ?_, ?_, ?_, ?_, ?_, ?_, ?_, fun x hx => ?_, fun x hx => ?_, fun k hk hk' hl' => ?_, fun n hn' hl' => ?_, ⟨ds', hst.defers, ?_⟩, hst.fr.size, fun t u' hu' => ?_⟩
                · by_cases e : j = i
                  · exact .inl (by simp [Nd.ix, e])
                  · rcases hD.exe j hj (by rw [← hset j e]; exact hl') with x | x
                    · exact .inl (by simp only [List.map_cons, List.mem_cons]; exact .inr x)
                    · exact .inr x
                · intro n hn'
                  rcases List.mem_cons.1 hn' with rfl | hn'
                  · exact him
                  · exact hD.dnM n hn'
                · intro n hn'
                  rcases List.mem_cons.1 hn' with rfl | hn'
                  · exact hD.sub _ (by simp)
                  · exact hD.dnP n hn'
                · intro s hs
                  simp only [List.map_cons, List.mem_cons]; exact .inr (hD.preD s hs)
                · exact hD.uniq
                · exact hD.preO
                · intro s hs hl'
                  rw [k1]; exact hD.val s hs (by rw [← hset _ (hne s hs)]; exact hl')
                · obtain ⟨x1, x2, x3⟩ := hD.alO x hx
                  have hxi : x.k ≠ i := fun e => hia (e ▸ al_mem x1)
                  refine ⟨x1, ?_, ?_⟩
                  · simp only [List.map_cons, List.mem_cons, not_or]; exact ⟨hxi, x2⟩
                  · rw [k1]; exact x3
                · by_cases e : x.k = i
                  · rw [e]; exact hseti
                  · rw [hset _ e]; exact hD.alX x hx
                · have hki : k ≠ i := fun e => hia (e ▸ hk)
                  simp only [List.map_cons, List.mem_cons, not_or] at hk'
                  exact hD.alC k hk hk'.2 (by rw [← hset k hki]; exact hl')
                · rcases List.mem_cons.1 hn' with rfl | hn'
                  · simp only [Nd.ix] at hl'; rw [hseti] at hl'; cases hl'
                  · have hni : n.ix ≠ i := fun e => hid (e ▸ List.mem_map.2 ⟨n, hn', rfl⟩)
                    rw [hset _ hni] at hl'
                    have hp := hD.pend n hn' hl'
                    cases n with
                    | g k _ Q =>
                      rcases hkp.at hn' with hk | hk
                      · have := hT' k (by simpa using hk)
                        simp only [Nd.ix] at hl'
                        rw [this] at hl'; cases hl'
                      · exact ⟨hk, hp.2⟩
                    | r k _ => exact hp
                    | b k _ => exact hp
                    | f k _ =>
                      have := List.all_eq_true.1 c7 _ hn'
                      simp only [Nd.isF, Nd.ix, Bool.not_true, Bool.false_or] at this
                      have := hT' k (by simpa using this)
                      simp only [Nd.ix] at hl'
                      rw [this] at hl'; cases hl'
                    | c k _ => exact hp.elim
                    | s k _ => exact hp.elim
                    | a k d z y => exact hp.elim
                · have := hst.inv
                  simpa [List.append_assoc] using this
                · rw [k1]
                  rcases hD.frE t u' hu' with h | ⟨k, o2, g1, g2, g3, g4⟩
                  · exact .inl h
                  · refine .inr ⟨k, o2, g1, g2, g3, ?_⟩
                    by_cases e2 : k = i
                    · rw [e2]; exact hseti
                    · rw [hset k e2]; exact g4
              case a k d z y =>
                simp only [Bool.and_eq_true] at c4
                exfalso
                have := List.all_eq_true.1 c4.2 (o, i) (by rw [List.mem_zipIdx_iff_getElem?]; simpa using ho')
                simp only [Bool.or_eq_true] at this
                rcases this with (h | h) | h
                · exact absurd (by simpa using h) hid
                · exact absurd (by simpa using h) hia
                · obtain ⟨x, hx, hx'⟩ := List.any_eq_true.1 h
                  simp only [Bool.and_eq_true, Bool.not_eq_true', Bool.or_eq_true] at hx'
                  rcases hx'.2 with e | e
                  · have e' := Nat.eq_of_beq_eq_true e
                    have := hbefore x hx
                    rw [e', hN] at this; cases this
                  · rcases hexe x hx with y | y
                    · exact absurd y (by simpa using hx'.1)
                    · exact absurd y (by simpa using e)
      · have hit : t ≤ i := by
          rcases Nat.lt_or_ge i t with h | h
          · have e1 := g2 i hil
            rw [h1, Nat.blt_eq.mpr h] at e1; cases e1
          · exact h
        have hlo : ∀ j, j < i → ls.getD j true = true := fun j hj => hT' j (hc2 i (by omega) hil j hj)
        have e : i = t := by
          rcases Nat.lt_or_ge t i with h | h
          · have e1 := g2 t (by omega)
            rw [hlo t h] at e1
            have := Nat.blt_eq.mp e1.symm
            omega
          · omega
        subst e
        refine tailStep a w hlo (by omega) (fun j hj1 hj2 => ?_) g3
        rw [g2 j hj2]
        cases hb : Nat.blt j i with
        | false => rfl
        | true => have := Nat.blt_eq.mp hb; omega
  have hD0 : DS C l m (Q .normal) XT E H0 L plan (Array.replicate l.toArray.size false) a { w with drawn := w.drawn + 1 } plan [] [] A0 [] := by
    refine ⟨hdt, by rw [hplan] at h ⊢; exact QB.dt h, fun _ h => h, fun i hi hl' => ?_, by simp, by simp, by simp, by simp, by simp, by simp, by simp, by simp, fun k hk _ hl' => ?_, by simp, ⟨ds, hs.defers, ?_⟩, hs.fr.size, fun t v hv => .inl (hs.fr.get t v hv)⟩
    · simp [Array.getD_eq_getD_getElem?, hi] at hl'
    · obtain ⟨d, z, y, hpl⟩ := mem_al hk
      obtain ⟨_, hal⟩ := QB.al h
      obtain ⟨o, ho, _, _, _⟩ := hal.at hpl
      have := (List.getElem?_eq_some_iff.1 ho).1
      simp [Array.getD_eq_getD_getElem?, this] at hl'
    · have := hs.inv.drawn
      exact this.sub (Sub.app (by simpa using hsub) _)
  obtain ⟨dn0, pre0, hal, hD1⟩ := QB.ds h (by rw [← hplan]; exact hD0)
  obtain ⟨p, dn, pre, A, al, hD, hN, hs0⟩ := hD1.norm hdis hal
  refine main _ _ a _ (by simp) (by simp) (fun i o ho hl' => ?_) (.inl ⟨p, dn, pre, A, al, pre0, hD, hN, hal, hs0⟩)
  have := (List.getElem?_eq_some_iff.1 ho).1
  simp [Array.getD_eq_getD_getElem?, this] at hl'
end
section
variable {P : Program} {C : Cx P} {E : Env} {H : List HP} {l : List Oper} {m : Nat} {K : KP} {XT : List Nat} {E0 : Env} {H0 A : List HP} {p : List Nd} {pre : List SE} {k d : Nat} {X : List Nat} {o : Oper}
theorem DT.nil {dn : List Nd} (H' : List HP) (e : A ++ H0 = H') (h : WO C l.toArray (l.drop m) K (allE (delE XT E0) pre) H') : DT C l m K XT E0 H0 [] dn pre A := by subst e; exact h
theorem DT.r {dn : List Nd} {v : Value} (ho : l[k]? = some o) (hd : o.dst = some d) (hN : Nat.blt d C.N = true) (h : WO C l.toArray [o] (fun E' H' => E' = (d, v) :: selE (afs o) (delE X E0) pre ∧ H' = []) (selE (afs o) (delE X E0) pre) [])
    (r : DT C l m K XT E0 H0 p (.r k X :: dn) (⟨k, d, v⟩ :: pre) A) : DT C l m K XT E0 H0 (.r k X :: p) dn pre A := ⟨o, d, v, ho, hd, hN, h, r⟩
theorem DT.b {dn : List Nd} {v : Value} (ho : l[k]? = some o) (hd : o.dst = some d) (hN : Nat.blt d C.N = true) (h : WO C l.toArray [o] (fun E' H' => E' = (d, v) :: selE (afs o) (delE X E0) pre ∧ H' = H0) (selE (afs o) (delE X E0) pre) H0)
    (r : DT C l m K XT E0 H0 p (.b k X :: dn) (⟨k, d, v⟩ :: pre) A) : DT C l m K XT E0 H0 (.b k X :: p) dn pre A := ⟨o, d, v, ho, hd, hN, h, r⟩
theorem DT.g {dn : List Nd} {Q : HP} {R : List HP} {v : Value} (pk : Pick Q (A ++ H0) R) (ho : l[k]? = some o) (hd : o.dst = some d) (hN : Nat.blt d C.N = true) (h : WO C l.toArray [o] (fun E' H' => E' = (d, v) :: selE (afs o) (delE X E0) pre ∧ H' = [Q]) (selE (afs o) (delE X E0) pre) [Q])
    (r : DT C l m K XT E0 H0 p (.g k X Q :: dn) (⟨k, d, v⟩ :: pre) A) : DT C l m K XT E0 H0 (.g k X Q :: p) dn pre A := ⟨o, d, v, ho, hd, hN, ⟨R, pk⟩, h, r⟩
theorem DT.f {dn : List Nd} {v : Value} (H' : List HP) (e : A ++ H0 = H') (ho : l[k]? = some o) (hd : o.dst = some d) (hN : Nat.blt d C.N = true) (h : WO C l.toArray [o] (fun E' H1 => E' = (d, v) :: selE (afs o) (delE X E0) pre ∧ H1 = H') (selE (afs o) (delE X E0) pre) H')
    (r : DT C l m K XT E0 H0 p (.f k X :: dn) (⟨k, d, v⟩ :: pre) A) : DT C l m K XT E0 H0 (.f k X :: p) dn pre A := by subst e; exact ⟨o, d, v, ho, hd, hN, h, r⟩
theorem DT.c {dn : List Nd} (H' : List HP) (e : A ++ H0 = H') (ho : l[k]? = some o) (hd : o.dst = some d) (hN : Nat.blt d C.N = true)
    (h : WO C l.toArray [o] (fun E' H1 => ∃ v A', E' = (d, v) :: selE (afs o) (delE X E0) pre ∧ H1 = A' ++ H0 ∧ Keep l k (A' ++ H0) dn ∧ DT C l m K XT E0 H0 p (.c k X :: dn) (⟨k, d, v⟩ :: pre) A') (selE (afs o) (delE X E0) pre) H') : DT C l m K XT E0 H0 (.c k X :: p) dn pre A := by subst e; exact ⟨o, d, ho, hd, hN, h⟩
theorem DT.s {dn : List Nd} (H' : List HP) (e : A ++ H0 = H') (ho : l[k]? = some o) (hd : o.dst = none)
    (h : WO C l.toArray [o] (fun E' H1 => ∃ A', E' = selE (afs o) (delE X E0) pre ∧ H1 = A' ++ H0 ∧ Keep l k (A' ++ H0) dn ∧ DT C l m K XT E0 H0 p (.s k X :: dn) pre A') (selE (afs o) (delE X E0) pre) H') : DT C l m K XT E0 H0 (.s k X :: p) dn pre A := by subst e; exact ⟨o, ho, hd, h⟩
theorem DT.a {dn : List Nd} {z : Nat → HP} {y : Nat → Value} (h : ∀ b, DT C l m K XT E0 H0 p (.a k d z y :: dn) (⟨k, d, y b⟩ :: pre) (z b :: A)) : DT C l m K XT E0 H0 (.a k d z y :: p) dn pre A := h
theorem DT.rB {dn : List Nd} {q : Prop} {_inst : Decidable q} (ho : l[k]? = some o) (hd : o.dst = some d) (hN : Nat.blt d C.N = true) (h : WO C l.toArray [o] (fun E' H' => E' = (d, .bool (bl q)) :: selE (afs o) (delE X E0) pre ∧ H' = []) (selE (afs o) (delE X E0) pre) [])
    (ht : q → DT C l m K XT E0 H0 p (.r k X :: dn) (⟨k, d, .bool true⟩ :: pre) A) (hf : ¬ q → DT C l m K XT E0 H0 p (.r k X :: dn) (⟨k, d, .bool false⟩ :: pre) A) : DT C l m K XT E0 H0 (.r k X :: p) dn pre A := by
  by_cases hp : q
  · exact DT.r ho hd hN (by rw [bl_t.2 hp] at h; exact h) (ht hp)
  · exact DT.r ho hd hN (by rw [bl_f.2 hp] at h; exact h) (hf hp)
theorem DT.rNB {dn : List Nd} {q : Prop} {_inst : Decidable q} (ho : l[k]? = some o) (hd : o.dst = some d) (hN : Nat.blt d C.N = true) (h : WO C l.toArray [o] (fun E' H' => E' = (d, .bool (!(bl q))) :: selE (afs o) (delE X E0) pre ∧ H' = []) (selE (afs o) (delE X E0) pre) [])
    (ht : ¬ q → DT C l m K XT E0 H0 p (.r k X :: dn) (⟨k, d, .bool true⟩ :: pre) A) (hf : q → DT C l m K XT E0 H0 p (.r k X :: dn) (⟨k, d, .bool false⟩ :: pre) A) : DT C l m K XT E0 H0 (.r k X :: p) dn pre A := by
  by_cases hp : q
  · exact DT.r ho hd hN (by rw [bl_t.2 hp] at h; exact h) (hf hp)
  · exact DT.r ho hd hN (by rw [bl_f.2 hp] at h; exact h) (ht hp)
theorem Keep.g {dn : List Nd} {j : Nat} {Q : HP} (h : ((cloT l).getD k []).elem j = true ∨ ∃ R, Pick Q H R) (r : Keep l k H dn) : Keep l k H (.g j X Q :: dn) := ⟨h, r⟩
theorem Keep.r {dn : List Nd} {j : Nat} (h : Keep l k H dn) : Keep l k H (.r j X :: dn) := h
theorem Keep.b {dn : List Nd} {j : Nat} (h : Keep l k H dn) : Keep l k H (.b j X :: dn) := h
theorem Keep.f {dn : List Nd} {j : Nat} (h : Keep l k H dn) : Keep l k H (.f j X :: dn) := h
theorem Keep.c {dn : List Nd} {j : Nat} (h : Keep l k H dn) : Keep l k H (.c j X :: dn) := h
theorem Keep.s {dn : List Nd} {j : Nat} (h : Keep l k H dn) : Keep l k H (.s j X :: dn) := h
theorem Keep.a {dn : List Nd} {j : Nat} {z : Nat → HP} {y : Nat → Value} (h : Keep l k H dn) : Keep l k H (.a j d z y :: dn) := h
theorem Keep.nil : Keep l k H [] := trivial
/-- what is made at will -/
theorem ALok.n {z : Nat → HP} {y : Nat → Value} (ho : l[k]? = some o) (hd : o.dst = some d) (hN : Nat.blt d C.N = true) (h : WO C l.toArray [o] (fun E' H' => ∃ b, E' = (d, y b) :: selE (afs o) [] pre ∧ H' = [z b]) (selE (afs o) [] pre) []) (r : ALok C l pre p) : ALok C l pre (.a k d z y :: p) := ⟨⟨_, ho, hd, hN, h⟩, r⟩
theorem ALok.r (h : ALok C l pre p) : ALok C l pre (.r k X :: p) := h
theorem ALok.b (h : ALok C l pre p) : ALok C l pre (.b k X :: p) := h
theorem ALok.f (h : ALok C l pre p) : ALok C l pre (.f k X :: p) := h
theorem ALok.c (h : ALok C l pre p) : ALok C l pre (.c k X :: p) := h
theorem ALok.s (h : ALok C l pre p) : ALok C l pre (.s k X :: p) := h
theorem ALok.g {Q : HP} (h : ALok C l pre p) : ALok C l pre (.g k X Q :: p) := h
theorem ALok.nil : ALok C l pre [] := trivial
end
section
variable {P : Program} {C : Cx P} {l : List Oper} {m : Nat} {K : KP} {XT : List Nat} {E0 : Env} {H0 A : List HP} {p plan q dn : List Nd} {pre : List SE} {k d : Nat} {X : List Nat} {o : Oper} {v : Value}
theorem QB.r (ho : l[k]? = some o) (hd : o.dst = some d) (hN : Nat.blt d C.N = true) (h : WO C l.toArray [o] (fun E' H' => E' = (d, v) :: selE (afs o) (delE X E0) pre ∧ H' = []) (selE (afs o) (delE X E0) pre) [])
    (r : QB C l m K XT E0 H0 p plan q (.r k X :: dn) (⟨k, d, v⟩ :: pre) A) : QB C l m K XT E0 H0 p plan (.r k X :: q) dn pre A := ⟨o, d, v, ho, hd, hN, h, r⟩
theorem QB.b (ho : l[k]? = some o) (hd : o.dst = some d) (hN : Nat.blt d C.N = true) (h : WO C l.toArray [o] (fun E' H' => E' = (d, v) :: selE (afs o) (delE X E0) pre ∧ H' = H0) (selE (afs o) (delE X E0) pre) H0)
    (r : QB C l m K XT E0 H0 p plan q (.b k X :: dn) (⟨k, d, v⟩ :: pre) A) : QB C l m K XT E0 H0 p plan (.b k X :: q) dn pre A := ⟨o, d, v, ho, hd, hN, h, r⟩
theorem QB.nil (h1 : ALok C l pre plan) (h2 : DT C l m K XT E0 H0 p dn pre A) : QB C l m K XT E0 H0 p plan [] dn pre A := ⟨h1, h2⟩
end
end Go.TH.DB
