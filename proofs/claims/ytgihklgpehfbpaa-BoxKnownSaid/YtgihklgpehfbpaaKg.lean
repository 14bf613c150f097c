/-
  What is proved here: pure operations by one evaluation; calls of values; ways out of loops. Conditions: none; each rule states its own.
-/
import Derived.Test.YtgihklgpehfbpaaKf
namespace Go.TH
open Go
section
variable {P : Program} {C : Cx P} {E : Env} {H : List HP}

def kEq : IntKind → IntKind → Bool
  | .i64, .i64 => true
  | .u8, .u8 => true
  | .i32, .i32 => true
  | .u32, .u32 => true
  | .u64, .u64 => true
  | _, _ => false
theorem kEq_eq {k k' : IntKind} (h : kEq k k' = true) : k = k' := by unfold kEq at h; split at h <;> simp_all
def cmpV (op : BinOp) (a b : Int) : Option Value :=
  match op with
  | .lss => some (.bool (bl (a < b)))
  | .leq => some (.bool (bl (a ≤ b)))
  | .gtr => some (.bool (bl (b < a)))
  | .geq => some (.bool (bl (b ≤ a)))
  | .eql => some (.bool (bl (a = b)))
  | .neq => some (.bool (bl (a ≠ b)))
  | _ => none
/-- what a pure operation yields -/
def pstep (E : Env) : Op → Option Value
  | .move x => ev E x
  | .assign x => ev E x
  | .pick c a b => match ev E c with
    | some (.bool true) => ev E a
    | some (.bool false) => ev E b
    | _ => none
  | .extract x i => match ev E x with
    | some (.tuple vs) => lget vs.toList i
    | _ => none
  | .nilCheck x => match ev E x with
    | some (.pointer (some p)) => some (.pointer (some p))
    | some (.func (.func f) a b) => some (.func (.func f) a b)
    | _ => none
  | .binOp op _ x y _ => match ev E x, ev E y with
    | some (.int k a), some (.int k' b) => bif kEq k k' then cmpV op a b else none
    | _, _ => none
  | .unOp .not _ x => match ev E x with
    | some (.bool b) => some (.bool (!b))
    | _ => none
  | .makeFunc (.func f) first captured => match evs E first.toList, evs E captured.toList with
    | some a, some b => some (.func (.func f) a.toArray b.toArray)
    | _, _ => none
  | _ => none

theorem run_cmp {op : BinOp} {t : TypeId} {x y : Operand} {k : IntKind} {a b : Int} {v : Value} {w : World} (h : cmpV op a b = some v) : (do eqGuard op t x y (.int k a) (.int k b); binOp op t (.int k a) (.int k b) : Sem Value).run P w = .ok v w := by
  unfold cmpV at h
  cases op <;> simp only [Option.some.injEq, reduceCtorEq] at h <;> subst h
  · simp [eqGuard_at_int, binOp_eql, bl_eq]; by_cases e : a = b <;> simp [e]
  · simp [eqGuard_at_int, binOp_neq, bl_eq]; by_cases e : a = b <;> simp [e]
  · simp [eqGuard_at_int, binOp_lss, bl_eq]
  · simp [eqGuard_at_int, binOp_leq, bl_eq]
  · simp [eqGuard_at_int, binOp_gtr, bl_eq]
  · simp [eqGuard_at_int, binOp_geq, bl_eq]

theorem pstep_ok {op : Op} {v : Value} (h : pstep E op = some v) {N d : Nat} {ty : TypeId} {pos : String} {af : Array Edge} {a : Act} {w : World} (hf : Fr N E a) :
    (execOp a.eval ⟨some d, op, ty, pos, af, none⟩).run P w = .ok (.value v) w := by
  cases op <;> first | (simp only [pstep, reduceCtorEq] at h; done) | skip
  case move x => simp only [pstep] at h; simp [execOp, hf.eval h]
  case assign x => simp only [pstep] at h; simp [execOp, hf.eval h]
  case pick c x y =>
    simp only [pstep] at h
    split at h
    · rename_i hc; simp [execOp, hf.eval hc, hf.eval h, asBool]
    · rename_i hc; simp [execOp, hf.eval hc, hf.eval h, asBool]
    · cases h
  case extract x i =>
    simp only [pstep] at h
    split at h
    · rename_i vs hx
      rw [lget_eq] at h
      have h' : vs[i]? = some v := by simpa using h
      simp [execOp, hf.eval hx, Instr.extract, h']
    · cases h
  case nilCheck x =>
    simp only [pstep] at h
    split at h
    · rename_i p hx; cases h; simp [execOp, hf.eval hx]
    · rename_i f b c hx; cases h; simp [execOp, hf.eval hx]
    · cases h
  case binOp op t x y t' =>
    simp only [pstep] at h
    split at h
    · rename_i k a' k' b hx hy
      cases hk : kEq k k' with
      | false => rw [hk] at h; cases h
      | true =>
        rw [hk] at h
        have := kEq_eq hk
        subst this
        have := run_cmp (P := P) (t := t) (x := x) (y := y) (k := k) (w := w) h
        simp only [Sem.run_bind] at this
        simp only [execOp, hf.eval hx, hf.eval hy, Sem.run_bind]
        rw [this]; simp
    · cases h
  case unOp op t x =>
    cases op <;> simp only [pstep, reduceCtorEq] at h
    split at h
    · rename_i b hx; cases h; simp [execOp, hf.eval hx, Op.unary]
    · cases h
  case makeFunc fn first captured =>
    cases fn <;> simp only [pstep, reduceCtorEq] at h
    split at h
    · rename_i b c h1 h2
      cases h
      have e1 := evs_map hf h1
      have e2 := evs_map hf h2
      have e1' : first.map a.eval = b.toArray := by rw [← e1]; exact (Array.toList_inj.1 (by rw [Array.toList_map]))
      have e2' : captured.map a.eval = c.toArray := by rw [← e2]; exact (Array.toList_inj.1 (by rw [Array.toList_map]))
      simp [execOp, Instr.makeFunc, e1', e2']
    · cases h
section rules
variable {ops : Array Oper} {K : KP} {rest : List Oper} {d : Nat} {ty : TypeId} {pos : String} {af : Array Edge} {x y z : Operand} {T T' : TypeId} {op : Op}
theorem pstep_nd (h : (pstep E op).isSome = true) : ∀ c, op ≠ .defer c := by intro c e; subst e; simp [pstep] at h
/-- a pure operation -/
theorem WO.p {v : Value} (h : pstep E op = some v) (hN : Nat.blt d C.N = true) (hr : WO C ops rest K ((d, v) :: E) H) : WO C ops (⟨some d, op, ty, pos, af, none⟩ :: rest) K E H :=
  WO.pure v (pstep_nd (by rw [h]; rfl)) (fun L a w hf _ => pstep_ok h hf) hN hr
/-- what the guard says -/
def gsay (ops : Array Oper) (E : Env) (j : Nat) (want : Bool) : Option Bool :=
  match (ops[j]?).bind (·.dst) with
  | some dj => match lk E dj with
    | some (.bool true) => some want
    | some (.bool false) => some (!want)
    | some (.tuple _) => some false
    | _ => none
  | none => none
theorem gsay_t {j : Nat} {want : Bool} (h : gsay ops E j want = some true) : ∃ dj, (ops[j]?).bind (·.dst) = some dj ∧ lk E dj = some (.bool want) := by
  unfold gsay at h
  split at h
  · rename_i dj hd
    refine ⟨dj, hd, ?_⟩
    split at h
    · rename_i hl; simp at h; rw [h]; exact hl
    · rename_i hl; simp at h; rw [h]; exact hl
    · cases h
    · cases h
  · cases h
theorem gsay_f {j : Nat} {want : Bool} (h : gsay ops E j want = some false) : ∃ dj v, (ops[j]?).bind (·.dst) = some dj ∧ lk E dj = some v ∧ (v = .bool (!want) ∨ ∃ a, v = .tuple a) := by
  unfold gsay at h
  split at h
  · rename_i dj hd
    refine ⟨dj, ?_⟩
    split at h
    · rename_i hl; simp at h; rw [h]; exact ⟨_, hd, hl, .inl rfl⟩
    · rename_i hl; simp at h; rw [h]; exact ⟨_, hd, hl, .inl rfl⟩
    · rename_i hl; exact ⟨_, hd, hl, .inr ⟨_, rfl⟩⟩
    · cases h
  · cases h
/-- a pure operation whose guard says yes -/
theorem WO.pg {v : Value} {j : Nat} {want : Bool} (hg : gsay ops E j want = some true) (h : pstep E op = some v) (hN : Nat.blt d C.N = true) (hr : WO C ops rest K ((d, v) :: E) H) : WO C ops (⟨some d, op, ty, pos, af, some (j, want)⟩ :: rest) K E H :=
  let ⟨_, h1, h2⟩ := gsay_t hg; WO.go h1 h2 (WO.p h hN hr)
theorem WO.go' {dst : Option Tmp} {j : Nat} {want : Bool} (hg : gsay ops E j want = some true) (hr : WO C ops (⟨dst, op, ty, pos, af, none⟩ :: rest) K E H) : WO C ops (⟨dst, op, ty, pos, af, some (j, want)⟩ :: rest) K E H :=
  let ⟨_, h1, h2⟩ := gsay_t hg; WO.go h1 h2 hr
theorem WO.no {j : Nat} {want : Bool} (hg : gsay ops E j want = some false) (hN : Nat.blt d C.N = true) (hr : WO C ops rest K ((d, undef) :: E) H) : WO C ops (⟨some d, op, ty, pos, af, some (j, want)⟩ :: rest) K E H :=
  let ⟨_, _, h1, h2, h3⟩ := gsay_f hg; WO.passV h1 h2 h3 hN hr
/-- plus, minus and times -/
def arith (op : BinOp) (a b : Int) : Option Int := match op with | .add => some (a + b) | .sub => some (a - b) | .mul => some (a * b) | _ => none
theorem run_arith {bop : BinOp} {a b n : Int} {w : World} {v : Value} (h : arith bop a b = some n) (hv : .int .i64 (w64 n) = v) : (do eqGuard bop T x y (.int .i64 a) (.int .i64 b); binOp bop T (.int .i64 a) (.int .i64 b) : Sem Value).run P w = .ok v w := by
  unfold arith at h
  subst hv
  cases bop <;> simp only [Option.some.injEq, reduceCtorEq] at h <;> subst h
  · simp [binOp_add, eqGuard_add, Op.intArith]; rfl
  · simp [binOp_sub, eqGuard_sub, Op.intArith]; rfl
  · simp [binOp_mul, eqGuard_mul, Op.intArith]; rfl
theorem WO.ar {bop : BinOp} {a b n : Int} (hx : ev E x = some (.int .i64 a)) (hy : ev E y = some (.int .i64 b)) (ha : arith bop a b = some n) (hr : in64 n) (hN : Nat.blt d C.N = true) (h : WO C ops rest K ((d, .int .i64 n) :: E) H) : WO C ops (⟨some d, .binOp bop T x y T', ty, pos, af, none⟩ :: rest) K E H :=
  WO.pure _ (by simp) (fun L c w hf _ => by
    have := run_arith (P := P) (T := T) (x := x) (y := y) (w := w) ha (congrArg (Value.int .i64) (w64_in hr))
    simp only [Sem.run_bind] at this
    simp only [execOp, hf.eval hx, hf.eval hy, Sem.run_bind]
    rw [this]; simp) hN h
theorem WO.arw {bop : BinOp} {a b n : Int} (hx : ev E x = some (.int .i64 a)) (hy : ev E y = some (.int .i64 b)) (ha : arith bop a b = some n) (hN : Nat.blt d C.N = true) (h : WO C ops rest K ((d, .int .i64 (w64 n)) :: E) H) : WO C ops (⟨some d, .binOp bop T x y T', ty, pos, af, none⟩ :: rest) K E H :=
  WO.pure _ (by simp) (fun L c w hf _ => by
    have := run_arith (P := P) (T := T) (x := x) (y := y) (w := w) ha rfl
    simp only [Sem.run_bind] at this
    simp only [execOp, hf.eval hx, hf.eval hy, Sem.run_bind]
    rw [this]; simp) hN h
end rules
/-- a statement of operations, and what stands behind it -/
theorem W.sreg {Q : Post} {id : Nat} {l : List Oper} {y : Code} (h : WO C l.toArray l (fun E H => W C y Q E H) E H) : W C (.seq (.region id l.toArray false) y) Q E H := W.seq (W.region h)

section
variable {c : Code} {Q : Post}
theorem W.loop2 {X Y : Type} (p : X → Y → Prop) (e : X → Y → Env) (m : X → Y → List HP) (μ : X → Y → Nat) (x10 : X) (x20 : Y) (h0 : p x10 x20) (hE : EnvIn E (e x10 x20)) (hH : Sub H (m x10 x20))
    (round : ∀ x1 x2, p x1 x2 → W C c (thn (fun E' H' => ∃ x1' x2', p x1' x2' ∧ μ x1' x2' < μ x1 x2 ∧ EnvIn E' (e x1' x2') ∧ Sub H' (m x1' x2')) Q) (e x1 x2) (m x1 x2)) : W C (.loop c) Q E H :=
  W.loop (X := X × Y) (fun x => p x.1 x.2) (fun x => e x.1 x.2) (fun x => m x.1 x.2) (fun x => μ x.1 x.2) (x10, x20) h0 hE hH fun x hp => (round x.1 x.2 hp).mono fun ex E' H' q => by
    cases ex <;> first | exact q | skip
    obtain ⟨x1', x2', a, b, c', d⟩ := q
    exact ⟨(x1', x2'), a, b, c', d⟩
theorem W.loop3 {X Y Z : Type} (p : X → Y → Z → Prop) (e : X → Y → Z → Env) (m : X → Y → Z → List HP) (μ : X → Y → Z → Nat) (x10 : X) (x20 : Y) (x30 : Z) (h0 : p x10 x20 x30) (hE : EnvIn E (e x10 x20 x30)) (hH : Sub H (m x10 x20 x30))
    (round : ∀ x1 x2 x3, p x1 x2 x3 → W C c (thn (fun E' H' => ∃ x1' x2' x3', p x1' x2' x3' ∧ μ x1' x2' x3' < μ x1 x2 x3 ∧ EnvIn E' (e x1' x2' x3') ∧ Sub H' (m x1' x2' x3')) Q) (e x1 x2 x3) (m x1 x2 x3)) : W C (.loop c) Q E H :=
  W.loop (X := X × Y × Z) (fun x => p x.1 x.2.1 x.2.2) (fun x => e x.1 x.2.1 x.2.2) (fun x => m x.1 x.2.1 x.2.2) (fun x => μ x.1 x.2.1 x.2.2) (x10, x20, x30) h0 hE hH fun x hp => (round x.1 x.2.1 x.2.2 hp).mono fun ex E' H' q => by
    cases ex <;> first | exact q | skip
    obtain ⟨x1', x2', x3', a, b, c', d⟩ := q
    exact ⟨(x1', x2', x3'), a, b, c', d⟩
theorem W.loop4 {X Y Z U : Type} (p : X → Y → Z → U → Prop) (e : X → Y → Z → U → Env) (m : X → Y → Z → U → List HP) (μ : X → Y → Z → U → Nat) (x10 : X) (x20 : Y) (x30 : Z) (x40 : U) (h0 : p x10 x20 x30 x40) (hE : EnvIn E (e x10 x20 x30 x40)) (hH : Sub H (m x10 x20 x30 x40))
    (round : ∀ x1 x2 x3 x4, p x1 x2 x3 x4 → W C c (thn (fun E' H' => ∃ x1' x2' x3' x4', p x1' x2' x3' x4' ∧ μ x1' x2' x3' x4' < μ x1 x2 x3 x4 ∧ EnvIn E' (e x1' x2' x3' x4') ∧ Sub H' (m x1' x2' x3' x4')) Q) (e x1 x2 x3 x4) (m x1 x2 x3 x4)) : W C (.loop c) Q E H :=
  W.loop (X := X × Y × Z × U) (fun x => p x.1 x.2.1 x.2.2.1 x.2.2.2) (fun x => e x.1 x.2.1 x.2.2.1 x.2.2.2) (fun x => m x.1 x.2.1 x.2.2.1 x.2.2.2) (fun x => μ x.1 x.2.1 x.2.2.1 x.2.2.2) (x10, x20, x30, x40) h0 hE hH fun x hp => (round x.1 x.2.1 x.2.2.1 x.2.2.2 hp).mono fun ex E' H' q => by
    cases ex <;> first | exact q | skip
    obtain ⟨x1', x2', x3', x4', a, b, c', d⟩ := q
    exact ⟨(x1', x2', x3', x4'), a, b, c', d⟩
theorem W.loop5 {X Y Z U V : Type} (p : X → Y → Z → U → V → Prop) (e : X → Y → Z → U → V → Env) (m : X → Y → Z → U → V → List HP) (μ : X → Y → Z → U → V → Nat) (x10 : X) (x20 : Y) (x30 : Z) (x40 : U) (x50 : V) (h0 : p x10 x20 x30 x40 x50) (hE : EnvIn E (e x10 x20 x30 x40 x50)) (hH : Sub H (m x10 x20 x30 x40 x50))
    (round : ∀ x1 x2 x3 x4 x5, p x1 x2 x3 x4 x5 → W C c (thn (fun E' H' => ∃ x1' x2' x3' x4' x5', p x1' x2' x3' x4' x5' ∧ μ x1' x2' x3' x4' x5' < μ x1 x2 x3 x4 x5 ∧ EnvIn E' (e x1' x2' x3' x4' x5') ∧ Sub H' (m x1' x2' x3' x4' x5')) Q) (e x1 x2 x3 x4 x5) (m x1 x2 x3 x4 x5)) : W C (.loop c) Q E H :=
  W.loop (X := X × Y × Z × U × V) (fun x => p x.1 x.2.1 x.2.2.1 x.2.2.2.1 x.2.2.2.2) (fun x => e x.1 x.2.1 x.2.2.1 x.2.2.2.1 x.2.2.2.2) (fun x => m x.1 x.2.1 x.2.2.1 x.2.2.2.1 x.2.2.2.2) (fun x => μ x.1 x.2.1 x.2.2.1 x.2.2.2.1 x.2.2.2.2) (x10, x20, x30, x40, x50) h0 hE hH fun x hp => (round x.1 x.2.1 x.2.2.1 x.2.2.2.1 x.2.2.2.2 hp).mono fun ex E' H' q => by
    cases ex <;> first | exact q | skip
    obtain ⟨x1', x2', x3', x4', x5', a, b, c', d⟩ := q
    exact ⟨(x1', x2', x3', x4', x5'), a, b, c', d⟩
end
end
end Go.TH
