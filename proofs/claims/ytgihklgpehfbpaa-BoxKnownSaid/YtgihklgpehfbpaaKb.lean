/-
  What is proved here: the rules of a small program logic for the operations of a region. Conditions: none; each rule states its own.
-/
import Derived.Test.YtgihklgpehfbpaaKa
import Derived.Laws.StructEq
import Derived.Laws.Small
import Derived.Laws.Tables
import Derived.Laws.MakeOwn
import Derived.Laws.Slices
import Derived.IntWalk
namespace Go.TH
open Go

theorem Oper.wpIn_mono2 {F : Fence} {n : Nat} {P : Program} {o : Oper} {a : Act} {w : World} {K K' : Act → World → Prop} {Q Q' : Exit → Act → World → Prop} (h : ∀ a w, K a w → K' a w) (hQ : ∀ e a w, e ≠ .normal → Q e a w → Q' e a w)
    (hh : o.wpIn F n P a w K Q) : o.wpIn F n P a w K' Q' := by
  unfold Oper.wpIn at *
  refine ⟨hh.1, ?_⟩
  have hh := hh.2
  have hL : LetsOut Q → LetsOut Q' := fun ⟨a, w, q⟩ => ⟨a, w, hQ _ _ _ (by simp) q⟩
  generalize (o.semAt F.round a.eval).run P w = r at *
  cases r with
  | ok x w' =>
    cases x <;> simp only [Oper.uponIn] at hh ⊢ <;>
      first
        | exact h _ _ hh
        | exact ⟨hh.1, CallsIn.mono hh.2 (fun e w'' he => by cases e <;> first | exact h _ _ he | exact hQ _ _ _ (by simp) he | exact hL he)⟩
        | exact ⟨hh.1, RowsIn.mono hh.2 (fun _ _ he => h _ _ he)⟩
        | exact ⟨hh.1, RoundIn.mono hh.2 (fun e w'' he => by cases e <;> first | exact h _ _ he | exact hQ _ _ _ (by simp) he | exact hL he)⟩
  | halt x w' => cases x <;> simp only [Oper.uponIn] at hh ⊢ <;> first | exact hh | exact hQ _ _ _ (by simp) hh

section
variable {P : Program} {T : TypeId} {w : World}
theorem run_isAgg {b : Bool} (h : isAggB P T = some b) : (isAgg T).run P w = .ok b w := by
  unfold isAggB at h
  cases hu : P.underlying T with
  | none => simp [hu] at h
  | some d =>
    simp only [hu, Option.map_some, Option.some.injEq] at h
    simp only [isAgg, Sem.run_bind, run_underlying hu, Result.andThen_ok]
    cases d <;> simp_all
theorem run_sizeOf {n : Nat} (h : szv P T = some n) : (sizeOf T).run P w = .ok n w := by
  unfold szv at h
  cases hu : P.info? T with
  | none => simp [hu] at h
  | some i => simp [hu] at h; simp [sizeOf, typeInfo, hu, h]
theorem run_zeroValue {z : Value} (h : zv P T = some z) : (zeroValue T).run P w = .ok z w := by
  unfold zv at h
  cases hu : P.info? T with
  | none => simp [hu] at h
  | some i => simp [hu] at h; simp [zeroValue, typeInfo, hu, h]
theorem run_loadVar1 {p : Addr} {v : Value} (hT : CT P T) (h : w.cell? p = some v) : (loadVar T p).run P w = .ok v w := by
  simp only [loadVar, Sem.run_bind, run_isAgg hT.one, Result.andThen_ok]
  simp [h]
theorem run_loadVarA {p : Addr} {n : Nat} {vs : List Value} (hT : AT P T n) (hl : vs.length = n) (h : ∀ j v, vs[j]? = some v → w.cell? (p.add j) = some v) : (loadVar T p).run P w = .ok (.agg vs.toArray) w := by
  simp only [loadVar, Sem.run_bind, run_isAgg hT.agg, Result.andThen_ok, if_true, run_sizeOf hT.size]
  rw [← hl, run_loadCells_list w p vs h]
  simp
end

section
variable {P : Program} {C : Cx P} {E : Env} {H : List HP}

abbrev KP := Env → List HP → Prop
/-- the law of a list of operations -/
def WO (C : Cx P) (ops : Array Oper) (l : List Oper) (K : KP) (E : Env) (H : List HP) : Prop :=
  ∀ L ds a w, St C L ds E H a w → wpListIn C.F 0 P ops (fun e a' w' => ∃ ds' E' H', thn K (fun _ _ _ => False) e E' H' ∧ St C L ds' E' H' a' w') l a w

theorem W.region {Q : Post} {id : Nat} {l : List Oper} (h : WO C l.toArray l (Q .normal) E H) : W C (.region id l.toArray false) Q E H := by
  intro L ds a w hs
  refine wpIn_mono (wpIn_region_lit (h L ds a w hs)) ?_
  rintro e a' w' ⟨ds', E', H', q, s⟩
  cases e <;> first | exact ⟨ds', E', H', q, s⟩ | exact q.elim

theorem WO.nil {ops : Array Oper} {K : KP} (h : K E H) : WO C ops [] K E H := fun L ds a w hs => wpListIn_nil ⟨ds, E, H, h, hs⟩

/-- one operation: what it yields, and the pieces that it leaves; other pieces (L) stay -/
def XO (C : Cx P) (o : Oper) (X : Value → List HP → Prop) (E : Env) (H : List HP) : Prop :=
  ∀ (L : List HP) a w, Fr C.N E a → Inv C.w0 C.M (L ++ H) w →
    o.wpIn C.F 0 P a w (fun a' w' => ∃ v H', X v H' ∧ a' = a.put o.dst v ∧ Inv C.w0 C.M (L ++ H') w') (fun _ _ _ => False)

theorem XO.mono {o : Oper} {X X' : Value → List HP → Prop} (h : XO C o X E H) (hX : ∀ v H, X v H → X' v H) : XO C o X' E H :=
  fun L a w hf hi => Oper.wpIn_mono (fun _ _ ⟨v, H', x, r⟩ => ⟨v, H', hX v H' x, r⟩) (h L a w hf hi)

theorem act_put_defers (a : Act) (d : Option Tmp) (v : Value) : (a.put d v).defers = a.defers := by cases d <;> rfl

theorem WO.step {ops : Array Oper} {K : KP} {o : Oper} {rest : List Oper} {d : Nat} (hg : o.guard = none) (hd : o.dst = some d) (hN : Nat.blt d C.N = true)
    (hx : XO C o (fun v H' => WO C ops rest K ((d, v) :: E) H') E H) : WO C ops (o :: rest) K E H := by
  intro L ds a w hs
  refine wpListIn_plain hg fun K' hK => ?_
  refine Oper.wpIn_mono2 ?_ (fun _ _ _ _ h => h.elim) (hx _ a w hs.fr hs.inv)
  rintro a' w' ⟨v, H', x, rfl, hi⟩
  refine hK _ _ (x L ds _ w' ⟨?_, ?_, hi⟩)
  · rw [act_put_defers]; exact hs.defers
  · rw [hd]; exact hs.fr.put hN

theorem WO.step0 {ops : Array Oper} {K : KP} {o : Oper} {rest : List Oper} (hg : o.guard = none) (hd : o.dst = none)
    (hx : XO C o (fun _ H' => WO C ops rest K E H') E H) : WO C ops (o :: rest) K E H := by
  intro L ds a w hs
  refine wpListIn_plain hg fun K' hK => ?_
  refine Oper.wpIn_mono2 ?_ (fun _ _ _ _ h => h.elim) (hx _ a w hs.fr hs.inv)
  rintro a' w' ⟨v, H', x, rfl, hi⟩
  refine hK _ _ (x L ds _ w' ⟨?_, ?_, hi⟩)
  · rw [act_put_defers]; exact hs.defers
  · rw [hd]; exact hs.fr

/-- a guarded operation whose guard says yes -/
theorem WO.go {ops : Array Oper} {K : KP} {dst : Option Tmp} {op : Op} {ty : TypeId} {pos : String} {af : Array Edge} {rest : List Oper} {j dj : Nat} {want : Bool}
    (hj : (ops[j]?).bind (·.dst) = some dj) (hb : lk E dj = some (.bool want))
    (h : WO C ops (⟨dst, op, ty, pos, af, none⟩ :: rest) K E H) : WO C ops (⟨dst, op, ty, pos, af, some (j, want)⟩ :: rest) K E H := by
  intro L ds a w hs
  have h1 := h L ds a w hs
  have hw : Region.wanted ⟨dst, op, ty, pos, af, some (j, want)⟩ (yielded ops a.tmps) = true := by
    simp [Region.wanted, yielded, hj, hs.fr.get _ _ hb]
  simp only [wpListIn, hw, if_true] at h1 ⊢
  exact h1
/-- and no: it is passed -/
theorem WO.pass {ops : Array Oper} {K : KP} {d : Nat} {op : Op} {ty : TypeId} {pos : String} {af : Array Edge} {rest : List Oper} {j dj : Nat} {want b : Bool}
    (hj : (ops[j]?).bind (·.dst) = some dj) (hb : lk E dj = some (.bool b)) (hne : b = !want) (hN : Nat.blt d C.N = true)
    (h : WO C ops rest K ((d, undef) :: E) H) : WO C ops (⟨some d, op, ty, pos, af, some (j, want)⟩ :: rest) K E H := by
  intro L ds a w hs
  have hw : Region.wanted ⟨some d, op, ty, pos, af, some (j, want)⟩ (yielded ops a.tmps) = false := by
    simp only [Region.wanted, yielded, hj, Option.bind_some, hs.fr.get _ _ hb, hne]
    cases want <;> rfl
  simp only [wpListIn, hw]
  exact ⟨fun _ _ => trivial, h L ds _ w ⟨by rw [act_put_defers]; exact hs.defers, hs.fr.put hN, hs.inv⟩⟩

theorem WO.passV {ops : Array Oper} {K : KP} {d : Nat} {op : Op} {ty : TypeId} {pos : String} {af : Array Edge} {rest : List Oper} {j dj : Nat} {want : Bool} {v : Value}
    (hj : (ops[j]?).bind (·.dst) = some dj) (hb : lk E dj = some v) (hne : v = .bool (!want) ∨ ∃ a, v = .tuple a) (hN : Nat.blt d C.N = true)
    (h : WO C ops rest K ((d, undef) :: E) H) : WO C ops (⟨some d, op, ty, pos, af, some (j, want)⟩ :: rest) K E H := by
  intro L ds a w hs
  have hw : Region.wanted ⟨some d, op, ty, pos, af, some (j, want)⟩ (yielded ops a.tmps) = false := by
    rcases hne with rfl | ⟨u, rfl⟩
    · simp only [Region.wanted, yielded, hj, Option.bind_some, hs.fr.get _ _ hb]
      cases want <;> rfl
    · simp only [Region.wanted, yielded, hj, Option.bind_some, hs.fr.get _ _ hb]
      rfl
  simp only [wpListIn, hw]
  exact ⟨fun _ _ => trivial, h L ds _ w ⟨by rw [act_put_defers]; exact hs.defers, hs.fr.put hN, hs.inv⟩⟩

/-- a test is parted on: the temporary then holds its answer, written out -/
theorem WO.part {ops : Array Oper} {K : KP} {l : List Oper} {dj : Nat} {b : Bool} (hb : lk E dj = some (.bool b))
    (ht : b = true → WO C ops l K ((dj, .bool true) :: E) H) (hf : b = false → WO C ops l K ((dj, .bool false) :: E) H) : WO C ops l K E H := by
  intro L ds a w hs
  have key : ∀ c, b = c → Fr C.N ((dj, .bool c) :: E) a := fun c e => by
    subst e
    refine hs.fr.weaken fun t v hv => ?_
    simp only [lk] at hv
    cases hb' : Nat.beq dj t with
    | true => rw [hb'] at hv; simp at hv; have := Nat.eq_of_beq_eq_true hb'; subst this; subst hv; exact hb
    | false => rw [hb'] at hv; simpa using hv
  cases b with
  | true => exact ht rfl L ds a w ⟨hs.defers, key _ rfl, hs.inv⟩
  | false => exact hf rfl L ds a w ⟨hs.defers, key _ rfl, hs.inv⟩

theorem XO.run {o : Oper} {X : Value → List HP → Prop} (hnd : ∀ c, o.op ≠ .defer c)
    (h : ∀ (L : List HP) a w, Fr C.N E a → Inv C.w0 C.M (L ++ H) w → ∃ v w' H', ((execOp a.eval o).run P w = .ok (.value v) w' ∨ ((execOp a.eval o).run P w = .ok .skip w' ∧ v = undef)) ∧ X v H' ∧ Inv C.w0 C.M (L ++ H') w') : XO C o X E H := by
  intro L a w hf hi
  obtain ⟨v, w', H', hr, hx, hi'⟩ := h L a w hf hi
  refine ⟨fun _ _ => trivial, ?_⟩
  rw [Oper.semAt_eq _ _ _ hnd]
  rcases hr with hr | ⟨hr, rfl⟩
  · rw [hr]; exact ⟨v, H', hx, rfl, hi'⟩
  · rw [hr]; exact ⟨_, H', hx, rfl, hi'⟩

/-- an operation that only yields a value -/
theorem WO.pure {ops : Array Oper} {K : KP} {rest : List Oper} {d : Nat} {op : Op} {ty : TypeId} {pos : String} {af : Array Edge} (v : Value) (hnd : ∀ c, op ≠ .defer c)
    (hv : ∀ (L : List HP) a w, Fr C.N E a → Inv C.w0 C.M (L ++ H) w → (execOp a.eval ⟨some d, op, ty, pos, af, none⟩).run P w = .ok (.value v) w) (hN : Nat.blt d C.N = true) (h : WO C ops rest K ((d, v) :: E) H) :
    WO C ops (⟨some d, op, ty, pos, af, none⟩ :: rest) K E H :=
  WO.step rfl rfl hN (XO.run hnd fun L a w hf hi => ⟨v, w, H, .inl (hv L a w hf hi), h, hi⟩)

section rules
variable {ops : Array Oper} {K : KP} {rest : List Oper} {d : Nat} {ty : TypeId} {pos : String} {af : Array Edge} {x y z : Operand} {T T' : TypeId}

theorem WO.move {v : Value} (hx : ev E x = some v) (hN : Nat.blt d C.N = true) (h : WO C ops rest K ((d, v) :: E) H) : WO C ops (⟨some d, .move x, ty, pos, af, none⟩ :: rest) K E H :=
  WO.pure v (by simp) (fun L a w hf _ => by simp [execOp, hf.eval hx]) hN h
theorem WO.assign {v : Value} (hx : ev E x = some v) (hN : Nat.blt d C.N = true) (h : WO C ops rest K ((d, v) :: E) H) : WO C ops (⟨some d, .assign x, ty, pos, af, none⟩ :: rest) K E H :=
  WO.pure v (by simp) (fun L a w hf _ => by simp [execOp, hf.eval hx]) hN h
theorem WO.pick_t {v : Value} (hc : ev E x = some (.bool true)) (hx : ev E y = some v) (hN : Nat.blt d C.N = true) (h : WO C ops rest K ((d, v) :: E) H) : WO C ops (⟨some d, .pick x y z, ty, pos, af, none⟩ :: rest) K E H :=
  WO.pure v (by simp) (fun L a w hf _ => by simp [execOp, hf.eval hc, hf.eval hx, asBool]) hN h
theorem WO.pick_f {v : Value} (hc : ev E x = some (.bool false)) (hx : ev E z = some v) (hN : Nat.blt d C.N = true) (h : WO C ops rest K ((d, v) :: E) H) : WO C ops (⟨some d, .pick x y z, ty, pos, af, none⟩ :: rest) K E H :=
  WO.pure v (by simp) (fun L a w hf _ => by simp [execOp, hf.eval hc, hf.eval hx, asBool]) hN h
theorem WO.extract {vs : List Value} {i : Nat} {v : Value} (hx : ev E x = some (.tuple vs.toArray)) (hi : vs[i]? = some v) (hN : Nat.blt d C.N = true) (h : WO C ops rest K ((d, v) :: E) H) : WO C ops (⟨some d, .extract x i, ty, pos, af, none⟩ :: rest) K E H :=
  WO.pure v (by simp) (fun L a w hf _ => by simp [execOp, hf.eval hx, Instr.extract, hi]) hN h
theorem WO.nilCheck {p : Addr} (hx : ev E x = some (.pointer (some p))) (hN : Nat.blt d C.N = true) (h : WO C ops rest K ((d, .pointer (some p)) :: E) H) : WO C ops (⟨some d, .nilCheck x, ty, pos, af, none⟩ :: rest) K E H :=
  WO.pure _ (by simp) (fun L a w hf _ => by simp [execOp, hf.eval hx]) hN h
theorem WO.nilCheckF {f : FuncId} {v1 v2 : Array Value} (hx : ev E x = some (.func (.func f) v1 v2)) (hN : Nat.blt d C.N = true) (h : WO C ops rest K ((d, .func (.func f) v1 v2) :: E) H) : WO C ops (⟨some d, .nilCheck x, ty, pos, af, none⟩ :: rest) K E H :=
  WO.pure _ (by simp) (fun L a w hf _ => by simp [execOp, hf.eval hx]) hN h

/-! ### Integers -/
/-- a number that fits into 64 bits -/
def in64 (n : Int) : Prop := -9223372036854775808 ≤ n ∧ n ≤ 9223372036854775807
/-- the number in 64 bits -/
def w64 (n : Int) : Int := IntKind.i64.wrap n
theorem w64_in {n : Int} (h : in64 n) : w64 n = n := IntWalk.i64_in n (by unfold in64 at h; omega)
/-- a proposition as a Bool that nothing lays open -/
@[irreducible] def bl (p : Prop) [Decidable p] : Bool := decide p
theorem bl_eq (p : Prop) [Decidable p] : bl p = decide p := by unfold bl; rfl
theorem bl_t {p : Prop} [Decidable p] : bl p = true ↔ p := by rw [bl_eq]; simp
theorem bl_f {p : Prop} [Decidable p] : bl p = false ↔ ¬ p := by rw [bl_eq]; simp

theorem WO.add {a b : Int} (hx : ev E x = some (.int .i64 a)) (hy : ev E y = some (.int .i64 b)) (hr : in64 (a + b)) (hN : Nat.blt d C.N = true) (h : WO C ops rest K ((d, .int .i64 (a + b)) :: E) H) : WO C ops (⟨some d, .binOp .add T x y T', ty, pos, af, none⟩ :: rest) K E H :=
  WO.pure _ (by simp) (fun L c w hf _ => by simp only [execOp, hf.eval hx, hf.eval hy]; simp [binOp_add, eqGuard_add, Op.intArith]; exact w64_in hr) hN h
theorem WO.sub {a b : Int} (hx : ev E x = some (.int .i64 a)) (hy : ev E y = some (.int .i64 b)) (hr : in64 (a - b)) (hN : Nat.blt d C.N = true) (h : WO C ops rest K ((d, .int .i64 (a - b)) :: E) H) : WO C ops (⟨some d, .binOp .sub T x y T', ty, pos, af, none⟩ :: rest) K E H :=
  WO.pure _ (by simp) (fun L c w hf _ => by simp only [execOp, hf.eval hx, hf.eval hy]; simp [binOp_sub, eqGuard_sub, Op.intArith]; exact w64_in hr) hN h
theorem WO.mul {a b : Int} (hx : ev E x = some (.int .i64 a)) (hy : ev E y = some (.int .i64 b)) (hr : in64 (a * b)) (hN : Nat.blt d C.N = true) (h : WO C ops rest K ((d, .int .i64 (a * b)) :: E) H) : WO C ops (⟨some d, .binOp .mul T x y T', ty, pos, af, none⟩ :: rest) K E H :=
  WO.pure _ (by simp) (fun L c w hf _ => by simp only [execOp, hf.eval hx, hf.eval hy]; simp [binOp_mul, eqGuard_mul, Op.intArith]; exact w64_in hr) hN h
theorem WO.addw {a b : Int} (hx : ev E x = some (.int .i64 a)) (hy : ev E y = some (.int .i64 b)) (hN : Nat.blt d C.N = true) (h : WO C ops rest K ((d, .int .i64 (w64 (a + b))) :: E) H) : WO C ops (⟨some d, .binOp .add T x y T', ty, pos, af, none⟩ :: rest) K E H :=
  WO.pure _ (by simp) (fun L c w hf _ => by simp only [execOp, hf.eval hx, hf.eval hy]; simp [binOp_add, eqGuard_add, Op.intArith]; rfl) hN h
theorem WO.subw {a b : Int} (hx : ev E x = some (.int .i64 a)) (hy : ev E y = some (.int .i64 b)) (hN : Nat.blt d C.N = true) (h : WO C ops rest K ((d, .int .i64 (w64 (a - b))) :: E) H) : WO C ops (⟨some d, .binOp .sub T x y T', ty, pos, af, none⟩ :: rest) K E H :=
  WO.pure _ (by simp) (fun L c w hf _ => by simp only [execOp, hf.eval hx, hf.eval hy]; simp [binOp_sub, eqGuard_sub, Op.intArith]; rfl) hN h
theorem WO.mulw {a b : Int} (hx : ev E x = some (.int .i64 a)) (hy : ev E y = some (.int .i64 b)) (hN : Nat.blt d C.N = true) (h : WO C ops rest K ((d, .int .i64 (w64 (a * b))) :: E) H) : WO C ops (⟨some d, .binOp .mul T x y T', ty, pos, af, none⟩ :: rest) K E H :=
  WO.pure _ (by simp) (fun L c w hf _ => by simp only [execOp, hf.eval hx, hf.eval hy]; simp [binOp_mul, eqGuard_mul, Op.intArith]; rfl) hN h
theorem WO.quo {a b : Int} (hx : ev E x = some (.int .i64 a)) (hy : ev E y = some (.int .i64 b)) (hb : b ≠ 0) (hr : in64 (a.tdiv b)) (hN : Nat.blt d C.N = true) (h : WO C ops rest K ((d, .int .i64 (a.tdiv b)) :: E) H) : WO C ops (⟨some d, .binOp .quo T x y T', ty, pos, af, none⟩ :: rest) K E H :=
  WO.pure _ (by simp) (fun L c w hf _ => by simp only [execOp, hf.eval hx, hf.eval hy]; simp [binOp_quo, eqGuard_quo, Op.intDiv, hb]; exact w64_in hr) hN h
theorem WO.rem {k : IntKind} {a b : Int} (hx : ev E x = some (.int k a)) (hy : ev E y = some (.int k b)) (hb : b ≠ 0) (hN : Nat.blt d C.N = true) (h : WO C ops rest K ((d, .int k (a.tmod b)) :: E) H) : WO C ops (⟨some d, .binOp .rem T x y T', ty, pos, af, none⟩ :: rest) K E H :=
  WO.pure _ (by simp) (fun L c w hf _ => by simp only [execOp, hf.eval hx, hf.eval hy]; simp [binOp_rem, eqGuard_rem, Op.intDiv, hb]) hN h
theorem WO.lss {k : IntKind} {a b : Int} (hx : ev E x = some (.int k a)) (hy : ev E y = some (.int k b)) (hN : Nat.blt d C.N = true) (h : WO C ops rest K ((d, .bool (bl (a < b))) :: E) H) : WO C ops (⟨some d, .binOp .lss T x y T', ty, pos, af, none⟩ :: rest) K E H :=
  WO.pure _ (by simp) (fun L c w hf _ => by simp only [execOp, hf.eval hx, hf.eval hy]; simp [binOp_lss, eqGuard_lss, bl_eq]) hN h
theorem WO.leq {k : IntKind} {a b : Int} (hx : ev E x = some (.int k a)) (hy : ev E y = some (.int k b)) (hN : Nat.blt d C.N = true) (h : WO C ops rest K ((d, .bool (bl (a ≤ b))) :: E) H) : WO C ops (⟨some d, .binOp .leq T x y T', ty, pos, af, none⟩ :: rest) K E H :=
  WO.pure _ (by simp) (fun L c w hf _ => by simp only [execOp, hf.eval hx, hf.eval hy]; simp [binOp_leq, eqGuard_leq, bl_eq]) hN h
theorem WO.gtr {k : IntKind} {a b : Int} (hx : ev E x = some (.int k a)) (hy : ev E y = some (.int k b)) (hN : Nat.blt d C.N = true) (h : WO C ops rest K ((d, .bool (bl (b < a))) :: E) H) : WO C ops (⟨some d, .binOp .gtr T x y T', ty, pos, af, none⟩ :: rest) K E H :=
  WO.pure _ (by simp) (fun L c w hf _ => by simp only [execOp, hf.eval hx, hf.eval hy]; simp [binOp_gtr, eqGuard_gtr, bl_eq]) hN h
theorem WO.geq {k : IntKind} {a b : Int} (hx : ev E x = some (.int k a)) (hy : ev E y = some (.int k b)) (hN : Nat.blt d C.N = true) (h : WO C ops rest K ((d, .bool (bl (b ≤ a))) :: E) H) : WO C ops (⟨some d, .binOp .geq T x y T', ty, pos, af, none⟩ :: rest) K E H :=
  WO.pure _ (by simp) (fun L c w hf _ => by simp only [execOp, hf.eval hx, hf.eval hy]; simp [binOp_geq, eqGuard_geq, bl_eq]) hN h
theorem WO.eql {k : IntKind} {a b : Int} (hx : ev E x = some (.int k a)) (hy : ev E y = some (.int k b)) (hN : Nat.blt d C.N = true) (h : WO C ops rest K ((d, .bool (bl (a = b))) :: E) H) : WO C ops (⟨some d, .binOp .eql T x y T', ty, pos, af, none⟩ :: rest) K E H :=
  WO.pure _ (by simp) (fun L c w hf _ => by simp only [execOp, hf.eval hx, hf.eval hy]; simp [binOp_eql, bl_eq, eqGuard_at_int]; by_cases e : a = b <;> simp [e]) hN h
theorem WO.neq {k : IntKind} {a b : Int} (hx : ev E x = some (.int k a)) (hy : ev E y = some (.int k b)) (hN : Nat.blt d C.N = true) (h : WO C ops rest K ((d, .bool (bl (a ≠ b))) :: E) H) : WO C ops (⟨some d, .binOp .neq T x y T', ty, pos, af, none⟩ :: rest) K E H :=
  WO.pure _ (by simp) (fun L c w hf _ => by simp only [execOp, hf.eval hx, hf.eval hy]; simp [binOp_neq, bl_eq, eqGuard_at_int]; by_cases e : a = b <;> simp [e]) hN h
theorem WO.not {b : Bool} (hx : ev E x = some (.bool b)) (hN : Nat.blt d C.N = true) (h : WO C ops rest K ((d, .bool (!b)) :: E) H) : WO C ops (⟨some d, .unOp .not T x, ty, pos, af, none⟩ :: rest) K E H :=
  WO.pure _ (by simp) (fun L c w hf _ => by simp only [execOp, hf.eval hx]; simp [Op.unary]) hN h
theorem WO.neg {a : Int} (hx : ev E x = some (.int .i64 a)) (hr : in64 (-a)) (hN : Nat.blt d C.N = true) (h : WO C ops rest K ((d, .int .i64 (-a)) :: E) H) : WO C ops (⟨some d, .unOp .neg T x, ty, pos, af, none⟩ :: rest) K E H :=
  WO.pure _ (by simp) (fun L c w hf _ => by simp only [execOp, hf.eval hx]; simp [Op.unary, Op.intArith]; exact w64_in hr) hN h
theorem WO.conv64 {k : IntKind} {a : Int} (hT : C.tt.it? T' = some .i64) (hs : C.tt.some? T = true) (hx : ev E x = some (.int k a)) (hr : in64 a) (hN : Nat.blt d C.N = true) (h : WO C ops rest K ((d, .int .i64 a) :: E) H) : WO C ops (⟨some d, .convert T T' x, ty, pos, af, none⟩ :: rest) K E H :=
  WO.pure _ (by simp) (fun L c w hf _ => by
    obtain ⟨ds, hd⟩ := Option.isSome_iff_exists.mp (some?_of hs)
    simp only [execOp, hf.eval hx]; simp [convert, run_underlying hd, run_underlying (IT.of hT).u, Conv.intToInt]; exact w64_in hr) hN h
end rules
end
end Go.TH
