/-
  What is proved here: calls of function values. Conditions: none; each rule states its own.
-/
import Derived.Test.YtgihklgpehfbpaaKn
namespace Go.TH
open Go
section
variable {P : Program} {C : Cx P} {E : Env} {H : List HP}
variable {ops : Array Oper} {K : KP} {rest : List Oper} {d : Nat} {ty : TypeId} {pos : String} {af : Array Edge} {x : Operand} {xs : List Operand} {ats : Array TypeId} {f : FuncId} {first captured vs : List Value}
/-- no piece is handed over -/
theorem WO.callC {Post : Value → List HP → Prop} (hx : ev E x = some (.func (.func f) first.toArray captured.toArray)) (hxs : evs E xs = some vs) (hcall : ∀ (args : Array Value) (w : World), (callFunc f args).run P w = .ok (.enter f args) w)
    (hspec : ∀ (L : List HP) w, Inv C.w0 C.M (L ++ H) w → Ct P f (first ++ vs ++ captured).toArray w fun v w' => ∃ Hq, Post v Hq ∧ Inv w [] Hq w') (hN : Nat.blt d C.N = true)
    (h : ∀ v Hq, Post v Hq → WO C ops rest K ((d, v) :: E) (Hq ++ H)) : WO C ops (⟨some d, .call ⟨.value x, xs.toArray, ats⟩, ty, pos, af, none⟩ :: rest) K E H := by
  refine WO.step rfl rfl hN (XO.callF (Hp := []) (Hr := H) (Post := Post) (first := first.toArray) (captured := captured.toArray) hx hxs hcall (Sub.refl _) (fun L w M' hi _ _ => ?_) h)
  have hc := hspec L w hi
  have e : first.toArray ++ vs.toArray ++ captured.toArray = (first ++ vs ++ captured).toArray := by simp
  rw [e]
  refine hc.mono fun v w' ⟨Hq, hp, hi'⟩ => ⟨Hq, hp, ?_⟩
  exact ⟨hi'.os, hi'.tape, hi'.output, hi'.size, fun k hk _ => hi'.keep k hk (by simp), sat_sub Hq (fun k o ho => by
    unfold own at ho ⊢
    split at ho
    · cases ho
    · rename_i hn
      rw [if_neg (fun hh => hn ⟨hh.1, by simp⟩)]; exact ho) hi'.mine⟩
theorem WO.callCR {r : Value} (hx : ev E x = some (.func (.func f) first.toArray captured.toArray)) (hxs : evs E xs = some vs) (hcall : ∀ (args : Array Value) (w : World), (callFunc f args).run P w = .ok (.enter f args) w)
    (hspec : ∀ (L : List HP) w, Inv C.w0 C.M (L ++ H) w → Ret P f (first ++ vs ++ captured).toArray w r) (hN : Nat.blt d C.N = true)
    (h : WO C ops rest K ((d, r) :: E) H) : WO C ops (⟨some d, .call ⟨.value x, xs.toArray, ats⟩, ty, pos, af, none⟩ :: rest) K E H :=
  WO.callC hx hxs hcall hspec hN fun v Hq ⟨e1, e2⟩ => by subst e1; subst e2; exact h
/-- what a function value's own variable holds, when it is called -/
structure Cap (w : World) (p : Addr) (v : Value) : Prop where
  lt : p.block < w.heap.size
  at_ : w.cell? p = some v
theorem Cap.of {b off : Nat} {cs : List Value} {t : TypeId} {fr : Nat × Nat} {H' L : List HP} {v : Value} {w : World} (p : Pick (pt b (.cells cs.toArray t fr)) H H') (hv : lget cs off = some v) (hi : Inv C.w0 C.M (L ++ H) w) : Cap w ⟨b, off, none⟩ v :=
  ⟨by have h1 := (hi.look (p.app L)).1; exact (Array.getElem?_eq_some_iff.1 h1).1, Cell.own (C := C) p hv L w hi⟩
theorem Cap.old {p : Addr} {v : Value} {L : List HP} {w : World} (hB : C.B = C.w0.heap.size) (h : Cap C.w0 p v) (hi : Inv C.w0 C.M (L ++ H) w) : Cap w p v :=
  ⟨by have h1 := h.lt; have h2 := hi.size; omega, Cell.old (C := C) (H := H) (by rw [hB]; exact h.lt) h.at_ L w hi⟩
theorem Cap.cell {p : Addr} {v : Value} (hB : C.B = C.w0.heap.size) (h : Cap C.w0 p v) : Cell C H p v := Cell.old (by rw [hB]; exact h.lt) h.at_
/-- a contract that says something of the result -/
def RetE (P : Program) (f : FuncId) (args : Array Value) (w : World) (Q : Value → Prop) : Prop := Ct P f args w fun v w' => ∃ Hq, (Q v ∧ Hq = []) ∧ Inv w [] Hq w'
theorem RetE.of {f : FuncId} {fn : Func} {c : Code} {vs : List Value} {w : World} {Q : Value → Prop} (hm : P.follows .mixedOrders = true) (tt : TTab P)
    (hf : P.funcs[f]? = some fn) (hb : fn.body = some c) (ha : Nat.ble vs.length fn.ntmps = true)
    (h : W (fnCx hm tt fn.ntmps w) c (fin (fnCx hm tt fn.ntmps w) fn (fun v _ => Q v)) (enumE 0 vs) []) : RetE P f vs.toArray w Q :=
  (Ct.of hm tt hf hb ha h).mono fun v w' ⟨Hq, q, hi⟩ => ⟨[], ⟨q, rfl⟩, hi.sub .nil⟩
theorem WO.callE {Q : Value → Prop} (hxs : evs E xs = some vs) (hcall : ∀ (args : Array Value) (w : World), (callFunc f args).run P w = .ok (.enter f args) w)
    (hspec : ∀ (L : List HP) w, Inv C.w0 C.M (L ++ H) w → RetE P f vs.toArray w Q) (hN : Nat.blt d C.N = true)
    (h : ∀ v, Q v → WO C ops rest K ((d, v) :: E) H) : WO C ops (⟨some d, .call ⟨.value (.func f), xs.toArray, ats⟩, ty, pos, af, none⟩ :: rest) K E H :=
  WO.call hxs hcall hspec hN fun v Hq ⟨e1, e2⟩ => by subst e2; exact h v e1
end
end Go.TH
