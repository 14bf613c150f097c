/-
  What is proved here: a function's contract out of its body's law; calls; tests. Conditions: none; each rule states its own.
-/
import Derived.Test.YtgihklgpehfbpaaKd
namespace Go.TH
open Go
section
variable {P : Program} {C : Cx P} {E : Env} {H : List HP}

/-- the results of the function, read at its end -/
def Res (C : Cx P) (fn : Func) (E : Env) (H : List HP) (v : Value) : Prop := ∀ (L : List HP) a w, Fr C.N E a → Inv C.w0 C.M (L ++ H) w → (results fn a.tmps).run P w = .ok v w
def rvS (tmps : Array Value) (r : ResultVar) : Sem Value := match r with | .tmp t => Pure.pure (tmps.getD t undef) | .cell b t => do loadVar t (← asAddr (tmps.getD b undef))
theorem results_rvS (fn : Func) (tmps : Array Value) : results fn tmps = (do let vs ← fn.results.mapM (rvS tmps); pure (if h : vs.size = 1 then vs[0] else .tuple vs)) := rfl
def RV (C : Cx P) (E : Env) (H : List HP) (r : ResultVar) (v : Value) : Prop := ∀ (L : List HP) a w, Fr C.N E a → Inv C.w0 C.M (L ++ H) w → (rvS a.tmps r).run P w = .ok v w
theorem RV.tmp {t : Nat} {v : Value} (h : lk E t = some v) : RV C E H (.tmp t) v := fun L a w hf _ => by
  have := hf.get t v h
  simp [rvS, Array.getD_eq_getD_getElem?, this]
theorem RV.cell {b : Nat} {t : TypeId} {p : Addr} {n : Nat} {vs : List Value} (h : lk E b = some (.pointer (some p))) (hT : C.tt.ag? t = some n) (hl : vs.length = n) (hc : Cells C H p vs) : RV C E H (.cell b t) (.agg vs.toArray) := fun L a w hf hi => by
  have := hf.get b _ h
  simp [rvS, Array.getD_eq_getD_getElem?, this, asAddr, run_loadVarA (AT.of hT) hl (fun j v hv => hc j v hv L w hi)]
theorem RV.cell1 {b : Nat} {t : TypeId} {p : Addr} {v : Value} (h : lk E b = some (.pointer (some p))) (hT : C.tt.one? t = true) (hc : Cell C H p v) : RV C E H (.cell b t) v := fun L a w hf hi => by
  have := hf.get b _ h
  simp [rvS, Array.getD_eq_getD_getElem?, this, asAddr, run_loadVar1 (CT.of hT) (hc L w hi)]
theorem Res.none {fn : Func} (hr : fn.results = #[]) : Res C fn E H (.tuple #[]) := fun L a w hf hi => by simp [results_rvS, hr]
theorem Res.one {fn : Func} {r : ResultVar} {v : Value} (hr : fn.results = #[r]) (h : RV C E H r v) : Res C fn E H v := fun L a w hf hi => by
  simp [results_rvS, hr, h L a w hf hi]
theorem Res.two {fn : Func} {r s : ResultVar} {u v : Value} (hr : fn.results = #[r, s]) (h1 : RV C E H r u) (h2 : RV C E H s v) : Res C fn E H (.tuple #[u, v]) := fun L a w hf hi => by
  simp [results_rvS, hr, h1 L a w hf hi, h2 L a w hf hi]
theorem Res.three {fn : Func} {r s t : ResultVar} {u v x : Value} (hr : fn.results = #[r, s, t]) (h1 : RV C E H r u) (h2 : RV C E H s v) (h3 : RV C E H t x) : Res C fn E H (.tuple #[u, v, x]) := fun L a w hf hi => by
  simp [results_rvS, hr, h1 L a w hf hi, h2 L a w hf hi, h3 L a w hf hi]
theorem Res.four {fn : Func} {r s t q : ResultVar} {u v x y : Value} (hr : fn.results = #[r, s, t, q]) (h1 : RV C E H r u) (h2 : RV C E H s v) (h3 : RV C E H t x) (h4 : RV C E H q y) : Res C fn E H (.tuple #[u, v, x, y]) := fun L a w hf hi => by
  simp [results_rvS, hr, h1 L a w hf hi, h2 L a w hf hi, h3 L a w hf hi, h4 L a w hf hi]

/-- what is asked at a function's end -/
def fin (C : Cx P) (fn : Func) (Pst : Value → List HP → Prop) : Post
  | .normal, E, H | .ret, E, H => ∃ v, Res C fn E H v ∧ Pst v H
  | _, _, _ => False
theorem fin.ret {fn : Func} {Pst : Value → List HP → Prop} {v : Value} (h : Res C fn E H v) (p : Pst v H) : fin C fn Pst .ret E H := ⟨v, h, p⟩
theorem fin.normal {fn : Func} {Pst : Value → List HP → Prop} {v : Value} (h : Res C fn E H v) (p : Pst v H) : fin C fn Pst .normal E H := ⟨v, h, p⟩

theorem leaves_marks {fn : Func} {tmps : Array Value} {R : Ending → World → Prop} {w0 : World} {M : List Nat} {F : Fence} {n : Nat} : ∀ (ds : List Nat) (H : List HP) (w : World), Inv w0 M (ds.map ptd ++ H) w →
    (∀ w', Inv w0 M H w' → ∃ v, (results fn tmps).run P w' = .ok v w' ∧ R (.returned v) w') → LeavesInM F n P fn tmps R (ds.map mark) .returning w
  | [], H, w, hi, h => h w hi
  | r :: ds, H, w, hi, h => by
    have hl := (hi.look (b := r) (o := .deferred (some [])) .head).1
    refine ⟨by simp, .inl ⟨r, { w with heap := w.heap.setIfInBounds r (.deferred none) }, rfl, ?_, ?_⟩⟩
    · have : r < w.heap.size := (Array.getElem?_eq_some_iff.1 hl).1
      simp only [Instr.takeDeferred, Sem.run_bind]
      simp [getObj, setObj, Sem.run, hl, Result.andThen]
    · refine leaves_marks ds H _ ?_ h
      have hlt : r < w.heap.size := (Array.getElem?_eq_some_iff.1 hl).1
      have hs := hi.set (b := r) (o := .deferred (some [])) (o' := .deferred none) (H' := ds.map ptd ++ H) (w' := { w with heap := w.heap.setIfInBounds r (.deferred none) }) .head rfl rfl rfl (by simp) (by simp [hlt]) (fun k hk => by simp [Array.getElem?_setIfInBounds_ne (Ne.symm hk)])
      exact hs.sub (Sub.drop _ _)

theorem Ct.of_W {f : FuncId} {fn : Func} {c : Code} {args : Array Value} {w : World} {M : List Nat} {Hp : List HP} {Pst : Value → List HP → Prop} {E : Env} (C : Cx P) (hro : C.ro = none) (hw : C.w0 = w) (hM : C.M = M)
    (hf : P.funcs[f]? = some fn) (hb : fn.body = some c) (hN : fn.ntmps = C.N) (ha : args.size ≤ C.N) (hE : ∀ t v, lk E t = some v → args[t]? = some v)
    (h : W C c (fin C fn Pst) E Hp) (hi : Inv w M Hp w) : Ct P f args w fun v w' => ∃ Hq, Pst v Hq ∧ Inv w M Hq w' := by
  subst hw; subst hM
  have hF : C.F = Fence.wide := by unfold Cx.F; rw [hro]; rfl
  refine callsIn_of_wp_marks hf hb trivial ?_
  have h0 := h [] [] { tmps := args ++ Array.replicate (fn.ntmps - args.size) undef, defers := [] } C.w0 ⟨rfl, ⟨by simp; omega, fun t v hv => ?_⟩, hi⟩
  · rw [hF] at h0
    refine wpIn_mono h0 ?_
    rintro e a' w' ⟨ds, E', H', q, s⟩
    cases e <;> simp only [fin] at q <;> try exact q.elim
    all_goals
      obtain ⟨v, hr, hp⟩ := q
      show LeavesInM _ _ _ _ _ _ a'.defers .returning w'
      rw [s.defers]
      exact leaves_marks ds H' w' (by simpa using s.inv) fun w'' hi'' => ⟨v, hr [] a' w'' s.fr hi'', v, rfl, H', hp, hi''⟩
  · have h1 := hE t v hv
    rw [Array.getElem?_append_left (Array.getElem?_eq_some_iff.1 h1).1]
    exact h1
end
end Go.TH
