/-
  What is proved here: from a law's contract to what its row asks. Conditions: none; each rule states its own.
-/
import Derived.Test.YtgihklgpehfbpaaKq
import Derived.Below
import Derived.ChangeSame
import Derived.ProofKit
namespace Go.TH
open Go Go.RowKit Go.WideShapes Go.ChangeShapes
theorem Inv.below {w w' : World} {H : List HP} (h : Inv w [] H w') : Below w.heap.size w w' := ⟨h.os, h.tape, h.output, h.size, fun k hk => h.keep k hk (by simp)⟩
theorem Ret.calls {P : Program} {f : FuncId} {args : Array Value} {w : World} {r : Value} (h : Ret P f args w r) : Calls P f args w fun e w' => e = .returned r ∧ Below w.heap.size w w' :=
  callsIn_wide.1 (CallsIn.mono h fun e w' ⟨v, he, Hq, ⟨hv, _⟩, hi⟩ => ⟨by rw [he, hv], hi.below⟩)
/-- what a row asks of a call that answers, turns nothing that was there, and hands its arguments back as they were -/
theorem post_law {H : Type} {enc : TypeId × Value → H} {P : Program} {f : Func} {s : ChangeSpec} {apart fresh handsOn again : Bool} {W W' : World} {args : Array Value} {v : Value} {ds gs : List (DataW H)} {before pa pv : List MemPlace}
    (hW : DataW.Whole enc P f.params.toList s.vars apart W args.toList ds gs before)
    (hres : ∀ (b : Nat) (sp : Nat → Bool) (hd : Bool), DataW.TrodAll enc P W' b sp hd f.resultTypes.toList (v.resultList f.resultTypes.size) (s.fn H (ds ++ gs)).results [])
    (hargs : ∀ sp : Nat → Bool, (∀ p ∈ before, sp p.block = true) → DataW.TrodAll enc P W' 0 sp true f.params.toList args.toList (s.fn H (ds ++ gs)).args pa)
    (hvars : ∀ sp : Nat → Bool, (∀ p ∈ before, sp p.block = true) → DataW.TrodVars enc P W' sp s.vars (s.fn H (ds ++ gs)).vars pv)
    (hps : before = pa ++ pv) (hb : Below W.heap.size W W')
    (hok : ∀ (j : Nat) (t : TypeId) (r : Value), f.resultTypes[j]? = some t → (v.resultList f.resultTypes.size)[j]? = some r → Value.okWide P W' .any 0 t r) :
    s.post enc P f apart fresh handsOn again W args v W' := by
  subst hps
  have hin : ∀ p ∈ pa ++ pv, decide (p.block < W.heap.size) = true := fun p hp => decide_eq_true (hW.lt p hp)
  refine ⟨ds, gs, pa ++ pv, [], pa, pv, hW, hres _ _ _, hargs _ hin, hvars _ hin, World.keptBut_mono (fun p hp => ⟨hp, .inr (List.mem_append.1 hp)⟩) (hb.frame (· ∈ pa ++ pv)), fun _ => ?_⟩
  obtain ⟨_, _, _, _, _, hz, hn⟩ := hW
  refine ⟨hok, _, _, ([] ++ pa) ++ pv, ⟨[] ++ pa, pv, trodAll_append (hargs _ fun _ _ => rfl) (hres _ _ _), hvars _ fun _ _ => rfl, rfl, fun b off hp => ?_, fun ha => hn ha⟩, fun p hp _ => hp⟩
  have hp' : MemPlace.cell b off ∈ pa ++ pv := hp
  rw [hb.frozen (of_decide_eq_true (hin _ hp'))]
  exact hz b off hp'
end Go.TH
