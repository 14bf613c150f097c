/-
  What is proved here: the rules of a small program logic for calls, and contracts out of bodies. Conditions: none; each rule states its own.
-/
import Derived.Test.YtgihklgpehfbpaaKc
namespace Go.TH
open Go
section
variable {P : Program}

/-- the call of function f at args, from the world w, returns a value of R -/
def Ct (P : Program) (f : FuncId) (args : Array Value) (w : World) (R : Value → World → Prop) : Prop := CallsIn Fence.wide 0 P f args w fun e w' => ∃ v, e = .returned v ∧ R v w'
theorem Ct.mono {f : FuncId} {args : Array Value} {w : World} {R R' : Value → World → Prop} (h : Ct P f args w R) (hR : ∀ v w', R v w' → R' v w') : Ct P f args w R' :=
  CallsIn.mono h fun _ _ ⟨v, e, r⟩ => ⟨v, e, hR _ _ r⟩

theorem callsIn_round {ro : Option Nat} {n : Nat} {f : FuncId} {args : Array Value} {w : World} {R : Ending → World → Prop} (h : CallsIn Fence.wide n P f args w R) : CallsIn { Fence.wide with round := ro } n P f args w R := h

/-- the blocks of the pieces that are handed over -/
theorem handed {w0 w : World} {M : List Nat} {Hp Hr : List HP} (hi : Inv w0 M (Hp ++ Hr) w) : ∃ (M' : List Nat) (h1 h2 : TH.Hp), Split (own w0 M w) h1 h2 ∧ sat Hp h1 ∧ sat Hr h2 ∧ (∀ k, k ∈ M' ↔ h1 k ≠ none) := by
  obtain ⟨h1, h2, s, a, b⟩ := sat_app hi.mine
  refine ⟨(List.range w.heap.size).filter (fun k => (h1 k).isSome), h1, h2, s, a, b, fun k => ?_⟩
  simp only [List.mem_filter, List.mem_range]
  constructor
  · rintro ⟨_, h⟩ e; rw [e] at h; cases h
  · intro h
    obtain ⟨o, ho⟩ := Option.ne_none_iff_exists'.1 h
    refine ⟨?_, by rw [ho]; rfl⟩
    have e : own w0 M w k = some o := by
      rcases s k with ⟨x, _⟩ | ⟨_, y⟩
      · exact absurd x h
      · rw [y, ho]
    unfold own at e
    split at e
    · cases e
    · exact (Array.getElem?_eq_some_iff.1 e).1

theorem handed_own {w0 w : World} {M M' : List Nat} {h1 h2 : TH.Hp} (s : Split (own w0 M w) h1 h2) (hM : ∀ k, k ∈ M' ↔ h1 k ≠ none) : ∀ k, k ∈ M' → (w0.heap.size ≤ k ∨ k ∈ M) ∧ w.heap[k]? = h1 k := by
  intro k hk
  have e := (hM k).1 hk
  have e1 : own w0 M w k = h1 k := by
    rcases s k with ⟨a, _⟩ | ⟨_, b⟩
    · exact absurd a e
    · exact b
  unfold own at e1
  split at e1
  · exact absurd e1.symm e
  · rename_i hn
    refine ⟨?_, e1⟩
    by_cases hb : w0.heap.size ≤ k
    · exact .inl hb
    · exact .inr (Decidable.byContradiction fun hm => hn ⟨by omega, hm⟩)

/-- the callee begins with them alone -/
theorem handed_start {w0 w : World} {M M' : List Nat} {Hp : List HP} {h1 h2 : TH.Hp} (s : Split (own w0 M w) h1 h2) (a : sat Hp h1) (hM : ∀ k, k ∈ M' ↔ h1 k ≠ none) : Inv w M' Hp w := by
  refine ⟨rfl, rfl, rfl, Nat.le_refl _, fun _ _ _ => rfl, sat_sub Hp (fun k o ho => ?_) a⟩
  have hk : k ∈ M' := (hM k).2 (by rw [ho]; simp)
  have := (handed_own s hM k hk).2
  unfold own
  rw [if_neg (fun h => h.2 hk), this, ho]

/-- and behind the call the caller has what the callee has left, and all the others -/
theorem handed_back {w0 w w' : World} {M M' : List Nat} {Hr Hq : List HP} {h1 h2 : TH.Hp} (hi : Inv w0 M [] w) (s : Split (own w0 M w) h1 h2) (b : sat Hr h2) (hM : ∀ k, k ∈ M' ↔ h1 k ≠ none) (h' : Inv w M' Hq w') : Inv w0 M (Hq ++ Hr) w' := by
  have hsz := hi.size
  refine ⟨h'.os.trans hi.os, h'.tape.trans hi.tape, h'.output.trans hi.output, Nat.le_trans hi.size h'.size, fun k hk hm => ?_, ?_⟩
  · have hn : k ∉ M' := fun x => by rcases (handed_own s hM k x).1 with y | y; omega; exact hm y
    rw [h'.keep k (by omega) hn]; exact hi.keep k hk hm
  · refine sat_join (h1 := own w M' w') (h2 := fun k => if k < w.heap.size ∧ k ∉ M' then own w0 M w k else none) (fun k => ?_) h'.mine (sat_sub Hr (fun k o ho => ?_) b)
    · by_cases c : k < w.heap.size ∧ k ∉ M'
      · left
        refine ⟨by unfold own; rw [if_pos c], ?_⟩
        show own w0 M w' k = if k < w.heap.size ∧ k ∉ M' then own w0 M w k else none
        rw [if_pos c]
        have := h'.keep k c.1 c.2
        unfold own; rw [this]
      · right
        refine ⟨if_neg c, ?_⟩
        have : ¬ (k < w0.heap.size ∧ k ∉ M) := by
          rintro ⟨x, y⟩
          by_cases hk : k ∈ M'
          · rcases (handed_own s hM k hk).1 with z | z; omega; exact y z
          · exact c ⟨by omega, hk⟩
        unfold own; rw [if_neg this, if_neg c]
    · have e1 : h1 k = none := by
        rcases s k with ⟨x, _⟩ | ⟨x, _⟩
        · exact x
        · rw [ho] at x; cases x
      have hk : k ∉ M' := fun x => (hM k).1 x e1
      have e2 : own w0 M w k = some o := by
        rcases s k with ⟨_, y⟩ | ⟨x, _⟩
        · rw [y, ho]
        · rw [ho] at x; cases x
      have hlt : k < w.heap.size := by
        have e3 := e2
        unfold own at e3
        split at e3
        · cases e3
        · exact (Array.getElem?_eq_some_iff.1 e3).1
      show (if k < w.heap.size ∧ k ∉ M' then own w0 M w k else none) = some o
      rw [if_pos ⟨hlt, hk⟩, e2]

variable {C : Cx P} {E : Env} {H : List HP}
/-- a contract: handed the pieces Hp, at a world w (which below B is as wr is), it returns a v and leaves the pieces Hq, as Post says -/
def Spec (P : Program) (B : Nat) (wr : World) (f : FuncId) (args : Array Value) (Hp : List HP) (Post : Value → List HP → Prop) : Prop :=
  ∀ w M', B ≤ w.heap.size → (∀ k, k < B → w.heap[k]? = wr.heap[k]?) → (∀ b ∈ M', B ≤ b) → Inv w M' Hp w → Ct P f args w fun v w' => ∃ Hq, Post v Hq ∧ Inv w M' Hq w'

theorem uponIn_enter_of {F : Fence} {n : Nat} {o : Oper} {a : Act} {K : Act → World → Prop} {Q : Exit → Act → World → Prop} {f : FuncId} {args : Array Value} {w : World} {r : Option Nat} {R : Value → World → Prop} (hF : F = { Fence.wide with round := r }) (hn : n = 0)
    (h : Ct P f args w R) (hK : ∀ v w', R v w' → K (a.put o.dst v) w') : o.uponIn F n P a K Q (.ok (.enter f args) w) := by
  subst hF; subst hn
  refine ⟨fun h => by simp [Fence.wide] at h, ?_⟩
  refine CallsIn.mono (callsIn_round (ro := r) h) ?_
  rintro e w' ⟨v, rfl, hv⟩
  exact hK v w' hv

/-- evaluated operands -/
def evs (E : Env) : List Operand → Option (List Value)
  | [] => some []
  | x :: r => match ev E x, evs E r with | some v, some vs => some (v :: vs) | _, _ => none
theorem evs_map {N : Nat} {a : Act} (hf : Fr N E a) : ∀ {xs : List Operand} {vs : List Value}, evs E xs = some vs → xs.map a.eval = vs
  | [], vs, h => by simp [evs] at h; simp [h]
  | x :: r, vs, h => by
    simp only [evs] at h
    cases hx : ev E x with
    | none => simp [hx] at h
    | some v =>
      cases hr : evs E r with
      | none => simp [hx, hr] at h
      | some us =>
        simp [hx, hr] at h
        subst h
        simp [hf.eval hx, evs_map hf hr]

/-- a call of a function value: which function, and at what -/
theorem XO.callF {X : Value → List HP → Prop} {dst : Option Tmp} {x : Operand} {xs : List Operand} {ats : Array TypeId} {ty : TypeId} {pos : String} {af : Array Edge} {f : FuncId} {first captured : Array Value} {vs : List Value} {Hp Hr : List HP} {Post : Value → List HP → Prop}
    (hf : ev E x = some (.func (.func f) first captured)) (hxs : evs E xs = some vs) (hcall : ∀ (args : Array Value) (w : World), (callFunc f args).run P w = .ok (.enter f args) w)
    (hH : Sub H (Hp ++ Hr))
    (hspec : ∀ (L : List HP) w M', Inv C.w0 C.M (L ++ H) w → (∀ b ∈ M', C.w0.heap.size ≤ b ∨ b ∈ C.M) → Inv w M' Hp w → Ct P f (first ++ vs.toArray ++ captured) w fun v w' => ∃ Hq, Post v Hq ∧ Inv w M' Hq w')
    (h : ∀ v Hq, Post v Hq → X v (Hq ++ Hr)) : XO C ⟨dst, .call ⟨.value x, xs.toArray, ats⟩, ty, pos, af, none⟩ X E H := by
  intro L a w hfr hi
  refine ⟨fun _ _ => trivial, ?_⟩
  rw [Oper.semAt_eq _ _ _ (by simp)]
  have hev : (execOp a.eval ⟨dst, .call ⟨.value x, xs.toArray, ats⟩, ty, pos, af, none⟩).run P w = .ok (.enter f (first ++ vs.toArray ++ captured)) w := by
    have := evs_map hfr hxs
    simp [execOp, resolve, hfr.eval hf, Deferred.ofValue, invoke, this, hcall]
  rw [hev]
  have hi2 : Inv C.w0 C.M (Hp ++ (L ++ Hr)) w := by
    refine hi.sub ?_
    have s1 := hH.app L
    refine Sub.trans s1 ?_
    exact Sub.rot L Hp Hr
  obtain ⟨M', h1, h2, s, pa, pb, hM⟩ := handed hi2
  refine uponIn_enter_of (r := C.ro) rfl rfl (hspec L w M' hi (fun b hb => (handed_own s hM b hb).1) (handed_start s pa hM)) ?_
  rintro v w' ⟨Hq, hq, hi'⟩
  refine ⟨v, Hq ++ Hr, h v Hq hq, rfl, ?_⟩
  have := handed_back (hi.sub .nil) s pb hM hi'
  exact this.sub (Sub.rot' L Hq Hr)
end
end Go.TH
