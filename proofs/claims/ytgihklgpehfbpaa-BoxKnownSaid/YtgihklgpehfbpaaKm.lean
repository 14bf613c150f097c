/-
  What is proved here: a range over a function: the statement, and the call of yield. Conditions: none; each rule states its own.
-/
import Derived.Test.YtgihklgpehfbpaaKl
import Derived.RangeFuncRecord
namespace Go.TH
open Go

section
variable {P : Program}

/-- a round of the loop l: handed the pieces Hp it hands back true, and leaves the pieces Hq -/
def YieldOK (P : Program) (B : Nat) (wr : World) (l : Nat) (args : Array Value) (Hp Hq : List HP) : Prop :=
  ∀ w M', B ≤ w.heap.size → (∀ k, k < B → w.heap[k]? = wr.heap[k]?) → (∀ b ∈ M', B ≤ b) → Inv w M' Hp w →
    ∃ f tmps assign body, (Instr.yield l args).run P w = .ok (.round l f tmps assign body) w ∧ RoundIn Fence.wide 0 P l f tmps assign body w (fun e w' => e = .returned (.bool true) ∧ Inv w M' Hq w')
theorem roundIn_round {ro : Option Nat} {n : Nat} {l : Nat} {f : FuncId} {tmps : Array Value} {assign body : Code} {w : World} {R : Ending → World → Prop} (h : RoundIn Fence.wide n P l f tmps assign body w R) : RoundIn { Fence.wide with round := ro } n P l f tmps assign body w R := h

variable {C : Cx P} {E : Env} {H : List HP}
theorem Inv.keepB {w : World} {H : List HP} (hi : Inv C.w0 C.M H w) : ∀ k, k < C.B → w.heap[k]? = C.w0.heap[k]? := fun k hk =>
  hi.keep k (Nat.lt_of_lt_of_le hk C.hB) (fun hm => by have := C.hM k hm; omega)

theorem uponIn_round_of {F : Fence} {n : Nat} {o : Oper} {a : Act} {K : Act → World → Prop} {Q : Exit → Act → World → Prop} {l : Nat} {f : FuncId} {tmps : Array Value} {assign body : Code} {w : World} {r : Option Nat} {R : Ending → World → Prop} (hF : F = { Fence.wide with round := r }) (hn : n = 0)
    (h : RoundIn Fence.wide 0 P l f tmps assign body w R) (hR : ∀ e w', R e w' → ∃ v, e = .returned v ∧ K (a.put o.dst v) w') : o.uponIn F n P a K Q (.ok (.round l f tmps assign body) w) := by
  subst hF; subst hn
  rw [Oper.uponIn_round]
  refine ⟨fun h => by simp [Fence.wide] at h, RoundIn.mono (roundIn_round (ro := r) h) ?_⟩
  intro e w' hr
  obtain ⟨v, rfl, hk⟩ := hR e w' hr
  exact hk

theorem XO.yield {X : Value → List HP → Prop} {dst : Option Tmp} {x : Operand} {xs : List Operand} {ats : Array TypeId} {ty : TypeId} {pos : String} {af : Array Edge} {l : Nat} {vs : List Value} {Hp Hr Hq : List HP}
    (hf : ev E x = some (.func (.yield l) #[] #[])) (hxs : evs E xs = some vs) (hH : Sub H (Hp ++ Hr)) (hy : YieldOK P C.B C.w0 l vs.toArray Hp Hq) (h : X (.bool true) (Hq ++ Hr)) : XO C ⟨dst, .call ⟨.value x, xs.toArray, ats⟩, ty, pos, af, none⟩ X E H := by
  intro L a w hfr hi
  refine ⟨fun _ _ => trivial, ?_⟩
  rw [Oper.semAt_eq _ _ _ (by simp)]
  have hi2 : Inv C.w0 C.M (Hp ++ (L ++ Hr)) w := by
    refine hi.sub ?_
    have s1 := hH.app L
    refine Sub.trans s1 ?_
    exact Sub.rot L Hp Hr
  obtain ⟨M', h1, h2, s, pa, pb, hM⟩ := handed hi2
  have hMB : ∀ b ∈ M', C.B ≤ b := fun b hb => by
    rcases (handed_own s hM b hb).1 with h | h
    · exact Nat.le_trans C.hB h
    · exact C.hM b h
  obtain ⟨f, tmps, assign, body, hr, hround⟩ := hy w M' (Nat.le_trans C.hB hi.size) hi.keepB hMB (handed_start s pa hM)
  have hev : (execOp a.eval ⟨dst, .call ⟨.value x, xs.toArray, ats⟩, ty, pos, af, none⟩).run P w = .ok (.round l f tmps assign body) w := by
    have := evs_map hfr hxs
    simp [execOp, resolve, hfr.eval hf, Deferred.ofValue, invoke, this, hr]
  rw [hev]
  refine uponIn_round_of (r := C.ro) rfl rfl hround ?_
  rintro e w' ⟨rfl, hi'⟩
  refine ⟨_, rfl, .bool true, Hq ++ Hr, h, rfl, ?_⟩
  have := handed_back (hi.sub .nil) s pb hM hi'
  exact this.sub (Sub.rot' L Hq Hr)

/-- the context of a round -/
def rdCx (C : Cx P) (l : Nat) (w : World) (M : List Nat) (hB : C.B ≤ w.heap.size) (hM : ∀ b ∈ M, C.B ≤ b) : Cx P := ⟨some l, C.N, w, M, C.B, hB, hM, C.mixed, C.tt⟩

theorem putObj_inv {w0 : World} {M : List Nat} {L H : List HP} {w : World} {b : Nat} {o o' : Obj} (h : Inv w0 M (L ++ pt b o :: H) w) : Inv w0 M (L ++ pt b o' :: H) (w.putObj b o') := by
  have hl := (h.look (b := b) (o := o) ((Pick.head).app L)).1
  have hlt : b < w.heap.size := (Array.getElem?_eq_some_iff.1 hl).1
  have h2 := h.set (b := b) (o := o) (o' := o') (H' := L ++ H) (w' := w.putObj b o') Pick.mem rfl rfl rfl (by simp) (World.putObj_heap_same hlt) (fun k hk => World.putObj_heap_other hk)
  exact h2.perm (List.perm_middle (l₁ := L) (l₂ := H)).symm

/-- a range over a function whose rounds all go on -/
theorem W.rangeFunc {g : Operand} {p : Tmp} {assign body : Code} {Q : Post} {f : FuncId} {captured : List Value} (Hit : List HP) (HI : Nat → List HP) (xs : List Value) (hro : C.ro = none) (hN : Nat.blt p C.N = true)
    (hg : ev E g = some (.func (.func f) #[] captured.toArray)) (hcall : ∀ (args : Array Value) (w : World), (callFunc f args).run P w = .ok (.enter f args) w)
    (hH : Sub H (Hit ++ HI 0))
    (hiter : ∀ (l : Nat) (Hc : Nat → List HP), (∀ k x, xs[k]? = some x → YieldOK P C.B C.w0 l #[x] (Hc k) (Hc (k + 1))) →
      ∀ w M', C.B ≤ w.heap.size → (∀ k, k < C.B → w.heap[k]? = C.w0.heap[k]?) → (∀ b ∈ M', C.B ≤ b) → Inv w M' (Hit ++ Hc 0) w → Ct P f (#[.func (.yield l) #[] #[]] ++ captured.toArray) w fun _ w' => Inv w M' (Hit ++ Hc xs.length) w')
    (hround : ∀ (l : Nat) (w : World) (M : List Nat) (hB : C.B ≤ w.heap.size) (hM : ∀ b ∈ M, C.B ≤ b), (∀ k, k < C.B → w.heap[k]? = C.w0.heap[k]?) → ∀ k x, xs[k]? = some x →
      W (rdCx C l w M hB hM) assign (thn (fun E2 H2 => W (rdCx C l w M hB hM) body (thn (fun _ H3 => Sub H3 (HI (k + 1))) (fun _ _ _ => False)) E2 H2) (fun _ _ _ => False)) ((p, x) :: E) (HI k))
    (h : Q .normal E (Hit ++ HI xs.length)) : W C (.rangeFunc g #[p] assign body) Q E H := by
  intro L ds a w hs
  have hF : C.F = Fence.wide := by unfold Cx.F; rw [hro]; rfl
  rw [hF]
  refine wpIn_rangeFunc ?_
  intro fn hfn
  obtain ⟨rec, hrec⟩ : ∃ rec : LoopState → Option Code → Loop, rec = fun st pe => { state := st, pending := pe, fn, tmps := a.tmps, params := #[p], assign, body, defers := w.heap.size } := ⟨_, rfl⟩
  obtain ⟨W1, hW1⟩ : ∃ W1, (w.alloc (.deferred (some []))).alloc (.loop (rec .ready none)) = W1 := ⟨_, rfl⟩
  let D := w.heap.size
  let l := w.heap.size + 1
  have hinv1 : Inv C.w0 C.M ((((D :: ds).map ptd) ++ L) ++ ((Hit ++ (pt l (.loop (rec .ready none)) :: HI 0)))) W1 := by
    have i1 := hs.inv.sub (Sub.app hH _)
    have i2 := i1.alloc (.deferred (some []))
    have i3 := i2.alloc (.loop (rec .ready none))
    rw [hW1] at i3
    have e : (w.alloc (.deferred (some []))).heap.size = l := by simp [l]
    rw [e] at i3
    refine i3.perm ?_
    have q1 : (pt l (.loop (rec .ready none)) :: ptd D :: ((ds.map ptd ++ L) ++ (Hit ++ HI 0))).Perm (pt l (.loop (rec .ready none)) :: ((((D :: ds).map ptd) ++ L ++ Hit) ++ HI 0)) := by
      simp [List.append_assoc]
    refine q1.trans ?_
    have q2 := (List.perm_middle (a := pt l (.loop (rec .ready none))) (l₁ := ((D :: ds).map ptd) ++ L ++ Hit) (l₂ := HI 0)).symm
    simpa [List.append_assoc] using q2
  refine ⟨l, [{ target := .collected D, args := #[] }], W1, { target := .fn (.func f) captured.toArray, args := #[.func (.yield l) #[] #[]] }, W1, f, #[.func (.yield l) #[] #[]] ++ captured.toArray, W1, ?_, ?_, ?_, ?_, fun h => by simp [Fence.wide] at h, ?_⟩
  · rw [← hW1, hrec]; exact run_enterLoop_outer _ _ _ _ _
  · simp only [resolve, hs.fr.eval hg]
    simp [go_sem, Deferred.ofValue, Act.eval]
  · intro f' hf'; trivial
  · simp [invoke, hcall]
  · -- the iterator is handed its own pieces, and the caller's
    let Hc : Nat → List HP := fun k => pt l (.loop (rec .ready none)) :: HI k
    have hi2 : Inv C.w0 C.M ((Hit ++ Hc 0) ++ (((D :: ds).map ptd) ++ L)) W1 := hinv1.perm List.perm_append_comm
    obtain ⟨M', h1, h2, s, pa, pb, hM⟩ := handed hi2
    have hMB : ∀ b ∈ M', C.B ≤ b := fun b hb => by
      rcases (handed_own s hM b hb).1 with h | h
      · exact Nat.le_trans C.hB h
      · exact C.hM b h
    have hy : ∀ k x, xs[k]? = some x → YieldOK P C.B C.w0 l #[x] (Hc k) (Hc (k + 1)) := by
      intro k x hx wy My hyB hyk hyM hyi
      have hl : wy.heap[l]? = some (.loop (rec .ready none)) := (hyi.look .head).1
      have hy := run_yield (P := P) (args := #[x]) hl (by rw [hrec]; rfl)
      refine ⟨_, _, _, _, hy, roundIn_of_wpIn trivial ?_⟩
      have hrd := hround l wy My hyB hyM hyk k x hx
      have hst : St (rdCx C l wy My hyB hyM) [pt l (.loop (rec .ready none))] [] ((p, x) :: E) (HI k) { tmps := (#[p].zip #[x]).foldl (fun tmps (t, a) => tmps.setIfInBounds t a) a.tmps, defers := [] } wy := by
        refine ⟨rfl, ?_, hyi⟩
        have := hs.fr.put (v := x) hN
        exact ⟨by have := this.size; simpa [Act.put, rdCx] using this, fun t u hu => by have := this.get t u hu; simpa [Act.put] using this⟩
      have hw := hrd _ _ _ _ hst
      have hFr : (rdCx C l wy My hyB hyM).F = Fence.wide.inRound l := rfl
      rw [hFr] at hw
      rw [hrec]
      rw [hrec] at hw hl
      refine wpIn_mono hw ?_
      rintro e a2 w2 ⟨ds2, E2, H2, q, st2⟩
      cases e <;> first | exact q.elim | skip
      have i2 : Inv wy My (ds2.map ptd ++ pt l (.loop (rec .ready none)) :: H2) w2 := by have := st2.inv; rw [hrec]; simpa [List.append_assoc, rdCx] using this
      have hl2 := (i2.look (b := l) (o := .loop (rec .ready none)) ((Pick.head).app (ds2.map ptd))).1
      have i3 := putObj_inv (o' := .loop (rec .busy none)) i2
      have hb2 := run_beginRound (P := P) hl2 (by rw [hrec])
      have e3 : ({ rec .ready none with state := .busy } : Loop) = rec .busy none := by rw [hrec]
      rw [e3] at hb2
      refine ⟨_, hb2, ?_⟩
      have hw3 := q [pt l (.loop (rec .busy none))] ds2 a2 _ ⟨st2.defers, st2.fr, by simpa [List.append_assoc, rdCx] using i3⟩
      rw [hFr] at hw3
      refine wpIn_mono hw3 ?_
      rintro e4 a4 w4 ⟨ds4, E4, H4, q4, st4⟩
      cases e4 <;> first | exact q4.elim | skip
      have i4 : Inv wy My (ds4.map ptd ++ pt l (.loop (rec .busy none)) :: H4) w4 := by simpa [List.append_assoc, rdCx] using st4.inv
      have hl4 := (i4.look (b := l) (o := .loop (rec .busy none)) ((Pick.head).app (ds4.map ptd))).1
      have i5 := putObj_inv (o' := .loop (rec .ready none)) i4
      have hb4 := run_endRound (P := P) none hl4
      have e5 : ({ rec .busy none with state := if (none : Option Code).isNone then .ready else .done, pending := none } : Loop) = rec .ready none := by rw [hrec]; rfl
      rw [e5] at hb4
      refine ⟨_, _, hb4, rfl, ?_⟩
      have q4' : Sub H4 (HI (k + 1)) := q4
      refine i5.sub ?_
      have s1 : Sub (ds4.map ptd ++ pt l (.loop (rec .ready none)) :: H4) (pt l (.loop (rec .ready none)) :: H4) := by
        induction ds4.map ptd with
        | nil => exact Sub.refl _
        | cons A r ih => exact Sub.tail ih
      exact s1.trans (.cons .head q4')
    have hct := hiter l Hc hy W1 M' (Nat.le_trans C.hB (by have := hinv1.size; exact this)) hinv1.keepB hMB (handed_start s pa hM)
    refine CallsIn.mono hct ?_
    rintro e w' ⟨v, rfl, hi'⟩
    have hb := handed_back (hi2.sub .nil) s pb hM hi'
    have hb2 : Inv C.w0 C.M ((((D :: ds).map ptd) ++ L ++ Hit) ++ pt l (.loop (rec .ready none)) :: HI xs.length) w' := by
      refine hb.perm ?_
      have := List.perm_append_comm (l₁ := Hit ++ Hc xs.length) (l₂ := ((D :: ds).map ptd) ++ L)
      simpa [Hc, List.append_assoc] using this
    have hl := (hb2.look (b := l) (o := .loop (rec .ready none)) ((Pick.head).app _)).1
    refine ⟨none, w'.putObj l (.loop { rec .ready none with state := .exhausted }), ?_, ?_⟩
    · have := run_endLoop (P := P) hl (by rw [hrec]; simp)
      have e6 : (rec .ready none).pending = none := by rw [hrec]
      rw [this]; exact congrArg (fun q => Result.ok q _) e6
    · have h6 := putObj_inv (o' := .loop { rec .ready none with state := .exhausted }) hb2
      have h7 := h6.dropL
      refine ⟨D :: ds, E, Hit ++ HI xs.length, h, ⟨?_, ⟨hs.fr.size, hs.fr.get⟩, by simpa [List.append_assoc] using h7⟩⟩
      show [_] ++ a.defers = _
      rw [hs.defers]; rfl
end
end Go.TH
