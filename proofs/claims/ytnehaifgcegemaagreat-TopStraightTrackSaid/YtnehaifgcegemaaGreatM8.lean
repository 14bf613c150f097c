/-
  What is proved here: what an evaluator reckons for a function is what its call does, if it is so for codes. Conditions: none; each lemma states its own.
  What is proved here: what an evaluator reckons for codes is what they do. Conditions: none; each lemma states its own.
  What is proved here: an evaluator that says yes tells what a call hands back. Conditions: none; each lemma states its own.
  What is proved here: an evaluator that says yes tells what a call hands back. Conditions: none; each lemma states its own.
  What is proved here: lists, numbers, reading and writing of an evaluator in forms that are quick to reckon. Conditions: none; each lemma states its own.
  What is defined here: loops over maps whose rounds change places: what they do is reckoned entry by entry, whatever their order. Conditions: none.
  What is proved here: plain facts on temporaries that are kept, tables of rounds, and folds whose steps change places. Conditions: none; each lemma states its own.
  What is proved here: loops over maps whose rounds change places do what is reckoned. Conditions: none; each lemma states its own.
  What is proved here: loops over maps whose rounds change places do what is reckoned. Conditions: none; each lemma states its own.
  What is proved here: a loop over a map whose rounds change places does what is reckoned. Conditions: none; each lemma states its own.
  What is proved here: an evaluator that says yes, with loops over maps whose rounds change places, tells what a call hands back. Conditions: none; each lemma states its own.
  What is defined here: regions that draw their order, in which a look-up may change places with the making of an entry, if it comes to the same. Conditions: none; each lemma states its own.
-/
import Derived.Test.YtnehaifgcegemaaGreatM7
import Derived.Test.YtnehaifgcegemaaGreatM2
set_option linter.unusedVariables false
set_option linter.unusedSimpArgs false
namespace Go.TX
open Go Go.TH
noncomputable section
variable {P : Program} {sm : Sums} {rec : Rec} {D : Nat → Prop} {ρ ρ' ρ1 : Ren} {st st' st1 st2 : St} {w w' w1 : World}
def DsR (ρ : Ren) : List Nat → List Deferred → Prop
 | [], l => l = []
 | d :: ds, l => ∃ x s r, l = TH.mark x :: r ∧ ρ d = some (x, s) ∧ DsR ρ ds r
theorem DsR.mono (h : ρ.Le ρ') : ∀ {ds : List Nat} {l : List Deferred}, DsR ρ ds l → DsR ρ' ds l
 | [], _, hd => hd
 | _ :: _, _, ⟨x, s, r, e1, e2, e3⟩ => ⟨x, s, r, e1, h _ _ e2, e3.mono h⟩
def RoR (ρ : Ren) : Option Nat → Option Nat → Prop
 | none, rb => rb = none
 | some l, rb => ∃ b s, ρ l = some (b, s) ∧ rb = some b
theorem RoR.mono (h : ρ.Le ρ') : ∀ {ro rb : Option Nat}, RoR ρ ro rb → RoR ρ' ro rb
 | none, _, hr => hr
 | some _, _, ⟨b, s, e1, e2⟩ => ⟨b, s, h _ _ e1, e2⟩
def fwd (r : Option Nat) : Fence := { Fence.wide with round := r }
def exOf : Ex → Exit
 | .nrm => .normal
 | .ext id => .exit id
 | .gto l => .goto l
 | .ret => .ret
def PostC (ρ : Ren) (D : Nat → Prop) (N : Nat) (st : St) (w : World) (o : Out) (e' : Exit) (a' : Act) (w' : World) : Prop :=
 e' = exOf o.1 ∧ ∃ ρ', EnvR ρ' N o.2.1 a'.tmps ∧ DsR ρ' o.2.2.1 a'.defers ∧ Step ρ ρ' D st o.2.2.2 w w'
def CodeOK (P : Program) (rec : Rec) : Prop := ∀ ro N c env ds st L, rec ro N c env ds st = some L →
 ∀ (ρ : Ren) (D : Nat → Prop) (w : World) (a : Act) (rb : Option Nat), EnvR ρ N env a.tmps → DsR ρ ds a.defers → RoR ρ ro rb → Sim ρ D st w → (∀ o ∈ L, ∀ x, x ∈ o.2.2.2.R ∨ st.base ≤ x → D x) → (∀ o ∈ L, Free ρ st.nx o.2.2.2.nx) →
  c.wpIn (fwd rb) 0 P (fun e' a' w' => ∃ o ∈ L, PostC ρ D N st w o e' a' w') a w
def FunOK (P : Program) (f : FuncId) (args : List SV) (st : St) (L : List (SV × St)) : Prop :=
 ∀ (ρ : Ren) (D : Nat → Prop) (w : World) (us : List Value), RelL ρ args us → Sim ρ D st w → (∀ p ∈ L, ∀ x, x ∈ p.2.R ∨ st.base ≤ x → D x) → (∀ p ∈ L, Free ρ st.nx p.2.nx) →
  CallsIn Fence.wide 0 P f us.toArray w (fun e w' => ∃ p ∈ L, ∃ u ρ', e = .returned u ∧ Rel ρ' p.1 u ∧ Step ρ ρ' D st p.2 w w')
def HasBody (P : Program) (f : FuncId) : Prop := ∃ fn c, P.funcs[f]? = some fn ∧ fn.body = some c
def SumOK (P : Program) (sm : Sums) : Prop := SumMono sm ∧ ∀ f s args st v st', sm f = some s → s args st = some (v, st') → FunOK P f args st [(v, st')] ∧ HasBody P f
def Enters (P : Program) : Prop := ∀ f, HasBody P f → ∀ (args : Array Value) (w : World), (callFunc f args).run P w = .ok (.enter f args) w
theorem Step.fst (m : Mono st1 st2) (hD : ∀ x, x ∈ st2.R ∨ st.base ≤ x → D x) (hf : Free ρ st.nx st2.nx) : (∀ x, x ∈ st1.R ∨ st.base ≤ x → D x) ∧ Free ρ st.nx st1.nx :=
 ⟨fun x hx => hD x (by rcases hx with q | q; exact .inl (m.R x q); exact .inr q), fun x h1 h2 => hf x h1 (Nat.lt_of_lt_of_le h2 m.nx)⟩
theorem Step.snd (h : Step ρ ρ1 D st st1 w w1) (hD : ∀ x, x ∈ st2.R ∨ st.base ≤ x → D x) (hf : Free ρ st.nx st2.nx) : (∀ x, x ∈ st2.R ∨ st1.base ≤ x → (D x ∨ st.nx ≤ x)) ∧ Free ρ1 st1.nx st2.nx :=
 ⟨fun x hx => .inl (hD x (by rw [h.base] at hx; exact hx)), h.free hf⟩
theorem mapB_fst {α β : Type} {f : α → Option (List β)} {s : α → St} {t : β → St} {l : List α} {L : List β} (h : mapB f l = some L) (hne : ∀ a lx, f a = some lx → lx ≠ []) (hm : ∀ a lx, f a = some lx → ∀ b ∈ lx, Mono (s a) (t b)) (hD : ∀ b ∈ L, ∀ x, x ∈ (t b).R ∨ st.base ≤ x → D x) (hf : ∀ b ∈ L, Free ρ st.nx (t b).nx) :
 (∀ a ∈ l, ∀ x, x ∈ (s a).R ∨ st.base ≤ x → D x) ∧ ∀ a ∈ l, Free ρ st.nx (s a).nx := by
 have key : ∀ a ∈ l, ∃ b ∈ L, Mono (s a) (t b) := by
  intro a ha
  obtain ⟨lx, e1, e2⟩ := (mapB_mem h).1 a ha
  obtain ⟨b, r, rfl⟩ := List.exists_cons_of_ne_nil (hne a lx e1)
  exact ⟨b, e2 b (by simp), hm a _ e1 b (by simp)⟩
 constructor
 ·intro a ha
  obtain ⟨b, hb, m⟩ := key a ha
  exact (Step.fst m (hD b hb) (hf b hb)).1
 ·intro a ha
  obtain ⟨b, hb, m⟩ := key a ha
  exact (Step.fst m (hD b hb) (hf b hb)).2
theorem Step.weaken {p J : SV × St} (h : Step ρ ρ' D st p.2 w w') (s : Sub2 st.nx J p) (hz : ∀ x, J.2.nx ≤ x → J.2.h.get x = none) : Step ρ ρ' D st J.2 w w' := by
 have hnx := s.nx
 have hold : ∀ x, x < st.nx → J.2.h.get x = p.2.h.get x := fun x hx => by
  rcases s.h x (by have := h.nx; omega) with q | q
  ·exact q
  ·omega
 have hsome : ∀ x, J.2.h.get x ≠ none → J.2.h.get x = p.2.h.get x := fun x hx => by
  by_cases hl : x < J.2.nx
  ·rcases s.h x hl with q | q
   ·exact q
   ·exact absurd q.2 hx
  ·exact absurd (hz x (by omega)) hx
 refine ⟨h.os, h.tape, h.output, h.size, by rw [hnx]; exact h.nx, s.base.trans h.base, fun x hx => s.R x (h.sR x hx), fun x hx => s.W x (h.sW x hx), fun x hx => h.ext x (by rw [← hnx]; exact hx), ?_, ?_, ?_, ?_, ?_⟩
 ·intro b hb
  rcases h.keep b hb with q | ⟨x, z, q1, q2, q3, q4⟩
  ·exact .inl q
  ·exact .inr ⟨x, z, q1, q2, q3, by rcases q4 with q | q; exact .inl (s.W x q); exact .inr q⟩
 ·intro x hx hn
  rw [hold x hx]; exact h.dead x hx hn
 ·intro x hx
  rw [hold x hx]
  rcases h.same x hx with q | q
  ·exact .inl (by rcases q with q | q; exact .inl (s.W x q); exact .inr q)
  ·exact .inr q
 ·intro x b z hx hg hr
  rw [hsome x hg] at hg
  rcases h.fresh x b z hx hg hr with q | ⟨y, z', q1, q2, q3, q4, q5, q6⟩
  ·exact .inl q
  ·exact .inr ⟨y, z', q1, q2, q3, q4, by rw [hold y q1]; exact q5, by rcases q6 with q | q; exact .inl (s.W y q); exact .inr q⟩
 ·refine ⟨fun x o d g => ?_, fun x y b z z' d d' g g' => ?_, fun x g => ?_⟩
  ·have hs := hsome x (by rw [g]; simp)
   exact h.sim.live x o d (by rw [← hs]; exact g)
  ·rw [hsome x g] at g
   rw [hsome y g'] at g'
   exact h.sim.inj x y b z z' d d' g g'
  ·rw [hsome x g] at g
   rw [hnx]; exact h.sim.lt x g
theorem envK_get {β : Type} {r : β} : ∀ {l : List SV} {i : Nat} {env : Tr SV} {k : Tr SV → Option β}, envK l i env k = some r → ∃ env', k env' = some r ∧ ∀ t, env'.get t = if i ≤ t ∧ t < i + l.length then l[t - i]? else env.get t
 | [], i, env, k, h => ⟨env, h, fun t => by rw [if_neg (by simp)]⟩
 | x :: l, i, env, k, h => by
  simp only [envK, Tr.setK_eq] at h
  obtain ⟨env', h1, h2⟩ := envK_get h
  refine ⟨env', h1, fun t => ?_⟩
  rw [h2 t, Tr.get_set]
  by_cases e : t = i
  ·subst e
   rw [if_neg (by omega), if_pos rfl, if_pos (by simp)]
   simp
  ·by_cases hr : i + 1 ≤ t ∧ t < i + 1 + l.length
   ·rw [if_pos (by simp; omega), if_pos (by simp; omega)]
    have : t - i = (t - (i + 1)) + 1 := by omega
    rw [this, List.getElem?_cons_succ]
   ·rw [if_neg (by simp; omega), if_neg e, if_neg (by simp; omega)]
theorem envR_args {args : List SV} {us : List Value} {n : Nat} {env' : Tr SV} (h : RelL ρ args us) (hn : args.length ≤ n) (he : ∀ t, env'.get t = if 0 ≤ t ∧ t < 0 + args.length then args[t - 0]? else (Tr.lf : Tr SV).get t) : EnvR ρ n env' (us.toArray ++ Array.replicate (n - us.toArray.size) undef) := by
 have hl := h.len
 refine ⟨by simp; omega, fun t => ?_⟩
 rw [he t]
 by_cases ht : t < args.length
 ·rw [if_pos (by omega)]
  have hlt : t < us.length := by omega
  have e1 : (us.toArray ++ Array.replicate (n - us.toArray.size) undef).getD t undef = us[t] := by
   rw [Array.getD_eq_getD_getElem?, Array.getElem?_append_left (by simpa using hlt)]
   simp [hlt]
  rw [e1, Nat.sub_zero, List.getElem?_eq_getElem ht]
  exact (RelL.iff.1 h).2 t _ _ (by simp [ht]) (by simp [hlt])
 ·rw [if_neg (by omega), Tr.get_lf]
  have e1 : (us.toArray ++ Array.replicate (n - us.toArray.size) undef).getD t undef = undef := by
   rw [Array.getD_eq_getD_getElem?, Array.getElem?_append_right (by simp; omega)]
   rw [Array.getElem?_replicate]
   split <;> rfl
  rw [e1]
  show Rel ρ (.raw undef) undef
  rw [Rel]
theorem ldS_ptr {T : TypeId} {p v : SV} (h : ldS P T p st = some (v, st')) : ∃ x o, p = .ptr x o := by
 cases p <;> simp only [ldS] at h <;> first | (cases h; done) | exact ⟨_, _, rfl⟩
theorem rvK_ok {N : Nat} {env : Tr SV} {r : ResultVar} {v : SV} {tmps : Array Value} (he : EnvR ρ N env tmps) (h : rvK P env r st = some (v, st')) (hs : Sim ρ D st w) (hD : ∀ x, x ∈ st'.R ∨ st.base ≤ x → D x) : ∃ u, (rvS tmps r).run P w = .ok u w ∧ Rel ρ v u ∧ Step ρ ρ D st st' w w := by
 have hsv : ∀ t, Rel ρ (svOp env (.tmp t)) (tmps.getD t undef) := fun t => svOp_rel (a := ⟨tmps, []⟩) he (.tmp t)
 cases r with
 | tmp t =>
  simp only [rvK, Option.some.injEq, Prod.mk.injEq] at h
  obtain ⟨rfl, rfl⟩ := h
  exact ⟨_, rfl, hsv t, Step.refl hs⟩
 | cell b T =>
  simp only [rvK] at h
  obtain ⟨x, o, hx⟩ := ldS_ptr h
  have hr := hsv b
  have hd := ldS_ok1 hr h hs hD
  rw [hx, Rel] at hr
  obtain ⟨B, s, _, hu⟩ := hr
  obtain ⟨u, h1, h2, h3⟩ := hd
  refine ⟨u, ?_, h2, h3⟩
  rw [hu] at h1
  simp only [rvS, hu]
  simpa [Instr.loadAt, Instr.sureAddr, asAddr] using h1
theorem resK_ok {N : Nat} {env : Tr SV} {r : SV × St} {tmps : Array Value} : ∀ {rs : List ResultVar} {D : Nat → Prop} {st : St} {k : List SV → St → Option (SV × St)}, (∀ l s, k l s = some r → s = r.2) → resK P env rs st k = some r → EnvR ρ N env tmps → Sim ρ D st w → (∀ x, x ∈ r.2.R ∨ st.base ≤ x → D x) → Free ρ st.nx r.2.nx →
 ∃ l us, k l r.2 = some r ∧ (rs.mapM (rvS tmps)).run P w = .ok us w ∧ RelL ρ l us ∧ Step ρ ρ D st r.2 w w
 | [], D, st, k, hk, h, he, hs, hD, hf => by
  simp only [resK] at h
  have := hk _ _ h
  subst this
  exact ⟨[], [], h, by simp, RelL.nil, Step.refl hs⟩
 | x :: rs, D, st, k, hk, h, he, hs, hD, hf => by
  simp only [resK] at h
  split at h
  case h_2 => cases h
  rename_i v1 st1 h1
  have hm : Mono st1 r.2 := Mono.res h fun l s hs => by have := hk _ _ hs; rw [this]; exact Mono.refl _
  obtain ⟨d1, f1⟩ := Step.fst (D := D) (ρ := ρ) (st := st) hm hD hf
  obtain ⟨u, e1, e2, e3⟩ := rvK_ok he h1 hs d1
  obtain ⟨d2, f2⟩ := e3.snd hD hf
  obtain ⟨l, us, g1, g2, g3, g4⟩ := resK_ok (D := fun x => D x ∨ st.nx ≤ x) (k := fun vs st2 => k (v1 :: vs) st2) (fun l s hs => hk _ _ hs) h he e3.sim d2 f2
  refine ⟨v1 :: l, u :: us, g1, ?_, RelL.cons e2 g3, e3.trans g4⟩
  rw [List.mapM_cons]
  simp [e1, g2]
theorem shut_ok {N : Nat} {env : Tr SV} {fn : Func} {tmps : Array Value} {r : SV × St} {R : Ending → World → Prop} {D : Nat → Prop} {k : St → Option (SV × St)} (hkm : ∀ s, k s = some r → Mono s r.2) : ∀ {ds : List Nat} {dl : List Deferred} {st : St} {w : World}, shutK ds st k = some r → DsR ρ ds dl → EnvR ρ N env tmps → Sim ρ D st w → (∀ x, x ∈ r.2.R ∨ st.base ≤ x → D x) → Free ρ st.nx r.2.nx →
 (∀ st3 w3, k st3 = some r → Step ρ ρ D st st3 w w3 → ∃ u, (results fn tmps).run P w3 = .ok u w3 ∧ R (.returned u) w3) → LeavesInM Fence.wide 0 P fn tmps R dl .returning w
 | [], dl, st, w, h, hd, he, hs, hD, hf, hfin => by
  simp only [DsR] at hd
  subst hd
  exact hfin st w h (Step.refl hs)
 | d :: ds, dl, st, w, h, hd, he, hs, hD, hf, hfin => by
  obtain ⟨x, s, rl, rfl, e2, e3⟩ := hd
  simp only [shutK] at h
  split at h
  case h_2 => cases h
  rename_i hg
  rw [wtK_eq] at h
  have hm := Mono.shut h hkm
  have hdd : D d := hD d (by
   rcases ins_has st.base d st.R with q | q
   ·exact .inl (hm.R d q)
   ·exact .inr q)
  obtain ⟨b, s', ob, q1, q2, q3⟩ := hs.live d _ hdd hg
  rw [e2] at q1; cases q1
  simp only [ORel, cond_false] at q3
  subst q3
  have hlt : x < w.heap.size := (Array.getElem?_eq_some_iff.1 q2).1
  have hstep : Step ρ ρ D st ⟨st.h.set d (some (.dfr true)), st.nx, st.base, ins st.base d st.R, ins st.base d st.W⟩ w { w with heap := w.heap.setIfInBounds x (.deferred none) } :=
   Step.upd hs hdd (by rw [hg]; simp) e2 (o := .dfr true) (ob := .deferred none) rfl (ins_sub _ _ _) (ins_sub _ _ _) (ins_has _ _ _) rfl rfl rfl (by simp) (by simp [hlt]) (fun k hk => by simp [Ne.symm hk])
  refine ⟨by simp, .inl ⟨x, { w with heap := w.heap.setIfInBounds x (.deferred none) }, rfl, ?_, ?_⟩⟩
  ·simp only [Instr.takeDeferred, Sem.run_bind]
   simp [getObj, setObj, Sem.run, q2, Result.andThen]
  ·have hs2 : Sim ρ D ⟨st.h.set d (some (.dfr true)), st.nx, st.base, ins st.base d st.R, ins st.base d st.W⟩ { w with heap := w.heap.setIfInBounds x (.deferred none) } := hstep.sim.sub fun x d => .inl d
   refine shut_ok hkm h e3 he hs2 hD hf ?_
   intro st3 w3 hk3 h3
   refine hfin st3 w3 hk3 (hstep.trans ⟨h3.os, h3.tape, h3.output, h3.size, h3.nx, h3.base, h3.sR, h3.sW, h3.ext, fun b hb => ?_, h3.dead, h3.same, fun x b s hx hg hr => ?_, ?_⟩)
   ·rcases h3.keep b hb with q | ⟨y, s, q1, q2, q3, q4⟩
    ·exact .inl q
    ·exact .inr ⟨y, s, q1, .inl q2, q3, q4⟩
   ·rcases h3.fresh x b s hx hg hr with q | ⟨z, s', q1, q2, q3, q4, q5, q6⟩
    ·exact .inl q
    ·exact .inr ⟨z, s', q1, q2, .inl q3, q4, q5, q6⟩
   ·exact h3.sim.sub fun x d => by
     rcases d with (d | d) | d
     ·exact .inl d
     ·exact .inr (Nat.le_trans (Nat.le_refl _) d)
     ·exact .inr d
theorem oneOf_rel {l : List SV} {us : List Value} (h : RelL ρ l us) : Rel ρ (oneOf l) (if h : us.toArray.size = 1 then us.toArray[0] else .tuple us.toArray) := by
 have hl := h.len
 match l, us, h with
 | [s], [u], h =>
  rw [RelL] at h
  obtain ⟨v, r, e, h1, h2⟩ := h
  cases e
  exact h1
 | [], [], h => simp only [oneOf, Rel]; exact ⟨[], RelL.nil, rfl⟩
 | a :: b :: l, us, h =>
  have : ¬ us.toArray.size = 1 := by simp at hl ⊢; omega
  rw [dif_neg this]
  simp only [oneOf, Rel]
  exact ⟨us, h, rfl⟩
 | [], _ :: _, h => simp at hl
 | [_], [], h => simp at hl
 | [_], _ :: _ :: _, h => simp at hl
theorem results_ok {N : Nat} {env : Tr SV} {fn : Func} {tmps : Array Value} {v : SV} (h : (resK P env fn.results.toList st fun vs st3 => some (oneOf vs, st3)) = some (v, st')) (he : EnvR ρ N env tmps) (hs : Sim ρ D st w) (hD : ∀ x, x ∈ st'.R ∨ st.base ≤ x → D x) (hf : Free ρ st.nx st'.nx) :
 ∃ u, (results fn tmps).run P w = .ok u w ∧ Rel ρ v u ∧ Step ρ ρ D st st' w w := by
 obtain ⟨l, us, g1, g2, g3, g4⟩ := resK_ok (D := D) (tmps := tmps) (fun l s hs => by simp only [Option.some.injEq] at hs; rw [← hs]) h he hs hD hf
 simp only [Option.some.injEq, Prod.mk.injEq] at g1
 refine ⟨_, ?_, by rw [← g1.1]; exact oneOf_rel g3, g4⟩
 rw [results_rvS]
 have e : fn.results = fn.results.toList.toArray := rfl
 rw [e, List.mapM_toArray]
 simp [g2]
theorem finS_ok {N : Nat} {fn : Func} {o : Out} {v : SV} {a' : Act} {w0 : World} {st0 : St} {ρ0 : Ren} (h : finS P fn o = some (v, st')) (he : EnvR ρ N o.2.1 a'.tmps) (hds : DsR ρ o.2.2.1 a'.defers) (hst : Step ρ0 ρ D st0 o.2.2.2 w0 w) (hD : ∀ x, x ∈ st'.R ∨ st0.base ≤ x → D x) (hf : Free ρ0 st0.nx st'.nx)
 {R : Ending → World → Prop} (hR : ∀ u w', Rel ρ v u → Step ρ0 ρ D st0 st' w0 w' → R (.returned u) w') : (o.1 = .nrm ∨ o.1 = .ret) ∧ LeavesInM Fence.wide 0 P fn a'.tmps R a'.defers .returning w := by
 obtain ⟨e, env', ds', st1⟩ := o
 obtain ⟨d2, f2⟩ := hst.snd hD hf
 have tail : ∀ {k : St → Option (SV × St)}, k = (fun st2 => resK P env' fn.results.toList st2 fun vs st3 => some (oneOf vs, st3)) → shutK ds' st1 k = some (v, st') → LeavesInM Fence.wide 0 P fn a'.tmps R a'.defers .returning w := by
  intro k hk h
  subst hk
  refine shut_ok (r := (v, st')) (fun s hs => Mono.res hs fun l s hs => Mono.fin hs) h hds he hst.sim d2 f2 ?_
  intro st3 w3 h3 hst3
  obtain ⟨d4, f4⟩ := (hst.trans hst3).snd hD hf
  obtain ⟨u, g1, g2, g3⟩ := results_ok h3 he (hst.trans hst3).sim d4 f4
  exact ⟨u, g1, hR u w3 g2 ((hst.trans hst3).trans g3)⟩
 unfold finS at h
 simp only at h
 cases e <;> simp only at h
 ·exact ⟨.inl rfl, tail rfl h⟩
 ·cases h
 ·cases h
 ·exact ⟨.inr rfl, tail rfl h⟩
theorem exF_ok (hrm : RecMono rec) (hrn : RecNE rec) (hr : CodeOK P rec) (hsm : SumOK P sm) {f : FuncId} {args : List SV} {L : List (SV × St)} (h : exF P sm rec f args st = some L) : FunOK P f args st L ∧ HasBody P f := by
 unfold exF at h
 split at h
 ·rename_i s hs
  obtain ⟨p, hp, rfl⟩ := oneL_some h
  exact hsm.2 f s args st p.1 p.2 hs hp
 ·split at h
  case h_2 => cases h
  rename_i fn hfn
  split at h
  case h_2 => cases h
  rename_i c hb
  refine ⟨?_, fn, c, hfn, hb⟩
  have hlen := Nat.ble_eq.mp (bif_of h).1
  replace h := (bif_of h).2
  rw [llen_eq] at hlen
  obtain ⟨env, h, henv⟩ := envK_get h
  split at h
  case h_2 => cases h
  rename_i L0 hL0
  split at h
  case h_2 => cases h
  rename_i R hR
  simp only [Option.some.injEq] at h
  subst h
  intro ρ D w us hrel hs hD hf
  have hmR : ∀ p ∈ R, Mono st p.2 := by
   intro p hp
   obtain ⟨o, ho, lx, e1, e2⟩ := (mapB_mem hR).2 p hp
   obtain ⟨p', hp', rfl⟩ := oneL_some e1
   rw [List.mem_singleton] at e2
   subst e2
   obtain ⟨e, env', ds', st2⟩ := o
   exact (hrm _ _ _ _ _ _ _ hL0 _ ho).trans (finS_mono hp')
  have hRD : (∀ p ∈ R, ∀ x, x ∈ p.2.R ∨ st.base ≤ x → D x) ∧ ∀ p ∈ R, Free ρ st.nx p.2.nx := by
   constructor
   ·intro p hp x hx
    obtain ⟨J, hJ, q⟩ := (joinL_ok hmR).1 p hp
    rcases q with rfl | ⟨q, _⟩
    ·exact hD _ hJ x hx
    ·exact hD J hJ x (by rcases hx with hx | hx; exact .inl (q.R x hx); exact .inr hx)
   ·intro p hp
    obtain ⟨J, hJ, q⟩ := (joinL_ok hmR).1 p hp
    rcases q with rfl | ⟨q, _⟩
    ·exact hf _ hJ
    ·rw [← q.nx]; exact hf J hJ
  obtain ⟨d1, f1⟩ := mapB_fst (s := fun o : Out => o.2.2.2) (t := fun p : SV × St => p.2) hR (fun _ _ => oneL_ne) (fun o lx e1 b hb => by
   obtain ⟨p', hp', rfl⟩ := oneL_some e1
   rw [List.mem_singleton] at hb
   subst hb
   obtain ⟨e, env', ds', st2⟩ := o
   exact finS_mono hp') hRD.1 hRD.2
  have hE := envR_args (n := fn.ntmps) hrel hlen henv
  refine callsIn_of_wp_marks hfn hb trivial ?_
  have hc := hr none fn.ntmps c env [] st L0 hL0 ρ D w { tmps := us.toArray ++ Array.replicate (fn.ntmps - us.toArray.size) undef, defers := [] } none hE rfl rfl hs d1 f1
  refine wpIn_mono hc ?_
  rintro e' a' w' ⟨o, ho, he', ρ1, he1, hd1, hst1⟩
  obtain ⟨lx, e1, e2⟩ := (mapB_mem hR).1 o ho
  obtain ⟨p, hp, rfl⟩ := oneL_some e1
  have hpR : p ∈ R := e2 p (by simp)
  obtain ⟨hx, hl⟩ := finS_ok (a' := a') (w := w') (D := D) (R := fun e w' => ∃ p ∈ joinL st.nx R, ∃ u ρ', e = .returned u ∧ Rel ρ' p.1 u ∧ Step ρ ρ' D st p.2 w w') hp he1 hd1 hst1 (hRD.1 p hpR) (hRD.2 p hpR) (by
   intro u w3 hu hst3
   obtain ⟨J, hJ, q⟩ := (joinL_ok hmR).1 p hpR
   rcases q with rfl | ⟨q, hz⟩
   ·exact ⟨_, hJ, u, ρ1, rfl, hu, hst3⟩
   ·exact ⟨J, hJ, u, ρ1, rfl, by rw [q.v]; exact hu, hst3.weaken q hz⟩)
  rcases hx with hx | hx <;> rw [hx] at he' <;> subst he' <;> exact hl
end
end Go.TX
namespace Go.TX
open Go Go.TH
noncomputable section
variable {P : Program} {sm : Sums} {rec : Rec} {D : Nat → Prop} {ρ ρ' ρ1 : Ren} {st st' st1 st2 : St} {w w' w1 : World} {N : Nat}
theorem OpOK.of_did {F : Fence} (hF : ∀ f, F.fn f) {o : Oper} {env : Tr SV} {L : List (SV × St)} (hd : ∀ c, o.op ≠ .defer c) (h : ∀ (ρ : Ren) (D : Nat → Prop) (w : World) (a : Act), EnvR ρ N env a.tmps → Sim ρ D st w → (∀ p ∈ L, ∀ x, x ∈ p.2.R ∨ st.base ≤ x → D x) → (∀ p ∈ L, Free ρ st.nx p.2.nx) → ∃ p ∈ L, OpDid P ρ D st p.2 w p.1 (execOp a.eval o)) : OpOK P F N o env st L := by
 intro ρ D w a K Q he hs hD hf hK
 refine ⟨fun f _ => hF f, ?_⟩
 rw [Oper.semAt_eq _ _ _ hd]
 obtain ⟨p, hp, u, w', ρ', h1, h2, h3⟩ := h ρ D w a he hs hD hf
 rcases h1 with h1 | ⟨h1, rfl⟩
 ·rw [h1]; exact hK p hp u w' ρ' h2 h3
 ·rw [h1]; exact hK p hp undef w' ρ' h2 h3
theorem OpOK.of_one {F : Fence} (hF : ∀ f, F.fn f) {o : Oper} {env : Tr SV} {r : Option (SV × St)} {L : List (SV × St)} (hd : ∀ c, o.op ≠ .defer c) (hL : oneL r = some L) (h : ∀ (v : SV) (st' : St) (ρ : Ren) (D : Nat → Prop) (w : World) (a : Act), r = some (v, st') → EnvR ρ N env a.tmps → Sim ρ D st w → (∀ x, x ∈ st'.R ∨ st.base ≤ x → D x) → Free ρ st.nx st'.nx → OpDid P ρ D st st' w v (execOp a.eval o)) : OpOK P F N o env st L := by
 obtain ⟨p, hp, rfl⟩ := oneL_some hL
 exact OpOK.of_did hF hd fun ρ D w a he hs hD hf => ⟨p, by simp, h p.1 p.2 ρ D w a hp he hs (hD p (by simp)) (hf p (by simp))⟩
theorem appS_eq : ∀ (l r : List SV), appS l r = l ++ r
 | [], _ => rfl
 | x :: l, r => by simp [appS, appS_eq l r]
theorem upon_enter {ro : Option Nat} {o : Oper} {a : Act} {K : Act → World → Prop} {Q : Exit → Act → World → Prop} {f : FuncId} {args : Array Value} {w : World} {R : Ending → World → Prop} (h : CallsIn Fence.wide 0 P f args w R) (hR : ∀ e w', R e w' → ∃ v, e = .returned v ∧ K (a.put o.dst v) w') : o.uponIn (fwd ro) 0 P a K Q (.ok (.enter f args) w) := by
 refine ⟨fun h => by simp [fwd, Fence.wide] at h, ?_⟩
 refine CallsIn.mono (callsIn_round (ro := ro) h) ?_
 intro e w' hr
 obtain ⟨v, rfl, hk⟩ := hR e w' hr
 exact hk
theorem Step.loop (hs : Sim ρ D st w) {l b : Nat} {s : Nat × Nat} {r r' : SLoop} {q q' : Loop} {R W : List Nat} (hd : D l) (hg : st.h.get l = some (.loop r)) (hx : ρ l = some (b, s)) (hb : w.heap[b]? = some (.loop q)) (ho : ORel ρ s (.loop r') (.loop q')) (hR : ∀ x, x ∈ st.R → x ∈ R) (hW : ∀ x, x ∈ st.W → x ∈ W) (hxW : l ∈ W ∨ st.base ≤ l) :
 Step ρ ρ D st ⟨st.h.set l (some (.loop r')), st.nx, st.base, R, W⟩ w (w.putObj b (.loop q')) := by
 have hlt : b < w.heap.size := (Array.getElem?_eq_some_iff.1 hb).1
 exact Step.upd hs hd (by rw [hg]; simp) hx ho hR hW hxW rfl rfl rfl (by simp) (World.putObj_heap_same hlt) (fun k hk => World.putObj_heap_other hk)
theorem putsK_get {β : Type} {r : β} : ∀ {ts : List Tmp} {xs : List SV} {us : List Value} {env : Tr SV} {tmps : Array Value} {k : Tr SV → Option β}, putsK ts xs N env k = some r → RelL ρ xs us → EnvR ρ N env tmps → ∃ env', k env' = some r ∧ xs.length = ts.length ∧ EnvR ρ N env' ((ts.zip us).foldl (fun tmps (t, a) => tmps.setIfInBounds t a) tmps)
 | [], [], us, env, tmps, k, h, hr, he => by
  rw [RelL] at hr; subst hr
  exact ⟨env, h, rfl, he⟩
 | [], _ :: _, _, env, tmps, k, h, _, _ => by simp [putsK] at h
 | _ :: _, [], _, env, tmps, k, h, _, _ => by simp [putsK] at h
 | t :: ts, x :: xs, us, env, tmps, k, h, hr, he => by
  rw [RelL] at hr
  obtain ⟨u, us', rfl, h1, h2⟩ := hr
  simp only [putsK] at h
  have ht := Nat.blt_eq.mp (bif_of h).1
  replace h := (bif_of h).2
  rw [Tr.setK_eq] at h
  have he' := EnvR.put (a := ⟨tmps, []⟩) he ht h1
  simp only [Act.put] at he'
  obtain ⟨env', g1, g2, g3⟩ := putsK_get h h2 he'
  exact ⟨env', g1, by simp [g2], by simpa using g3⟩
theorem exY_ok (hrm : RecMono rec) (hrn : RecNE rec) (hr : CodeOK P rec) {l : Nat} {args : List SV} {L : List (SV × St)} (h : exY rec l args st = some L) {us : List Value} {lb : Nat} {s : Nat × Nat} (hl : ρ l = some (lb, s)) (hrel : RelL ρ args us) (hs : Sim ρ D st w) (hD : ∀ p ∈ L, ∀ x, x ∈ p.2.R ∨ st.base ≤ x → D x) (hf : ∀ p ∈ L, Free ρ st.nx p.2.nx) :
 ∃ f tmps assign body, (Instr.yield lb us.toArray).run P w = .ok (.round lb f tmps assign body) w ∧ RoundIn Fence.wide 0 P lb f tmps assign body w (fun e w' => ∃ p ∈ L, ∃ u ρ', e = .returned u ∧ Rel ρ' p.1 u ∧ Step ρ ρ' D st p.2 w w') := by
 unfold exY at h
 split at h
 case h_2 => cases h
 rename_i r hg
 obtain ⟨envx, hx⟩ := putsK_some h
 obtain ⟨p0, rp, hL0⟩ := List.exists_cons_of_ne_nil (exYb_ne hrn hx)
 have hp0 : p0 ∈ L := by rw [hL0]; simp
 have hDl : D l := hD p0 hp0 l (exYb_mono hrm hx p0 hp0).2
 obtain ⟨b0, s0, ob, q1, q2, q3⟩ := hs.live l _ hDl hg
 rw [hl] at q1; cases q1
 obtain ⟨fn, tmps, dx, sx, rfl, qe, qd⟩ := q3
 obtain ⟨env0, hk, hlen, hE⟩ := putsK_get h hrel qe
 obtain ⟨env1, ds1, st1, r1, L3, h1, hg1, hready, h3, h4⟩ := exYb_some hk
 have m1 := hrm _ _ _ _ _ _ _ h1 _ List.mem_cons_self
 obtain ⟨stb, hstb⟩ : ∃ stb : St, stb = ⟨st1.h.set l (some (.loop { r1 with state := .busy })), st1.nx, st1.base, ins st1.base l st1.R, ins st1.base l st1.W⟩ := ⟨_, rfl⟩
 rw [← hstb] at h3
 have mset : ∀ {s : St} {r r' : SLoop}, s.h.get l = some (.loop r) → Imm r r' → Mono s ⟨s.h.set l (some (.loop r')), s.nx, s.base, ins s.base l s.R, ins s.base l s.W⟩ := fun hg i => ⟨Nat.le_refl _, rfl, ins_sub _ _ _, fun y _ => KeepL.set (by rw [hg]; simp) (fun q e => by
  simp only [SO.loop.injEq] at e
  subst e
  exact ⟨_, hg, i⟩) y⟩
 have m2 : Mono st1 stb := by rw [hstb]; exact mset (r' := { r1 with state := .busy }) hg1 ⟨rfl, rfl, rfl, rfl, rfl, rfl⟩
 have hend : ∀ (o : Out) (lx : List (SV × St)), oneL (yEnd l o) = some lx → ∀ p ∈ lx, Mono o.2.2.2 p.2 := by
  intro o lx e1 p hp
  obtain ⟨p', hp', rfl⟩ := oneL_some e1
  rw [List.mem_singleton] at hp
  subst hp
  obtain ⟨v, s'⟩ := p
  obtain ⟨r3, jump, hg3, hj, hv, rfl⟩ := yEnd_some hp'
  exact mset hg3 ⟨rfl, rfl, rfl, rfl, rfl, rfl⟩
 obtain ⟨d3, f3⟩ := mapB_fst (s := fun o : Out => o.2.2.2) (t := fun p : SV × St => p.2) h4 (fun _ _ => oneL_ne) hend hD hf
 obtain ⟨o0, ro, hL3⟩ := List.exists_cons_of_ne_nil (hrn _ _ _ _ _ _ _ h3)
 have ho0 : o0 ∈ L3 := by rw [hL3]; simp
 have mb : Mono st1 o0.2.2.2 := m2.trans (hrm _ _ _ _ _ _ _ h3 o0 ho0)
 obtain ⟨d1, f1⟩ := Step.fst (D := D) (ρ := ρ) (st := st) mb (d3 o0 ho0) (f3 o0 ho0)
 have hul := hrel.len
 refine ⟨_, _, _, _, run_yield q2 (by simp only [List.size_toArray]; rw [← Array.length_toList]; omega), roundIn_of_wpIn trivial ?_⟩
 have hz : (r.params.zip us.toArray).foldl (fun tmps (t, a) => tmps.setIfInBounds t a) tmps = (r.params.toList.zip us).foldl (fun tmps (t, a) => tmps.setIfInBounds t a) tmps := by
  rw [← Array.foldl_toList, Array.toList_zip]
 rw [hz]
 refine wpIn_mono (hr (some l) r.N r.assign env0 [] st _ h1 ρ D w ⟨_, []⟩ (some lb) hE rfl ⟨lb, s, hl, rfl⟩ hs (fun o ho => by rw [List.mem_singleton] at ho; subst ho; exact d1) (fun o ho => by rw [List.mem_singleton] at ho; subst ho; exact f1)) ?_
 rintro e' a1 w1 ⟨o1, ho1, he', ρ1, he1, hd1, hst1⟩
 rw [List.mem_singleton] at ho1
 subst ho1
 subst he'
 show ∃ w₂, _ ∧ _
 have hle1 := hst1.le f1
 obtain ⟨b1, s1, ob1, q4, q5, q6⟩ := hst1.sim.live l _ (.inl hDl) hg1
 rw [hle1 _ _ hl] at q4; cases q4
 obtain ⟨fn1, tmps1, dx1, sx1, rfl, qe1, qd1⟩ := q6
 obtain ⟨wb, hwb⟩ : ∃ wb, wb = w1.putObj lb (.loop { (⟨r1.state, r1.pending, fn1, tmps1, r1.params, r1.assign, r1.body, dx1⟩ : Loop) with state := .busy }) := ⟨_, rfl⟩
 refine ⟨wb, by rw [hwb]; exact run_beginRound q5 hready, ?_⟩
 have hs2 : Step ρ1 ρ1 (fun x => D x ∨ st.nx ≤ x) st1 stb w1 wb := by
  rw [hstb, hwb]
  exact Step.loop hst1.sim (.inl hDl) hg1 (hle1 _ _ hl) q5 (r' := { r1 with state := .busy }) ⟨fn1, tmps1, dx1, sx1, rfl, qe1, qd1⟩ (ins_sub _ _ _) (ins_sub _ _ _) (ins_has _ _ _)
 have hst2 := hst1.trans hs2
 refine wpIn_mono (hr (some l) r.N r.body env1 ds1 stb L3 h3 ρ1 _ _ a1 (some lb) he1 hd1 ⟨lb, s, hle1 _ _ hl, rfl⟩ hst2.sim (fun o ho => (hst2.snd (d3 o ho) (f3 o ho)).1) (fun o ho => (hst2.snd (d3 o ho) (f3 o ho)).2)) ?_
 rintro e' a3 w3 ⟨o3, ho3, rfl, ρ3, he3, hd3, hst3⟩
 have hle3 := hst3.le (hst2.snd (d3 o3 ho3) (f3 o3 ho3)).2
 have hst23 := hst2.trans hst3
 obtain ⟨lx, e1, e2⟩ := (mapB_mem h4).1 o3 ho3
 obtain ⟨p, hp, rfl⟩ := oneL_some e1
 have hpL : p ∈ L := e2 p (by simp)
 obtain ⟨v, stp⟩ := p
 obtain ⟨r3, jump, hg3, hj, rfl, hst'⟩ := yEnd_some hp
 obtain ⟨b3, s3, ob3, q7, q8, q9⟩ := hst23.sim.live l _ (.inl hDl) hg3
 rw [hle3 _ _ (hle1 _ _ hl)] at q7; cases q7
 obtain ⟨fn3, tmps3, dx3, sx3, rfl, qe3, qd3⟩ := q9
 have hend : ∃ v w', (Instr.endRound lb jump).run P w3 = .ok v w' ∧ ∃ p ∈ L, ∃ u ρ', Ending.returned v = .returned u ∧ Rel ρ' p.1 u ∧ Step ρ ρ' D st p.2 w w' := by
  refine ⟨_, _, run_endRound jump q8, _, hpL, _, ρ3, rfl, by rw [Rel], ?_⟩
  refine hst23.trans ?_
  show Step ρ3 ρ3 _ _ stp _ _
  rw [hst']
  exact Step.loop hst23.sim (.inl hDl) hg3 (hle3 _ _ (hle1 _ _ hl)) q8 (r' := { r3 with state := if jump.isNone then .ready else .done, pending := jump }) ⟨fn3, tmps3, dx3, sx3, rfl, qe3, qd3⟩ (ins_sub _ _ _) (ins_sub _ _ _) (ins_has _ _ _)
 obtain ⟨e3, env3, ds3, st3⟩ := o3
 cases e3 <;> simp only [jmpOf] at hj <;> subst hj <;> exact hend
theorem exO_ok (hen : Enters P) (hrm : RecMono rec) (hrn : RecNE rec) (hr : CodeOK P rec) (hsm : SumOK P sm) {ro : Option Nat} {o : Oper} {env : Tr SV} {L : List (SV × St)} (h : exO P sm rec env o st = some L) : OpOK P (fwd ro) N o env st L := by
 obtain ⟨dst, op, ty, pos, af, g⟩ := o
 cases op with
 | call c =>
  obtain ⟨callee, args, ats⟩ := c
  cases callee with
  | builtin b =>
   simp only [exO] at h
   refine OpOK.of_one (fun _ => trivial) (by simp) h fun v st' ρ D w a h he hs hD hf => ?_
   have := biS_ok (cs := (args.map fun | .const _ => true | _ => false)) (svOps_rel he args.toList) h hs hD hf
   have hmap : args.map a.eval = (args.toList.map a.eval).toArray := by apply Array.ext'; simp
   rw [← hmap] at this
   exact this
  | invoke r n => simp [exO] at h
  | value x =>
   simp only [exO] at h
   intro ρ D w a K Q he hs hD hf hK
   have hx := svOp_rel he x
   have hargs := svOps_rel he args.toList
   have hmap : args.map a.eval = (args.toList.map a.eval).toArray := by apply Array.ext'; simp
   refine ⟨fun _ _ => trivial, ?_⟩
   rw [Oper.semAt_eq _ _ _ (by simp)]
   split at h
   ·rename_i f first cap hsv
    rw [hsv, Rel] at hx
    obtain ⟨us, vs, h1, h2, h3⟩ := hx
    rw [appS_eq, appS_eq] at h
    obtain ⟨hfun, hbody⟩ := exF_ok hrm hrn hr hsm h
    have hev : (execOp a.eval ⟨dst, .call ⟨.value x, args, ats⟩, ty, pos, af, g⟩).run P w = .ok (.enter f (us ++ (args.toList.map a.eval ++ vs)).toArray) w := by
     have := hen f hbody (us ++ (args.toList.map a.eval ++ vs)).toArray w
     simp [execOp, resolve, h3, Deferred.ofValue, invoke, hmap]
     simpa [Array.append_assoc] using this
    rw [hev]
    refine upon_enter (hfun ρ D w _ (h1.app (hargs.app h2)) hs hD hf) ?_
    rintro e w' ⟨p, hp, u, ρ', rfl, g1, g2⟩
    exact ⟨u, rfl, hK p hp u w' ρ' g1 g2⟩
   ·rename_i l hsv
    rw [hsv, Rel] at hx
    obtain ⟨lb, s, h1, h3⟩ := hx
    obtain ⟨f, tmps, assign, body, hy, hround⟩ := exY_ok hrm hrn hr h h1 hargs hs hD hf
    have hev : (execOp a.eval ⟨dst, .call ⟨.value x, args, ats⟩, ty, pos, af, g⟩).run P w = .ok (.round lb f tmps assign body) w := by
     simp only [execOp, resolve, h3, Deferred.ofValue, invoke, hmap]
     simpa using hy
    rw [hev]
    refine uponIn_round_of (r := ro) rfl rfl hround ?_
    rintro e w' ⟨p, hp, u, ρ', rfl, g1, g2⟩
    exact ⟨u, rfl, hK p hp u w' ρ' g1 g2⟩
   ·cases h
 | defer c => simp [exO, opS, oneL] at h
 | next x s =>
  cases s with
  | true => simp [exO] at h
  | false =>
   simp only [exO] at h
   refine OpOK.of_did (fun _ => trivial) (by simp) fun ρ D w a he hs hD hf => ?_
   obtain ⟨p, hp, hd⟩ := nxS_ok (P := P) (ty := ty) (svOp_rel he x) h hs hD
   exact ⟨p, hp, OpDid.of hd⟩
 | _ =>
  simp only [exO] at h
  exact OpOK.of_one (fun _ => trivial) (by simp) h fun v st' ρ D w a h he hs hD hf => opS_ok he h hs hD hf
end
end Go.TX
namespace Go.TX
open Go Go.TH
noncomputable section
variable {P : Program} {sm : Sums} {rec : Rec} {D : Nat → Prop} {ρ ρ' ρ1 : Ren} {st st' st1 st2 : St} {w w' w1 : World} {N : Nat}
theorem exL_ok (hen : Enters P) (hrm : RecMono rec) (hrn : RecNE rec) (hr : CodeOK P rec) (hsm : SumOK P sm) {ro : Option Nat} {ops : List Oper} : ∀ {l : List Oper} {env : Tr SV} {L : List (Tr SV × St)} {st : St} {ρ : Ren} {D : Nat → Prop} {w : World} {a : Act} {Q : Exit → Act → World → Prop},
 exL P sm rec N ops l env st = some L → EnvR ρ N env a.tmps → Sim ρ D st w → (∀ p ∈ L, ∀ x, x ∈ p.2.R ∨ st.base ≤ x → D x) → (∀ p ∈ L, Free ρ st.nx p.2.nx) →
 (∀ p ∈ L, ∀ a' w' ρ', a'.defers = a.defers → EnvR ρ' N p.1 a'.tmps → Step ρ ρ' D st p.2 w w' → Q .normal a' w') → wpListIn (fwd ro) 0 P ops.toArray Q l a w
 | [], env, L, st, ρ, D, w, a, Q, h, he, hs, hD, hf, hQ => by
  simp only [exL, Option.some.injEq] at h
  subst h
  exact hQ _ List.mem_cons_self a w ρ rfl he (Step.refl hs)
 | o :: l, env, L, st, ρ, D, w, a, Q, h, he, hs, hD, hf, hQ => by
  have hdf : ∀ u, (a.put o.dst u).defers = a.defers := fun u => by cases o.dst <;> rfl
  simp only [exL] at h
  simp only [wpListIn]
  split at h
  ·rename_i hw
   rw [if_pos (by rw [wantS_ok he hw])]
   split at h
   case h_2 => cases h
   rename_i L1 h1
   obtain ⟨d1, f1⟩ := mapB_fst (s := fun p : SV × St => p.2) (t := fun p : Tr SV × St => p.2) h (fun p lx e1 => by
    obtain ⟨env1, _, e1⟩ := putK_some e1
    exact exL_ne hrn e1) (fun p lx e1 b hb => by
    obtain ⟨env1, _, e1⟩ := putK_some e1
    exact exL_mono hrm hsm.1 e1 b hb) hD hf
   refine exO_ok hen hrm hrn hr hsm h1 ρ D w a _ _ he hs d1 f1 ?_
   intro p hp u w1 ρ1 hv hst1
   obtain ⟨lx, e1, e2⟩ := (mapB_mem h).1 p hp
   obtain ⟨env1, p1, e1⟩ := putK_some e1
   refine exL_ok hen hrm hrn hr hsm e1 (p1.envR (he.mono (hst1.le (f1 p hp))) hv) hst1.sim (fun b hb => (hst1.snd (hD b (e2 b hb)) (hf b (e2 b hb))).1) (fun b hb => (hst1.snd (hD b (e2 b hb)) (hf b (e2 b hb))).2) ?_
   intro b hb a' w' ρ' hd' he' hst'
   exact hQ b (e2 b hb) a' w' ρ' (hd'.trans (hdf u)) he' (hst1.trans hst')
  ·rename_i hw
   rw [if_neg (by rw [wantS_ok he hw]; simp)]
   obtain ⟨env1, p1, h⟩ := putK_some h
   refine ⟨fun _ _ => trivial, exL_ok hen hrm hrn hr hsm h (p1.envR he (by rw [Rel])) hs hD hf ?_⟩
   intro b hb a' w' ρ' hd' he' hst'
   exact hQ b hb a' w' ρ' (hd'.trans (hdf undef)) he' hst'
  ·cases h
theorem run_enter_in {l0 : Nat} {r0 : Loop} (h : w.heap[l0]? = some (.loop r0)) (fn : FuncId) (tmps : Array Value) (ps : Array Tmp) (assign body : Code) :
 (Instr.enterLoop fn tmps ps assign body (some l0)).run P w = .ok (w.heap.size, []) (w.alloc (.loop { state := .ready, pending := none, fn, tmps, params := ps, assign, body, defers := r0.defers })) := by
 unfold Instr.enterLoop
 simp only [Sem.run_bind, run_getLoop h, run_newObj_alloc, Result.andThen, Sem.run_pure]
theorem rfB_ok (hen : Enters P) (hrm : RecMono rec) (hrn : RecNE rec) (hr : CodeOK P rec) (hsm : SumOK P sm) {ro rb : Option Nat} {g : Operand} {env : Tr SV} {ds0 : List Nat} {l lb : Nat} {s : Nat × Nat} {L : List Out} {a : Act} {Q : Exit → Act → World → Prop} {tmps : Array Value}
 (h : rfB P sm rec ro N g env ds0 l st = some L) (he : EnvR ρ N env tmps) (hl : ρ l = some (lb, s)) (hs : Sim ρ D st w) (hD : ∀ o ∈ L, ∀ x, x ∈ o.2.2.2.R ∨ st.base ≤ x → D x) (hf : ∀ o ∈ L, Free ρ st.nx o.2.2.2.nx) (hro : RoR ρ ro rb) (ht : a.tmps = tmps) (hds : DsR ρ ds0 a.defers)
 (hQ : ∀ o ∈ L, ∀ e' a' w', PostC ρ D N st w o e' a' w' → Q e' a' w') :
 ∃ (d : Deferred) (f : FuncId) (args : Array Value), (∀ a0 : Act, a0.tmps = tmps → (resolve a0.eval (rangeCall g lb) 0).run P w = .ok d w) ∧ (invoke d.target d.args).run P w = .ok (.enter f args) w ∧ CallsIn Fence.wide 0 P f args w (rangePost (fwd rb) 0 P lb Q a) := by
 obtain ⟨o0, ro0, hL0⟩ := List.exists_cons_of_ne_nil (rfB_ne hrn h)
 have ho0 : o0 ∈ L := by rw [hL0]; simp
 have hDl : D l := hD o0 ho0 l (rfB_mono hrm hsm.1 h o0 ho0).2
 obtain ⟨f, first, cap, L3, h1, h2, h3⟩ := rfB_some h
 rw [appS_eq] at h2
 obtain ⟨hfun, hbody⟩ := exF_ok hrm hrn hr hsm h2
 have hx := svOp_rel (a := ⟨tmps, []⟩) he g
 rw [h1, Rel] at hx
 obtain ⟨us, vs, g1, g2, g3⟩ := hx
 have hy : Rel ρ (.yield l) (.func (.yield lb) #[] #[]) := by rw [Rel]; exact ⟨lb, s, hl, rfl⟩
 refine ⟨{ target := .fn (.func f) vs.toArray, args := us.toArray ++ #[.func (.yield lb) #[] #[]] }, f, (us ++ (.func (.yield lb) #[] #[] :: vs)).toArray, ?_, ?_, ?_⟩
 ·intro a0 ha0
  have e0 : a0.eval g = .func (.func f) us.toArray vs.toArray := by
   rw [← g3]
   cases g <;> simp only [Act.eval, ha0]
  simp only [resolve, rangeCall, e0]
  simp [go_sem, Deferred.ofValue, Act.eval]
 ·have := hen f hbody (us ++ (.func (.yield lb) #[] #[] :: vs)).toArray w
  simp only [invoke]
  simpa [Array.append_assoc] using this
 ·obtain ⟨d1, f1⟩ := mapB_fst (s := fun p : SV × St => p.2) (t := fun o : Out => o.2.2.2) h3 (fun _ _ => rfE_ne hrn) (fun p lx e1 b hb => (rfE_mono hrm e1 b hb).1) hD hf
  refine CallsIn.mono (hfun ρ D w _ (g1.app (RelL.cons hy g2)) hs d1 f1) ?_
  rintro e3 w3 ⟨p, hp, u, ρ3, rfl, _, hst3⟩
  have hle := hst3.le (f1 p hp)
  obtain ⟨lx, e1, e2⟩ := (mapB_mem h3).1 p hp
  obtain ⟨r, k1, k2, k3⟩ := rfE_some e1
  obtain ⟨b3, s3, ob3, q7, q8, q9⟩ := hst3.sim.live l _ (.inl hDl) k1
  rw [hle _ _ hl] at q7; cases q7
  obtain ⟨fn3, tmps3, dx3, sx3, rfl, qe3, qd3⟩ := q9
  obtain ⟨w4, hw4⟩ : ∃ w4, w4 = w3.putObj lb (.loop { (⟨r.state, r.pending, fn3, tmps3, r.params, r.assign, r.body, dx3⟩ : Loop) with state := .exhausted }) := ⟨_, rfl⟩
  have hst4 : Step ρ3 ρ3 (fun x => D x ∨ st.nx ≤ x) p.2 ⟨p.2.h.set l (some (.loop { r with state := .exhausted })), p.2.nx, p.2.base, ins p.2.base l p.2.R, ins p.2.base l p.2.W⟩ w3 w4 := by
   rw [hw4]
   exact Step.loop hst3.sim (.inl hDl) k1 (hle _ _ hl) q8 (r' := { r with state := .exhausted }) (q' := { (⟨r.state, r.pending, fn3, tmps3, r.params, r.assign, r.body, dx3⟩ : Loop) with state := .exhausted }) ⟨fn3, tmps3, dx3, sx3, rfl, qe3, qd3⟩ (ins_sub _ _ _) (ins_sub _ _ _) (ins_has _ _ _)
  have hst := hst3.trans hst4
  refine ⟨r.pending, w4, by rw [hw4]; exact run_endLoop q8 k2, ?_⟩
  have he3 : EnvR ρ3 N env a.tmps := by rw [ht]; exact he.mono hle
  have hd3 := hds.mono hle
  split at k3
  ·rename_i hpe
   simp only [Option.some.injEq] at k3
   subst k3
   rw [hpe]
   exact hQ _ (e2 _ List.mem_cons_self) _ _ _ ⟨rfl, ρ3, he3, hd3, hst⟩
  ·rename_i c hpe
   rw [hpe]
   refine wpIn_mono (hr _ _ _ _ _ _ _ k3 ρ3 _ _ a rb he3 hd3 (hro.mono hle) hst.sim (fun o ho => (hst.snd (hD o (e2 o ho)) (hf o (e2 o ho))).1) (fun o ho => (hst.snd (hD o (e2 o ho)) (hf o (e2 o ho))).2)) ?_
   rintro e' a' w' ⟨o, ho, he', ρ', p1, p2, p3⟩
   exact hQ o (e2 o ho) _ _ _ ⟨he', ρ', p1, p2, hst.trans p3⟩
end
end Go.TX
namespace Go.TX
open Go Go.TH
noncomputable section
variable {P : Program} {sm : Sums} {rec : Rec} {D : Nat → Prop} {ρ ρ' ρ1 : Ren} {st st' st1 st2 : St} {w w' w1 : World} {N : Nat}
theorem rfS_ok (hen : Enters P) (hrm : RecMono rec) (hrn : RecNE rec) (hr : CodeOK P rec) (hsm : SumOK P sm) {ro rb : Option Nat} {g : Operand} {ps : Array Tmp} {assign body : Code} {env : Tr SV} {ds : List Nat} {L : List Out} {a : Act}
 (h : rfS P sm rec ro N g ps assign body env ds st = some L) (he : EnvR ρ N env a.tmps) (hds : DsR ρ ds a.defers) (hro : RoR ρ ro rb) (hs : Sim ρ D st w) (hD : ∀ o ∈ L, ∀ x, x ∈ o.2.2.2.R ∨ st.base ≤ x → D x) (hf : ∀ o ∈ L, Free ρ st.nx o.2.2.2.nx) :
 (Code.rangeFunc g ps assign body).wpIn (fwd rb) 0 P (fun e' a' w' => ∃ o ∈ L, PostC ρ D N st w o e' a' w') a w := by
 refine wpIn_rangeFunc ?_
 intro fn _
 unfold rfS at h
 cases ro with
 | none =>
  simp only [RoR] at hro
  subst hro
  simp only [newK_eq] at h
  obtain ⟨o0, ro0, hL0⟩ := List.exists_cons_of_ne_nil (rfB_ne hrn h)
  have ho0 : o0 ∈ L := by rw [hL0]; simp
  have hn1 : st.nx + 1 + 1 ≤ o0.2.2.2.nx := (rfB_mono hrm hsm.1 h o0 ho0).1.nx
  have f0 : ρ st.nx = none := hf o0 ho0 _ (Nat.le_refl _) (by omega)
  have hst1 := Step.new (o := .dfr false) (ob := .deferred (some [])) (s := (0, 0)) (w' := w.alloc (.deferred (some []))) hs f0 rfl rfl rfl rfl rfl
  have f1 : (ρ.put st.nx w.heap.size (0, 0)) (st.nx + 1) = none := by
   unfold Ren.put; rw [if_neg (by omega)]; exact hf o0 ho0 _ (by omega) (by omega)
  have hle1 : ρ.Le (ρ.put st.nx w.heap.size (0, 0)) := Ren.put_le f0
  obtain ⟨lp, hlp⟩ : ∃ lp : Loop, lp = { state := .ready, pending := none, fn, tmps := a.tmps, params := ps, assign, body, defers := w.heap.size } := ⟨_, rfl⟩
  have hle2 := Ren.put_le (b := (w.alloc (.deferred (some []))).heap.size) (s := (0, 0)) f1
  have hdr : ((ρ.put st.nx w.heap.size (0, 0)).put (st.nx + 1) (w.alloc (.deferred (some []))).heap.size (0, 0)) st.nx = some (w.heap.size, (0, 0)) := hle2 _ _ Ren.put_at
  have hst2 := Step.new (o := .loop ⟨.ready, none, N, env, ps, assign, body, st.nx⟩) (ob := .loop lp) (s := (0, 0)) (w' := (w.alloc (.deferred (some []))).alloc (.loop lp)) hst1.sim f1 ⟨fn, a.tmps, w.heap.size, (0, 0), by rw [hlp], (he.mono hle1).mono hle2, hdr⟩ rfl rfl rfl rfl
  have hst := hst1.trans hst2
  have hlb : ((ρ.put st.nx w.heap.size (0, 0)).put (st.nx + 1) (w.alloc (.deferred (some []))).heap.size (0, 0)) (st.nx + 1) = some ((w.alloc (.deferred (some []))).heap.size, (0, 0)) := Ren.put_at
  have hsz : (w.alloc (.deferred (some []))).heap.size = w.heap.size + 1 := by simp
  obtain ⟨d, f, args, g1, g2, g3⟩ := rfB_ok hen hrm hrn hr hsm (rb := none) (a := { a with defers := [TH.mark w.heap.size] ++ a.defers }) (Q := fun e' a' w' => ∃ o ∈ L, PostC ρ D N st w o e' a' w') h ((he.mono hle1).mono hle2) hlb hst.sim (fun o ho => (hst.snd (hD o ho) (hf o ho)).1) (fun o ho => (hst.snd (hD o ho) (hf o ho)).2) rfl rfl ⟨w.heap.size, (0, 0), a.defers, rfl, hdr, (hds.mono hle1).mono hle2⟩ (fun o ho e' a' w' => by
   rintro ⟨p1, ρ', p2, p3, p4⟩
   exact ⟨o, ho, p1, ρ', p2, p3, hst.trans p4⟩)
  refine ⟨_, [TH.mark w.heap.size], _, d, _, f, args, _, ?_, g1 a rfl, fun _ _ => trivial, g2, fun h => by simp [fwd, Fence.wide] at h, g3⟩
  rw [hlp, hsz]
  exact run_enterLoop_outer fn a.tmps ps assign body
 | some l0 =>
  simp only at h
  split at h
  case h_2 => cases h
  rename_i r0 hg
  rw [insK_eq, newK_eq] at h
  obtain ⟨lb0, s0, hl0, rfl⟩ := hro
  obtain ⟨o0, ro0, hL0⟩ := List.exists_cons_of_ne_nil (rfB_ne hrn h)
  have ho0 : o0 ∈ L := by rw [hL0]; simp
  have hmono := (rfB_mono hrm hsm.1 h o0 ho0).1
  have hn1 : st.nx + 1 ≤ o0.2.2.2.nx := hmono.nx
  have hDl : D l0 := hD o0 ho0 l0 (by
   rcases ins_has st.base l0 st.R with q | q
   ·exact .inl (hmono.R _ q)
   ·exact .inr q)
  obtain ⟨b0, s1, ob, q1, q2, q3⟩ := hs.live l0 _ hDl hg
  rw [hl0] at q1; cases q1
  obtain ⟨fn0, tmps0, dx, sx, rfl, qe, qd⟩ := q3
  have f0 : ρ st.nx = none := hf o0 ho0 _ (Nat.le_refl _) (by omega)
  have hle1 : ρ.Le (ρ.put st.nx w.heap.size (0, 0)) := Ren.put_le f0
  obtain ⟨lp, hlp⟩ : ∃ lp : Loop, lp = { state := .ready, pending := none, fn, tmps := a.tmps, params := ps, assign, body, defers := dx } := ⟨_, rfl⟩
  have ht := Step.touch (R := ins st.base l0 st.R) (W := st.W) hs (ins_sub _ _ _) fun _ h => h
  have hst2 := Step.new (st := ⟨st.h, st.nx, st.base, ins st.base l0 st.R, st.W⟩) (o := .loop ⟨.ready, none, N, env, ps, assign, body, r0.defers⟩) (ob := .loop lp) (s := (0, 0)) (w' := w.alloc (.loop lp)) ht.sim f0 ⟨fn, a.tmps, dx, sx, by rw [hlp], he.mono hle1, hle1 _ _ qd⟩ rfl rfl rfl rfl
  have hst := ht.trans hst2
  obtain ⟨d, f, args, g1, g2, g3⟩ := rfB_ok hen hrm hrn hr hsm (rb := some lb0) (a := { a with defers := [] ++ a.defers }) (Q := fun e' a' w' => ∃ o ∈ L, PostC ρ D N st w o e' a' w') h (he.mono hle1) Ren.put_at hst.sim (fun o ho => (hst.snd (hD o ho) (hf o ho)).1) (fun o ho => (hst.snd (hD o ho) (hf o ho)).2) ⟨lb0, s0, hle1 _ _ hl0, rfl⟩ rfl (hds.mono hle1) (fun o ho e' a' w' => by
   rintro ⟨p1, ρ', p2, p3, p4⟩
   exact ⟨o, ho, p1, ρ', p2, p3, hst.trans p4⟩)
  refine ⟨w.heap.size, [], _, d, _, f, args, _, ?_, g1 a rfl, fun _ _ => trivial, g2, fun h => by simp [fwd, Fence.wide] at h, g3⟩
  rw [hlp]
  exact run_enter_in q2 fn a.tmps ps assign body
def LoopIn (F : Fence) (P : Program) (c : Code) (Q : Exit → Act → World → Prop) (a : Act) (w : World) : Prop :=
 ∀ (b : Frame) (k : List Item) (cs : List Frame), b.roundOf = F.round → F.fn b.fn → F.room (cs.length + 1 + 0) →
  ∃ e a' w', Q e a' w' ∧ ArrivesIn (Machine.fenced P F) P (lone (b.atR a (.code c :: .inLoop c :: k)) cs w) b k cs e a' w'
theorem LoopIn.wp {F : Fence} {c : Code} {Q : Exit → Act → World → Prop} {a : Act} (h : LoopIn F P c Q a w) : (Code.loop c).wpIn F 0 P Q a w := by
 intro b k cs hro hb hr
 obtain ⟨e, a', w', hq, harr⟩ := h b k cs hro hb hr
 exact ⟨e, a', w', hq, .of_steps (.one (fenced_calm hb hr rfl) stepR_loop) harr⟩
theorem LoopIn.of {F : Fence} {c : Code} {Q : Exit → Act → World → Prop} {a : Act} (h : c.wpIn F 0 P (Exit.then (LoopIn F P c Q) Q) a w) : LoopIn F P c Q a w := by
 intro b k cs hro hb hr
 obtain ⟨e, a₁, w₁, hq, harr⟩ := h b (.inLoop c :: k) cs hro hb hr
 cases e with
 | normal =>
  obtain ⟨e₂, a₂, w₂, hq₂, harr₂⟩ := hq b k cs hro hb hr
  exact ⟨e₂, a₂, w₂, hq₂, .of_steps (StepsIn.trans harr (.one (fenced_calm hb hr rfl) stepR_inLoop)) harr₂⟩
 | exit id => exact ⟨_, a₁, w₁, hq, .pass (x := .inLoop c) rfl (fun _ _ => .inl (by simp)) harr⟩
 | goto l => exact ⟨_, a₁, w₁, hq, .pass (x := .inLoop c) rfl (fun _ _ => .inl (by simp)) harr⟩
 | ret => exact ⟨_, a₁, w₁, hq, .pass (x := .inLoop c) rfl (fun _ _ => .inl (by simp)) harr⟩
 | panic ch => exact ⟨_, a₁, w₁, hq, .pass (x := .inLoop c) rfl (fun _ _ => .inl (by simp)) harr⟩
 | outgrown => exact ⟨_, a₁, w₁, hq, .pass (x := .inLoop c) rfl (fun _ _ => .inl (by simp)) harr⟩
theorem LoopIn.mono {F : Fence} {c : Code} {Q Q' : Exit → Act → World → Prop} {a : Act} (h : LoopIn F P c Q a w) (hq : ∀ e a w, Q e a w → Q' e a w) : LoopIn F P c Q' a w := by
 intro b k cs hro hb hr
 obtain ⟨e, a', w', q, harr⟩ := h b k cs hro hb hr
 exact ⟨e, a', w', hq _ _ _ q, harr⟩
def LoopOK (P : Program) (rec : Rec) : Prop := ∀ ro N c env ds st L, rec ro N (.loop c) env ds st = some L →
 ∀ (ρ : Ren) (D : Nat → Prop) (w : World) (a : Act) (rb : Option Nat), EnvR ρ N env a.tmps → DsR ρ ds a.defers → RoR ρ ro rb → Sim ρ D st w → (∀ o ∈ L, ∀ x, x ∈ o.2.2.2.R ∨ st.base ≤ x → D x) → (∀ o ∈ L, Free ρ st.nx o.2.2.2.nx) →
  LoopIn (fwd rb) P c (fun e' a' w' => ∃ o ∈ L, PostC ρ D N st w o e' a' w') a w
theorem wpIn_scope_of {F : Fence} {c : Code} {Q : Exit → Act → World → Prop} {a : Act} (h : c.wpIn F 0 P (fun e a w => (∀ l, e ≠ .goto l) ∧ Q e a w) a w) : (Code.scope c).wpIn F 0 P Q a w := by
 intro b k cs hro hb hr
 obtain ⟨e, a₁, w₁, ⟨hg, hq⟩, harr⟩ := h b (.inScope c :: k) cs hro hb hr
 cases e with
 | normal => exact ⟨.normal, a₁, w₁, hq, .of_steps (.one (fenced_calm hb hr rfl) stepR_scope) (StepsIn.trans harr (.one (fenced_calm hb hr rfl) stepR_inScope))⟩
 | exit id => exact ⟨.exit id, a₁, w₁, hq, .of_steps (.one (fenced_calm hb hr rfl) stepR_scope) ⟨fun k' hk => harr.1 k' (by simp [exitTo, hk]), fun hr' hk => harr.2 hr' (by simp [exitTo, hk])⟩⟩
 | goto l => exact absurd rfl (hg l)
 | ret => exact ⟨_, a₁, w₁, hq, .of_steps (.one (fenced_calm hb hr rfl) stepR_scope) harr⟩
 | panic ch => exact ⟨_, a₁, w₁, hq, .of_steps (.one (fenced_calm hb hr rfl) stepR_scope) harr⟩
 | outgrown => exact ⟨_, a₁, w₁, hq, .of_steps (.one (fenced_calm hb hr rfl) stepR_scope) harr⟩
theorem stepC_ok (hm : P.follows .mixedOrders = true) (hen : Enters P) (hrm : RecMono rec) (hrn : RecNE rec) (hr : CodeOK P rec) (hl : LoopOK P rec) (hsm : SumOK P sm) : CodeOK P (stepC P sm rec) ∧ LoopOK P (stepC P sm rec) := by
 have hthn : ∀ {ro : Option Nat} {N : Nat} {y : Code} {L1 L : List Out} {st : St} {ρ : Ren} {D : Nat → Prop}, mapB (thnS rec ro N y) L1 = some L → (∀ o ∈ L, ∀ x, x ∈ o.2.2.2.R ∨ st.base ≤ x → D x) → (∀ o ∈ L, Free ρ st.nx o.2.2.2.nx) → (∀ o ∈ L1, ∀ x, x ∈ o.2.2.2.R ∨ st.base ≤ x → D x) ∧ ∀ o ∈ L1, Free ρ st.nx o.2.2.2.nx :=
  fun h hD hf => mapB_fst (s := fun o : Out => o.2.2.2) (t := fun o : Out => o.2.2.2) h (fun _ _ => thnS_ne hrn) (fun _ _ => thnS_mono hrm) hD hf
 have hloop : LoopOK P (stepC P sm rec) := by
  intro ro N c env ds st L h ρ D w a rb he hds hro hs hD hf
  simp only [stepC] at h
  split at h
  case h_2 => cases h
  rename_i L1 h1
  obtain ⟨d1, f1⟩ := hthn h hD hf
  refine LoopIn.of (wpIn_mono (hr _ _ _ _ _ _ _ h1 ρ D w a rb he hds hro hs d1 f1) ?_)
  rintro e' a1 w1 ⟨o1, ho1, rfl, ρ1, he1, hd1, hst1⟩
  obtain ⟨lx, e1, e2⟩ := (mapB_mem h).1 o1 ho1
  have hle := hst1.le (f1 o1 ho1)
  obtain ⟨ex, env1, ds1, st1⟩ := o1
  cases ex <;> simp only [thnS] at e1
  ·refine LoopIn.mono (hl _ _ _ _ _ _ _ e1 ρ1 _ w1 a1 rb he1 hd1 (hro.mono hle) hst1.sim (fun o ho => (hst1.snd (hD o (e2 o ho)) (hf o (e2 o ho))).1) (fun o ho => (hst1.snd (hD o (e2 o ho)) (hf o (e2 o ho))).2)) ?_
   rintro e' a2 w2 ⟨o2, ho2, rfl, ρ2, he2, hd2, hst2⟩
   exact ⟨o2, e2 o2 ho2, rfl, ρ2, he2, hd2, hst1.trans hst2⟩
  all_goals
   simp only [Option.some.injEq] at e1
   subst e1
   exact ⟨_, e2 _ List.mem_cons_self, rfl, ρ1, he1, hd1, hst1⟩
 refine ⟨?_, hloop⟩
 intro ro N c env ds st L h ρ D w a rb he hds hro hs hD hf
 have refl : ∀ {e0 : Ex}, some [(e0, env, ds, st)] = some L → ∃ o ∈ L, PostC ρ D N st w o (exOf e0) a w := by
  intro e0 h
  simp only [Option.some.injEq] at h
  subst h
  exact ⟨_, List.mem_cons_self, rfl, ρ, he, hds, Step.refl hs⟩
 cases c
 case loop b => exact LoopIn.wp (hloop ro N b env ds st L h ρ D w a rb he hds hro hs hD hf)
 all_goals simp only [stepC] at h
 case skip => exact wpIn_skip (refl h)
 case region id ops draw =>
  split at h
  ·split at h
   case h_2 => cases h
   rename_i L1 h1
   obtain ⟨l⟩ := ops
   have hin : ∀ p ∈ L1, (Ex.nrm, p.1, ds, p.2) ∈ L := by
    intro p hp
    obtain ⟨lx, e1, e2⟩ := (mapB_mem h).1 p hp
    simp only [nrmS, Option.some.injEq] at e1
    subst e1
    exact e2 _ List.mem_cons_self
   refine wpIn_region_lit (exL_ok hen hrm hrn hr hsm h1 he hs (fun p hp => hD _ (hin p hp)) (fun p hp => hf _ (hin p hp)) ?_)
   intro p hp a' w' ρ' hd' he' hst'
   refine ⟨_, hin p hp, rfl, ρ', he', ?_, hst'⟩
   show DsR ρ' ds a'.defers
   rw [hd']; exact hds.mono (hst'.le (hf _ (hin p hp)))
  ·split at h
   case h_2 => cases h
   rename_i p h1
   simp only [nrmS, Option.some.injEq] at h
   subst h
   refine wpIn_mono (exD_ok (F := fwd rb) (fun _ => trivial) hm (fun o env st L h => exO_ok hen hrm hrn hr hsm h) h1 he hs (hD _ List.mem_cons_self) (hf _ List.mem_cons_self)) ?_
   rintro e' a' w' ⟨rfl, ρ', hd', he', hst'⟩
   refine ⟨_, List.mem_cons_self, rfl, ρ', he', ?_, hst'⟩
   show DsR ρ' ds a'.defers
   rw [hd']; exact hds.mono (hst'.le (hf _ List.mem_cons_self))
 case seq x y =>
  split at h
  case h_2 => cases h
  rename_i L1 h1
  obtain ⟨d1, f1⟩ := hthn h hD hf
  refine wpIn_seq (wpIn_mono (hr _ _ _ _ _ _ _ h1 ρ D w a rb he hds hro hs d1 f1) ?_)
  rintro e' a1 w1 ⟨o1, ho1, rfl, ρ1, he1, hd1, hst1⟩
  obtain ⟨lx, e1, e2⟩ := (mapB_mem h).1 o1 ho1
  have hle := hst1.le (f1 o1 ho1)
  obtain ⟨ex, env1, ds1, st1⟩ := o1
  cases ex <;> simp only [thnS] at e1
  ·refine wpIn_mono (hr _ _ _ _ _ _ _ e1 ρ1 _ w1 a1 rb he1 hd1 (hro.mono hle) hst1.sim (fun o ho => (hst1.snd (hD o (e2 o ho)) (hf o (e2 o ho))).1) (fun o ho => (hst1.snd (hD o (e2 o ho)) (hf o (e2 o ho))).2)) ?_
   rintro e' a2 w2 ⟨o2, ho2, rfl, ρ2, he2, hd2, hst2⟩
   exact ⟨o2, e2 o2 ho2, rfl, ρ2, he2, hd2, hst1.trans hst2⟩
  all_goals
   simp only [Option.some.injEq] at e1
   subst e1
   exact ⟨_, e2 _ List.mem_cons_self, rfl, ρ1, he1, hd1, hst1⟩
 case cond c x y =>
  have hc := svOp_rel he c
  split at h
  ·rename_i hv
   rw [hv, Rel] at hc
   exact wpIn_cond_true hc (hr _ _ _ _ _ _ _ h ρ D w a rb he hds hro hs hD hf)
  ·rename_i hv
   rw [hv, Rel] at hc
   exact wpIn_cond_false hc (hr _ _ _ _ _ _ _ h ρ D w a rb he hds hro hs hD hf)
  ·cases h
 case block id b =>
  split at h
  case h_2 => cases h
  rename_i L1 h1
  obtain ⟨d1, f1⟩ := mapB_fst (ρ := ρ) (D := D) (st := st) (s := fun o : Out => o.2.2.2) (t := fun o : Out => o.2.2.2) h (fun _ _ => blkS_ne) (fun o lx e1 b hb => by
   obtain ⟨e, env', ds', st1⟩ := o
   cases e <;> simp only [blkS] at e1
   case ext i => refine Mono.bif e1 ?_ ?_ <;> intro h <;> (rw [outs1 h hb]; exact Mono.refl _)
   all_goals (rw [outs1 e1 hb]; exact Mono.refl _)) hD hf
  refine wpIn_block (wpIn_mono (hr _ _ _ _ _ _ _ h1 ρ D w a rb he hds hro hs d1 f1) ?_)
  rintro e' a1 w1 ⟨o1, ho1, rfl, ρ1, he1, hd1, hst1⟩
  obtain ⟨lx, e1, e2⟩ := (mapB_mem h).1 o1 ho1
  obtain ⟨ex, env1, ds1, st1⟩ := o1
  cases ex <;> simp only [blkS] at e1
  case ext i =>
   simp only [exOf, Exit.inBlock]
   cases hb : Nat.beq i id with
   | true =>
    rw [hb, cond_true] at e1
    simp only [Option.some.injEq] at e1
    subst e1
    rw [if_pos (Nat.eq_of_beq_eq_true hb)]
    exact ⟨_, e2 _ List.mem_cons_self, rfl, ρ1, he1, hd1, hst1⟩
   | false =>
    rw [hb, cond_false] at e1
    simp only [Option.some.injEq] at e1
    subst e1
    rw [if_neg (fun q => by rw [q, Nat.beq_refl] at hb; cases hb)]
    exact ⟨_, e2 _ List.mem_cons_self, rfl, ρ1, he1, hd1, hst1⟩
  all_goals
   simp only [Option.some.injEq] at e1
   subst e1
   exact ⟨_, e2 _ List.mem_cons_self, rfl, ρ1, he1, hd1, hst1⟩
 case rangeFunc g ps assign body => exact rfS_ok hen hrm hrn hr hsm h he hds hro hs hD hf
 case exit id => exact wpIn_exit (refl h)
 case scope b =>
  split at h
  case h_2 => cases h
  rename_i L1 h1
  obtain ⟨d1, f1⟩ := mapB_fst (ρ := ρ) (D := D) (st := st) (s := fun o : Out => o.2.2.2) (t := fun o : Out => o.2.2.2) h (fun _ _ => scoS_ne) (fun o lx e1 b hb => by
   obtain ⟨e, env', ds', st1⟩ := o
   cases e <;> simp only [scoS] at e1 <;> first
    |(cases e1; done)
    |(rw [outs1 e1 hb]; exact Mono.refl _)) hD hf
  refine wpIn_scope_of (wpIn_mono (hr _ _ _ _ _ _ _ h1 ρ D w a rb he hds hro hs d1 f1) ?_)
  rintro e' a1 w1 ⟨o1, ho1, rfl, ρ1, he1, hd1, hst1⟩
  obtain ⟨lx, e1, e2⟩ := (mapB_mem h).1 o1 ho1
  obtain ⟨ex, env1, ds1, st1⟩ := o1
  cases ex <;> simp only [scoS] at e1 <;> first
   |(cases e1; done)
   |(simp only [Option.some.injEq] at e1
     subst e1
     exact ⟨fun l q => (by cases q), _, e2 _ List.mem_cons_self, rfl, ρ1, he1, hd1, hst1⟩)
 case label l => exact wpIn_label (refl h)
 case goto l => exact wpIn_goto (refl h)
 case ret => exact wpIn_ret (refl h)
 case refuse => cases h
structure Kept (w w' : World) : Prop where
 os : w'.os = w.os
 tape : w'.tape = w.tape
 output : w'.output = w.output
 size : w.heap.size ≤ w'.heap.size
 keep : ∀ b, b < w.heap.size → w'.heap[b]? = w.heap[b]?
theorem allT_ok : ∀ {L : List (SV × St)}, allT L = true → ∀ p ∈ L, p.1 = .raw (.bool true)
 | [], _, p, hp => by cases hp
 | q :: r, h, p, hp => by
  simp only [allT] at h
  split at h
  ·rename_i hq
   rcases List.mem_cons.1 hp with rfl | hp
   ·exact hq
   ·exact allT_ok h p hp
  ·cases h
end
end Go.TX
namespace Go.TX
open Go Go.TH
noncomputable section
structure Ans where
 v : SV
 e : Ex
 env : Tr SV
 ds : List Nat
 st : St
abbrev RB := Option (List Ans)
section lists
variable {α : Type}
def nthF (l : List α) : Nat → Option α := List.rec (motive := fun _ => Nat → Option α) (fun _ => none) (fun x _ ih n => Nat.rec (motive := fun _ => Option α) (some x) (fun m _ => ih m) n) l
theorem nthF_eq : ∀ (l : List α) (n : Nat), nthF l n = nth l n
 | [], n => by cases n <;> rfl
 | x :: r, 0 => rfl
 | x :: r, n + 1 => nthF_eq r n
def nthV (l : List SV) : Nat → Option SV := List.rec (motive := fun _ => Nat → Option SV) (fun _ => none) (fun x _ ih n => Nat.rec (motive := fun _ => Option SV) (some x) (fun m _ => ih m) n) l
theorem nthV_eq : ∀ (l : List SV) (n : Nat), nthV l n = nth l n
 | [], n => by cases n <;> rfl
 | x :: r, 0 => rfl
 | x :: r, n + 1 => nthV_eq r n
def takeF (l : List SV) : Nat → (List SV → RB) → RB := List.rec (motive := fun _ => Nat → (List SV → RB) → RB) (fun n k => Nat.rec (motive := fun _ => RB) (k []) (fun _ _ => none) n) (fun x _ ih n k => Nat.rec (motive := fun _ => RB) (k []) (fun m _ => ih m (fun t => k (x :: t))) n) l
theorem takeF_eq : ∀ (l : List SV) (n : Nat) (k : List SV → RB), takeF l n k = takeK l n k
 | [], 0, k => by simp [takeK]; rfl
 | [], n + 1, k => by simp [takeK]; rfl
 | x :: r, 0, k => by simp [takeK]; rfl
 | x :: r, n + 1, k => by simp only [takeK]; exact takeF_eq r n _
def subF (l : List SV) : Nat → Nat → (List SV → RB) → RB := List.rec (motive := fun _ => Nat → Nat → (List SV → RB) → RB) (fun o n k => Nat.rec (motive := fun _ => RB) (takeF [] n k) (fun _ _ => none) o) (fun x r ih o n k => Nat.rec (motive := fun _ => RB) (takeF (x :: r) n k) (fun o' _ => ih o' n k) o) l
theorem subF_eq : ∀ (l : List SV) (o n : Nat) (k : List SV → RB), subF l o n k = subK l o n k
 | [], 0, n, k => by simp only [subK]; exact takeF_eq [] n k
 | [], o + 1, n, k => by cases n <;> simp [subK] <;> rfl
 | x :: r, 0, n, k => by simp only [subK]; exact takeF_eq (x :: r) n k
 | x :: r, o + 1, n, k => by simp only [subK]; exact subF_eq r o n k
def preF (l : List SV) (vs : List SV) (k : List SV → RB) : RB := List.rec (motive := fun _ => List SV → (List SV → RB) → RB) (fun r k => k r) (fun v _ ih r k => List.rec (motive := fun _ => RB) none (fun _ r' _ => ih r' (fun t => k (v :: t))) r) vs l k
theorem preF_eq : ∀ (vs l : List SV) (k : List SV → RB), preF l vs k = preK l vs k
 | [], l, k => by cases l <;> simp [preK] <;> rfl
 | v :: vs, [], k => by simp [preK]; rfl
 | v :: vs, x :: r, k => by simp only [preK]; exact preF_eq vs r _
def wrF (l : List SV) : Nat → List SV → (List SV → RB) → RB := List.rec (motive := fun _ => Nat → List SV → (List SV → RB) → RB) (fun o vs k => Nat.rec (motive := fun _ => RB) (preF [] vs k) (fun _ _ => none) o) (fun x r ih o vs k => Nat.rec (motive := fun _ => RB) (preF (x :: r) vs k) (fun o' _ => ih o' vs (fun t => k (x :: t))) o) l
theorem wrF_eq : ∀ (l : List SV) (o : Nat) (vs : List SV) (k : List SV → RB), wrF l o vs k = wrK l o vs k
 | [], 0, vs, k => by simp [wrK]; exact preF_eq _ _ _
 | [], o + 1, vs, k => by simp [wrK]; rfl
 | x :: r, 0, vs, k => by simp [wrK]; exact preF_eq _ _ _
 | x :: r, o + 1, vs, k => by simp only [wrK]; exact wrF_eq r o vs _
def llenF (l : List SV) : Nat := List.rec (motive := fun _ => Nat) 0 (fun _ _ ih => Nat.succ ih) l
theorem llenF_eq : ∀ (l : List SV), llenF l = llen l
 | [] => rfl
 | _ :: r => congrArg Nat.succ (llenF_eq r)
def membF (x : Nat) (l : List Nat) : Bool := List.rec (motive := fun _ => Bool) false (fun y _ ih => Bool.rec (motive := fun _ => Bool) ih true (Nat.beq x y)) l
theorem membF_eq (x : Nat) : ∀ (l : List Nat), membF x l = memb x l
 | [] => rfl
 | y :: r => by
  simp only [memb]
  show Bool.rec (motive := fun _ => Bool) (membF x r) true (Nat.beq x y) = _
  rw [membF_eq x r]
  cases Nat.beq x y <;> rfl
def insF (b x : Nat) (l : List Nat) (k : List Nat → RB) : RB := Bool.rec (motive := fun _ => RB) (k l) (Bool.rec (motive := fun _ => RB) (k (x :: l)) (k l) (membF x l)) (Nat.ble (Nat.succ x) b)
theorem insF_eq (b x : Nat) (l : List Nat) (k : List Nat → RB) : insF b x l k = insK b x l k := by
 unfold insF insK Nat.blt
 rw [membF_eq]
 cases Nat.ble (Nat.succ x) b <;> cases memb x l <;> rfl
end lists
section
def ptrF (v : SV) (d : RB) (f : Nat → Nat → RB) : RB := SV.rec (motive_1 := fun _ => RB → (Nat → Nat → RB) → RB) (motive_2 := fun _ => PUnit) (fun _ d _ => d) (fun b o _ f => f b o) (fun _ _ _ _ d _ => d) (fun d _ => d) (fun _ d _ => d) (fun _ _ _ _ _ d _ => d) (fun _ d _ => d) (fun _ _ d _ => d) (fun _ _ d _ => d) (fun d _ => d) ⟨⟩ (fun _ _ _ _ => ⟨⟩) v d f
theorem ptrF_eq (v : SV) (d : RB) (f : Nat → Nat → RB) : ptrF v d f = match v with
 | .ptr b o => f b o
 | _ => d := by cases v <;> rfl
def valF (v : Value) (d : RB) (f : IntKind → Int → RB) : RB := Value.rec (motive_1 := fun _ => RB → (IntKind → Int → RB) → RB) (motive_2 := fun _ => PUnit) (motive_3 := fun _ => PUnit) (fun _ d _ => d) (fun k n _ f => f k n) (fun _ _ d _ => d) (fun _ _ _ d _ => d) (fun _ d _ => d) (fun _ d _ => d) (fun _ _ _ d _ => d) (fun _ d _ => d) (fun _ d _ => d) (fun _ _ _ _ _ d _ => d) (fun d _ => d) (fun _ _ _ d _ => d) (fun d _ => d) (fun _ _ d _ => d) (fun _ _ d _ => d) (fun _ _ => ⟨⟩) ⟨⟩ (fun _ _ _ _ => ⟨⟩) v d f
def intF (v : SV) (d : RB) (f : IntKind → Int → RB) : RB := SV.rec (motive_1 := fun _ => RB → (IntKind → Int → RB) → RB) (motive_2 := fun _ => PUnit) (fun v d f => valF v d f) (fun _ _ d _ => d) (fun _ _ _ _ d _ => d) (fun d _ => d) (fun _ d _ => d) (fun _ _ _ _ _ d _ => d) (fun _ d _ => d) (fun _ _ d _ => d) (fun _ _ d _ => d) (fun d _ => d) ⟨⟩ (fun _ _ _ _ => ⟨⟩) v d f
def nnQ (k : IntKind) (r : Nat) (f : SV → RB) : RB := Nat.rec (motive := fun _ => RB) (f (.raw (.int k (.ofNat 0)))) (fun r' _ => Bool.rec (motive := fun _ => RB) (f (.raw (.int k (k.wrap (.ofNat (Nat.succ r')))))) (f (.raw (.int k (.ofNat (Nat.succ r'))))) (Nat.ble (Nat.succ r') (kmax k))) r
theorem nnQ_eq (k : IntKind) (r : Nat) (f : SV → RB) : nnQ k r f = f (.raw (.int k (k.wrap (.ofNat r)))) := by
 cases r with
 | zero =>
  show f _ = _
  rw [show k.wrap (.ofNat 0) = 0 from wrap_pos (k := k) (m := 0) (Nat.zero_le _)]; rfl
 | succ r =>
  show Bool.rec (motive := fun _ => RB) (f (.raw (.int k (k.wrap (.ofNat (Nat.succ r)))))) (f (.raw (.int k (.ofNat (Nat.succ r))))) (Nat.ble (Nat.succ r) (kmax k)) = _
  cases h : Nat.ble (Nat.succ r) (kmax k) with
  | false => rfl
  | true =>
   show f _ = f _
   rw [show k.wrap (.ofNat (r + 1)) = .ofNat (r + 1) from wrap_pos (k := k) (m := r + 1) (Nat.ble_eq.mp h)]
def ngQ (k : IntKind) (r : Nat) (f : SV → RB) : RB := Bool.rec (motive := fun _ => RB) (f (.raw (.int k (k.wrap (.negSucc r))))) (Bool.rec (motive := fun _ => RB) (f (.raw (.int k (k.wrap (.negSucc r))))) (Nat.rec (motive := fun _ => RB) (f (.raw (.int k (.negSucc 0)))) (fun r' _ => f (.raw (.int k (.negSucc (Nat.succ r'))))) r) (Nat.ble r (kmax k))) (ksg k)
theorem ngQ_eq (k : IntKind) (r : Nat) (f : SV → RB) : ngQ k r f = f (.raw (.int k (k.wrap (.negSucc r)))) := by
 unfold ngQ
 cases hk : ksg k with
 | false => rfl
 | true =>
  cases h : Nat.ble r (kmax k) with
  | false => rfl
  | true =>
   show Nat.rec (motive := fun _ => RB) (f (.raw (.int k (.negSucc 0)))) (fun r' _ => f (.raw (.int k (.negSucc (Nat.succ r'))))) r = _
   rw [wrap_neg hk (Nat.ble_eq.mp h)]
   cases r <;> rfl
def dfQ (k : IntKind) (m n : Nat) (f : SV → RB) : RB := Bool.rec (motive := fun _ => RB) (ngQ k (Nat.sub n (Nat.succ m)) f) (nnQ k (Nat.sub m n) f) (Nat.ble n m)
theorem dfQ_eq (k : IntKind) (m n : Nat) (f : SV → RB) : dfQ k m n f = f (.raw (.int k (k.wrap ((m : Int) - (n : Int))))) := by
 unfold dfQ
 rw [nnQ_eq, ngQ_eq]
 cases h : Nat.ble n m with
 | true =>
  have := Nat.ble_eq.mp h
  show f (.raw (.int k (k.wrap (.ofNat (m - n))))) = _
  rw [show (Int.ofNat (m - n)) = (m : Int) - n by simp; omega]
 | false =>
  have : ¬ n ≤ m := fun q => by rw [Nat.ble_eq.mpr q] at h; cases h
  show f (.raw (.int k (k.wrap (.negSucc (n - (m + 1)))))) = _
  rw [show (Int.negSucc (n - (m + 1))) = (m : Int) - n by rw [Int.negSucc_eq]; omega]
def addQ (k : IntKind) (x y : Int) (f : SV → RB) : RB := Int.rec (motive := fun _ => RB) (fun m => Int.rec (motive := fun _ => RB) (fun n => nnQ k (Nat.add m n) f) (fun n => dfQ k m (Nat.succ n) f) y) (fun m => Int.rec (motive := fun _ => RB) (fun n => dfQ k n (Nat.succ m) f) (fun n => ngQ k (Nat.succ (Nat.add m n)) f) y) x
theorem addQ_eq (k : IntKind) (x y : Int) (f : SV → RB) : addQ k x y f = f (.raw (.int k (k.wrap (x + y)))) := by
 cases x with
 | ofNat m => cases y with
  | ofNat n => exact nnQ_eq k (m + n) f
  | negSucc n =>
   refine (dfQ_eq k m (n + 1) f).trans ?_
   rw [show (m : Int) - ((n + 1 : Nat) : Int) = Int.ofNat m + Int.negSucc n by rw [Int.negSucc_eq]; simp; omega]
 | negSucc m => cases y with
  | ofNat n =>
   refine (dfQ_eq k n (m + 1) f).trans ?_
   rw [show (n : Int) - ((m + 1 : Nat) : Int) = Int.negSucc m + Int.ofNat n by rw [Int.negSucc_eq]; simp; omega]
  | negSucc n => exact ngQ_eq k (m + n + 1) f
def subQ (k : IntKind) (x y : Int) (f : SV → RB) : RB := Int.rec (motive := fun _ => RB) (fun m => Int.rec (motive := fun _ => RB) (fun n => dfQ k m n f) (fun n => nnQ k (Nat.succ (Nat.add m n)) f) y) (fun m => Int.rec (motive := fun _ => RB) (fun n => ngQ k (Nat.add m n) f) (fun n => dfQ k n m f) y) x
theorem subQ_eq (k : IntKind) (x y : Int) (f : SV → RB) : subQ k x y f = f (.raw (.int k (k.wrap (x - y)))) := by
 cases x with
 | ofNat m => cases y with
  | ofNat n => exact dfQ_eq k m n f
  | negSucc n =>
   refine (nnQ_eq k (m + n + 1) f).trans ?_
   rw [show Int.ofNat (m + n + 1) = Int.ofNat m - Int.negSucc n by rw [Int.negSucc_eq]; simp; omega]
 | negSucc m => cases y with
  | ofNat n =>
   refine (ngQ_eq k (m + n) f).trans ?_
   rw [show Int.negSucc (m + n) = Int.negSucc m - Int.ofNat n by rw [Int.negSucc_eq, Int.negSucc_eq]; simp; omega]
  | negSucc n =>
   refine (dfQ_eq k n m f).trans ?_
   rw [show (n : Int) - (m : Int) = Int.negSucc m - Int.negSucc n by rw [Int.negSucc_eq, Int.negSucc_eq]; omega]
def mulQ (k : IntKind) (x y : Int) (f : SV → RB) : RB := Int.rec (motive := fun _ => RB) (fun m => Int.rec (motive := fun _ => RB) (fun n => nnQ k (Nat.mul m n) f) (fun n => Nat.rec (motive := fun _ => RB) (nnQ k 0 f) (fun m' _ => ngQ k (Nat.pred (Nat.mul (Nat.succ m') (Nat.succ n))) f) m) y) (fun m => Int.rec (motive := fun _ => RB) (fun n => Nat.rec (motive := fun _ => RB) (nnQ k 0 f) (fun n' _ => ngQ k (Nat.pred (Nat.mul (Nat.succ m) (Nat.succ n'))) f) n) (fun n => nnQ k (Nat.mul (Nat.succ m) (Nat.succ n)) f) y) x
theorem mulQ_eq (k : IntKind) (x y : Int) (f : SV → RB) : mulQ k x y f = f (.raw (.int k (k.wrap (x * y)))) := by
 have hm : ∀ a b : Nat, Nat.pred (Nat.mul (Nat.succ a) (Nat.succ b)) + 1 = (a + 1) * (b + 1) := by
  intro a b
  have : 0 < (a + 1) * (b + 1) := Nat.mul_pos (by omega) (by omega)
  show (a + 1) * (b + 1) - 1 + 1 = _
  omega
 cases x with
 | ofNat m =>
  cases y with
  | ofNat n => exact nnQ_eq k (m * n) f
  | negSucc n =>
   cases m with
   | zero =>
    refine (nnQ_eq k 0 f).trans ?_
    rw [show Int.ofNat 0 * Int.negSucc n = Int.ofNat 0 by simp]
   | succ m =>
    refine (ngQ_eq k (Nat.pred (Nat.mul (Nat.succ m) (Nat.succ n))) f).trans ?_
    rw [show Int.negSucc (Nat.pred (Nat.mul (Nat.succ m) (Nat.succ n))) = Int.ofNat (m + 1) * Int.negSucc n by
     rw [Int.negSucc_eq, Int.negSucc_eq]
     have := hm m n
     have h2 : ((Nat.pred (Nat.mul (Nat.succ m) (Nat.succ n)) : Nat) : Int) + 1 = ((m + 1 : Nat) : Int) * ((n + 1 : Nat) : Int) := by rw [← Int.natCast_mul, ← this]; simp
     rw [h2, Int.mul_neg]; simp]
 | negSucc m =>
  cases y with
  | ofNat n =>
   cases n with
   | zero =>
    refine (nnQ_eq k 0 f).trans ?_
    rw [show Int.negSucc m * Int.ofNat 0 = Int.ofNat 0 by simp]
   | succ n =>
    refine (ngQ_eq k (Nat.pred (Nat.mul (Nat.succ m) (Nat.succ n))) f).trans ?_
    rw [show Int.negSucc (Nat.pred (Nat.mul (Nat.succ m) (Nat.succ n))) = Int.negSucc m * Int.ofNat (n + 1) by
     rw [Int.negSucc_eq, Int.negSucc_eq]
     have := hm m n
     have h2 : ((Nat.pred (Nat.mul (Nat.succ m) (Nat.succ n)) : Nat) : Int) + 1 = ((m + 1 : Nat) : Int) * ((n + 1 : Nat) : Int) := by rw [← Int.natCast_mul, ← this]; simp
     rw [h2, Int.neg_mul]; simp]
  | negSucc n => exact nnQ_eq k (Nat.succ m * Nat.succ n) f
def iltF (x y : Int) : Bool := Int.rec (motive := fun _ => Bool) (fun m => Int.rec (motive := fun _ => Bool) (fun n => Nat.ble (Nat.succ m) n) (fun _ => false) y) (fun m => Int.rec (motive := fun _ => Bool) (fun _ => true) (fun n => Nat.ble (Nat.succ n) m) y) x
theorem iltF_eq (x y : Int) : iltF x y = ilt x y := by cases x <;> cases y <;> rfl
def ieqF (x y : Int) : Bool := Int.rec (motive := fun _ => Bool) (fun m => Int.rec (motive := fun _ => Bool) (fun n => Nat.beq m n) (fun _ => false) y) (fun m => Int.rec (motive := fun _ => Bool) (fun _ => false) (fun n => Nat.beq m n) y) x
theorem ieqF_eq (x y : Int) : ieqF x y = ieq x y := by cases x <;> cases y <;> rfl
def tF (b : Bool) (f : SV → RB) : RB := Bool.rec (motive := fun _ => RB) (f (.raw (.bool false))) (f (.raw (.bool true))) b
def nF (b : Bool) (f : SV → RB) : RB := Bool.rec (motive := fun _ => RB) (f (.raw (.bool true))) (f (.raw (.bool false))) b
end
section
def rawI (v u : Value) : Bool := match v with
 | .int k n => match u with
  | .int k' n' => Bool.rec (motive := fun _ => Bool) false (ieqF n n') (kEq k k')
  | _ => false
 | _ => eqW v u
theorem rawI_eq (v u : Value) : rawI v u = eqW v u := by
 cases v with
 | int k n =>
  cases u with
  | int k' n' =>
   show Bool.rec (motive := fun _ => Bool) false (ieqF n n') (kEq k k') = (k == k' && n == n')
   have h1 : kEq k k' = (k == k') := by cases k <;> cases k' <;> rfl
   have h2 : ieqF n n' = (n == n') := by rw [ieqF_eq, ieq_eq]; rfl
   rw [h1, h2]
   cases k == k' <;> rfl
  | _ => rfl
 | _ => rfl
def eqVQ (a b : SV) : Bool := match a with
 | .raw v => match b with
  | .raw u => rawI v u
  | _ => false
 | .ptr x o => match b with
  | .ptr x' o' => Bool.rec (motive := fun _ => Bool) false (Nat.beq o o') (Nat.beq x x')
  | _ => false
 | .sl x o n c => match b with
  | .sl x' o' n' c' => Bool.rec (motive := fun _ => Bool) false (Bool.rec (motive := fun _ => Bool) false (Bool.rec (motive := fun _ => Bool) false (eqC c c') (Nat.beq n n')) (Nat.beq o o')) (Nat.beq x x')
  | _ => false
 | .sl0 => match b with
  | .sl0 => true
  | _ => false
 | a => eqV a b
theorem eqVQ_eq (a b : SV) : eqVQ a b = eqV a b := by
 cases a with
 | raw v => cases b <;> simp only [eqVQ, eqV, rawI_eq]
 | ptr x o =>
  cases b with
  | ptr x' o' => simp only [eqVQ, eqV]; cases Nat.beq x x' <;> rfl
  | _ => simp only [eqVQ, eqV]
 | sl x o n c =>
  cases b with
  | sl x' o' n' c' =>
   simp only [eqVQ, eqV]
   cases Nat.beq x x' <;> cases Nat.beq o o' <;> cases Nat.beq n n' <;> rfl
  | _ => simp only [eqVQ, eqV]
 | sl0 => cases b <;> simp only [eqVQ, eqV]
 | _ => rfl
def eqVsQ (l : List SV) : List SV → Bool := List.rec (motive := fun _ => List SV → Bool) (fun r => List.rec (motive := fun _ => Bool) true (fun _ _ _ => false) r) (fun x _ ih r => List.rec (motive := fun _ => Bool) false (fun y r' _ => Bool.rec (motive := fun _ => Bool) false (ih r') (eqVQ x y)) r) l
theorem eqVsQ_eq : ∀ (l r : List SV), eqVsQ l r = eqVs l r
 | [], [] => by simp only [eqVs]; rfl
 | [], _ :: _ => by simp only [eqVs]; rfl
 | _ :: _, [] => by simp only [eqVs]; rfl
 | x :: l, y :: r => by
  simp only [eqVs, ← eqVsQ_eq l r, ← eqVQ_eq]
  show Bool.rec (motive := fun _ => Bool) false (eqVsQ l r) (eqVQ x y) = _
  cases eqVQ x y <;> rfl
def eqOQ (o o' : SO) : Bool := match o with
 | .cells l e op => match o' with
  | .cells l' e' op' => Bool.rec (motive := fun _ => Bool) false (Bool.rec (motive := fun _ => Bool) false (eqB op op') (Nat.beq e e')) (eqVsQ l l')
  | _ => false
 | o => eqO o o'
theorem eqOQ_eq (o o' : SO) : eqOQ o o' = eqO o o' := by
 cases o with
 | cells l e op =>
  cases o' with
  | cells l' e' op' =>
   simp only [eqOQ, eqO, eqVsQ_eq]
   cases eqVs l l' <;> cases Nat.beq e e' <;> rfl
  | _ => rfl
 | _ => rfl
def meetF (n0 : Nat) (h1 h2 : Tr SO) (n : Nat) : Tr SO → (Tr SO → Option (SV × St)) → Option (SV × St) := Nat.rec (motive := fun _ => Tr SO → (Tr SO → Option (SV × St)) → Option (SV × St)) (fun h k => k h) (fun n ih h k => Option.rec (motive := fun _ => Option (SV × St)) (Option.rec (motive := fun _ => Option (SV × St)) (ih h k) (fun _ => Bool.rec (motive := fun _ => Option (SV × St)) none (ih h k) (Nat.ble n0 n)) (h2.get n)) (fun o1 => Option.rec (motive := fun _ => Option (SV × St)) (Bool.rec (motive := fun _ => Option (SV × St)) none (ih h k) (Nat.ble n0 n)) (fun o2 => Bool.rec (motive := fun _ => Option (SV × St)) (Bool.rec (motive := fun _ => Option (SV × St)) (Bool.rec (motive := fun _ => Option (SV × St)) none (ih h k) (Nat.ble n0 n)) (h.setK n (some o1) fun h' => ih h' k) (Nat.blt n n0 && eqLp o1 o2)) (h.setK n (some o1) fun h' => ih h' k) (eqOQ o1 o2)) (h2.get n)) (h1.get n)) n
theorem meetF_eq (n0 : Nat) (h1 h2 : Tr SO) : ∀ (n : Nat) (h : Tr SO) (k : Tr SO → Option (SV × St)), meetF n0 h1 h2 n h k = meetK n0 h1 h2 n h k
 | 0, _, _ => rfl
 | n + 1, h, k => by
  have ih := meetF_eq n0 h1 h2 n
  simp only [meetK, ← ih, ← eqOQ_eq]
  show Option.rec (motive := fun _ => Option (SV × St)) (Option.rec (motive := fun _ => Option (SV × St)) (meetF n0 h1 h2 n h k) (fun _ => Bool.rec (motive := fun _ => Option (SV × St)) none (meetF n0 h1 h2 n h k) (Nat.ble n0 n)) (h2.get n)) (fun o1 => Option.rec (motive := fun _ => Option (SV × St)) (Bool.rec (motive := fun _ => Option (SV × St)) none (meetF n0 h1 h2 n h k) (Nat.ble n0 n)) (fun o2 => Bool.rec (motive := fun _ => Option (SV × St)) (Bool.rec (motive := fun _ => Option (SV × St)) (Bool.rec (motive := fun _ => Option (SV × St)) none (meetF n0 h1 h2 n h k) (Nat.ble n0 n)) (h.setK n (some o1) fun h' => meetF n0 h1 h2 n h' k) (Nat.blt n n0 && eqLp o1 o2)) (h.setK n (some o1) fun h' => meetF n0 h1 h2 n h' k) (eqOQ o1 o2)) (h2.get n)) (h1.get n) = _
  cases h1.get n with
  | none =>
   cases h2.get n with
   | none => rfl
   | some o => simp only; cases Nat.ble n0 n <;> rfl
  | some o1 =>
   cases h2.get n with
   | none => simp only; cases Nat.ble n0 n <;> rfl
   | some o2 =>
    simp only
    cases eqOQ o1 o2 <;> cases (Nat.blt n n0 && eqLp o1 o2) <;> cases Nat.ble n0 n <;> rfl
def join2F (n0 : Nat) (p q : SV × St) : Option (SV × St) := match p with
 |(v, ⟨h, nx, b, R, W⟩) => match q with
  |(v', ⟨h', nx', b', R', W'⟩) => bif eqV v v' then (bif Nat.beq nx nx' then (bif Nat.beq b b' then meetF n0 h h' nx .lf fun h2 => appK R R' fun R2 => appK W W' fun W2 => some (v, ⟨h2, nx, b, R2, W2⟩) else none) else none) else none
theorem join2F_eq (n0 : Nat) (p q : SV × St) : join2F n0 p q = join2 n0 p q := by
 obtain ⟨v, h, nx, b, R, W⟩ := p
 obtain ⟨v', h', nx', b', R', W'⟩ := q
 simp only [join2F, join2, meetF_eq]
def joinAF (n0 : Nat) : SV × St → List (SV × St) → Option (SV × St)
 | p, [] => some p
 | p, q :: r => match join2F n0 p q with
  | some p' => joinAF n0 p' r
  | none => none
theorem joinAF_eq (n0 : Nat) : ∀ (p : SV × St) (l : List (SV × St)), joinAF n0 p l = joinA n0 p l
 | _, [] => rfl
 | p, q :: r => by
  simp only [joinAF, joinA, join2F_eq]
  cases join2 n0 p q with
  | none => rfl
  | some p' => exact joinAF_eq n0 p' r
def joinLF (n0 : Nat) : List (SV × St) → List (SV × St)
 | [] => []
 | p :: l => match l with
  | [] => [p]
  | q :: r => match joinAF n0 p (q :: r) with
   | some p' => [p']
   | none => p :: q :: r
theorem joinLF_eq (n0 : Nat) (l : List (SV × St)) : joinLF n0 l = joinL n0 l := by
 rcases l with _ | ⟨p, _ | ⟨q, r⟩⟩
 ·rfl
 ·rfl
 ·simp only [joinLF, joinL, joinAF_eq]
  cases joinA n0 p (q :: r) <;> rfl
end
structure Bx (α : Type) where
 val : α
def stg {α δ : Type} (b : Bx α) (f : α → δ) : δ := Bx.rec (motive := fun _ => δ) f b
theorem stg_eq {α δ : Type} (b : Bx α) (f : α → δ) : stg b f = f b.val := by cases b; rfl
section
abbrev BQ := IntKind → Int → IntKind → Int → (SV → RB) → RB
def sk (k k' : IntKind) (r : RB) : RB := Bool.rec (motive := fun _ => RB) none r (kEq k k')
def ofQ (k : IntKind) (n : Nat) (f : SV → RB) : RB := Nat.rec (motive := fun _ => RB) (f (.raw (.int k (.ofNat 0)))) (fun m _ => f (.raw (.int k (.ofNat (Nat.succ m))))) n
theorem ofQ_eq (k : IntKind) (n : Nat) (f : SV → RB) : ofQ k n f = f (.raw (.int k (.ofNat n))) := by cases n <;> rfl
def ntQ (op : Nat → Nat → Nat) (k : IntKind) (x y : Int) (f : SV → RB) : RB := Int.rec (motive := fun _ => RB) (fun m => Int.rec (motive := fun _ => RB) (fun n => Bool.rec (motive := fun _ => RB) none (Bool.rec (motive := fun _ => RB) none (ofQ k (op m n) f) (Nat.ble n (kmax k))) (Nat.ble m (kmax k))) (fun _ => none) y) (fun _ => none) x
theorem ntQ_eq (op : Nat → Nat → Nat) (k : IntKind) (x y : Int) (f : SV → RB) : ntQ op k x y f = match (match x with
 | .ofNat m => match y with
  | .ofNat n => bif Nat.ble m (kmax k) && Nat.ble n (kmax k) then intV k (.ofNat (op m n)) else none
  | _ => none
 | _ => none) with
 | some v => f v
 | none => none := by
 cases x with
 | negSucc m => rfl
 | ofNat m =>
  cases y with
  | negSucc n => rfl
  | ofNat n =>
   simp only [intV_eq]
   show Bool.rec (motive := fun _ => RB) none (Bool.rec (motive := fun _ => RB) none (ofQ k (op m n) f) (Nat.ble n (kmax k))) (Nat.ble m (kmax k)) = _
   rw [ofQ_eq]
   cases Nat.ble m (kmax k) <;> cases Nat.ble n (kmax k) <;> rfl
def shlQ (k : IntKind) (x y : Int) (f : SV → RB) : RB := Int.rec (motive := fun _ => RB) (fun m => Int.rec (motive := fun _ => RB) (fun n => Bool.rec (motive := fun _ => RB) none (nnQ k (Nat.shiftLeft m n) f) (Nat.ble n k.bits)) (fun _ => none) y) (fun _ => none) x
def shrQ (k : IntKind) (x y : Int) (f : SV → RB) : RB := Int.rec (motive := fun _ => RB) (fun m => Int.rec (motive := fun _ => RB) (fun n => Bool.rec (motive := fun _ => RB) none (ofQ k (Nat.shiftRight m n) f) (Nat.ble n k.bits)) (fun _ => none) y) (fun _ => none) x
def bqOf : BinOp → Option BQ
 | .add => some fun k x k' y f => sk k k' (addQ k x y f)
 | .sub => some fun k x k' y f => sk k k' (subQ k x y f)
 | .mul => some fun k x k' y f => sk k k' (mulQ k x y f)
 | .lss => some fun k x k' y f => sk k k' (tF (iltF x y) f)
 | .gtr => some fun k x k' y f => sk k k' (tF (iltF y x) f)
 | .leq => some fun k x k' y f => sk k k' (nF (iltF y x) f)
 | .geq => some fun k x k' y f => sk k k' (nF (iltF x y) f)
 | .eql => some fun k x k' y f => sk k k' (tF (ieqF x y) f)
 | .neq => some fun k x k' y f => sk k k' (nF (ieqF x y) f)
 | .and => some fun k x k' y f => sk k k' (ntQ Nat.land k x y f)
 | .or => some fun k x k' y f => sk k k' (ntQ Nat.lor k x y f)
 | .xor => some fun k x k' y f => sk k k' (ntQ Nat.xor k x y f)
 | .shl => some fun k x _ y f => shlQ k x y f
 | .shr => some fun k x _ y f => shrQ k x y f
 | _ => none
theorem sk_eq (k k' : IntKind) (r : RB) (s : Option SV) (f : SV → RB) (h : k = k' → r = match s with
 | some v => f v
 | none => none) : sk k k' r = match (bif kEq k k' then s else none) with
 | some v => f v
 | none => none := by
 unfold sk
 cases hk : kEq k k' with
 | false => rfl
 | true => exact h (kEq_eq hk)
theorem bqOf_ok {op : BinOp} {q : BQ} (h : bqOf op = some q) (k : IntKind) (x : Int) (k' : IntKind) (y : Int) (f : SV → RB) : q k x k' y f = match ibS op k x k' y with
 | some v => f v
 | none => none := by
 cases op <;> simp only [bqOf, reduceCtorEq, Option.some.injEq] at h <;> subst h <;> simp only [ibS]
 ·refine sk_eq _ _ _ _ _ fun _ => ?_
  simp only [intV_eq, wrapF_eq]; exact addQ_eq ..
 ·refine sk_eq _ _ _ _ _ fun _ => ?_
  simp only [intV_eq, wrapF_eq]; exact subQ_eq ..
 ·refine sk_eq _ _ _ _ _ fun _ => ?_
  simp only [intV_eq, wrapF_eq]; exact mulQ_eq ..
 ·exact sk_eq _ _ _ _ _ fun _ => ntQ_eq ..
 ·exact sk_eq _ _ _ _ _ fun _ => ntQ_eq ..
 ·exact sk_eq _ _ _ _ _ fun _ => ntQ_eq ..
 ·cases x with
  | negSucc m => rfl
  | ofNat m => cases y with
   | negSucc n => rfl
   | ofNat n =>
    show Bool.rec (motive := fun _ => RB) none (nnQ k (Nat.shiftLeft m n) f) (Nat.ble n k.bits) = _
    simp only [intV_eq, wrapF_eq, nnQ_eq]
    cases Nat.ble n k.bits <;> rfl
 ·cases x with
  | negSucc m => rfl
  | ofNat m => cases y with
   | negSucc n => rfl
   | ofNat n =>
    show Bool.rec (motive := fun _ => RB) none (ofQ k (Nat.shiftRight m n) f) (Nat.ble n k.bits) = _
    simp only [intV_eq, ofQ_eq]
    cases Nat.ble n k.bits <;> rfl
 ·refine sk_eq _ _ _ _ _ fun _ => ?_
  simp only [boolV_eq]; unfold tF; rw [ieqF_eq]; cases ieq x y <;> rfl
 ·refine sk_eq _ _ _ _ _ fun _ => ?_
  simp only [boolV_eq]; unfold nF; rw [ieqF_eq]; cases ieq x y <;> rfl
 ·refine sk_eq _ _ _ _ _ fun _ => ?_
  simp only [boolV_eq]; unfold tF; rw [iltF_eq]; cases ilt x y <;> rfl
 ·refine sk_eq _ _ _ _ _ fun _ => ?_
  simp only [boolV_eq]; unfold nF; rw [iltF_eq]; cases ilt y x <;> rfl
 ·refine sk_eq _ _ _ _ _ fun _ => ?_
  simp only [boolV_eq]; unfold tF; rw [iltF_eq]; cases ilt y x <;> rfl
 ·refine sk_eq _ _ _ _ _ fun _ => ?_
  simp only [boolV_eq]; unfold nF; rw [iltF_eq]; cases ilt x y <;> rfl
def rdF (st : St) (x : Nat) (k : List SV → TypeId → Bool → St → RB) : RB := St.rec (motive := fun _ => Nat → (List SV → TypeId → Bool → St → RB) → RB) (fun h nx b R W x k => Option.rec (motive := fun _ => RB) none (fun o => SO.rec (motive := fun _ => RB) (fun l e op => insF b x R (fun R' => k l e op ⟨h, nx, b, R', W⟩)) (fun _ _ => none) (fun _ => none) (fun _ => none) (fun _ _ _ _ => none) (fun _ _ _ _ => none) o) (h.get x)) st x k
theorem rdF_eq (st : St) (x : Nat) (k : List SV → TypeId → Bool → St → RB) : rdF st x k = rdK st x k := by
 obtain ⟨h, nx, b, R, W⟩ := st
 show Option.rec (motive := fun _ => RB) none (fun o => SO.rec (motive := fun _ => RB) (fun l e op => insF b x R (fun R' => k l e op ⟨h, nx, b, R', W⟩)) (fun _ _ => none) (fun _ => none) (fun _ => none) (fun _ _ _ _ => none) (fun _ _ _ _ => none) o) (h.get x) = _
 simp only [rdK]
 cases h.get x with
 | none => rfl
 | some o => cases o <;> first | rfl | exact insF_eq ..
def wtF (st : St) (x : Nat) (o : SO) (k : St → RB) : RB := St.rec (motive := fun _ => RB) (fun h nx b R W => h.setK x (some o) fun h' => insF b x R fun R' => insF b x W fun W' => k ⟨h', nx, b, R', W'⟩) st
theorem wtF_eq (st : St) (x : Nat) (o : SO) (k : St → RB) : wtF st x o k = wtK st x o k := by
 obtain ⟨h, nx, b, R, W⟩ := st
 show (h.setK x (some o) fun h' => insF b x R fun R' => insF b x W fun W' => k ⟨h', nx, b, R', W'⟩) = _
 simp only [wtK, insF_eq]
def onesF (l : List SV) : Bool := List.rec (motive := fun _ => Bool) true (fun v _ ih => Bool.rec (motive := fun _ => Bool) false ih (oneS v)) l
theorem onesF_eq : ∀ (l : List SV), onesF l = onesS l
 | [] => rfl
 | v :: r => by
  simp only [onesS, ← onesF_eq r]
  show Bool.rec (motive := fun _ => Bool) false (onesF r) (oneS v) = _
  cases oneS v <;> rfl
def ldF (P : Program) (T : TypeId) : Bx (SV → St → (SV → St → RB) → RB) := match isAggB P T with
 | some true => match szv P T with
  | some n => ⟨fun p st k => ptrF p none fun x o => rdF st x fun l _ _ st' => subF l o n fun vs => k (.agg vs) st'⟩
  | none => ⟨fun _ _ _ => none⟩
 | some false => ⟨fun p st k => ptrF p none fun x o => rdF st x fun l _ _ st' => Option.rec (motive := fun _ => RB) none (fun v => k v st') (nthV l o)⟩
 | none => ⟨fun _ _ _ => none⟩
theorem rdK_app {γ δ : Type} (g : Option γ → Option δ) (hg : g none = none) (st : St) (x : Nat) (k : List SV → TypeId → Bool → St → Option γ) : rdK st x (fun l e op st' => g (k l e op st')) = g (rdK st x k) := by
 obtain ⟨h, nx, b, R, W⟩ := st
 simp only [rdK]
 cases h.get x with
 | none => exact hg.symm
 | some o => cases o <;> first | exact hg.symm | simp only [insK_eq]
theorem takeK_app {α γ δ : Type} (g : Option γ → Option δ) (hg : g none = none) : ∀ (l : List α) (n : Nat) (k : List α → Option γ), takeK l n (fun t => g (k t)) = g (takeK l n k)
 | [], 0, k => by simp [takeK]
 | [], n + 1, k => by simp [takeK, hg]
 | x :: r, 0, k => by simp [takeK]
 | x :: r, n + 1, k => by simp only [takeK]; exact takeK_app g hg r n (fun t => k (x :: t))
theorem subK_app {α γ δ : Type} (g : Option γ → Option δ) (hg : g none = none) : ∀ (l : List α) (o n : Nat) (k : List α → Option γ), subK l o n (fun t => g (k t)) = g (subK l o n k)
 | [], 0, n, k => by simp [subK]; exact takeK_app g hg ..
 | [], o + 1, n, k => by cases n <;> simp [subK, hg]
 | x :: r, 0, n, k => by simp [subK]; exact takeK_app g hg ..
 | x :: r, o + 1, n, k => by simp only [subK]; exact subK_app g hg r o n k
theorem preK_app {α γ δ : Type} (g : Option γ → Option δ) (hg : g none = none) : ∀ (vs l : List α) (k : List α → Option γ), preK l vs (fun t => g (k t)) = g (preK l vs k)
 | [], l, k => by cases l <;> simp [preK]
 | v :: vs, [], k => by simp [preK, hg]
 | v :: vs, x :: r, k => by simp only [preK]; exact preK_app g hg vs r (fun t => k (v :: t))
theorem wrK_app {α γ δ : Type} (g : Option γ → Option δ) (hg : g none = none) : ∀ (l : List α) (o : Nat) (vs : List α) (k : List α → Option γ), wrK l o vs (fun t => g (k t)) = g (wrK l o vs k)
 | [], 0, vs, k => by simp [wrK]; exact preK_app g hg ..
 | [], o + 1, vs, k => by simp [wrK, hg]
 | x :: r, 0, vs, k => by simp [wrK]; exact preK_app g hg ..
 | x :: r, o + 1, vs, k => by simp only [wrK]; exact wrK_app g hg r o vs (fun t => k (x :: t))
def stG (k : SV → St → RB) (r : Option (SV × St)) : RB := Option.rec (motive := fun _ => RB) none (fun p => Prod.rec (motive := fun _ => RB) k p) r
theorem ldF_eq (P : Program) (T : TypeId) (p : SV) (st : St) (k : SV → St → RB) : (ldF P T).val p st k = stG k (ldS P T p st) := by
 unfold ldF
 cases p with
 | ptr x o =>
  simp only [ldS]
  cases isAggB P T with
  | none => rfl
  | some a =>
   cases a with
   | true =>
    simp only
    cases szv P T with
    | none => rfl
    | some n =>
     show (rdF st x fun l _ _ st' => subF l o n fun vs => k (.agg vs) st') = _
     rw [rdF_eq, ← rdK_app (stG k) rfl]
     congr 1
     funext l e op st'
     rw [subF_eq, ← subK_app (stG k) rfl]
     rfl
   | false =>
    show (rdF st x fun l _ _ st' => Option.rec (motive := fun _ => RB) none (fun v => k v st') (nthV l o)) = _
    simp only
    rw [rdF_eq, ← rdK_app (stG k) rfl]
    congr 1
    funext l e op st'
    rw [nthV_eq]
    cases nth l o <;> rfl
 | _ =>
  simp only [ldS]
  cases isAggB P T with
  | none => rfl
  | some a =>
   cases a with
   | true =>
    simp only
    cases szv P T <;> rfl
   | false => rfl
def stF (P : Program) (T : TypeId) : Bx (SV → SV → St → (SV → St → RB) → RB) := match szv P T with
 | some n => ⟨fun p v st k => ptrF p none fun x o => Bool.rec (motive := fun _ => RB) none (Bool.rec (motive := fun _ => RB) none (rdF st x fun l e op st1 => wrF l o (cellsS v) fun l' => wtF st1 x (.cells l' e op) fun st' => k (.raw undef) st') (Nat.beq (llenF (cellsS v)) n)) (onesF (cellsS v))⟩
 | none => ⟨fun _ _ _ _ => none⟩
theorem wtK_app {γ δ : Type} (g : Option γ → Option δ) (st : St) (x : Nat) (o : SO) (k : St → Option γ) : wtK st x o (fun st' => g (k st')) = g (wtK st x o k) := by
 simp only [wtK_eq]
theorem stF_eq (P : Program) (T : TypeId) (p v : SV) (st : St) (k : SV → St → RB) : (stF P T).val p v st k = stG k (stS P T p v st) := by
 unfold stF
 cases p with
 | ptr x o =>
  simp only [stS]
  cases szv P T with
  | none => rfl
  | some n =>
   show Bool.rec (motive := fun _ => RB) none (Bool.rec (motive := fun _ => RB) none (rdF st x fun l e op st1 => wrF l o (cellsS v) fun l' => wtF st1 x (.cells l' e op) fun st' => k (.raw undef) st') (Nat.beq (llenF (cellsS v)) n)) (onesF (cellsS v)) = _
   rw [llenF_eq, onesF_eq]
   simp only
   cases onesS (cellsS v) with
   | false => rfl
   | true =>
    simp only [cond_true]
    cases Nat.beq (llen (cellsS v)) n with
    | false => rfl
    | true =>
     simp only [cond_true]
     rw [rdF_eq, ← rdK_app (stG k) rfl]
     congr 1
     funext l e op st'
     rw [wrF_eq, ← wrK_app (stG k) rfl]
     congr 1
     funext l'
     rw [wtF_eq, ← wtK_app (stG k)]
     rfl
 | _ =>
  simp only [stS]
  cases szv P T <;> rfl
def faF (P : Program) (T f : Nat) : Bx (SV → (SV → RB) → RB) := match fieldOf P T f with
 | some (fo, ft) => match szv P ft with
  | some (_ + 1) => ⟨fun p k => ptrF p none fun x o => Nat.rec (motive := fun _ => RB) (k (.ptr x 0)) (fun o' _ => k (.ptr x (Nat.succ o'))) (Nat.add o fo)⟩
  | _ => ⟨fun _ _ => none⟩
 | none => ⟨fun _ _ => none⟩
def puG (k : SV → RB) (r : Option SV) : RB := Option.rec (motive := fun _ => RB) none k r
theorem natG {γ : Type} (k : Nat → γ) (n : Nat) : Nat.rec (motive := fun _ => γ) (k 0) (fun m _ => k (Nat.succ m)) n = k n := by cases n <;> rfl
theorem faF_eq (P : Program) (T f : Nat) (p : SV) (k : SV → RB) : (faF P T f).val p k = puG k (faS P T f p) := by
 unfold faF faS
 cases hf : fieldOf P T f with
 | none => cases p <;> simp only [hf] <;> rfl
 | some q =>
  obtain ⟨fo, ft⟩ := q
  simp only
  cases hs : szv P ft with
  | none => cases p <;> simp only [hf, hs] <;> rfl
  | some n =>
   cases n with
   | zero => cases p <;> simp only [hf, hs] <;> rfl
   | succ n =>
    cases p with
    | ptr x o =>
     simp only [hf, hs, natK_eq]
     exact natG (fun o' => k (.ptr x o')) (Nat.add o fo)
    | _ => rfl
def iaF (P : Program) (T : TypeId) : Bx (SV → SV → (SV → RB) → RB) := match slE P T with
 | some sz => ⟨fun p i k => intF i none fun _ i => Int.rec (motive := fun _ => RB) (fun i => match p with
  | .sl x o n _ => Bool.rec (motive := fun _ => RB) none (Nat.rec (motive := fun _ => RB) (k (.ptr x 0)) (fun o' _ => k (.ptr x (Nat.succ o'))) (Nat.add o (Nat.mul i sz))) (Nat.ble (Nat.succ i) n)
  | _ => puG k (iaS P T p (.raw (.int .i64 (.ofNat i))))) (fun _ => none) i⟩
 | none => ⟨fun p i k => puG k (iaS P T p i)⟩
theorem iaF_eq (P : Program) (T : TypeId) (p i : SV) (k : SV → RB) : (iaF P T).val p i k = puG k (iaS P T p i) := by
 unfold iaF
 cases hs : slE P T with
 | none => rfl
 | some sz =>
  simp only
  cases i with
  | raw v =>
   cases v with
   | int kd i =>
    cases i with
    | ofNat i =>
     simp only [intF]
     cases p with
     | sl x o n c =>
      show Bool.rec (motive := fun _ => RB) none (Nat.rec (motive := fun _ => RB) (k (.ptr x 0)) (fun o' _ => k (.ptr x (Nat.succ o'))) (Nat.add o (Nat.mul i sz))) (Nat.ble (Nat.succ i) n) = _
      simp only [iaS, hs]
      show _ = puG k (bif Nat.ble (Nat.succ i) n then natK (o + i * sz) fun o' => some (.ptr x o') else none)
      cases Nat.ble (Nat.succ i) n with
      | false => rfl
      | true =>
       simp only [cond_true, natK_eq]
       exact natG (fun o' => k (.ptr x o')) (Nat.add o (Nat.mul i sz))
     | _ => rfl
    | negSucc i => rfl
   | _ => rfl
  | _ => rfl
def nul (t : Tc) : Bool := t.q && (match t.R with | [] => true | _ => false) && (match t.W with | [] => true | _ => false) && Nat.beq t.a t.b
theorem nul_of {t : Tc} (h : nul t = true) : t.q = true ∧ t.R = [] ∧ t.W = [] ∧ t.a = t.b := by
 unfold nul at h
 simp only [Bool.and_eq_true] at h
 obtain ⟨⟨⟨h1, h2⟩, h3⟩, h4⟩ := h
 refine ⟨h1, ?_, ?_, Nat.eq_of_beq_eq_true h4⟩
 ·cases hR : t.R with
  | nil => rfl
  | cons x r => rw [hR] at h2; cases h2
 ·cases hR : t.W with
  | nil => rfl
  | cons x r => rw [hR] at h3; cases h3
def psh (i : Nat) (t : Tc) (acc : List (Nat × Tc)) : List (Nat × Tc) := bif nul t then acc else (i, t) :: acc
def flt : List Tc → List (Nat × Tc)
 | [] => []
 | t :: r => psh r.length t (flt r)
theorem disj_nil : ∀ (l : List Nat), disj l [] = true
 | [] => rfl
 | x :: r => by rw [disj]; exact disj_nil r
theorem outR_same (a : Nat) : ∀ (l : List Nat), outR a a l = true
 | [] => rfl
 | x :: r => by
  rw [outR]
  have : (Nat.ble a x && Nat.blt x a) = false := by
   rw [Bool.and_eq_false_iff]
   by_cases h : a ≤ x
   ·right
    exact Bool.eq_false_iff.2 (fun q => by have := Nat.blt_eq.mp q; omega)
   ·left
    exact Bool.eq_false_iff.2 (fun q => h (Nat.ble_eq.mp q))
  rw [this, cond_false]
  exact outR_same a r
theorem sepT_nulL {t : Tc} (h : nul t = true) (u : Tc) : sepT t u = true := by
 obtain ⟨h1, h2, h3, h4⟩ := nul_of h
 unfold sepT
 rw [h1]
 cases u.q with
 | true => rfl
 | false =>
  show sepF t u = true
  unfold sepF
  rw [h2, h3, h4, outR_same]
  rfl
theorem sepT_nulR {u : Tc} (h : nul u = true) (t : Tc) : sepT t u = true := by
 obtain ⟨h1, h2, h3, h4⟩ := nul_of h
 unfold sepT
 rw [h1]
 cases t.q with
 | true => rfl
 | false =>
  show sepF t u = true
  unfold sepF
  rw [h2, h3, disj_nil, disj_nil]
  rfl
def sepW (u : Tc) (m : Nat) (l : List (Nat × Tc)) : Bool := List.rec (motive := fun _ => Bool) true (fun p _ ih => Prod.rec (motive := fun _ => Bool) (fun j t => Bool.rec (motive := fun _ => Bool) (Bool.rec (motive := fun _ => Bool) false ih (bitB m j)) ih (sepT t u)) p) l
def sepP (bits : Nat → Nat) (l : List (Nat × Tc)) : Bool := List.rec (motive := fun _ => Bool) true (fun p r ih => Prod.rec (motive := fun _ => Bool) (fun i u => Bool.rec (motive := fun _ => Bool) false ih (sepW u (bits i) r)) p) l
theorem sepU_nul {u : Tc} (h : nul u = true) (m : Nat) : ∀ (r : List Tc) (n : Nat), sepAll.sepU u m r n = true
 | [], _ => rfl
 | t :: r, n => by rw [sepAll.sepU, sepT_nulR h, cond_true]; exact sepU_nul h m r _
theorem sepU_eq (u : Tc) (m : Nat) : ∀ (r : List Tc), sepAll.sepU u m r r.length = sepW u m (flt r)
 | [] => rfl
 | t :: r => by
  have ih := sepU_eq u m r
  simp only [List.length_cons, sepAll.sepU, Nat.add_sub_cancel, flt, psh, ih]
  cases hn : nul t with
  | true => rw [sepT_nulL hn]; rfl
  | false =>
   show _ = Bool.rec (motive := fun _ => Bool) (Bool.rec (motive := fun _ => Bool) false (sepW u m (flt r)) (bitB m r.length)) (sepW u m (flt r)) (sepT t u)
   cases sepT t u <;> cases bitB m r.length <;> rfl
theorem sepAll_eq (bits : Nat → Nat) : ∀ (ts : List Tc) (ms : List Nat), ms.length = ts.length → (∀ i, i < ts.length → ms[ts.length - 1 - i]? = some (bits i)) → sepAll ts ms = sepP bits (flt ts)
 | [], _, _, _ => by unfold sepAll; rfl
 | u :: r, [], h, _ => by simp at h
 | u :: r, m :: ms, hl, hb => by
  have ih := sepAll_eq bits r ms (by simpa using hl) (fun i hi => by
   have := hb i (by simp; omega)
   rw [show (u :: r).length - 1 - i = (r.length - 1 - i) + 1 by simp; omega, List.getElem?_cons_succ] at this
   exact this)
  have hm : m = bits r.length := by
   have := hb r.length (by simp)
   rw [show (u :: r).length - 1 - r.length = 0 by simp, List.getElem?_cons_zero, Option.some.injEq] at this
   exact this
  rw [sepAll, ih, llen_eq]
  simp only [flt, psh]
  cases hn : nul u with
  | true => rw [sepU_nul hn]; rfl
  | false =>
   rw [sepU_eq, hm]
   show _ = Bool.rec (motive := fun _ => Bool) false (sepP bits (flt r)) (sepW u (bits r.length) (flt r))
   cases sepW u (bits r.length) (flt r) <;> rfl
def allQF (l : List (Nat × Tc)) : Bool := List.rec (motive := fun _ => Bool) true (fun p _ ih => Prod.rec (motive := fun _ => Bool) (fun _ t => Tc.rec (motive := fun _ => Bool) (fun _ _ _ _ q => Bool.rec (motive := fun _ => Bool) false ih q) t) p) l
theorem allQF_eq : ∀ (ts : List Tc), allQF (flt ts) = allQ ts
 | [] => rfl
 | t :: r => by
  have ih := allQF_eq r
  simp only [flt, psh, allQ, ← ih]
  cases hn : nul t with
  | true => rw [(nul_of hn).1]; rfl
  | false =>
   obtain ⟨R, W, a, b, q⟩ := t
   show Bool.rec (motive := fun _ => Bool) false (allQF (flt r)) q = _
   cases q <;> rfl
def insAllF (b : Nat) (l : List Nat) : List Nat → (List Nat → RB) → RB := List.rec (motive := fun _ => List Nat → (List Nat → RB) → RB) (fun R k => k R) (fun x _ ih R k => insF b x R fun R' => ih R' k) l
theorem insAllF_eq (b : Nat) : ∀ (l R : List Nat) (k : List Nat → RB), insAllF b l R k = insAllK b l R k
 | [], _, _ => rfl
 | x :: r, R, k => by
  simp only [insAllK, ← insAllF_eq b r]
  show insF b x R (fun R' => insAllF b r R' k) = _
  exact insF_eq b x R _
def tellF (b : Nat) (l : List (Nat × Tc)) : List Nat → List Nat → (List Nat → List Nat → RB) → RB := List.rec (motive := fun _ => List Nat → List Nat → (List Nat → List Nat → RB) → RB) (fun R W k => k R W) (fun p _ ih R W k => Prod.rec (motive := fun _ => RB) (fun _ t => Tc.rec (motive := fun _ => RB) (fun tR tW _ _ _ => insAllF b tR R fun R' => insAllF b tW W fun W' => ih R' W' k) t) p) l
theorem tellF_eq (b : Nat) : ∀ (ts : List Tc) (R W : List Nat) (k : List Nat → List Nat → RB), tellF b (flt ts) R W k = tellK b ts R W k
 | [], _, _, _ => rfl
 | t :: r, R, W, k => by
  simp only [flt, psh, tellK, ← tellF_eq b r]
  cases hn : nul t with
  | true => rw [(nul_of hn).2.1, (nul_of hn).2.2.1]; rfl
  | false =>
   simp only [← insAllF_eq]
   rfl
def tellZ (b : Nat) (l : List (Nat × Tc)) (R W : List Nat) (k : List Nat → List Nat → RB) : RB := Nat.rec (motive := fun _ => RB) (k R W) (fun _ _ => tellF b l R W k) b
theorem tellK_0 : ∀ (ts : List Tc) (R W : List Nat) (k : List Nat → List Nat → RB), tellK 0 ts R W k = k R W
 | [], _, _, _ => rfl
 | t :: r, R, W, k => by
  have hi : ∀ (l R : List Nat) (k : List Nat → RB), insAllK 0 l R k = k R := by
   intro l
   induction l with
   | nil => intros; rfl
   | cons x l ih => intro R k; simp only [insAllK, insK]; exact ih _ _
  simp only [tellK, hi]
  exact tellK_0 r R W k
theorem tellZ_eq (b : Nat) (ts : List Tc) (R W : List Nat) (k : List Nat → List Nat → RB) : tellZ b (flt ts) R W k = tellK b ts R W k := by
 cases b with
 | zero => exact (tellK_0 ts R W k).symm
 | succ b => exact tellF_eq (b + 1) ts R W k
def endF (i : Nat) (h : Tr SO) (nx : Nat) (st' : St) (acc : List (Nat × Tc)) (k : Tr SO → Nat → List (Nat × Tc) → RB) : RB := St.rec (motive := fun _ => RB) (fun h' nx' b' R W => List.rec (motive := fun _ => RB) (Bool.rec (motive := fun _ => RB) (endK h nx st' fun h2 nx2 t => k h2 nx2 (psh i t acc)) (List.rec (motive := fun _ => RB) (k h nx acc) (fun _ _ _ => k h nx ((i, ⟨R, [], nx, nx, true⟩) :: acc)) R) (Nat.beq nx nx')) (fun _ _ _ => endK h nx st' fun h2 nx2 t => k h2 nx2 (psh i t acc)) W) st'
theorem endF_eq (i : Nat) (h : Tr SO) (nx : Nat) (st' : St) (acc : List (Nat × Tc)) (k : Tr SO → Nat → List (Nat × Tc) → RB) : endF i h nx st' acc k = endK h nx st' fun h2 nx2 t => k h2 nx2 (psh i t acc) := by
 obtain ⟨h', nx', b', R, W⟩ := st'
 cases W with
 | cons x W => rfl
 | nil =>
  show Bool.rec (motive := fun _ => RB) (endK h nx ⟨h', nx', b', R, []⟩ fun h2 nx2 t => k h2 nx2 (psh i t acc)) (List.rec (motive := fun _ => RB) (k h nx acc) (fun _ _ _ => k h nx ((i, ⟨R, [], nx, nx, true⟩) :: acc)) R) (Nat.beq nx nx') = _
  cases hb : Nat.beq nx nx' with
  | false => rfl
  | true =>
   simp only [endK, quietB, hb, cond_true]
   cases R with
   | nil =>
    have : nul ⟨[], [], nx, nx, true⟩ = true := by simp [nul]
    simp only [psh, this]; rfl
   | cons x R => rfl
end
end
end Go.TX
namespace Go.TX
open Go Go.TH
noncomputable section
abbrev CV := List SV
def dstsC : Code → List Nat
 | .region _ ops _ => ops.toList.filterMap (·.dst)
 | .seq x y => dstsC x ++ dstsC y
 | .cond _ x y => dstsC x ++ dstsC y
 | .block _ b => dstsC b
 | .loop b => dstsC b
 | .rangeFunc _ ps assign body => ps.toList ++ (dstsC assign ++ dstsC body)
 | .scope b => dstsC b
 | _ => []
def keptL (A : List Nat) : Nat → List Nat
 | 0 => []
 | n + 1 => bif memb n A then keptL A n else n :: keptL A n
def sameO : Option SV → Option SV → Bool
 | none, none => true
 | some a, some b => eqV a b
 | _, _ => false
def keptB (env env' : Tr SV) : List Nat → Bool
 | [] => true
 | t :: r => bif sameO (env.get t) (env'.get t) then keptB env env' r else false
def carL (env : Tr SV) : List Nat → List Nat → Option (List Nat)
 | [], acc => some acc
 | t :: r, acc => match env.get t with
  | none => carL env r acc
  | some (.raw _) => bif memb t acc then carL env r acc else carL env r (t :: acc)
  | some _ => none
def anyT (env : Tr SV) : List Nat → Tr SV
 | [] => env
 | t :: r => match (anyT env r).get t with
  | none => (anyT env r).set t (some .any)
  | some _ => anyT env r
def putT (env : Tr SV) : List Nat → CV → Tr SV
 | t :: r, v :: vs => (putT env r vs).set t (some v)
 | _, _ => env
def getT (env : Tr SV) : List Nat → Option CV
 | [] => some []
 | t :: r => match env.get t with
  | some (.raw v) => match getT env r with
   | some l => some (.raw v :: l)
   | none => none
  | _ => none
def isNl : List Nat → Bool
 | [] => true
 | _ => false
def isNrm : Ex → Bool
 | .nrm => true
 | _ => false
def lookT : List (CV × List CV) → CV → Option (List CV)
 | [], _ => none
 |(q, row) :: T, p => bif eqVs q p then some row else lookT T p
def allB {α : Type} (f : α → Bool) : List α → Bool
 | [] => true
 | x :: r => bif f x then allB f r else false
def mapO {α β : Type} (f : α → Option β) : List α → Option (List β)
 | [] => some []
 | x :: r => match f x with
  | some y => match mapO f r with
   | some l => some (y :: l)
   | none => none
  | none => none
def symR (M : List (List CV)) : List (List CV) → Nat → Bool
 | [], _ => true
 | r :: rs, i => match mapO (fun x => nth x i) M with
  | some c => bif eqL eqVs r c then symR M rs (Nat.succ i) else false
  | none => false
def comB (T : List (CV × List CV)) : List (CV × List CV) → Bool
 | [] => true
 |(_, row) :: r => match mapO (lookT T) row with
  | some M => bif symR M M 0 then comB T r else false
  | none => false
def runT (T : List (CV × List CV)) : Nat → Nat → CV → Option CV
 | 0, _, q => some q
 | n + 1, i, q => match lookT T q with
  | some row => match nth row i with
   | some q' => runT T n (Nat.succ i) q'
   | none => none
  | none => none
section
variable (P : Program) (sm : Sums) (rec : Rec) (ro : Option Nat) (N : Nat) (ops os : List Oper) (C : Code) (d : Nat) (car kept : List Nat) (ds : List Nat) (i m since clk : Nat) (envN : Tr SV) (h : Tr SO) (nx : Nat)
def rndS (q : CV) (e : SEnt) : Option (CV × List Nat × Nat) := match exL P sm rec N ops os ((putT envN car q).set d (some (.tup [.raw (.bool true), e.key, e.val]))) ⟨h.set i (some (.itl m since e.born clk)), nx, nx, [], []⟩ with
 | some [(env2, st2)] => match rec ro N C env2 ds st2 with
  | some [(e3, env3, ds3, st3)] => bif isNrm e3 && (eqL Nat.beq ds3 ds && (isNl st3.W && (Nat.ble nx st3.nx && keptB (putT envN car q) env3 kept))) then (match getT env3 car with
   | some q' => some (q', st3.R, st3.nx)
   | none => none) else none
  | _ => none
 | _ => none
def rowS (b : Nat) (q : CV) : List SEnt → List Nat → Nat → Option (List CV × List Nat × Nat)
 | [], R, n => some ([], R, n)
 | e :: r, R, n => match rndS P sm rec ro N ops os C d car kept ds i m since clk envN h nx q e with
  | some (q', R', n') => match rowS b q r (insAllK b R' R fun R2 => R2) (bif Nat.ble n n' then n' else n) with
   | some (l, R2, n2) => some (q' :: l, R2, n2)
   | none => none
  | none => none
def expS (b : Nat) (es : List SEnt) : Nat → List CV → List (CV × List CV) → List Nat → Nat → Option (List (CV × List CV) × List Nat × Nat)
 | _, [], T, R, n => some (T, R, n)
 | 0, _ :: _, _, _, _ => none
 | f + 1, q :: ps, T, R, n => match lookT T q with
  | some _ => expS b es f ps T R n
  | none => match rowS P sm rec ro N ops os C d car kept ds i m since clk envN h nx b q es R n with
   | some (row, R', n') => expS b es f (row ++ ps) ((q, row) :: T) R' n'
   | none => none
def lstS (q : CV) (b : Nat) (R W : List Nat) (n : Nat) : Option (List Out) := match exL P sm rec N ops os ((putT envN car q).set d (some (.tup [.raw (.bool false)]))) ⟨h.set i none, n, b, R, W⟩ with
 | some L => match mapB (fun p => rec ro N C p.1 ds p.2) L with
  | some L2 => bif allB (fun o => !isNrm o.1) L2 then some L2 else none
  | none => none
 | none => none
end
def mlGo (P : Program) (sm : Sums) (rec : Rec) (ro : Option Nat) (N : Nat) (ops os : List Oper) (C : Code) (x d : Nat) (A : List Nat) (env : Tr SV) (ds : List Nat) (st : St) : Option (List Out) := match st with
 | ⟨h, nx, b, R, W⟩ => bif memb x A then none else (bif memb d A && Nat.blt d N then (match env.get x with
  | some (.ptr i 0) => match h.get i with
   | some (.iter (some m) since [] clk) => match h.get m with
    | some (.map es clk') => bif Nat.beq clk clk' && (Nat.ble since clk && (oldB since es && (Nat.ble b i && (nodupB es [] && Nat.ble 2 (llen es))))) then (match carL env A [] with
     | some car => match getT env car with
      | some q0 => match expS P sm rec ro N ops os C d car (keptL A N) ds i m since clk (anyT env A) h nx b es (Nat.add (Nat.mul 4 (llen es)) 10) [q0] [] (insK b m R fun R' => R') nx with
       | some (T, R2, n2) => bif comB T T then (match runT T (llen es) 0 q0 with
        | some q => lstS P sm rec ro N ops os C d car ds i (anyT env A) h q b R2 W n2
        | none => none) else none
       | none => none
      | none => none
     | none => none) else none
    | _ => none
   | _ => none
  | _ => none) else none)
def mlS (P : Program) (sm : Sums) (rec : Rec) (ro : Option Nat) (N : Nat) (c : Code) (env : Tr SV) (ds : List Nat) (st : St) : Option (List Out) := match c with
 | .loop b => match b with
  | .seq a C => match a with
   | .region _ ops draw => match draw with
    | false => match ops.toList with
     | o :: os => match o.op with
      | .next x s => match s with
       | false => match x with
        | .tmp x => match o.guard with
         | none => match o.dst with
          | some d => mlGo P sm rec ro N (o :: os) os C x d (dstsC b) env ds st
          | none => none
         | _ => none
        | _ => none
       | _ => none
      | _ => none
     | _ => none
    | _ => none
   | _ => none
  | _ => none
 | _ => none
def stepM (P : Program) (sm : Sums) (rec : Rec) : Rec := fun ro N c env ds st => match mlS P sm rec ro N c env ds st with
 | some L => some L
 | none => stepC P sm rec ro N c env ds st
end
end Go.TX
namespace Go.TX
open Go Go.TH
noncomputable section
variable {ρ ρ' ρ3 : Ren}
mutual
theorem Rel.back (h : ∀ x, ρ x ≠ none → ρ3 x = ρ x) : ∀ {s : SV} {u0 u : Value}, Rel ρ s u0 → Rel ρ3 s u → Rel ρ s u
 | .raw v, u0, u, _, hr => by rw [Rel] at hr ⊢; exact hr
 | .ptr b o, u0, u, h0, hr => by
  rw [Rel] at h0 hr ⊢
  obtain ⟨x, s, h1, _⟩ := h0
  obtain ⟨x', s', h2, h3⟩ := hr
  rw [h b (by rw [h1]; simp)] at h2
  exact ⟨x', s', h2, h3⟩
 | .sl b o n c, u0, u, h0, hr => by
  rw [Rel] at h0 hr ⊢
  obtain ⟨x, s, k, h1, _⟩ := h0
  obtain ⟨x', s', k', h2, h3⟩ := hr
  rw [h b (by rw [h1]; simp)] at h2
  exact ⟨x', s', k', h2, h3⟩
 | .sl0, u0, u, _, hr => by rw [Rel] at hr ⊢; exact hr
 | .map b, u0, u, h0, hr => by
  rw [Rel] at h0 hr ⊢
  obtain ⟨x, s, h1, _⟩ := h0
  obtain ⟨x', s', h2, h3⟩ := hr
  rw [h b (by rw [h1]; simp)] at h2
  exact ⟨x', s', h2, h3⟩
 | .fn f l m, u0, u, h0, hr => by
  rw [Rel] at h0 hr ⊢
  obtain ⟨us0, vs0, a1, a2, _⟩ := h0
  obtain ⟨us, vs, b1, b2, b3⟩ := hr
  exact ⟨us, vs, RelL.back h a1 b1, RelL.back h a2 b2, b3⟩
 | .yield b, u0, u, h0, hr => by
  rw [Rel] at h0 hr ⊢
  obtain ⟨x, s, h1, _⟩ := h0
  obtain ⟨x', s', h2, h3⟩ := hr
  rw [h b (by rw [h1]; simp)] at h2
  exact ⟨x', s', h2, h3⟩
 | .agg l, u0, u, h0, hr => by
  rw [Rel] at h0 hr ⊢
  obtain ⟨us0, a1, _⟩ := h0
  obtain ⟨us, b1, b3⟩ := hr
  exact ⟨us, RelL.back h a1 b1, b3⟩
 | .tup l, u0, u, h0, hr => by
  rw [Rel] at h0 hr ⊢
  obtain ⟨us0, a1, _⟩ := h0
  obtain ⟨us, b1, b3⟩ := hr
  exact ⟨us, RelL.back h a1 b1, b3⟩
 | .any, _, _, _, _ => by rw [Rel]; exact True.intro
theorem RelL.back (h : ∀ x, ρ x ≠ none → ρ3 x = ρ x) : ∀ {l : List SV} {us0 us : List Value}, RelL ρ l us0 → RelL ρ3 l us → RelL ρ l us
 | [], _, us, _, hr => by rw [RelL] at hr ⊢; exact hr
 | s :: l, _, us, h0, hr => by
  rw [RelL] at h0 hr ⊢
  obtain ⟨v0, r0, _, a1, a2⟩ := h0
  obtain ⟨v, r, b1, b2, b3⟩ := hr
  exact ⟨v, r, b1, Rel.back h a1 b2, RelL.back h a2 b3⟩
end
theorem DsR.back (h : ∀ x, ρ x ≠ none → ρ3 x = ρ x) : ∀ {ds : List Nat} {l0 l : List Deferred}, DsR ρ ds l0 → DsR ρ3 ds l → DsR ρ ds l
 | [], _, _, _, hd => hd
 | d :: ds, _, _, ⟨x0, s0, r0, _, a2, a3⟩, ⟨x, s, r, b1, b2, b3⟩ => ⟨x, s, r, b1, by rw [h d (by rw [a2]; simp)] at b2; exact b2, a3.back h b3⟩
theorem anyT_get (env : Tr SV) : ∀ (A : List Nat) (t : Nat), (anyT env A).get t = if env.get t = none ∧ t ∈ A then some .any else env.get t
 | [], t => by simp [anyT]
 | a :: r, t => by
  have ih := anyT_get env r
  simp only [anyT]
  have ha := ih a
  cases hg : (anyT env r).get a with
  | some v =>
   rw [hg] at ha
   simp only
   rw [ih t]
   by_cases e : t = a
   ·rw [e]
    by_cases hn : env.get a = none
    ·by_cases hm : a ∈ r
     ·rw [if_pos ⟨hn, hm⟩, if_pos ⟨hn, by simp⟩]
     ·rw [if_neg (fun q => hm q.2), hn] at ha; cases ha
    ·rw [if_neg (fun q => hn q.1), if_neg (fun q => hn q.1)]
   ·simp [e]
  | none =>
   rw [hg] at ha
   simp only
   rw [Tr.get_set]
   have hn : env.get a = none := by
    by_cases hn : env.get a = none
    ·exact hn
    ·rw [if_neg (fun q => hn q.1)] at ha; exact absurd ha.symm hn
   by_cases e : t = a
   ·subst e
    rw [if_pos rfl, if_pos ⟨hn, by simp⟩]
   ·rw [if_neg e, ih t]
    simp [e]
theorem putT_out (env : Tr SV) : ∀ (car : List Nat) (q : CV) (t : Nat), t ∉ car → (putT env car q).get t = env.get t
 | [], q, t, _ => by simp [putT]
 | c :: r, [], t, _ => by simp [putT]
 | c :: r, v :: vs, t, h => by
  simp only [putT]
  rw [Tr.get_set, if_neg (fun e => h (by simp [e]))]
  exact putT_out env r vs t (fun e => h (by simp [e]))
theorem getT_put (env env3 : Tr SV) : ∀ (car : List Nat) (q : CV), getT env3 car = some q → ∀ t, t ∈ car → (putT env car q).get t = env3.get t
 | [], q, _, t, h => by cases h
 | c :: r, q, h, t, ht => by
  simp only [getT] at h
  split at h
  case h_2 => cases h
  rename_i v hv
  split at h
  case h_2 => cases h
  rename_i l hl
  simp only [Option.some.injEq] at h
  subst h
  simp only [putT]
  rw [Tr.get_set]
  by_cases e : t = c
  ·subst e; rw [if_pos rfl, hv]
  ·rw [if_neg e]
   exact getT_put env env3 r l hl t (by rcases List.mem_cons.1 ht with q | q; exact absurd q e; exact q)
theorem carL_ok (env : Tr SV) : ∀ (A acc car : List Nat), carL env A acc = some car → (∀ t, t ∈ A → env.get t = none ∨ t ∈ car) ∧ (∀ t, t ∈ car → t ∈ A ∨ t ∈ acc) ∧ ∀ t, t ∈ acc → t ∈ car
 | [], acc, car, h => by
  simp only [carL, Option.some.injEq] at h
  subst h
  exact ⟨(fun t h => by cases h), (fun t h => .inr h), fun t h => h⟩
 | a :: r, acc, car, h => by
  simp only [carL] at h
  split at h
  ·rename_i hn
   obtain ⟨h1, h2, h3⟩ := carL_ok env r acc car h
   refine ⟨fun t ht => ?_, fun t ht => ?_, h3⟩
   ·rcases List.mem_cons.1 ht with rfl | ht
    ·exact .inl hn
    ·exact h1 t ht
   ·rcases h2 t ht with q | q
    ·exact .inl (List.mem_cons_of_mem _ q)
    ·exact .inr q
  ·cases hm : memb a acc with
   | true =>
    rw [hm, cond_true] at h
    obtain ⟨h1, h2, h3⟩ := carL_ok env r acc car h
    refine ⟨fun t ht => ?_, fun t ht => ?_, h3⟩
    ·rcases List.mem_cons.1 ht with rfl | ht
     ·exact .inr (h3 _ (memb_mem hm))
     ·exact h1 t ht
    ·rcases h2 t ht with q | q
     ·exact .inl (List.mem_cons_of_mem _ q)
     ·exact .inr q
   | false =>
    rw [hm, cond_false] at h
    obtain ⟨h1, h2, h3⟩ := carL_ok env r (a :: acc) car h
    refine ⟨fun t ht => ?_, fun t ht => ?_, fun t ht => h3 t (List.mem_cons_of_mem _ ht)⟩
    ·rcases List.mem_cons.1 ht with rfl | ht
     ·exact .inr (h3 _ (by simp))
     ·exact h1 t ht
    ·rcases h2 t ht with q | q
     ·exact .inl (List.mem_cons_of_mem _ q)
     ·rcases List.mem_cons.1 q with q | q
      ·exact .inl (by simp [q])
      ·exact .inr q
  ·cases h
theorem keptL_ok (A : List Nat) : ∀ (n t : Nat), t < n → t ∉ A → t ∈ keptL A n
 | 0, t, h, _ => by omega
 | n + 1, t, h, ha => by
  simp only [keptL]
  cases hm : memb n A with
  | true =>
   rw [cond_true]
   refine keptL_ok A n t ?_ ha
   have : t ≠ n := fun e => ha (by rw [e]; exact memb_mem hm)
   omega
  | false =>
   rw [cond_false]
   by_cases e : t = n
   ·simp [e]
   ·exact List.mem_cons_of_mem _ (keptL_ok A n t (by omega) ha)
theorem sameO_eq {a b : Option SV} (h : sameO a b = true) : a = b := by
 cases a <;> cases b <;> simp only [sameO] at h
 ·rfl
 ·cases h
 ·cases h
 ·rw [eqV_eq h]
theorem keptB_ok {env env' : Tr SV} : ∀ {l : List Nat}, keptB env env' l = true → ∀ t, t ∈ l → env.get t = env'.get t
 | [], _, t, h => by cases h
 | a :: r, h, t, ht => by
  simp only [keptB] at h
  cases hs : sameO (env.get a) (env'.get a) with
  | false => rw [hs] at h; cases h
  | true =>
   rw [hs, cond_true] at h
   rcases List.mem_cons.1 ht with rfl | ht
   ·exact sameO_eq hs
   ·exact keptB_ok h t ht
theorem lookT_mem : ∀ {T : List (CV × List CV)} {p : CV} {row : List CV}, lookT T p = some row → (p, row) ∈ T
 | [], p, row, h => by cases h
 |(q, r) :: T, p, row, h => by
  simp only [lookT] at h
  cases he : eqVs q p with
  | true =>
   rw [he, cond_true, Option.some.injEq] at h
   rw [eqVs_eq he, h]; simp
  | false =>
   rw [he, cond_false] at h
   exact List.mem_cons_of_mem _ (lookT_mem h)
theorem mapO_ok {α β : Type} {f : α → Option β} : ∀ {l : List α} {r : List β}, mapO f l = some r → r.length = l.length ∧ ∀ (k : Nat) (x : α), l[k]? = some x → ∃ y, f x = some y ∧ r[k]? = some y
 | [], r, h => by
  simp only [mapO, Option.some.injEq] at h
  subst h
  exact ⟨rfl, fun k x hx => by simp at hx⟩
 | a :: l, r, h => by
  simp only [mapO] at h
  split at h
  case h_2 => cases h
  rename_i y hy
  split at h
  case h_2 => cases h
  rename_i l' hl
  simp only [Option.some.injEq] at h
  subst h
  obtain ⟨h1, h2⟩ := mapO_ok hl
  refine ⟨by simp [h1], fun k x hx => ?_⟩
  cases k with
  | zero => simp at hx; subst hx; exact ⟨y, hy, by simp⟩
  | succ k => simp at hx ⊢; exact h2 k x hx
theorem symR_ok {M : List (List CV)} : ∀ {rs : List (List CV)} {i : Nat}, symR M rs i = true → ∀ (k : Nat) (r : List CV), rs[k]? = some r → mapO (fun x => nth x (i + k)) M = some r
 | [], i, _, k, r, h => by simp at h
 | r0 :: rs, i, h, k, r, hk => by
  simp only [symR] at h
  split at h
  case h_2 => cases h
  rename_i c hc
  cases he : eqL eqVs r0 c with
  | false => rw [he] at h; cases h
  | true =>
   rw [he, cond_true] at h
   have e : r0 = c := eqL_eq (fun a b => eqVs_eq) he
   cases k with
   | zero => simp at hk; subst hk; rw [e]; exact hc
   | succ k =>
    simp at hk
    have := symR_ok h k r hk
    rw [show i + (k + 1) = i + 1 + k by omega]; exact this
def RowsT (T : List (CV × List CV)) (n : Nat) (δ : CV → Nat → CV) : Prop := ∀ q row, (q, row) ∈ T → row.length = n ∧ (∀ k, k < n → row[k]? = some (δ q k)) ∧ ∀ q', q' ∈ row → ∃ r', lookT T q' = some r'
theorem comB_mem {T : List (CV × List CV)} : ∀ {S : List (CV × List CV)}, comB T S = true → ∀ q row, (q, row) ∈ S → ∃ M, mapO (lookT T) row = some M ∧ symR M M 0 = true
 | [], _, q, row, h => by cases h
 |(q0, r0) :: S, h, q, row, hm => by
  simp only [comB] at h
  split at h
  case h_2 => cases h
  rename_i M hM
  cases hs : symR M M 0 with
  | false => rw [hs] at h; cases h
  | true =>
   rw [hs, cond_true] at h
   rcases List.mem_cons.1 hm with e | hm
   ·cases e; exact ⟨M, hM, hs⟩
   ·exact comB_mem h q row hm
theorem com_ok {T : List (CV × List CV)} {n : Nat} {δ : CV → Nat → CV} (hT : RowsT T n δ) (hc : comB T T = true) {q : CV} {row : List CV} (hq : (q, row) ∈ T) {i j : Nat} (hi : i < n) (hj : j < n) : δ (δ q i) j = δ (δ q j) i := by
 obtain ⟨hl, hrow, _⟩ := hT q row hq
 obtain ⟨M, hM, hs⟩ := comB_mem hc q row hq
 obtain ⟨m1, m2⟩ := mapO_ok hM
 obtain ⟨ri, e1, e2⟩ := m2 i _ (hrow i hi)
 obtain ⟨rj, f1, f2⟩ := m2 j _ (hrow j hj)
 have hri := (hT _ _ (lookT_mem e1)).2.1 j hj
 have hrj := (hT _ _ (lookT_mem f1)).2.1 i hi
 have hsy := symR_ok hs i ri e2
 obtain ⟨s1, s2⟩ := mapO_ok hsy
 obtain ⟨y, y1, y2⟩ := s2 j rj f2
 rw [nth_eq, Nat.zero_add, hrj] at y1
 rw [hri] at y2
 exact Option.some.inj (y2.trans y1.symm)
theorem runT_ok {T : List (CV × List CV)} {n : Nat} {δ : CV → Nat → CV} (hT : RowsT T n δ) : ∀ {k i : Nat} {q q' : CV}, i + k ≤ n → runT T k i q = some q' → q' = (List.range' i k).foldl δ q
 | 0, i, q, q', _, h => by simp only [runT, Option.some.injEq] at h; simp [h]
 | k + 1, i, q, q', hk, h => by
  simp only [runT] at h
  split at h
  case h_2 => cases h
  rename_i row hr
  split at h
  case h_2 => cases h
  rename_i q1 hq1
  have := (hT q row (lookT_mem hr)).2.1 i (by omega)
  rw [nth_eq, this] at hq1
  cases hq1
  have ih := runT_ok hT (by omega) h
  rw [ih]
  rfl
theorem foldl_perm {n : Nat} {δ : CV → Nat → CV} {S : CV → Prop} (hS : ∀ q i, S q → i < n → S (δ q i)) (hc : ∀ q i j, S q → i < n → j < n → δ (δ q i) j = δ (δ q j) i) {l l' : List Nat} (hp : l.Perm l') : (∀ i ∈ l, i < n) → ∀ q, S q → l.foldl δ q = l'.foldl δ q := by
 induction hp with
 | nil => intro _ q _; rfl
 | cons x _ ih =>
  intro hl q hq
  exact ih (fun i hi => hl i (by simp [hi])) _ (hS q x hq (hl x (by simp)))
 | swap x y l =>
  intro hl q hq
  show l.foldl δ (δ (δ q y) x) = l.foldl δ (δ (δ q x) y)
  rw [hc q y x hq (hl y (by simp)) (hl x (by simp))]
 | trans h1 h2 i1 i2 =>
  intro hl q hq
  rw [i1 hl q hq]
  exact i2 (fun i hi => hl i (h1.mem_iff.2 hi)) q hq
end
end Go.TX
namespace Go.TX
open Go Go.TH
noncomputable section
variable {P : Program} {sm : Sums} {rec : Rec} {ro : Option Nat} {N : Nat} {ops os : List Oper} {C : Code} {d : Nat} {car kept : List Nat} {ds : List Nat} {i m since clk : Nat} {envN : Tr SV} {h : Tr SO} {nx : Nat}
theorem insAll_ok (b : Nat) : ∀ (l R : List Nat), (∀ x, x ∈ R → x ∈ insAllK b l R fun R2 => R2) ∧ ∀ x, x ∈ l → x ∈ (insAllK b l R fun R2 => R2) ∨ b ≤ x
 | [], R => ⟨fun x hx => hx, fun x hx => by cases hx⟩
 | y :: r, R => by
  simp only [insAllK, insK_eq]
  obtain ⟨h1, h2⟩ := insAll_ok b r (ins b y R)
  refine ⟨fun x hx => h1 x (ins_sub _ _ _ _ hx), fun x hx => ?_⟩
  rcases List.mem_cons.1 hx with rfl | hx
  ·rcases ins_has b x R with q | q
   ·exact .inl (h1 _ q)
   ·exact .inr q
  ·exact h2 x hx
def RowG (G : CV → SEnt → Option (CV × List Nat × Nat)) (b : Nat) (q : CV) (es : List SEnt) (row : List CV) (R : List Nat) (n : Nat) : Prop := row.length = es.length ∧ ∀ (k : Nat) (e : SEnt), es[k]? = some e → ∃ q' Rr nr, G q e = some (q', Rr, nr) ∧ row[k]? = some q' ∧ (∀ x, x ∈ Rr → x ∈ R ∨ b ≤ x) ∧ nr ≤ n
theorem RowG.mono {G : CV → SEnt → Option (CV × List Nat × Nat)} {b : Nat} {q : CV} {es : List SEnt} {row : List CV} {R R' : List Nat} {n n' : Nat} (g : RowG G b q es row R n) (hR : ∀ x, x ∈ R → x ∈ R') (hn : n ≤ n') : RowG G b q es row R' n' := by
 refine ⟨g.1, fun k e he => ?_⟩
 obtain ⟨q', Rr, nr, h1, h2, h3, h4⟩ := g.2 k e he
 exact ⟨q', Rr, nr, h1, h2, fun x hx => (h3 x hx).imp (hR x) id, Nat.le_trans h4 hn⟩
theorem rowS_ok {b : Nat} {q : CV} : ∀ {l : List SEnt} {R : List Nat} {n : Nat} {row : List CV} {R' : List Nat} {n' : Nat}, rowS P sm rec ro N ops os C d car kept ds i m since clk envN h nx b q l R n = some (row, R', n') → RowG (rndS P sm rec ro N ops os C d car kept ds i m since clk envN h nx) b q l row R' n' ∧ (∀ x, x ∈ R → x ∈ R') ∧ n ≤ n'
 | [], R, n, row, R', n', hh => by
  simp only [rowS, Option.some.injEq, Prod.mk.injEq] at hh
  obtain ⟨rfl, rfl, rfl⟩ := hh
  exact ⟨⟨rfl, fun k e he => by simp at he⟩, fun x hx => hx, Nat.le_refl _⟩
 | e :: r, R, n, row, R', n', hh => by
  simp only [rowS] at hh
  split at hh
  case h_2 => cases hh
  rename_i q1 R1 n1 h1
  split at hh
  case h_2 => cases hh
  rename_i l R2 n2 h2
  simp only [Option.some.injEq, Prod.mk.injEq] at hh
  obtain ⟨rfl, rfl, rfl⟩ := hh
  obtain ⟨g, gR, gn⟩ := rowS_ok h2
  obtain ⟨a1, a2⟩ := insAll_ok b R1 R
  have hn : n ≤ n2 ∧ n1 ≤ n2 := by
   cases hb : Nat.ble n n1 with
   | true => rw [hb, cond_true] at gn; have := Nat.ble_eq.mp hb; omega
   | false =>
    rw [hb, cond_false] at gn
    have : ¬ n ≤ n1 := fun q => by rw [Nat.ble_eq.mpr q] at hb; cases hb
    omega
  refine ⟨⟨by simp [g.1], fun k e' he => ?_⟩, fun x hx => gR x (a1 x hx), hn.1⟩
  cases k with
  | zero =>
   simp at he; subst he
   exact ⟨q1, R1, n1, h1, by simp, fun x hx => (a2 x hx).imp (gR x) id, hn.2⟩
  | succ k => simp at he ⊢; exact g.2 k e' he
theorem expS_ok {b : Nat} {es : List SEnt} : ∀ {f : Nat} {ps : List CV} {T : List (CV × List CV)} {R : List Nat} {n : Nat} {T' : List (CV × List CV)} {R' : List Nat} {n' : Nat}, expS P sm rec ro N ops os C d car kept ds i m since clk envN h nx b es f ps T R n = some (T', R', n') → (∀ q row, (q, row) ∈ T → RowG (rndS P sm rec ro N ops os C d car kept ds i m since clk envN h nx) b q es row R n) → (∀ q row, (q, row) ∈ T' → RowG (rndS P sm rec ro N ops os C d car kept ds i m since clk envN h nx) b q es row R' n') ∧ (∀ x, x ∈ R → x ∈ R') ∧ n ≤ n'
 | f, [], T, R, n, T', R', n', hh, hT => by
  have hh : some (T, R, n) = some (T', R', n') := by cases f <;> simpa [expS] using hh
  simp only [Option.some.injEq, Prod.mk.injEq] at hh
  obtain ⟨rfl, rfl, rfl⟩ := hh
  exact ⟨hT, fun x hx => hx, Nat.le_refl _⟩
 | 0, q :: ps, T, R, n, T', R', n', hh, hT => by simp [expS] at hh
 | f + 1, q :: ps, T, R, n, T', R', n', hh, hT => by
  simp only [expS] at hh
  split at hh
  ·exact expS_ok hh hT
  ·split at hh
   case h_2 => cases hh
   rename_i row R1 n1 h1
   obtain ⟨g, gR, gn⟩ := rowS_ok h1
   obtain ⟨k1, k2, k3⟩ := expS_ok hh (fun q' row' hm => by
    rcases List.mem_cons.1 hm with e | hm
    ·cases e; exact g
    ·exact (hT q' row' hm).mono gR gn)
   exact ⟨k1, fun x hx => k2 x (gR x hx), Nat.le_trans gn k3⟩
variable {ρ ρ' : Ren} {D : Nat → Prop} {st st' : St} {w w' : World}
theorem Sim.world (hs : Sim ρ D st w) (hk : ∀ b, b < w.heap.size → w'.heap[b]? = w.heap[b]?) : Sim ρ D st w' := by
 refine ⟨fun x o hd hg => ?_, hs.inj, hs.lt⟩
 obtain ⟨b, s, ob, h1, h2, h3⟩ := hs.live x o hd hg
 have hb : b < w.heap.size := (Array.getElem?_eq_some_iff.1 h2).1
 exact ⟨b, s, ob, h1, by rw [hk b hb]; exact h2, h3⟩
theorem Sim.congr (hs : Sim ρ D st w) (hh : ∀ x, st'.h.get x = st.h.get x) (hn : st'.nx = st.nx) : Sim ρ D st' w :=
 ⟨fun x o hd hg => hs.live x o hd (by rw [← hh x]; exact hg), fun x y b s s' d d' gx gy => hs.inj x y b s s' d d' (by rw [← hh x]; exact gx) (by rw [← hh y]; exact gy), fun x gx => by rw [hn]; exact hs.lt x (by rw [← hh x]; exact gx)⟩
theorem Sim.told (hs : Sim ρ D st w) {x : Nat} {o : SO} (hx : st.h.get x ≠ none) (ho : D x → ∀ b s ob, ρ x = some (b, s) → w.heap[b]? = some ob → (∀ o', st.h.get x = some o' → ORel ρ s o' ob) → ORel ρ s o ob) {n b : Nat} {R W : List Nat} (hn : st.nx ≤ n) : Sim ρ D ⟨st.h.set x (some o), n, b, R, W⟩ w := by
 refine ⟨fun y o' hd hg => ?_, fun y z bb s s' d d' gy gz => ?_, fun y gy => ?_⟩
 ·simp only [Tr.get_set] at hg
  by_cases e : y = x
  ·rw [if_pos e] at hg
   cases hg
   rw [e] at hd ⊢
   cases hg : st.h.get x with
   | none => exact absurd hg hx
   | some o' =>
    obtain ⟨bb, s, ob, h1, h2, h3⟩ := hs.live x o' hd hg
    exact ⟨bb, s, ob, h1, h2, ho hd bb s ob h1 h2 (fun o2 h2 => by rw [hg] at h2; cases h2; exact h3)⟩
  ·rw [if_neg e] at hg
   exact hs.live y o' hd hg
 ·have k : ∀ y, (st.h.set x (some o)).get y ≠ none → st.h.get y ≠ none := fun y gy => by
   rw [Tr.get_set] at gy
   by_cases e : y = x
   ·rw [e]; exact hx
   ·rw [if_neg e] at gy; exact gy
  exact hs.inj y z bb s s' d d' (k y gy) (k z gz)
 ·simp only [Tr.get_set] at gy
  by_cases e : y = x
  ·rw [e]; exact Nat.lt_of_lt_of_le (hs.lt x hx) hn
  ·rw [if_neg e] at gy; exact Nat.lt_of_lt_of_le (hs.lt y gy) hn
theorem Sim.untold (hs : Sim ρ D st w) {x : Nat} {n b : Nat} {R W : List Nat} (hn : st.nx ≤ n) : Sim ρ D ⟨st.h.set x none, n, b, R, W⟩ w := by
 have k : ∀ y, (st.h.set x none).get y ≠ none → (st.h.set x none).get y = st.h.get y := fun y gy => by
  rw [Tr.get_set] at gy ⊢
  by_cases e : y = x
  ·rw [if_pos e] at gy; exact absurd rfl gy
  ·rw [if_neg e]
 refine ⟨fun y o' hd hg => hs.live y o' hd (by rw [← k y (by rw [hg]; simp)]; exact hg), fun y z bb s s' d d' gy gz => hs.inj y z bb s s' d d' (by rw [← k y gy]; exact gy) (by rw [← k z gz]; exact gz), fun y gy => Nat.lt_of_lt_of_le (hs.lt y (by rw [← k y gy]; exact gy)) hn⟩
theorem outsS_some {q m since clk : Nat} {seen : List Nat} : ∀ (l : List SEnt), ∃ L, outsS q m since clk seen st l = some L ∧ ∀ p ∈ L, ∃ e ∈ l, p = ((.tup [.raw (.bool true), e.key, e.val] : SV), (⟨st.h.set q (some (.iter (some m) since (e.born :: seen) clk)), st.nx, st.base, ins st.base q st.R, ins st.base q st.W⟩ : St))
 | [] => ⟨[], rfl, fun p hp => by cases hp⟩
 | e :: r => by
  obtain ⟨L, h1, h2⟩ := outsS_some (q := q) (m := m) (since := since) (clk := clk) (seen := seen) r
  refine ⟨((.tup [.raw (.bool true), e.key, e.val] : SV), (⟨st.h.set q (some (.iter (some m) since (e.born :: seen) clk)), st.nx, st.base, ins st.base q st.R, ins st.base q st.W⟩ : St)) :: L, by simp only [outsS, wtK_eq, h1], fun p hp => ?_⟩
  rcases List.mem_cons.1 hp with rfl | hp
  ·exact ⟨e, by simp, rfl⟩
  ·obtain ⟨e', he, hp⟩ := h2 p hp
   exact ⟨e', by simp [he], hp⟩
theorem leftS_mem {V : List Nat} : ∀ {es : List SEnt} {e : SEnt}, e ∈ leftS V es ↔ e ∈ es ∧ e.born ∉ V
 | [], e => by simp [leftS]
 | a :: r, e => by
  simp only [leftS]
  cases hm : memb a.born V with
  | true =>
   rw [cond_true, leftS_mem (es := r)]
   have := memb_mem hm
   constructor
   ·rintro ⟨h1, h2⟩; exact ⟨List.mem_cons_of_mem _ h1, h2⟩
   ·rintro ⟨h1, h2⟩
    rcases List.mem_cons.1 h1 with rfl | h1
    ·exact absurd this h2
    ·exact ⟨h1, h2⟩
  | false =>
   have hn : a.born ∉ V := fun q => by rw [memb_iff.2 q] at hm; cases hm
   rw [cond_false, List.mem_cons, leftS_mem (es := r), List.mem_cons]
   constructor
   ·rintro (rfl | ⟨h1, h2⟩)
    ·exact ⟨.inl rfl, hn⟩
    ·exact ⟨.inr h1, h2⟩
   ·rintro ⟨rfl | h1, h2⟩
    ·exact .inl rfl
    ·exact .inr ⟨h1, h2⟩
theorem leftS_le (V : List Nat) (x : Nat) : ∀ (es : List SEnt), (leftS (x :: V) es).length ≤ (leftS V es).length
 | [] => Nat.le_refl _
 | a :: r => by
  have ih := leftS_le V x r
  simp only [leftS]
  cases hm : memb a.born V with
  | true =>
   have : memb a.born (x :: V) = true := memb_iff.2 (List.mem_cons_of_mem _ (memb_mem hm))
   rw [this]; exact ih
  | false =>
   cases hm' : memb a.born (x :: V) with
   | true => simp only [cond_true, cond_false, List.length_cons]; omega
   | false => simp only [cond_false, List.length_cons]; omega
theorem leftS_lt {V : List Nat} : ∀ {es : List SEnt} {e : SEnt}, e ∈ leftS V es → (leftS (e.born :: V) es).length < (leftS V es).length
 | [], e, h => by simp [leftS] at h
 | a :: r, e, h => by
  have hle := leftS_le V e.born r
  have hv := (leftS_mem.1 h).2
  simp only [leftS] at h ⊢
  cases hm : memb a.born V with
  | true =>
   rw [hm, cond_true] at h
   have : memb a.born (e.born :: V) = true := memb_iff.2 (List.mem_cons_of_mem _ (memb_mem hm))
   rw [this]; exact leftS_lt h
  | false =>
   rw [hm, cond_false] at h
   rcases List.mem_cons.1 h with rfl | h
   ·have : memb e.born (e.born :: V) = true := memb_iff.2 (by simp)
    rw [this]
    simp only [cond_true, cond_false, List.length_cons]; omega
   ·have ih := leftS_lt h
    cases hm' : memb a.born (e.born :: V) with
    | true => simp only [cond_true, cond_false, List.length_cons]; omega
    | false => simp only [cond_false, List.length_cons]; omega
end
end Go.TX
namespace Go.TX
open Go Go.TH
noncomputable section
variable {P : Program} {sm : Sums} {rec : Rec} {ρ ρ' : Ren} {D : Nat → Prop} {st st' : St} {w w' : World} {N : Nat}
def dlt (G : CV → SEnt → Option (CV × List Nat × Nat)) (es : List SEnt) (q : CV) (k : Nat) : CV := match es[k]? with
 | some e => match G q e with
  | some (q', _, _) => q'
  | none => q
 | none => q
theorem rows_of {G : CV → SEnt → Option (CV × List Nat × Nat)} {b : Nat} {es : List SEnt} {T : List (CV × List CV)} {R : List Nat} {n : Nat} (h : ∀ q row, (q, row) ∈ T → RowG G b q es row R n) (hc : comB T T = true) : RowsT T es.length (dlt G es) := by
 intro q row hm
 have g := h q row hm
 refine ⟨g.1, fun k hk => ?_, fun q' hq' => ?_⟩
 ·obtain ⟨q', Rr, nr, h1, h2, _⟩ := g.2 k es[k] (List.getElem?_eq_getElem hk)
  rw [h2]
  simp only [dlt, List.getElem?_eq_getElem hk, h1]
 ·obtain ⟨M, hM, _⟩ := comB_mem hc q row hm
  obtain ⟨j, hj, e⟩ := List.getElem_of_mem hq'
  obtain ⟨y, hy, _⟩ := (mapO_ok hM).2 j q' (by rw [List.getElem?_eq_getElem hj, e])
  exact ⟨y, hy⟩
theorem nodupB_pl : ∀ {es : List SEnt} {l : List Nat}, nodupB es l = true → (es.map (·.born)).Nodup ∧ ∀ x ∈ es.map (·.born), x ∉ l
 | [], l, _ => ⟨List.nodup_nil, fun x hx => by cases hx⟩
 | e :: r, l, h => by
  simp only [nodupB] at h
  cases hm : memb e.born l with
  | true => rw [hm] at h; cases h
  | false =>
   rw [hm, cond_false] at h
   obtain ⟨h1, h2⟩ := nodupB_pl h
   have hn : e.born ∉ l := fun q => by rw [memb_iff.2 q] at hm; cases hm
   refine ⟨?_, fun x hx => ?_⟩
   ·rw [List.map_cons, List.nodup_cons]
    exact ⟨fun q => h2 _ q (by simp), h1⟩
   ·rw [List.map_cons] at hx
    rcases List.mem_cons.1 hx with rfl | hx
    ·exact hn
    ·exact fun q => h2 x hx (List.mem_cons_of_mem _ q)
structure Frm (w w' : World) (B : Nat) : Prop where
 os : w'.os = w.os
 tape : w'.tape = w.tape
 output : w'.output = w.output
 size : w.heap.size ≤ w'.heap.size
 keep : ∀ b, b < w.heap.size → b ≠ B → w'.heap[b]? = w.heap[b]?
theorem Frm.refl (w : World) (B : Nat) : Frm w w B := ⟨rfl, rfl, rfl, Nat.le_refl _, fun _ _ _ => rfl⟩
theorem Frm.trans {w w1 w2 : World} {B : Nat} (h : Frm w w1 B) (h' : Frm w1 w2 B) : Frm w w2 B :=
 ⟨h'.os.trans h.os, h'.tape.trans h.tape, h'.output.trans h.output, Nat.le_trans h.size h'.size, fun b hb hB => (h'.keep b (Nat.lt_of_lt_of_le hb h.size) hB).trans (h.keep b hb hB)⟩
theorem allB_mem {α : Type} {f : α → Bool} : ∀ {l : List α}, allB f l = true → ∀ x ∈ l, f x = true
 | [], _, x, h => by cases h
 | a :: r, h, x, hx => by
  simp only [allB] at h
  cases ha : f a with
  | false => rw [ha] at h; cases h
  | true =>
   rw [ha, cond_true] at h
   rcases List.mem_cons.1 hx with rfl | hx
   ·exact ha
   ·exact allB_mem h x hx
theorem isNl_eq {l : List Nat} (h : isNl l = true) : l = [] := by cases l; rfl; cases h
theorem isNrm_eq {e : Ex} (h : isNrm e = true) : e = .nrm := by cases e <;> first | rfl | cases h
theorem eqN_eq {l r : List Nat} (h : eqL Nat.beq l r = true) : l = r := eqL_eq (fun _ _ => Nat.eq_of_beq_eq_true) h
structure MlF (P : Program) (sm : Sums) (rec : Rec) (ro : Option Nat) (N : Nat) (ops os : List Oper) (C : Code) (x d : Nat) (A : List Nat) (env : Tr SV) (ds : List Nat) (h0 : Tr SO) (nx b : Nat) (R W : List Nat) (L : List Out) (i m since clk : Nat) (es : List SEnt) (car : List Nat) (q0 q : CV) (T : List (CV × List CV)) (R2 : List Nat) (n2 : Nat) : Prop where
 hxA : x ∉ A
 hdA : d ∈ A
 hdN : d < N
 hx : env.get x = some (.ptr i 0)
 hi : h0.get i = some (.iter (some m) since [] clk)
 hm : h0.get m = some (.map es clk)
 sc : since ≤ clk
 old : oldB since es = true
 bi : b ≤ i
 nd : nodupB es [] = true
 big : 2 ≤ es.length
 hcar : carL env A [] = some car
 hq0 : getT env car = some q0
 exp : expS P sm rec ro N ops os C d car (keptL A N) ds i m since clk (anyT env A) h0 nx b es (Nat.add (Nat.mul 4 (llen es)) 10) [q0] [] (insK b m R fun R' => R') nx = some (T, R2, n2)
 com : comB T T = true
 run : runT T es.length 0 q0 = some q
 lst : lstS P sm rec ro N ops os C d car ds i (anyT env A) h0 q b R2 W n2 = some L
theorem mlGo_some {ro : Option Nat} {ops os : List Oper} {C : Code} {x d : Nat} {A : List Nat} {env : Tr SV} {ds : List Nat} {h0 : Tr SO} {nx b : Nat} {R W : List Nat} {L : List Out} (h : mlGo P sm rec ro N ops os C x d A env ds ⟨h0, nx, b, R, W⟩ = some L) : ∃ i m since clk es car q0 q T R2 n2, MlF P sm rec ro N ops os C x d A env ds h0 nx b R W L i m since clk es car q0 q T R2 n2 := by
 simp only [mlGo] at h
 cases hxA : memb x A with
 | true => rw [hxA] at h; cases h
 | false =>
  rw [hxA, cond_false] at h
  have hdd := (bif_of h).1
  replace h := (bif_of h).2
  rw [Bool.and_eq_true] at hdd
  split at h
  case h_2 => cases h
  rename_i i hx
  split at h
  case h_2 => cases h
  rename_i m since clk hi
  split at h
  case h_2 => cases h
  rename_i es clk' hm
  have hc := (bif_of h).1
  replace h := (bif_of h).2
  simp only [Bool.and_eq_true] at hc
  obtain ⟨c1, c2, c3, c4, c5, c6⟩ := hc
  have e := Nat.eq_of_beq_eq_true c1
  subst e
  split at h
  case h_2 => cases h
  rename_i car hcar
  split at h
  case h_2 => cases h
  rename_i q0 hq0
  split at h
  case h_2 => cases h
  rename_i T R2 n2 hexp
  have hcom := (bif_of h).1
  replace h := (bif_of h).2
  split at h
  case h_2 => cases h
  rename_i q hrun
  refine ⟨i, m, since, clk, es, car, q0, q, T, R2, n2, ⟨fun hh => (by rw [memb_iff.2 hh] at hxA; cases hxA), memb_mem hdd.1, Nat.blt_eq.mp hdd.2, hx, hi, hm, Nat.ble_eq.mp c2, c3, Nat.ble_eq.mp c4, c5, (by rw [← llen_eq]; exact Nat.ble_eq.mp c6), hcar, hq0, hexp, hcom, (by rw [← llen_eq]; exact hrun), h⟩⟩
section
variable {ro : Option Nat} {ops os : List Oper} {C : Code} {x d : Nat} {A : List Nat} {env : Tr SV} {ds : List Nat} {h0 : Tr SO} {nx b : Nat} {R W : List Nat} {L : List Out} {i m since clk : Nat} {es : List SEnt} {car : List Nat} {q0 q : CV} {T : List (CV × List CV)} {R2 : List Nat} {n2 : Nat}
theorem MlF.rows (f : MlF P sm rec ro N ops os C x d A env ds h0 nx b R W L i m since clk es car q0 q T R2 n2) : (∀ q row, (q, row) ∈ T → RowG (rndS P sm rec ro N ops os C d car (keptL A N) ds i m since clk (anyT env A) h0 nx) b q es row R2 n2) ∧ (∀ x, x ∈ (insK b m R fun R' => R') → x ∈ R2) ∧ nx ≤ n2 := expS_ok f.exp (fun q row h => by cases h)
theorem MlF.out (f : MlF P sm rec ro N ops os C x d A env ds h0 nx b R W L i m since clk es car q0 q T R2 n2) : ∃ L1, exL P sm rec N ops os ((putT (anyT env A) car q).set d (some (.tup [.raw (.bool false)]))) ⟨h0.set i none, n2, b, R2, W⟩ = some L1 ∧ mapB (fun p => rec ro N C p.1 ds p.2) L1 = some L ∧ ∀ o ∈ L, o.1 ≠ .nrm := by
 have h := f.lst
 simp only [lstS] at h
 split at h
 case h_2 => cases h
 rename_i L1 h1
 split at h
 case h_2 => cases h
 rename_i L2 h2
 have ha := (bif_of h).1
 replace h := (bif_of h).2
 simp only [Option.some.injEq] at h
 subst h
 refine ⟨L1, h1, h2, fun o ho e => ?_⟩
 have := allB_mem ha o ho
 rw [e] at this
 cases this
theorem MlF.mono (hrm : RecMono rec) (hsm : SumMono sm) (f : MlF P sm rec ro N ops os C x d A env ds h0 nx b R W L i m since clk es car q0 q T R2 n2) : ∀ o ∈ L, Mono ⟨h0.set i none, n2, b, R2, W⟩ o.2.2.2 := by
 obtain ⟨L1, h1, h2, _⟩ := f.out
 intro o ho
 obtain ⟨p, hp, lx, e1, e2⟩ := (mapB_mem h2).2 o ho
 exact (exL_mono hrm hsm h1 p hp).trans (hrm _ _ _ _ _ _ _ e1 o e2)
theorem MlF.ne (hrn : RecNE rec) (f : MlF P sm rec ro N ops os C x d A env ds h0 nx b R W L i m since clk es car q0 q T R2 n2) : L ≠ [] := by
 obtain ⟨L1, h1, h2, _⟩ := f.out
 exact mapB_ne h2 (exL_ne hrn h1) (fun p lx e => hrn _ _ _ _ _ _ _ e)
theorem MlF.mono0 (hrm : RecMono rec) (hsm : SumMono sm) (f : MlF P sm rec ro N ops os C x d A env ds h0 nx b R W L i m since clk es car q0 q T R2 n2) : ∀ o ∈ L, Mono ⟨h0, nx, b, R, W⟩ o.2.2.2 := by
 intro o ho
 refine Mono.trans ?_ (f.mono hrm hsm o ho)
 obtain ⟨_, h2, h3⟩ := f.rows
 refine ⟨h3, rfl, fun y hy => h2 y (by rw [insK_eq]; exact ins_sub _ _ _ _ hy), fun y hy => ?_⟩
 show KeepL (h0.get y) ((h0.set i none).get y)
 rw [Tr.get_set]
 by_cases e : y = i
 ·rw [if_pos e, e, f.hi]
  exact ⟨fun r hr => (by cases hr), fun hr => (by cases hr)⟩
 ·rw [if_neg e]; exact KeepL.refl _
end
end
end Go.TX
namespace Go.TX
open Go Go.TH
noncomputable section
variable {P : Program} {sm : Sums} {rec : Rec} {ρ ρ' : Ren} {D : Nat → Prop} {st st' : St} {w w' : World} {N : Nat}
theorem ins_mem {b x y : Nat} {l : List Nat} (h : y ∈ ins b x l) : y = x ∨ y ∈ l := by
 unfold ins at h
 cases h1 : Nat.blt x b with
 | false => rw [h1] at h; exact .inr h
 | true =>
  cases h2 : memb x l with
  | true => rw [h1, h2] at h; exact .inr h
  | false => rw [h1, h2] at h; exact List.mem_cons.1 h
theorem getT_raw (env : Tr SV) : ∀ (car : List Nat) (q : CV), getT env car = some q → ∀ t, t ∈ car → ∃ v, env.get t = some (.raw v)
 | [], _, _, t, h => by cases h
 | c :: r, q, h, t, ht => by
  simp only [getT] at h
  split at h
  case h_2 => cases h
  rename_i v hv
  split at h
  case h_2 => cases h
  rename_i l hl
  rcases List.mem_cons.1 ht with rfl | ht
  ·exact ⟨v, hv⟩
  ·exact getT_raw env r l hl t ht
theorem dlt_eq {G : CV → SEnt → Option (CV × List Nat × Nat)} {es : List SEnt} {q q' : CV} {k n : Nat} {e : SEnt} {Rr : List Nat} (h1 : es[k]? = some e) (h2 : G q e = some (q', Rr, n)) : dlt G es q k = q' := by
 simp only [dlt, h1, h2]
theorem setset (h : Tr SO) (i : Nat) (a b : Option SO) (x : Nat) : ((h.set i a).set i b).get x = (h.set i b).get x := by
 rw [Tr.get_set (h.set i a), Tr.get_set h i x b]
 by_cases e : x = i
 ·rw [if_pos e, if_pos e]
 ·rw [if_neg e, if_neg e, Tr.get_set, if_neg e]
section
variable {ro : Option Nat} {os : List Oper} {C : Code} {x d : Nat} {A : List Nat} {env : Tr SV} {ds : List Nat} {h0 : Tr SO} {nx b : Nat} {R W : List Nat} {L : List Out} {i m since clk : Nat} {es : List SEnt} {car : List Nat} {q0 q : CV} {T : List (CV × List CV)} {R2 : List Nat} {n2 : Nat}
theorem nx_val {V : List Nat} (h1 : h0.get i = some (.iter (some m) since V clk)) (h2 : h0.get m = some (.map es clk)) (sc : since ≤ clk) (old : oldB since es = true) : nxS (.ptr i 0) ⟨h0, nx, nx, [], []⟩ = match leftS V es with
 | [] => some [(.tup [.raw (.bool false)], ⟨h0, nx, nx, ins nx i (ins nx m []), []⟩)]
 | e :: r => outsS i m since clk V ⟨h0, nx, nx, ins nx m [], []⟩ (e :: r) := by
 simp only [nxS, h1, Nat.ble_eq.mpr sc, cond_true, rdMK, h2, insK_eq, old]
 cases leftS V es <;> rfl
theorem MlF.ok (hen : Enters P) (hrm : RecMono rec) (hrn : RecNE rec) (hr : CodeOK P rec) (hsm : SumOK P sm) {o : Oper} {id : Nat} (f : MlF P sm rec ro N (o :: os) os C x d A env ds h0 nx b R W L i m since clk es car q0 q T R2 n2) (hop : o.op = .next (.tmp x) false) (hog : o.guard = none) (hod : o.dst = some d) {a : Act} {rb : Option Nat} (he : EnvR ρ N env a.tmps) (hds : DsR ρ ds a.defers) (hro : RoR ρ ro rb) (hs : Sim ρ D ⟨h0, nx, b, R, W⟩ w) (hD : ∀ o ∈ L, ∀ x, x ∈ o.2.2.2.R ∨ b ≤ x → D x) (hf : ∀ o ∈ L, Free ρ nx o.2.2.2.nx) : LoopIn (fwd rb) P (.seq (.region id (o :: os).toArray false) C) (fun e' a' w' => ∃ o ∈ L, PostC ρ D N ⟨h0, nx, b, R, W⟩ w o e' a' w') a w := by
 obtain ⟨hrows, hR2, hn2⟩ := f.rows
 obtain ⟨L1, hL1, hL, hne⟩ := f.out
 obtain ⟨o1, r1, hLc⟩ := List.exists_cons_of_ne_nil (f.ne hrn)
 have ho1 : o1 ∈ L := by rw [hLc]; simp
 have hmo := f.mono hrm hsm.1 o1 ho1
 have hDR : ∀ y, y ∈ R2 ∨ b ≤ y → D y := fun y hy => hD o1 ho1 y (hy.imp (hmo.R y) _root_.id)
 have hfn : Free ρ nx n2 := fun y h1 h2 => hf o1 ho1 y h1 (Nat.lt_of_lt_of_le h2 hmo.nx)
 have hDi : D i := hDR i (.inr f.bi)
 have hDm : D m := hDR m (by rw [insK_eq] at hR2; exact (ins_has b m R).imp (hR2 m) _root_.id)
 have hbi := f.bi
 obtain ⟨Bi, si, obi, hρi, hwi, horel⟩ := hs.live i _ hDi f.hi
 have hilt : i < nx := hs.lt i (by simp only [f.hi]; simp)
 have hDn : ∀ y, nx ≤ y → D y := fun y hy => hDR y (.inr (by omega))
 have hDD : (fun y => D y ∨ nx ≤ y) = D := funext fun y => propext ⟨fun q => q.elim _root_.id (hDn y), .inl⟩
 obtain ⟨envN, henvN⟩ : ∃ E, E = anyT env A := ⟨_, rfl⟩
 obtain ⟨G, hG⟩ : ∃ G, G = rndS P sm rec ro N (o :: os) os C d car (keptL A N) ds i m since clk (anyT env A) h0 nx := ⟨_, rfl⟩
 rw [← hG] at hrows
 rw [← henvN] at hL1
 have hT := rows_of hrows f.com
 have hSd : ∀ q k, (∃ row, (q, row) ∈ T) → k < es.length → ∃ row, (dlt G es q k, row) ∈ T := by
  rintro q k ⟨row, hq⟩ hk
  obtain ⟨_, g2, g3⟩ := hT q row hq
  obtain ⟨r', hr'⟩ := g3 _ (List.mem_of_getElem? (g2 k hk))
  exact ⟨r', lookT_mem hr'⟩
 have hS0 : ∃ row, (q0, row) ∈ T := by
  have h1 := f.run
  have h2 := f.big
  obtain ⟨n, hn⟩ : ∃ n, es.length = n + 1 := ⟨es.length - 1, by omega⟩
  rw [hn] at h1
  simp only [runT] at h1
  split at h1
  case h_2 => cases h1
  rename_i row hr
  exact ⟨row, lookT_mem hr⟩
 have hfold := runT_ok hT (by omega) f.run
 have hSI : ∀ Is : List Nat, (∀ k ∈ Is, k < es.length) → ∃ row, (Is.foldr (fun k q => dlt G es q k) q0, row) ∈ T := by
  intro Is
  induction Is with
  | nil => intro _; exact hS0
  | cons k Is ih => intro hk; exact hSd _ k (ih fun j hj => hk j (by simp [hj])) (hk k (by simp))
 have hxc : x ∉ car := fun hh => by
  rcases (carL_ok env A [] car f.hcar).2.1 x hh with q | q
  ·exact f.hxA q
  ·cases q
 have hcA : ∀ t, t ∈ car → t ∈ A := fun t hh => by
  rcases (carL_ok env A [] car f.hcar).2.1 t hh with q | q
  ·exact q
  ·cases q
 have hgN : ∀ t, t ∉ A → envN.get t = env.get t := fun t ht => by rw [henvN, anyT_get, if_neg (fun q => ht q.2)]
 have hgx : ∀ q, svOp (putT envN car q) (.tmp x) = .ptr i 0 := fun q => by
  simp only [svOp]
  rw [putT_out _ _ _ _ hxc, hgN x f.hxA, f.hx]
 have hmi : m ≠ i := fun e => by
  have h1 := f.hi
  rw [← e, f.hm] at h1
  cases h1
 obtain ⟨bn, hbn⟩ : ∃ bn : Nat → Nat, ∀ k e, es[k]? = some e → bn k = e.born := ⟨fun k => (es[k]?.map (·.born)).getD 0, fun k e hk => by simp [hk]⟩
 have hwant : ∀ E : Tr SV, wantS (o :: os) E o = some true := fun E => by unfold wantS; rw [hog]
 have key : ∀ (n : Nat) (Is : List Nat) (a1 : Act) (w1 : World), (leftS (Is.map bn) es).length = n → (∀ k ∈ Is, k < es.length) → Is.Nodup → EnvR ρ N (putT envN car (Is.foldr (fun k q => dlt G es q k) q0)) a1.tmps → DsR ρ ds a1.defers → Sim ρ D ⟨h0.set i (some (.iter (some m) since (Is.map bn) clk)), nx, b, R, W⟩ w1 → Frm w w1 Bi → LoopIn (fwd rb) P (.seq (.region id (o :: os).toArray false) C) (fun e' a' w' => ∃ o ∈ L, PostC ρ D N ⟨h0, nx, b, R, W⟩ w o e' a' w') a1 w1 := by
  intro n
  induction n using Nat.strongRecOn with
  | _ n ih =>
  intro Is a1 w1 hn hIs hnd he1 hd1 hs1 hfr
  refine LoopIn.of (wpIn_seq (wpIn_region_lit ?_))
  simp only [wpListIn]
  rw [if_pos (by rw [wantS_ok he1 (hwant _)])]
  have gi : (h0.set i (some (.iter (some m) since (Is.map bn) clk))).get i = some (.iter (some m) since (Is.map bn) clk) := by rw [Tr.get_set, if_pos rfl]
  have gm : (h0.set i (some (.iter (some m) since (Is.map bn) clk))).get m = some (.map es clk) := by rw [Tr.get_set, if_neg hmi]; exact f.hm
  have hs1' : Sim ρ D ⟨h0.set i (some (.iter (some m) since (Is.map bn) clk)), nx, nx, [], []⟩ w1 := hs1.congr (fun _ => rfl) rfl
  have hnv := nx_val (nx := nx) gi gm f.sc f.old
  have hex : exO P sm rec (putT envN car (Is.foldr (fun k q => dlt G es q k) q0)) o ⟨h0.set i (some (.iter (some m) since (Is.map bn) clk)), nx, nx, [], []⟩ = nxS (.ptr i 0) ⟨h0.set i (some (.iter (some m) since (Is.map bn) clk)), nx, nx, [], []⟩ := by
   obtain ⟨dst, op, ty, pos, af, g⟩ := o
   simp only at hop
   subst hop
   simp only [exO, hgx]
  rw [hnv] at hex
  have hDt : ∀ y, y ∈ ins nx i (ins nx m []) ∨ nx ≤ y → D y := by
   rintro y (hy | hy)
   ·rcases ins_mem hy with rfl | hy
    ·exact hDi
    ·rcases ins_mem hy with rfl | hy
     ·exact hDm
     ·cases hy
   ·exact hDn y hy
  have hfr0 : Free ρ nx nx := fun y h1 h2 => absurd h1 (by omega)
  cases hl : leftS (Is.map bn) es with
  | cons e0 r0 =>
   rw [hl] at hex
   obtain ⟨Lx, hLx, hLm⟩ := outsS_some (st := ⟨h0.set i (some (.iter (some m) since (Is.map bn) clk)), nx, nx, ins nx m [], []⟩) (q := i) (m := m) (since := since) (clk := clk) (seen := Is.map bn) (e0 :: r0)
   have h1 := hex.trans hLx
   refine exO_ok hen hrm hrn hr hsm h1 ρ D w1 a1 _ _ he1 hs1' (fun p hp y hy => ?_) (fun p hp => ?_) ?_
   ·obtain ⟨e, _, rfl⟩ := hLm p hp
    exact hDt y hy
   ·obtain ⟨e, _, rfl⟩ := hLm p hp
    exact hfr0
   intro p hp u w2 ρ1 hv hst
   obtain ⟨e, hel, rfl⟩ := hLm p hp
   have hρ1 : ρ1 = ρ := funext fun y => hst.ext y (by show y < nx ∨ nx ≤ y; omega)
   rw [hρ1] at hv hst
   have hev := leftS_mem.1 (show e ∈ leftS (Is.map bn) es by rw [hl]; exact hel)
   obtain ⟨k, hk, hke⟩ := List.getElem_of_mem hev.1
   have hke? : es[k]? = some e := by rw [List.getElem?_eq_getElem hk, hke]
   have hbk := hbn k e hke?
   have hfr2 : Frm w1 w2 Bi := by
    refine ⟨hst.os, hst.tape, hst.output, hst.size, fun bb hb hB => ?_⟩
    rcases hst.keep bb hb with q | ⟨y, s, p1, p2, p3, p4⟩
    ·exact q
    ·exfalso
     rcases p4 with p4 | p4
     ·rcases ins_mem p4 with rfl | p4
      ·rw [hρi] at p1; cases p1; exact hB rfl
      ·cases p4
     ·have := hs1'.lt y p3
      exact absurd this (by show ¬ y < nx; have : nx ≤ y := p4; omega)
   obtain ⟨row, hrow⟩ := hSI Is hIs
   obtain ⟨q', Rr, nr, hG1, _, hRr, hnr⟩ := (hrows _ row hrow).2 k e hke?
   have hq' : dlt G es (Is.foldr (fun k q => dlt G es q k) q0) k = q' := dlt_eq hke? hG1
   rw [congrFun (congrFun hG (Is.foldr (fun k q => dlt G es q k) q0)) e, ← henvN] at hG1
   simp only [rndS] at hG1
   split at hG1
   case h_2 => cases hG1
   rename_i env2 st2 hx2
   split at hG1
   case h_2 => cases hG1
   rename_i e3 env3 ds3 st3 hx3
   have hcs := (bif_of hG1).1
   replace hG1 := (bif_of hG1).2
   simp only [Bool.and_eq_true] at hcs
   obtain ⟨c1, c2, c3, c4, c5⟩ := hcs
   split at hG1
   case h_2 => cases hG1
   rename_i q2 hgt
   simp only [Option.some.injEq, Prod.mk.injEq] at hG1
   obtain ⟨g1, g2, g3⟩ := hG1
   have hn3 := isNrm_eq c1
   have hd3 := eqN_eq c2
   have hW3 := isNl_eq c3
   rw [hn3, hd3] at hx3
   rw [g1] at hgt
   have hstm : Mono st2 st3 := hrm _ _ _ _ _ _ _ hx3 _ List.mem_cons_self
   have hR3 : ∀ y, y ∈ st3.R ∨ nx ≤ y → D y := by
    rintro y (hy | hy)
    ·exact hDR y (hRr y (by rw [← g2]; exact hy))
    ·exact hDn y hy
   have hN3 : Free ρ nx st3.nx := fun y a1 a2 => hfn y a1 (by rw [← g3] at hnr; omega)
   have hsE : Sim ρ D ⟨h0.set i (some (.itl m since e.born clk)), nx, nx, [], []⟩ w2 := by
    have h1 := hst.sim.sub (D' := D) fun y hy => .inl hy
    have h2 := h1.told (x := i) (o := .itl m since e.born clk) (n := nx) (b := nx) (R := []) (W := []) (by show ((h0.set i _).set i _).get i ≠ none; rw [Tr.get_set, if_pos rfl]; simp) (fun _ bb s ob q1 q2 q3 => by
     have q4 := q3 _ (show ((h0.set i _).set i _).get i = some _ by rw [Tr.get_set, if_pos rfl])
     obtain ⟨z0, mb, z1, B, zz, z2, z3⟩ := q4
     refine ⟨z0, B, zz, (Is.map bn).reverse, z2, ?_⟩
     rw [z1, z3]; simp) (Nat.le_refl nx)
    refine h2.congr (fun y => ?_) rfl
    show (h0.set i _).get y = (((h0.set i _).set i _).set i _).get y
    rw [setset, setset]
   have heE : EnvR ρ N ((putT envN car (Is.foldr (fun k q => dlt G es q k) q0)).set d (some (.tup [.raw (.bool true), e.key, e.val]))) (a1.put o.dst u).tmps := by
    rw [hod]; exact he1.put f.hdN hv
   refine exL_ok hen hrm hrn hr hsm (ro := rb) hx2 heE hsE (fun p hp y hy => ?_) (fun p hp => ?_) ?_
   ·rw [List.mem_singleton] at hp
    subst hp
    exact hR3 y (hy.imp (hstm.R y) _root_.id)
   ·rw [List.mem_singleton] at hp
    subst hp
    exact fun y a1 a2 => hN3 y a1 (Nat.lt_of_lt_of_le a2 hstm.nx)
   intro p hp a' w3 ρ3 hd3' he3 hst3
   rw [List.mem_singleton] at hp
   subst hp
   have hle3 : ρ.Le ρ3 := hst3.le fun y a1 a2 => hN3 y a1 (Nat.lt_of_lt_of_le a2 hstm.nx)
   have hdef : a'.defers = a1.defers := by rw [hd3', hod]; rfl
   show C.wpIn (fwd rb) 0 P _ a' w3
   refine wpIn_mono (hr ro N C env2 ds st2 _ hx3 ρ3 (fun y => D y ∨ nx ≤ y) w3 a' rb he3 (by rw [hdef]; exact hd1.mono hle3) (hro.mono hle3) hst3.sim ?_ ?_) ?_
   ·intro o4 ho4 y hy
    rw [List.mem_singleton] at ho4
    subst ho4
    have hb2 : st2.base = nx := hst3.base
    rw [hb2] at hy
    exact .inl (hR3 y hy)
   ·intro o4 ho4
    rw [List.mem_singleton] at ho4
    subst ho4
    exact hst3.free hN3
   rintro e' a4 w4 ⟨o4, ho4, rfl, ρ4, he4, hd4, hst4⟩
   rw [List.mem_singleton] at ho4
   subst ho4
   have hst34 := hst3.trans hst4
   have hle4 : ρ.Le ρ4 := hst34.le hN3
   have hback : ∀ y, ρ y ≠ none → ρ4 y = ρ y := fun y hy => by
    cases hρ : ρ y with
    | none => exact absurd hρ hy
    | some v => exact hle4 y v hρ
   have hk4 : ∀ bb, bb < w2.heap.size → w4.heap[bb]? = w2.heap[bb]? := by
    intro bb hb
    rcases hst34.keep bb hb with q | ⟨y, s, p1, p2, p3, p4⟩
    ·exact q
    ·exfalso
     rcases p4 with p4 | p4
     ·have p4 : y ∈ st3.W := p4
      rw [hW3] at p4; cases p4
     ·have := hsE.lt y p3
      exact absurd this (by show ¬ y < nx; have : nx ≤ y := p4; omega)
   show LoopIn (fwd rb) P _ _ a4 w4
   refine ih _ ?_ (k :: Is) a4 w4 rfl ?_ ?_ ?_ ?_ ?_ ?_
   ·rw [List.map_cons, hbk, ← hn]
    exact leftS_lt (show e ∈ leftS (Is.map bn) es by rw [hl]; exact hel)
   ·intro j hj
    rcases List.mem_cons.1 hj with rfl | hj
    ·exact hk
    ·exact hIs j hj
   ·rw [List.nodup_cons]
    refine ⟨fun hh => hev.2 ?_, hnd⟩
    rw [← hbk]; exact List.mem_map_of_mem hh
   ·show EnvR ρ N (putT envN car (dlt G es (Is.foldr (fun k q => dlt G es q k) q0) k)) a4.tmps
    rw [hq']
    refine ⟨he4.1, fun t => ?_⟩
    have h4 := he4.2 t
    have h4 : Rel ρ4 ((env3.get t).getD (.raw undef)) (a4.tmps.getD t undef) := h4
    by_cases htc : t ∈ car
    ·rw [getT_put envN env3 car q' hgt t htc]
     obtain ⟨v, hv3⟩ := getT_raw env3 car q' hgt t htc
     rw [hv3] at h4 ⊢
     rw [Option.getD_some, Rel] at h4 ⊢
     exact h4
    ·rw [putT_out _ _ _ _ htc]
     by_cases htA : t ∈ A
     ·have hnone := ((carL_ok env A [] car f.hcar).1 t htA).resolve_right htc
      rw [henvN, anyT_get, if_pos ⟨hnone, htA⟩, Option.getD_some, Rel]
      exact True.intro
     ·rw [hgN t htA]
      by_cases htN : t < N
      ·have hkp := keptB_ok c5 t (keptL_ok A N t htN htA)
       rw [putT_out _ _ _ _ htc, hgN t htA] at hkp
       rw [← hkp] at h4
       exact Rel.back hback (he.2 t) h4
      ·have h5 := he.2 t
       have e1 : a.tmps.getD t undef = undef := by
        have := he.1
        simp [Array.getD_eq_getD_getElem?, Array.getElem?_eq_none (show a.tmps.size ≤ t by omega)]
       have e2 : a4.tmps.getD t undef = undef := by
        have := he4.1
        simp [Array.getD_eq_getD_getElem?, Array.getElem?_eq_none (show a4.tmps.size ≤ t by omega)]
       rw [e1] at h5
       rw [e2]; exact h5
   ·exact hds.back hback hd4
   ·have h1 := (hst.sim.sub (D' := D) fun y hy => .inl hy).world hk4
    refine h1.congr (fun y => ?_) rfl
    rw [List.map_cons, hbk]
    exact (setset _ _ _ _ _).symm
   ·exact hfr.trans (hfr2.trans ⟨hst34.os, hst34.tape, hst34.output, hst34.size, fun bb hb _ => hk4 bb hb⟩)
  | nil =>
   rw [hl] at hex
   refine exO_ok hen hrm hrn hr hsm hex ρ D w1 a1 _ _ he1 hs1' (fun p hp y hy => ?_) (fun p hp => ?_) ?_
   ·rw [List.mem_singleton] at hp
    subst hp
    exact hDt y hy
   ·rw [List.mem_singleton] at hp
    subst hp
    exact hfr0
   intro p hp u w2 ρ1 hv hst
   rw [List.mem_singleton] at hp
   subst hp
   have hρ1 : ρ1 = ρ := funext fun y => hst.ext y (by show y < nx ∨ nx ≤ y; omega)
   rw [hρ1] at hv hst
   have hfr2 : Frm w w2 Bi := by
    refine hfr.trans ⟨hst.os, hst.tape, hst.output, hst.size, fun bb hb hB => ?_⟩
    rcases hst.keep bb hb with q | ⟨y, s, p1, p2, p3, p4⟩
    ·exact q
    ·exfalso
     rcases p4 with p4 | p4
     ·cases p4
     ·have := hs1'.lt y p3
      exact absurd this (by show ¬ y < nx; have : nx ≤ y := p4; omega)
   have hall : Is.reverse.Perm (List.range' 0 es.length) := by
    rw [List.perm_ext_iff_of_nodup (List.pairwise_reverse.2 (List.Pairwise.imp (fun h => Ne.symm h) hnd)) (List.nodup_range' 1)]
    intro k
    rw [List.mem_reverse, List.mem_range']
    constructor
    ·intro hk; exact ⟨k, hIs k hk, by omega⟩
    ·rintro ⟨k', hk', rfl⟩
     have ek : es[0 + 1 * k']? = some es[k'] := by rw [show 0 + 1 * k' = k' by omega]; exact List.getElem?_eq_getElem hk'
     have hin : es[k'].born ∈ Is.map bn := by
      by_cases hh : es[k'].born ∈ Is.map bn
      ·exact hh
      ·have := leftS_mem.2 ⟨List.getElem_mem hk', hh⟩
       rw [hl] at this; cases this
     obtain ⟨j, hj, hje⟩ := List.mem_map.1 hin
     have hjl := hIs j hj
     rw [hbn j es[j] (List.getElem?_eq_getElem hjl)] at hje
     have hnb := (nodupB_pl f.nd).1
     have : j = k' := by
      have e1 : (es.map (·.born))[j]'(by simpa using hjl) = (es.map (·.born))[k']'(by simpa using hk') := by simpa using hje
      exact (List.getElem_inj hnb).1 e1
     rw [show 0 + 1 * k' = k' by omega, ← this]
     exact hj
   have hq : Is.foldr (fun k q => dlt G es q k) q0 = q := by
    rw [hfold, ← foldl_perm (S := fun q => ∃ row, (q, row) ∈ T) (n := es.length) (fun q k hq hk => hSd q k hq hk) (fun q i j ⟨row, hq⟩ hi hj => com_ok hT f.com hq hi hj) hall (fun k hk => hIs k (List.mem_reverse.1 hk)) q0 hS0]
    rw [List.foldl_reverse]
   have hsE : Sim ρ D ⟨h0.set i none, n2, b, R2, W⟩ w2 := by
    have h1 := (hst.sim.sub (D' := D) fun y hy => .inl hy).untold (x := i) (n := n2) (b := b) (R := R2) (W := W) hn2
    refine h1.congr (fun y => ?_) rfl
    exact (setset _ _ _ _ _).symm
   have heE : EnvR ρ N ((putT envN car q).set d (some (.tup [.raw (.bool false)]))) (a1.put o.dst u).tmps := by
    rw [hod, ← hq]; exact he1.put f.hdN hv
   have hf2 : ∀ o ∈ L, Free ρ n2 o.2.2.2.nx := fun o ho y a1 a2 => hf o ho y (Nat.le_trans hn2 a1) a2
   obtain ⟨d1, f1⟩ := mapB_fst (ρ := ρ) (D := D) (st := ⟨h0.set i none, n2, b, R2, W⟩) (s := fun p : Tr SV × St => p.2) (t := fun o : Out => o.2.2.2) hL (fun p lx e => hrn _ _ _ _ _ _ _ e) (fun p lx e o ho => hrm _ _ _ _ _ _ _ e o ho) hD hf2
   refine exL_ok hen hrm hrn hr hsm (ro := rb) hL1 heE hsE d1 f1 ?_
   intro p hp a' w3 ρ3 hd3 he3 hst3
   obtain ⟨lx, e1, e2⟩ := (mapB_mem hL).1 p hp
   have hle3 : ρ.Le ρ3 := hst3.le (f1 p hp)
   have hdef : a'.defers = a1.defers := by rw [hd3, hod]; rfl
   show C.wpIn (fwd rb) 0 P _ a' w3
   refine wpIn_mono (hr ro N C p.1 ds p.2 lx e1 ρ3 _ w3 a' rb he3 (by rw [hdef]; exact hd1.mono hle3) (hro.mono hle3) hst3.sim (fun o ho => (hst3.snd (hD o (e2 o ho)) (hf2 o (e2 o ho))).1) (fun o ho => (hst3.snd (hD o (e2 o ho)) (hf2 o (e2 o ho))).2)) ?_
   rintro e' a4 w4 ⟨o4, ho4, rfl, ρ4, he4, hd4, hst4⟩
   have hin := e2 o4 ho4
   have hbase : Step ρ ρ D ⟨h0, nx, b, R, W⟩ ⟨h0.set i none, n2, b, R2, W⟩ w w2 := by
    refine ⟨hfr2.os, hfr2.tape, hfr2.output, hfr2.size, hn2, rfl, fun y hy => hR2 y (by rw [insK_eq]; exact ins_sub _ _ _ _ hy), fun y hy => hy, fun _ _ => rfl, ?_, ?_, ?_, ?_, ?_⟩
    ·intro bb hb
     by_cases e : bb = Bi
     ·refine .inr ⟨i, si, by rw [e]; exact hρi, hDi, ?_, .inr hbi⟩
      show h0.get i ≠ none
      rw [f.hi]; simp
     ·exact .inl (hfr2.keep bb hb e)
    ·intro y _ hy
     show (h0.set i none).get y = none
     rw [Tr.get_set]
     by_cases e : y = i
     ·rw [if_pos e]
     ·rw [if_neg e]; exact hy
    ·intro y _
     by_cases e : y = i
     ·exact .inl (.inr (by rw [e]; exact hbi))
     ·refine .inr ?_
      show (h0.set i none).get y = h0.get y
      rw [Tr.get_set, if_neg e]
    ·intro y bb s hy hg _
     exfalso
     have hg : (h0.set i none).get y ≠ none := hg
     rw [Tr.get_set] at hg
     by_cases e : y = i
     ·rw [if_pos e] at hg; exact hg rfl
     ·rw [if_neg e] at hg
      have := hs.lt y hg
      exact absurd this (by show ¬ y < nx; have : nx ≤ y := hy; omega)
    ·show Sim ρ (fun y => D y ∨ nx ≤ y) _ w2
     rw [hDD]; exact hsE
   have hrest : Step ρ ρ4 (fun y => D y ∨ nx ≤ y) ⟨h0.set i none, n2, b, R2, W⟩ o4.2.2.2 w2 w4 := by
    rw [hDD]; exact hst3.trans hst4
   have hfin : ∃ o ∈ L, PostC ρ D N ⟨h0, nx, b, R, W⟩ w o (exOf o4.1) a4 w4 := ⟨o4, hin, rfl, ρ4, he4, hd4, hbase.trans hrest⟩
   have hnn := hne o4 hin
   obtain ⟨ex, env4, ds4, st4⟩ := o4
   cases ex with
   | nrm => exact absurd rfl hnn
   | ext id => exact hfin
   | gto l => exact hfin
   | ret => exact hfin
 refine key _ [] a w rfl (fun k hk => by cases hk) List.nodup_nil ?_ hds ?_ (Frm.refl w Bi)
 ·
  show EnvR ρ N (putT envN car q0) a.tmps
  refine ⟨he.1, fun t => ?_⟩
  have h5 := he.2 t
  by_cases htc : t ∈ car
  ·rw [getT_put envN env car q0 f.hq0 t htc]; exact h5
  ·rw [putT_out _ _ _ _ htc]
   by_cases htA : t ∈ A
   ·have hnone := ((carL_ok env A [] car f.hcar).1 t htA).resolve_right htc
    rw [henvN, anyT_get, if_pos ⟨hnone, htA⟩, Option.getD_some, Rel]
    exact True.intro
   ·rw [hgN t htA]; exact h5
 ·refine hs.congr (fun y => ?_) rfl
  show (h0.set i _).get y = h0.get y
  rw [Tr.get_set]
  by_cases e : y = i
  ·rw [if_pos e, e, f.hi]; rfl
  ·rw [if_neg e]
end
end
end Go.TX
namespace Go.TX
open Go Go.TH
noncomputable section
variable {P : Program} {sm : Sums} {rec : Rec} {N : Nat}
theorem mlS_some {ro : Option Nat} {c : Code} {env : Tr SV} {ds : List Nat} {st : St} {L : List Out} (h : mlS P sm rec ro N c env ds st = some L) : ∃ (id : Nat) (o : Oper) (os : List Oper) (C : Code) (x d : Nat) (A : List Nat), c = .loop (.seq (.region id (o :: os).toArray false) C) ∧ o.op = .next (.tmp x) false ∧ o.guard = none ∧ o.dst = some d ∧ mlGo P sm rec ro N (o :: os) os C x d A env ds st = some L := by
 unfold mlS at h
 split at h
 case h_2 => cases h
 rename_i b
 split at h
 case h_2 => cases h
 rename_i a C
 split at h
 case h_2 => cases h
 rename_i id ops draw
 split at h
 case h_2 => cases h
 split at h
 case h_2 => cases h
 rename_i o os hops
 split at h
 case h_2 => cases h
 rename_i xx s hop
 split at h
 case h_2 => cases h
 split at h
 case h_2 => cases h
 rename_i x
 split at h
 case h_2 => cases h
 rename_i hg
 split at h
 case h_2 => cases h
 rename_i d hd
 obtain ⟨l⟩ := ops
 have e : l = o :: os := hops
 subst e
 exact ⟨id, o, os, C, x, d, _, rfl, hop, hg, hd, h⟩
theorem mlS_MlF {ro : Option Nat} {c : Code} {env : Tr SV} {ds : List Nat} {st : St} {L : List Out} (h : mlS P sm rec ro N c env ds st = some L) : ∃ (id : Nat) (o : Oper) (os : List Oper) (C : Code) (x d : Nat) (A : List Nat) (i m since clk : Nat) (es : List SEnt) (car : List Nat) (q0 q : CV) (T : List (CV × List CV)) (R2 : List Nat) (n2 : Nat), c = .loop (.seq (.region id (o :: os).toArray false) C) ∧ o.op = .next (.tmp x) false ∧ o.guard = none ∧ o.dst = some d ∧ MlF P sm rec ro N (o :: os) os C x d A env ds st.h st.nx st.base st.R st.W L i m since clk es car q0 q T R2 n2 := by
 obtain ⟨id, o, os, C, x, d, A, h1, h2, h3, h4, h5⟩ := mlS_some h
 obtain ⟨h0, nx, b, R, W⟩ := st
 obtain ⟨i, m, since, clk, es, car, q0, q, T, R2, n2, f⟩ := mlGo_some h5
 exact ⟨id, o, os, C, x, d, A, i, m, since, clk, es, car, q0, q, T, R2, n2, h1, h2, h3, h4, f⟩
theorem mlS_mono (hr : RecMono rec) (hsm : SumMono sm) {ro : Option Nat} {c : Code} {env : Tr SV} {ds : List Nat} {st : St} {L : List Out} (h : mlS P sm rec ro N c env ds st = some L) : ∀ o ∈ L, Mono st o.2.2.2 := by
 obtain ⟨id, o, os, C, x, d, A, i, m, since, clk, es, car, q0, q, T, R2, n2, h1, h2, h3, h4, f⟩ := mlS_MlF h
 exact f.mono0 hr hsm
theorem mlS_ne (hr : RecNE rec) {ro : Option Nat} {c : Code} {env : Tr SV} {ds : List Nat} {st : St} {L : List Out} (h : mlS P sm rec ro N c env ds st = some L) : L ≠ [] := by
 obtain ⟨id, o, os, C, x, d, A, i, m, since, clk, es, car, q0, q, T, R2, n2, h1, h2, h3, h4, f⟩ := mlS_MlF h
 exact f.ne hr
theorem stepM_some {ro : Option Nat} {c : Code} {env : Tr SV} {ds : List Nat} {st : St} {L : List Out} (h : stepM P sm rec ro N c env ds st = some L) : mlS P sm rec ro N c env ds st = some L ∨ stepC P sm rec ro N c env ds st = some L := by
 unfold stepM at h
 split at h
 ·rename_i L' hL
  simp only [Option.some.injEq] at h
  rw [h] at hL
  exact .inl hL
 ·exact .inr h
theorem stepM_mono (hr : RecMono rec) (hsm : SumMono sm) : RecMono (stepM P sm rec) := by
 intro ro N c env ds st L h
 rcases stepM_some h with h | h
 ·exact mlS_mono hr hsm h
 ·exact stepC_mono hr hsm _ _ _ _ _ _ _ h
theorem stepM_ne (hr : RecNE rec) : RecNE (stepM P sm rec) := by
 intro ro N c env ds st L h
 rcases stepM_some h with h | h
 ·exact mlS_ne hr h
 ·exact stepC_ne hr _ _ _ _ _ _ _ h
theorem stepM_ok (hm : P.follows .mixedOrders = true) (hen : Enters P) (hrm : RecMono rec) (hrn : RecNE rec) (hr : CodeOK P rec) (hl : LoopOK P rec) (hsm : SumOK P sm) : CodeOK P (stepM P sm rec) ∧ LoopOK P (stepM P sm rec) := by
 have hs := stepC_ok hm hen hrm hrn hr hl hsm
 have hloop : ∀ {ro : Option Nat} {N : Nat} {c : Code} {env : Tr SV} {ds : List Nat} {st : St} {L : List Out}, mlS P sm rec ro N (.loop c) env ds st = some L → ∀ (ρ : Ren) (D : Nat → Prop) (w : World) (a : Act) (rb : Option Nat), EnvR ρ N env a.tmps → DsR ρ ds a.defers → RoR ρ ro rb → Sim ρ D st w → (∀ o ∈ L, ∀ x, x ∈ o.2.2.2.R ∨ st.base ≤ x → D x) → (∀ o ∈ L, Free ρ st.nx o.2.2.2.nx) →
  LoopIn (fwd rb) P c (fun e' a' w' => ∃ o ∈ L, PostC ρ D N st w o e' a' w') a w := by
  intro ro N c env ds st L h ρ D w a rb he hds hro hs hD hf
  obtain ⟨id, o, os, C, x, d, A, i, m, since, clk, es, car, q0, q, T, R2, n2, h1, h2, h3, h4, f⟩ := mlS_MlF h
  cases h1
  obtain ⟨h0, nx, b, R, W⟩ := st
  exact f.ok hen hrm hrn hr hsm h2 h3 h4 he hds hro hs hD hf
 constructor
 ·intro ro N c env ds st L h
  rcases stepM_some h with h | h
  ·obtain ⟨id, o, os, C, x, d, A, h1, _⟩ := mlS_some h
   subst h1
   intro ρ D w a rb he hds hro hs hD hf
   exact LoopIn.wp (hloop h ρ D w a rb he hds hro hs hD hf)
  ·exact hs.1 _ _ _ _ _ _ _ h
 ·intro ro N c env ds st L h
  rcases stepM_some h with h | h
  ·exact hloop h
  ·exact hs.2 _ _ _ _ _ _ _ h
end
end Go.TX
namespace Go.TX
open Go Go.TH
noncomputable section
structure Sn where
 t : Tc
 E : Tr SV
 H : Tr SO
 X : Nat
 v : SV
def isMe : Op → Bool
 | .mapEntry .. => true
 | _ => false
def meIx : List Oper → Nat → Option Nat
 | [], _ => none
 | o :: r, n => bif isMe o.op then some n else meIx r (Nat.succ n)
def rowB (f : Nat → Nat → Bool) (j : Nat) : Nat → Bool
 | 0 => true
 | i + 1 => bif f i j then rowB f j i else false
def pairB (f : Nat → Nat → Bool) : Nat → Bool
 | 0 => true
 | j + 1 => bif rowB f j j then pairB f j else false
theorem rowB_ok {f : Nat → Nat → Bool} {j : Nat} : ∀ {n : Nat}, rowB f j n = true → ∀ i, i < n → f i j = true
 | 0, _, i, h => by omega
 | n + 1, h, i, hi => by
  simp only [rowB] at h
  cases hf : f n j with
  | false => rw [hf] at h; cases h
  | true =>
   rw [hf, cond_true] at h
   by_cases e : i = n
   ·rw [e]; exact hf
   ·exact rowB_ok h i (by omega)
theorem pairB_ok {f : Nat → Nat → Bool} : ∀ {n : Nat}, pairB f n = true → ∀ i j, i < j → j < n → f i j = true
 | 0, _, i, j, _, h => by omega
 | n + 1, h, i, j, hij, hj => by
  simp only [pairB] at h
  cases hf : rowB f n n with
  | false => rw [hf] at h; cases h
  | true =>
   rw [hf, cond_true] at h
   by_cases e : j = n
   ·rw [e] at hij ⊢; exact rowB_ok hf i hij
   ·exact pairB_ok h i j hij (by omega)
section
variable (P : Program) (sm : Sums) (rec : Rec)
def exR2 (N : Nat) (ops : List Oper) : List Oper → Tr SV → Tr SO → Nat → List Sn → Option (Tr SV × Tr SO × Nat × List Sn)
 | [], env, h, nx, acc => some (env, h, nx, acc)
 | o :: r, env, h, nx, acc => match wantS ops env o with
  | some true => match exO P sm rec env o ⟨h, nx, nx, [], []⟩ with
   | some [(v, st')] => endK h nx st' fun h2 nx2 t => putK N env o.dst v fun env' => exR2 N ops r env' h2 nx2 (⟨t, env, h, nx, v⟩ :: acc)
   | _ => none
  | some false => putK N env o.dst (.raw undef) fun env' => exR2 N ops r env' h nx (⟨⟨[], [], nx, nx, true⟩, env, h, nx, .raw undef⟩ :: acc)
  | none => none
def altB (ops : List Oper) (o : Oper) (s : Sn) (tj : Tc) (Hj : Tr SO) : Bool := s.t.q && (match wantS ops s.E o with
 | some true => match tj.W with
  | [m] => Nat.blt m s.X && (match Hj.get m with
   | some ob => match exO P sm rec s.E o ⟨s.H.set m (some ob), s.X, s.X, [], []⟩ with
    | some [(v', st')] => eqV v' s.v && (Nat.beq st'.nx s.X && (eqL Nat.beq st'.R s.t.R && isNl st'.W))
    | _ => false
   | none => false)
  | _ => false
 | _ => false)
def nxH (hE : Tr SO) : Option Sn → Tr SO
 | some sn => sn.H
 | none => hE
def prB (ops : List Oper) (clo : List Nat) (ss : List Sn) (hE : Tr SO) (me : Option Nat) (i j : Nat) : Bool := match nth ss i with
 | some si => match nth ss j with
  | some sj => match nth clo (clo.length - 1 - j) with
   | some m => bitB m i || (sepT si.t sj.t || (match me with
    | some k => Nat.beq j k && (match nth ops i with
     | some o => altB P sm rec ops o si sj.t (nxH hE (nth ss (Nat.succ j)))
     | none => false)
    | none => false))
   | none => false
  | none => false
 | none => false
def exD2 (N : Nat) (ops : Array Oper) (env : Tr SV) (st : St) : Option (Tr SV × St) := match st with
 | ⟨h, nx, b, R, W⟩ => bif statD ops then (match exR2 P sm rec N ops.toList ops.toList env h nx [] with
  | some (env', h', nx', acc) => bif pairB (prB P sm rec ops.toList (cloO ops.toList) (revK acc []) h' (meIx ops.toList 0)) ops.toList.length then tellK b (acc.map (·.t)) R W fun R' W' => some (env', ⟨h', nx', b, R', W'⟩) else none
  | none => none) else none
end
variable {P : Program} {sm : Sums} {rec : Rec}
theorem exR2_exR {N : Nat} {ops : List Oper} : ∀ {l : List Oper} {env : Tr SV} {h : Tr SO} {nx : Nat} {acc : List Sn} {env' : Tr SV} {h' : Tr SO} {nx' : Nat} {acc' : List Sn}, exR2 P sm rec N ops l env h nx acc = some (env', h', nx', acc') →
 ∃ (E : Nat → Tr SV) (H : Nat → Tr SO) (X : Nat → Nat) (T : Nat → Tc) (V : Nat → SV), E 0 = env ∧ H 0 = h ∧ X 0 = nx ∧ E l.length = env' ∧ H l.length = h' ∧ X l.length = nx' ∧ acc' = ((List.range l.length).map fun i => ⟨T i, E i, H i, X i, V i⟩).reverse ++ acc ∧
  ∀ (i : Nat) (o : Oper), l[i]? = some o → StepR P sm rec N ops o (E i) (H i) (X i) (T i) (E (i + 1)) (H (i + 1)) (X (i + 1)) ∧ (wantS ops (E i) o = some true → ∃ st, exO P sm rec (E i) o ⟨H i, X i, X i, [], []⟩ = some [(V i, st)])
 | [], env, h, nx, acc, env', h', nx', acc', hh => by
  simp only [exR2, Option.some.injEq, Prod.mk.injEq] at hh
  obtain ⟨rfl, rfl, rfl, rfl⟩ := hh
  exact ⟨fun _ => env, fun _ => h, fun _ => nx, fun _ => ⟨[], [], 0, 0, true⟩, fun _ => .sl0, rfl, rfl, rfl, rfl, rfl, rfl, by simp, fun i o hi => by simp at hi⟩
 | o :: r, env, h, nx, acc, env', h', nx', acc', hh => by
  have key : ∃ env1 h1 nx1 t v, (StepR P sm rec N ops o env h nx t env1 h1 nx1 ∧ (wantS ops env o = some true → ∃ st, exO P sm rec env o ⟨h, nx, nx, [], []⟩ = some [(v, st)])) ∧ exR2 P sm rec N ops r env1 h1 nx1 (⟨t, env, h, nx, v⟩ :: acc) = some (env', h', nx', acc') := by
   simp only [exR2] at hh
   split at hh
   ·rename_i hw
    split at hh
    ·rename_i v st2 he
     obtain ⟨hq, nq, b, R, W⟩ := st2
     simp only [endK] at hh
     cases hqt : quietB W nx nq with
     | true =>
      rw [hqt, cond_true] at hh
      obtain ⟨env1, p1, hh⟩ := putK_some hh
      obtain ⟨rfl, rfl⟩ := quietB_ok hqt
      exact ⟨env1, h, nq, _, v, ⟨⟨rfl, rfl, Nat.le_refl _, (fun x hx => by cases hx), (fun x hx => by cases hx), fun _ => ⟨rfl, rfl⟩, fun _ _ => rfl, fun t ht => p1.other ht, .inr ⟨hw, v, hq, b, he, (fun x hx => by rcases hx with q | q; cases q; omega), p1⟩⟩, fun _ => ⟨_, he⟩⟩, hh⟩
     | false =>
      rw [hqt, cond_false] at hh
      have hle := Nat.ble_eq.mp (bif_of hh).1
      replace hh := (bif_of hh).2
      have hok := okW_ok (bif_of hh).1
      replace hh := (bif_of hh).2
      obtain ⟨h1, hh, e1, e2⟩ := mrgK_some hh
      obtain ⟨h2, hh, e3, e4⟩ := rngK_some hh
      obtain ⟨env1, p1, hh⟩ := putK_some hh
      refine ⟨env1, h2, nq, _, v, ⟨⟨rfl, rfl, hle, fun x hx => (hok x hx).2, fun x hx => (hok x hx).1, (fun q => by cases q), fun x hx => ?_, fun t ht => p1.other ht, .inr ⟨hw, v, hq, b, he, fun x hx => ?_, p1⟩⟩, fun _ => ⟨_, he⟩⟩, hh⟩
      ·rw [not_or] at hx
       rw [e4 x (by omega), e2 x hx.1]
      ·by_cases hr : nx ≤ x ∧ x < nq
       ·exact e3 x hr.1 (by omega)
       ·rw [e4 x (by omega)]; exact e1 x (hx.resolve_right hr)
    ·cases hh
   ·rename_i hw
    obtain ⟨env1, p1, hh⟩ := putK_some hh
    exact ⟨env1, h, nx, _, .raw undef, ⟨⟨rfl, rfl, Nat.le_refl _, (fun x hx => by cases hx), (fun x hx => by cases hx), fun _ => ⟨rfl, rfl⟩, fun _ _ => rfl, fun t ht => p1.other ht, .inl ⟨hw, rfl, rfl, p1⟩⟩, fun q => by rw [hw] at q; cases q⟩, hh⟩
   ·cases hh
  obtain ⟨env1, h1, nx1, t, v, s1, hh⟩ := key
  obtain ⟨E, H, X, T, V, a1, a2, a3, a4, a5, a6, a7, a8⟩ := exR2_exR hh
  refine ⟨fun i => match i with | 0 => env | i + 1 => E i, fun i => match i with | 0 => h | i + 1 => H i, fun i => match i with | 0 => nx | i + 1 => X i, fun i => match i with | 0 => t | i + 1 => T i, fun i => match i with | 0 => v | i + 1 => V i, rfl, rfl, rfl, a4, a5, a6, ?_, ?_⟩
  ·rw [a7, List.length_cons, List.range_succ_eq_map, List.map_cons, List.map_map, List.reverse_cons, List.append_assoc]
   rfl
  ·intro i o' hi
   cases i with
   | zero =>
    simp only [List.getElem?_cons_zero, Option.some.injEq] at hi
    subst hi
    show StepR P sm rec N ops o env h nx t (E 0) (H 0) (X 0) ∧ _
    rw [a1, a2, a3]; exact s1
   | succ i =>
    simp only [List.getElem?_cons_succ] at hi
    exact a8 i o' hi
end
end Go.TX
