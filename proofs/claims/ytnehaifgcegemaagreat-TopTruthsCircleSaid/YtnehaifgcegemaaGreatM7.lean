/-
  What is defined here: what an evaluator reckons for copying and for maps. Conditions: none.
  What is defined here: an evaluator for functions, out of what it reckons for each operation. Conditions: none.
  What is proved here: what an evaluator reckons for an operation that calls nothing is what the operation does. Conditions: none; each lemma states its own.
  What is proved here: what an evaluator checks of a region that draws its order, and the order in which it reckons. Conditions: none; each lemma states its own.
  What is proved here: steps of a region that draws its order. Conditions: none; each lemma states its own.
  What is proved here: a region that draws its order does what an evaluator reckons in the text's order. Conditions: none; each lemma states its own.
  What is proved here: a region that draws its order does what an evaluator reckons in the text's order. Conditions: none; each lemma states its own.
-/
import Derived.Test.YtnehaifgcegemaaGreatM6
import Derived.Maps.RangeRun
set_option linter.unusedVariables false
set_option linter.unusedSimpArgs false
namespace Go.TX
open Go Go.TH
noncomputable section
def nmin (m n : Nat) : Nat := bif Nat.ble m n then m else n
def cpS (P : Program) (T : TypeId) (x y : SV) (st : St) : Option (SV × St) := match slT P T with
 | some (_, sz, _, _) => srcK sz y st fun m vs st1 => match x with
  | .raw (.slice none 0 0) => some (.raw (.int .i64 0), st1)
  | .sl0 => some (.raw (.int .i64 0), st1)
  | .sl b o dn _ => bif onesS vs then natK (nmin m dn) fun n => match n with
   | 0 => some (.raw (.int .i64 0), st1)
   | n' + 1 => subK vs 0 ((n' + 1) * sz) fun ws => rdK st1 b fun l e op st2 => wrK l o ws fun l' => wtK st2 b (.cells l' e op) fun st' => some (.raw (.int .i64 (.ofNat (n' + 1))), st')
   else none
  | _ => none
 | none => none
def rdMK {β : Type} (st : St) (x : Nat) (k : List SEnt → Nat → St → Option β) : Option β := match st with
 | ⟨h, nx, b, R, W⟩ => match h.get x with
  | some (.map es c) => insK b x R (fun R' => k es c ⟨h, nx, b, R', W⟩)
  | _ => none
def fndI (k : IntKind) (n : Int) : List SEnt → Nat → Option (Option (Nat × SEnt))
 | [], _ => some none
 | e :: r, i => match e.key with
  | .raw (.int k' m) => bif kEq k k' then (bif ieq n m then some (some (i, e)) else fndI k n r (Nat.succ i)) else none
  | _ => none
def fndG (P : Program) (T : TypeId) (kv : Value) : List SEnt → Nat → Option (Option (Nat × SEnt))
 | [], _ => some none
 | e :: r, i => match toV e.key with
  | some u => match pv P (Op.equal T kv u) with
   | some true => some (some (i, e))
   | some false => fndG P T kv r (Nat.succ i)
   | none => none
  | none => none
def fnd (P : Program) (T : TypeId) (kv : Value) (es : List SEnt) : Option (Option (Nat × SEnt)) := match P.underlying T with
 | some (.int _) => match kv with
  | .int k n => fndI k n es 0
  | _ => none
 | some (.struct _) => fndG P T kv es 0
 | some (.array _ _) => fndG P T kv es 0
 | _ => none
def isE : List SEnt → Bool
 | [] => true
 | _ => false
def okS (ok : Bool) (v : SV) (b : Bool) : SV := match ok with
 | true => .tup [v, .raw (.bool b)]
 | false => v
def lkS (P : Program) (T : TypeId) (x i : SV) (ok : Bool) (st : St) : Option (SV × St) := match P.underlying T with
 | some (.map kt et) => match toV i with
  | some kv => match x with
   | .raw (.map none) => match pv P (Instr.checkKey true 10000 kt kv) with
    | some _ => match pv P (Instr.findKey kt kv []) with
     | some none => match zv P et with
      | some z => some (okS ok (svOf z) false, st)
      | none => none
     | _ => none
    | none => none
   | .map b => rdMK st b fun es _ st' => match pv P (Instr.checkKey (isE es) 10000 kt kv) with
    | some _ => match fnd P kt kv es with
     | some (some (_, e)) => some (okS ok e.val true, st')
     | some none => match zv P et with
      | some z => some (okS ok (svOf z) false, st')
      | none => none
     | none => none
    | none => none
   | _ => none
  | none => none
 | _ => none
def putEK {β : Type} : List SEnt → Nat → SEnt → (List SEnt → Option β) → Option β
 | [], _, _, _ => none
 | _ :: r, 0, e, k => k (e :: r)
 | x :: r, n + 1, e, k => putEK r n e (fun t => k (x :: t))
def delEK {β : Type} : List SEnt → Nat → (List SEnt → Option β) → Option β
 | [], _, _ => none
 | _ :: r, 0, k => k r
 | x :: r, n + 1, k => delEK r n (fun t => k (x :: t))
def muS (P : Program) (T : TypeId) (x i v : SV) (st : St) : Option (SV × St) := match P.underlying T with
 | some (.map kt _) => match toV i with
  | some kv => match x with
   | .map b => rdMK st b fun es c st1 => match pv P (Instr.checkKey false 10000 kt kv) with
    | some _ => match fnd P kt kv es with
     | some (some (j, e)) => match toV e.key with
      | some old => match pv P (Instr.keyThatStays old kv) with
       | some _ => putEK es j ⟨i, v, e.born⟩ fun es' => wtK st1 b (.map es' c) fun st' => some (.raw undef, st')
       | none => none
      | none => none
     | some none => appK es [⟨i, v, c⟩] fun es' => natK (Nat.succ c) fun c' => wtK st1 b (.map es' c') fun st' => some (.raw undef, st')
     | none => none
    | none => none
   | _ => none
  | none => none
 | _ => none
def meS (P : Program) (T : TypeId) (x i : SV) (st : St) : Option (SV × St) := match P.underlying T with
 | some (.map kt et) => match toV i with
  | some kv => match x with
   | .map b => rdMK st b fun es c st1 => match pv P (Instr.checkKey false 10000 kt kv) with
    | some _ => match fnd P kt kv es with
     | some (some (j, e)) => match toV e.key with
      | some old => match pv P (Instr.keyThatStays old kv) with
       | some _ => putEK es j ⟨i, e.val, e.born⟩ fun es' => wtK st1 b (.map es' c) fun st' => some (.tup [e.val, .raw (.int .i64 (.ofNat e.born))], st')
       | none => none
      | none => none
     | some none => match zv P et with
      | some z => appK es [⟨i, svOf z, c⟩] fun es' => natK (Nat.succ c) fun c' => wtK st1 b (.map es' c') fun st' => some (.tup [svOf z, .raw (.int .i64 (.ofNat c))], st')
      | none => none
     | none => none
    | none => none
   | _ => none
  | none => none
 | _ => none
def bornI : List SEnt → Nat → Nat → Option (Nat × SEnt)
 | [], _, _ => none
 | e :: r, n, i => bif Nat.beq e.born n then some (i, e) else bornI r n (Nat.succ i)
def esS (x i v : SV) (st : St) : Option (SV × St) := match x with
 | .map b => match i with
  | .raw (.int _ (.ofNat n)) => rdMK st b fun es c st1 => match bornI es n 0 with
   | some (j, e) => putEK es j ⟨e.key, v, e.born⟩ fun es' => wtK st1 b (.map es' c) fun st' => some (.raw undef, st')
   | none => none
  | _ => none
 | _ => none
def deS (P : Program) (T : TypeId) (x i : SV) (st : St) : Option (SV × St) := match P.underlying T with
 | some (.map kt _) => match toV i with
  | some kv => match x with
   | .map b => rdMK st b fun es c st1 => match pv P (Instr.checkKey (isE es) 10000 kt kv) with
    | some _ => match fnd P kt kv es with
     | some (some (j, _)) => delEK es j fun es' => wtK st1 b (.map es' c) fun st' => some (.tup [], st')
     | some none => wtK st1 b (.map es c) fun st' => some (.tup [], st')
     | none => none
    | none => none
   | _ => none
  | none => none
 | _ => none
def clS (P : Program) (T : TypeId) (x : SV) (st : St) : Option (SV × St) := match x with
 | .raw (.slice none 0 0) => match P.underlying T with
  | some _ => some (.tup [], st)
  | none => none
 | .sl0 => match P.underlying T with
  | some _ => some (.tup [], st)
  | none => none
 | .sl b o n _ => match slT P T with
  | some (_, _, _, z) => match n with
   | 0 => some (.tup [], st)
   | n' + 1 => bif onesS z then rdK st b fun l e op st2 => wrK l o (zrow (n' + 1) z) fun l' => wtK st2 b (.cells l' e op) fun st' => some (.tup [], st') else none
  | none => none
 | .map b => match P.underlying T with
  | some (.map _ _) => rdMK st b fun _ c st2 => wtK st2 b (.map [] c) fun st' => some (.tup [], st')
  | _ => none
 | _ => none
variable {ρ : Ren} {N : Nat} {env : Tr SV} {a : Act} {P : Program} {D : Nat → Prop} {st st' : St} {w : World}
theorem Step.wrow (hs : Sim ρ D st w) {x b o : Nat} {s : Nat × Nat} {l ws : List SV} {e : TypeId} {op : Bool} {pre us vs wv : List Value} {R W : List Nat} {w' : World} (hd : D x) (hg : st.h.get x = some (.cells l e op)) (hx : ρ x = some (b, s)) (qz : pre.length = s.1) (q3 : RelL ρ l us) (q4 : op = false → vs = []) (q5 : us.length + vs.length = s.2)
 (hw : RelL ρ ws wv) (hl : o + ws.length ≤ l.length) (hR : ∀ x, x ∈ st.R → x ∈ R) (hW : ∀ x, x ∈ st.W → x ∈ W) (hxW : x ∈ W ∨ st.base ≤ x) (a1 : w'.os = w.os) (a2 : w'.tape = w.tape) (a3 : w'.output = w.output) (a4 : w'.heap.size = w.heap.size)
 (a5 : w'.heap[b]? = some (.cells (wrl (pre ++ (us ++ vs)) (s.1 + o) wv).toArray e (0, 0))) (a6 : ∀ k, k ≠ b → w'.heap[k]? = w.heap[k]?) :
 Step ρ ρ D st ⟨st.h.set x (some (.cells (l.take o ++ ws ++ l.drop (o + ws.length)) e op)), st.nx, st.base, R, W⟩ w w' := by
 have hul := q3.len
 have hwl := hw.len
 rw [← qz, wrl_pre (by simp; omega), wrl_mid (by omega)] at a5
 refine Step.upd hs hd (by rw [hg]; simp) hx (o := .cells (l.take o ++ ws ++ l.drop (o + ws.length)) e op) (ob := _) ⟨pre, us.take o ++ wv ++ us.drop (o + wv.length), vs, rfl, qz, ?_, q4, ?_⟩ hR hW hxW a1 a2 a3 a4 a5 a6
 ·rw [hwl]; exact ((q3.take o).app hw).app (q3.drop _)
 ·simp; omega
theorem one_cells {l : List SV} {o n : Nat} (h : onesS l = true) : onesS ((l.drop o).take n) = true := by
 have h1 := onesS_all h
 have h2 : ∀ s ∈ (l.drop o).take n, oneS s = true := fun s hs => h1 s (List.mem_of_mem_drop (List.mem_of_mem_take hs))
 generalize (l.drop o).take n = q at h2
 induction q with
 | nil => rfl
 | cons y q ih =>
  simp only [onesS]
  rw [h2 y (by simp), cond_true]
  exact ih fun s hs => h2 s (by simp [hs])
theorem nmin_eq (m n : Nat) : nmin m n = Nat.min m n := by
 unfold nmin
 cases h : Nat.ble m n with
 | true => have := Nat.ble_eq.mp h; simp [Nat.min_eq_left this]
 | false =>
  have : ¬ m ≤ n := fun q => by rw [Nat.ble_eq.mpr q] at h; cases h
  simp only [cond_false]
  exact (Nat.min_eq_right (by omega)).symm
def cpC (sz : Nat) (x : SV) (m : Nat) (vs : List SV) (st1 : St) : Option (SV × St) := match x with
 | .raw (.slice none 0 0) => some (.raw (.int .i64 0), st1)
 | .sl0 => some (.raw (.int .i64 0), st1)
 | .sl b o dn _ => bif onesS vs then natK (nmin m dn) fun n => match n with
  | 0 => some (.raw (.int .i64 0), st1)
  | n' + 1 => subK vs 0 ((n' + 1) * sz) fun ws => rdK st1 b fun l e op st2 => wrK l o ws fun l' => wtK st2 b (.cells l' e op) fun st' => some (.raw (.int .i64 (.ofNat (n' + 1))), st')
  else none
 | _ => none
theorem cpC_R {sz m : Nat} {x v : SV} {vs : List SV} (h : cpC sz x m vs st = some (v, st')) : ∀ y, y ∈ st.R → y ∈ st'.R := by
 unfold cpC at h
 intro y hy
 split at h
 ·simp only [Option.some.injEq, Prod.mk.injEq] at h; rw [← h.2]; exact hy
 ·simp only [Option.some.injEq, Prod.mk.injEq] at h; rw [← h.2]; exact hy
 ·replace h := (bif_of h).2
  rw [natK_eq] at h
  split at h
  ·simp only [Option.some.injEq, Prod.mk.injEq] at h; rw [← h.2]; exact hy
  ·obtain ⟨_, h⟩ := subK_some h
   obtain ⟨l, e', op, hg, h⟩ := rdK_some h
   obtain ⟨hl, h⟩ := wrK_some h
   rw [wtK_eq] at h
   simp only [Option.some.injEq, Prod.mk.injEq] at h; rw [← h.2]; exact ins_sub _ _ _ _ (ins_sub _ _ _ _ hy)
 ·cases h
theorem run_copy {T e ty : TypeId} {tys : List TypeId} {i : TypeInfo} (hu : P.underlying T = some (.slice e)) (hi : P.info? e = some i) {ad : Option Addr} {dn k m : Nat} {z : Value} {us : List Value} (hz : Src P w i.size z m us) :
 (Builtin.copy_ (T :: tys).toArray ty #[.slice ad dn k, z]).run P w = (do
   let cells ← Builtin.firstCells i.size (Nat.min m dn) z
   if let some a := ad then storeCells a cells.toList
   pure (goInt (Nat.min m dn)) : Sem Value).run P w := by
 obtain ⟨⟨az, cz, rfl, _⟩, _⟩ := hz
 simp [Builtin.copy_, run_underlying hu, sizeOf, typeInfo, hi, Builtin.lenOf]
 rfl
theorem run_first {sz m n c : Nat} {ad : Option Addr} {us : List Value} (hz : Src P w sz (.slice ad m c) m us) (hn : n ≤ m) : (Builtin.firstCells sz n (.slice ad m c)).run P w = .ok (us.take (n * sz)).toArray w := by
 obtain ⟨⟨az, cz, e, ha⟩, hl⟩ := hz
 cases e
 rcases Nat.eq_zero_or_pos n with rfl | hp
 ·cases ad with
  | none => simp [Builtin.firstCells]
  | some b =>
   have := run_loadCells_list (P := P) w b [] (by simp)
   simpa [Builtin.firstCells] using this
 ·obtain ⟨b, o, rfl, hh⟩ := ha (by omega)
  have h1 : n * sz ≤ m * sz := Nat.mul_le_mul_right _ hn
  exact run_firstCells_some (P := P) w sz n _ m c (us.take (n * sz)) (by simp; omega) (fun j v hv => hh j v (by rw [List.getElem?_take] at hv; split at hv; exact hv; cases hv))
theorem cpC_ok {T e ty : TypeId} {tys : List TypeId} {i : TypeInfo} {x v : SV} {u z : Value} {m : Nat} {vs : List SV} {nv : List Value} (hu : P.underlying T = some (.slice e)) (hi : P.info? e = some i) (hx : Rel ρ x u) (hz : Src P w i.size z m nv) (hn : RelL ρ vs nv) (h : cpC i.size x m vs st = some (v, st')) (hs : Sim ρ D st w) (hD : ∀ x, x ∈ st'.R ∨ st.base ≤ x → D x) :
 Did P ρ D st st' w v (Builtin.copy_ (T :: tys).toArray ty #[u, z]) := by
 have hz0 := hz
 obtain ⟨⟨az, cz, rfl, _⟩, hzl⟩ := hz
 unfold cpC at h
 split at h
 ·simp only [Option.some.injEq, Prod.mk.injEq] at h
  obtain ⟨rfl, rfl⟩ := h
  rw [Rel] at hx; subst hx
  refine Did.pure hs (u := goInt 0) ?_ (by rw [Rel]; rfl)
  have h0 := run_first hz0 (n := 0) (by omega)
  simp [run_copy hu hi hz0, h0]
 ·simp only [Option.some.injEq, Prod.mk.injEq] at h
  obtain ⟨rfl, rfl⟩ := h
  rw [Rel] at hx
  obtain ⟨ad, k, rfl⟩ := hx
  refine Did.pure hs (u := goInt 0) ?_ (by rw [Rel]; rfl)
  have h0 := run_first hz0 (n := 0) (by omega)
  cases ad with
  | none => simp [run_copy hu hi hz0, h0]
  | some b => simp [run_copy hu hi hz0, h0, storeCells]
 ·rename_i b o dn c
  have hones := (bif_of h).1
  replace h := (bif_of h).2
  rw [natK_eq, nmin_eq] at h
  rw [Rel] at hx
  obtain ⟨B, s, cap, hB, hc, rfl⟩ := hx
  split at h
  ·rename_i hmin
   simp only [Option.some.injEq, Prod.mk.injEq] at h
   obtain ⟨rfl, rfl⟩ := h
   refine Did.pure hs (u := goInt 0) ?_ (by rw [Rel]; rfl)
   have h0 := run_first hz0 (n := 0) (by omega)
   have hm : Nat.min m dn = 0 := hmin
   rw [run_copy hu hi hz0, hm]
   simp [h0, storeCells]
  ·rename_i n' hmin
   have hm : Nat.min m dn = n' + 1 := hmin
   have hle : n' + 1 ≤ m := by rw [← hm]; exact Nat.min_le_left m dn
   obtain ⟨hsub, h⟩ := subK_some h
   obtain ⟨l, e', op, hg, h⟩ := rdK_some h
   obtain ⟨hl, h⟩ := wrK_some h
   rw [wtK_eq] at h
   simp only [Option.some.injEq, Prod.mk.injEq] at h
   obtain ⟨e1, e2⟩ := h
   have hdx : D b := hD b (by rw [← e2]; rcases ins_has st.base b st.R with q | q; exact .inl (ins_sub _ _ _ _ q); exact .inr q)
   obtain ⟨b', s', pre, us, vs', q1, q2, qz, q3, q4, q5⟩ := hs.row hdx hg
   rw [hB] at q1; cases q1
   have hul := q3.len
   simp only [List.drop_zero] at hl e2
   have hwr : RelL ρ (vs.take ((n' + 1) * i.size)) (nv.take ((n' + 1) * i.size)) := hn.take _
   have hwl := hwr.len
   obtain ⟨w', hr, a1, a2, a3, a4, a5, a6⟩ := run_storeCells_own (P := P) (b := B) (off := s.1 + o) (t := e') (nv.take ((n' + 1) * i.size)) 0 w (pre ++ (us ++ vs')) q2 (by rw [← qz, Nat.add_zero]; simp only [List.length_append]; omega) (hwr.ones (one_cells (o := 0) hones))
   refine ⟨goInt (n' + 1), w', ρ, ?_, by rw [← e1, Rel]; rfl, ?_⟩
   ·rw [run_copy hu hi hz0, hm]
    simp [run_first hz0 hle, hr]
   ·rw [← e2]
    exact Step.wrow hs hdx hg hB qz q3 q4 q5 hwr hl (fun y hy => ins_sub _ _ _ _ (ins_sub _ _ _ _ hy)) (ins_sub _ _ _) (ins_has _ _ _) a1 a2 a3 a4 (by simpa using a5) a6
 ·cases h
theorem cpS_eq {T : TypeId} {x y : SV} : cpS P T x y st = match slT P T with
 | some (_, sz, _, _) => srcK sz y st fun m vs st1 => cpC sz x m vs st1
 | none => none := rfl
theorem cpS_ok {T ty : TypeId} {tys : List TypeId} {x y v : SV} {u z : Value} (hx : Rel ρ x u) (hy : Rel ρ y z) (h : cpS P T x y st = some (v, st')) (hs : Sim ρ D st w) (hD : ∀ x, x ∈ st'.R ∨ st.base ≤ x → D x) : Did P ρ D st st' w v (Builtin.copy_ (T :: tys).toArray ty #[u, z]) := by
 rw [cpS_eq] at h
 split at h
 ·rename_i e sz by' zz hT
  obtain ⟨hu, i, zv, hi, rfl, rfl, hz, rfl, hzc, hzl⟩ := slT_ok hT
  obtain ⟨n, vs, us, R', h, hR, hr, hsrc⟩ := srcK_ok hy h hs fun n vs st1 h1 x hx => hD x (by
   rcases hx with q | q
   ·exact .inl (cpC_R h1 x q)
   ·exact .inr q)
  refine Did.after hs hR ?_
  exact cpC_ok hu hi hx hsrc hr h ⟨hs.live, hs.inj, hs.lt⟩ hD
 ·cases h
theorem Sim.mapAt (hs : Sim ρ D st w) {x : Nat} {es : List SEnt} {c : Nat} (hd : D x) (hg : st.h.get x = some (.map es c)) : ∃ b s ms, ρ x = some (b, s) ∧ w.heap[b]? = some (.map ms.toArray c) ∧ MRel ρ es ms := by
 obtain ⟨b, s, ob, h1, h2, ms, rfl, h4⟩ := hs.live x _ hd hg
 exact ⟨b, s, ms, h1, h2, h4⟩
theorem rdMK_some {β : Type} {x : Nat} {k : List SEnt → Nat → St → Option β} {r : β} (h : rdMK st x k = some r) : ∃ es c, st.h.get x = some (.map es c) ∧ k es c ⟨st.h, st.nx, st.base, ins st.base x st.R, st.W⟩ = some r := by
 cases st with
 | mk hh nx b R W =>
  simp only [rdMK] at h
  split at h
  ·rename_i es c hg
   rw [insK_eq] at h
   exact ⟨es, c, hg, h⟩
  ·cases h
theorem MRel.at {es : List SEnt} : ∀ {ms : List MapEntry} {i : Nat} {e : SEnt}, MRel ρ es ms → es[i]? = some e → ∃ m, ms[i]? = some m ∧ Rel ρ e.key m.key ∧ Rel ρ e.val m.val ∧ m.born = e.born := by
 induction es with
 | nil => intro ms i e _ h; simp at h
 | cons a es ih =>
  intro ms i e hm h
  rw [MRel] at hm
  obtain ⟨m, r, rfl, h2, h3, h4, h5⟩ := hm
  cases i with
  | zero => simp only [List.getElem?_cons_zero, Option.some.injEq] at h; subst h; exact ⟨m, by simp, h2, h3, h4⟩
  | succ i => simp only [List.getElem?_cons_succ] at h ⊢; exact ih h5 h
theorem MRel.set {es : List SEnt} : ∀ {ms : List MapEntry} {i : Nat} {e : SEnt} {m : MapEntry}, MRel ρ es ms → Rel ρ e.key m.key → Rel ρ e.val m.val → m.born = e.born → MRel ρ (es.set i e) (ms.set i m) := by
 induction es with
 | nil => intro ms i e m hm _ _ _; rw [MRel] at hm; subst hm; simp [MRel]
 | cons a es ih =>
  intro ms i e m hm g1 g2 g3
  rw [MRel] at hm
  obtain ⟨m', r, rfl, h2, h3, h4, h5⟩ := hm
  cases i with
  | zero => simp only [List.set_cons_zero, MRel]; exact ⟨m, r, rfl, g1, g2, g3, h5⟩
  | succ i => simp only [List.set_cons_succ, MRel]; exact ⟨m', r.set i m, rfl, h2, h3, h4, ih h5 g1 g2 g3⟩
theorem MRel.erase {es : List SEnt} : ∀ {ms : List MapEntry} {i : Nat}, MRel ρ es ms → MRel ρ (es.eraseIdx i) (ms.eraseIdx i) := by
 induction es with
 | nil => intro ms i hm; rw [MRel] at hm; subst hm; simp [MRel]
 | cons a es ih =>
  intro ms i hm
  rw [MRel] at hm
  obtain ⟨m', r, rfl, h2, h3, h4, h5⟩ := hm
  cases i with
  | zero => simpa using h5
  | succ i => simp only [List.eraseIdx_cons_succ, MRel]; exact ⟨m', r.eraseIdx i, rfl, h2, h3, h4, ih h5⟩
theorem MRel.snoc {es : List SEnt} : ∀ {ms : List MapEntry} {e : SEnt} {m : MapEntry}, MRel ρ es ms → Rel ρ e.key m.key → Rel ρ e.val m.val → m.born = e.born → MRel ρ (es ++ [e]) (ms ++ [m]) := by
 induction es with
 | nil => intro ms e m hm g1 g2 g3; rw [MRel] at hm; subst hm; simp only [List.nil_append, MRel]; exact ⟨m, [], rfl, g1, g2, g3, rfl⟩
 | cons a es ih =>
  intro ms e m hm g1 g2 g3
  rw [MRel] at hm
  obtain ⟨m', r, rfl, h2, h3, h4, h5⟩ := hm
  simp only [List.cons_append, MRel]
  exact ⟨m', r ++ [m], rfl, h2, h3, h4, ih h5 g1 g2 g3⟩
theorem putEK_some {β : Type} : ∀ {es : List SEnt} {j : Nat} {e : SEnt} {k : List SEnt → Option β} {r : β}, putEK es j e k = some r → j < es.length ∧ k (es.set j e) = some r
 | [], j, _, _, _, h => by cases j <;> simp [putEK] at h
 | _ :: _, 0, _, _, _, h => by simp only [putEK] at h; exact ⟨by simp, by simpa using h⟩
 | _ :: es, j + 1, e, k, r, h => by
  simp only [putEK] at h
  obtain ⟨h1, h2⟩ := putEK_some h
  exact ⟨by simpa using h1, by simpa using h2⟩
theorem delEK_some {β : Type} : ∀ {es : List SEnt} {j : Nat} {k : List SEnt → Option β} {r : β}, delEK es j k = some r → j < es.length ∧ k (es.eraseIdx j) = some r
 | [], j, _, _, h => by cases j <;> simp [delEK] at h
 | _ :: _, 0, _, _, h => by simp only [delEK] at h; exact ⟨by simp, by simpa using h⟩
 | _ :: es, j + 1, k, r, h => by
  simp only [delEK] at h
  obtain ⟨h1, h2⟩ := delEK_some h
  exact ⟨by simpa using h1, by simpa using h2⟩
def FR (es : List SEnt) (ms : List MapEntry) (i : Nat) : Option (Nat × SEnt) → Option (Nat × Value) → Prop
 | none, r => r = none
 | some (j, e), r => ∃ n m, j = i + n ∧ es[n]? = some e ∧ ms[n]? = some m ∧ r = some (j, m.val)
theorem FR.next {a : SEnt} {m : MapEntry} {es : List SEnt} {ms : List MapEntry} {i : Nat} {r : Option (Nat × SEnt)} {r' : Option (Nat × Value)} (h : FR es ms (i + 1) r r') : FR (a :: es) (m :: ms) i r r' := by
 cases r with
 | none => exact h
 | some p =>
  obtain ⟨j, e⟩ := p
  obtain ⟨n, m', h1, h2, h3, h4⟩ := h
  exact ⟨n + 1, m', by omega, by simpa using h2, by simpa using h3, h4⟩
theorem fndI_ok {kk k : IntKind} {n : Int} {es : List SEnt} : ∀ {ms : List MapEntry} {i : Nat} {r : Option (Nat × SEnt)}, MRel ρ es ms → fndI k n es i = some r → ∃ r', Instr.findNow (.int kk) (.int k n) ms i = some r' ∧ FR es ms i r r' := by
 induction es with
 | nil => intro ms i r hm h; rw [MRel] at hm; subst hm; simp only [fndI, Option.some.injEq] at h; subst h; exact ⟨none, rfl, rfl⟩
 | cons a es ih =>
  intro ms i r hm h
  rw [MRel] at hm
  obtain ⟨m, q, rfl, h2, h3, h4, h5⟩ := hm
  simp only [fndI] at h
  split at h
  ·rename_i k' m' hk
   rw [hk, Rel] at h2
   have hq := (bif_of h).1
   replace h := (bif_of h).2
   have hq := kEq_eq hq
   subst hq
   rw [ieq_eq] at h
   simp only [Instr.findNow, h2, Instr.sameNow, if_true]
   by_cases e : n = m'
   ·simp only [e, decide_true, cond_true, Option.some.injEq] at h
    subst h; subst e
    exact ⟨some (i, m.val), by simp, 0, m, by simp, by simp, by simp, rfl⟩
   ·simp only [e, decide_false, cond_false] at h
    obtain ⟨r', g1, g2⟩ := ih h5 h
    have hne : (n == m') = false := by simp [e]
    exact ⟨r', by simp [hne, g1], g2.next⟩
  ·cases h
theorem fndG_ok {T : TypeId} {kv : Value} {es : List SEnt} : ∀ {ms : List MapEntry} {i : Nat} {r : Option (Nat × SEnt)}, MRel ρ es ms → fndG P T kv es i = some r → ∃ r', (Instr.findAsking T kv ms i).run P w = .ok r' w ∧ FR es ms i r r' := by
 induction es with
 | nil => intro ms i r hm h; rw [MRel] at hm; subst hm; simp only [fndG, Option.some.injEq] at h; subst h; exact ⟨none, by simp [Instr.findAsking], rfl⟩
 | cons a es ih =>
  intro ms i r hm h
  rw [MRel] at hm
  obtain ⟨m, q, rfl, h2, h3, h4, h5⟩ := hm
  simp only [fndG] at h
  split at h
  ·rename_i u hu
   have hmk := toV_rel hu h2
   split at h
   ·rename_i he
    simp only [Option.some.injEq] at h
    subst h
    have := pv_run he w
    exact ⟨some (i, m.val), by simp [Instr.findAsking, hmk, this], 0, m, by simp, by simp, by simp, rfl⟩
   ·rename_i he
    have := pv_run he w
    obtain ⟨r', g1, g2⟩ := ih h5 h
    exact ⟨r', by simp [Instr.findAsking, hmk, this, g1], g2.next⟩
   ·cases h
  ·cases h
theorem run_findAsk {T : TypeId} (hT : (match P.underlying T with | some (.array _ _) | some (.struct _) => true | _ => false) = true) (x : Value) (ms : List MapEntry) : (Instr.findKey T x ms).run P w = (Instr.findAsking T x ms).run P w := by
 cases hu : P.underlying T with
 | none => simp [hu] at hT
 | some kd =>
  cases ms with
  | nil => simp [Instr.findKey, run_underlying hu, Instr.findNow, Instr.findAsking]
  | cons e es => cases kd <;> simp [hu] at hT <;> simp [Instr.findKey, run_underlying hu, Instr.findNow, Instr.sameNow]
theorem fnd_ok {T : TypeId} {kv : Value} {es : List SEnt} {ms : List MapEntry} {r : Option (Nat × SEnt)} (hm : MRel ρ es ms) (h : fnd P T kv es = some r) : ∃ r', (Instr.findKey T kv ms).run P w = .ok r' w ∧ FR es ms 0 r r' := by
 unfold fnd at h
 split at h
 ·rename_i kk hu
  split at h
  ·rename_i k n
   obtain ⟨r', h1, h2⟩ := fndI_ok (kk := kk) hm h
   exact ⟨r', by simp [Instr.findKey, run_underlying hu, h1], h2⟩
  ·cases h
 ·rename_i fs hu
  obtain ⟨r', h1, h2⟩ := fndG_ok (w := w) hm h
  exact ⟨r', by rw [run_findAsk (by rw [hu])]; exact h1, h2⟩
 ·rename_i l e hu
  obtain ⟨r', h1, h2⟩ := fndG_ok (w := w) hm h
  exact ⟨r', by rw [run_findAsk (by rw [hu])]; exact h1, h2⟩
 ·cases h
theorem isE_eq {es : List SEnt} {ms : List MapEntry} (hm : MRel ρ es ms) : ms.isEmpty = isE es := by
 cases es with
 | nil => rw [MRel] at hm; subst hm; rfl
 | cons a es => rw [MRel] at hm; obtain ⟨m, r, rfl, _⟩ := hm; rfl
theorem okS_rel {ok b : Bool} {v : SV} {u : Value} (h : Rel ρ v u) : Rel ρ (okS ok v b) (if ok then .tuple #[u, .bool b] else u) := by
 cases ok with
 | false => exact h
 | true => simp only [okS, if_true, Rel]; exact ⟨[u, .bool b], RelL.cons h (RelL.cons (by rw [Rel]) RelL.nil), rfl⟩
theorem lkS_ok {T : TypeId} {x i v : SV} {u z : Value} {ok : Bool} (hx : Rel ρ x u) (hi : Rel ρ i z) (h : lkS P T x i ok st = some (v, st')) (hs : Sim ρ D st w) (hD : ∀ x, x ∈ st'.R ∨ st.base ≤ x → D x) : Did P ρ D st st' w v (Instr.lookup T u z ok) := by
 unfold lkS at h
 split at h
 ·rename_i kt et hu
  split at h
  ·rename_i kv hk
   have := toV_rel hk hi
   subst this
   split at h
   ·split at h
    ·rename_i hc
     have hc := pv_run hc w
     split at h
     ·rename_i hf
      have hf := pv_run hf w
      split at h
      ·rename_i zz hz
       simp only [Option.some.injEq, Prod.mk.injEq] at h
       obtain ⟨rfl, rfl⟩ := h
       rw [Rel] at hx; subst hx
       refine Did.pure hs (u := if ok then .tuple #[zz, .bool false] else zz) ?_ (okS_rel (svOf_rel zz))
       simp [Instr.lookup, run_underlying hu, hc, hf, run_zeroValue hz]
      ·cases h
     ·cases h
    ·cases h
   ·rename_i b
    obtain ⟨es, c, hg, h⟩ := rdMK_some h
    rw [Rel] at hx
    obtain ⟨B, s, hB, rfl⟩ := hx
    split at h
    ·rename_i hc
     have hc := pv_run hc w
     have main : ∀ {r : Option (Nat × SEnt)} {st2 : St}, fnd P kt z es = some r → D b → ∃ ms r', w.heap[B]? = some (.map ms.toArray c) ∧ MRel ρ es ms ∧ (Instr.findKey kt z ms).run P w = .ok r' w ∧ FR es ms 0 r r' := by
      intro r st2 hr hd
      obtain ⟨b', s', ms, q1, q2, q3⟩ := hs.mapAt hd hg
      rw [hB] at q1; cases q1
      obtain ⟨r', g1, g2⟩ := fnd_ok (w := w) q3 hr
      exact ⟨ms, r', q2, q3, g1, g2⟩
     split at h
     ·rename_i j e hr
      simp only [Option.some.injEq, Prod.mk.injEq] at h
      obtain ⟨rfl, e2⟩ := h
      obtain ⟨ms, r', q2, q3, g1, n, m, rfl, g4, g5, rfl⟩ := main (st2 := st) hr (hD b (by rw [← e2]; exact ins_has _ _ _))
      obtain ⟨m', f1, f2, f3, f4⟩ := q3.at g4
      rw [g5] at f1; cases f1
      refine ⟨if ok then .tuple #[m.val, .bool true] else m.val, w, ρ, ?_, okS_rel f3, by rw [← e2]; exact Step.touch hs (ins_sub _ _ _) fun _ h => h⟩
      have hie := isE_eq q3
      have hgo : (getObj B).run P w = .ok (.map ms.toArray c) w := by simp [getObj, Sem.run, q2]
      simp [Instr.lookup, run_underlying hu, hgo, hie, hc, g1]
     ·rename_i hr
      split at h
      ·rename_i zz hz
       simp only [Option.some.injEq, Prod.mk.injEq] at h
       obtain ⟨rfl, e2⟩ := h
       obtain ⟨ms, r', q2, q3, g1, g2⟩ := main (st2 := st) hr (hD b (by rw [← e2]; exact ins_has _ _ _))
       simp only [FR] at g2
       subst g2
       refine ⟨if ok then .tuple #[zz, .bool false] else zz, w, ρ, ?_, okS_rel (svOf_rel zz), by rw [← e2]; exact Step.touch hs (ins_sub _ _ _) fun _ h => h⟩
       have hie := isE_eq q3
       have hgo : (getObj B).run P w = .ok (.map ms.toArray c) w := by simp [getObj, Sem.run, q2]
       simp [Instr.lookup, run_underlying hu, hgo, hie, hc, g1, run_zeroValue hz]
      ·cases h
     ·cases h
    ·cases h
   ·cases h
  ·cases h
 ·cases h
theorem modify_at {ms : List MapEntry} {j : Nat} {m : MapEntry} {f : MapEntry → MapEntry} (h : ms[j]? = some m) : ms.modify j f = ms.set j (f m) := by
 apply List.ext_getElem?
 intro k
 rw [List.getElem?_modify, List.getElem?_set]
 have hl := (List.getElem?_eq_some_iff.1 h).1
 by_cases e : j = k
 ·subst e
  have := (List.getElem?_eq_some_iff.1 h).2
  simp [h, hl, this]
 ·simp [e]
theorem run_getMap {B c : Nat} {ms : List MapEntry} (h : w.heap[B]? = some (.map ms.toArray c)) : (getObj B).run P w = .ok (.map ms.toArray c) w := by simp [getObj, Sem.run, h]
theorem run_setMap {B : Nat} {es : Array MapEntry} {c : Nat} {o' : Obj} (h : w.heap[B]? = some (.map es c)) : (setObj B o').run P w = .ok () { w with heap := w.heap.setIfInBounds B o' } := by simp [setObj, Sem.run, h]
theorem Step.wmap (hs : Sim ρ D st w) {x b : Nat} {s : Nat × Nat} {es es' : List SEnt} {c c' : Nat} {ms ms' : List MapEntry} {R W : List Nat} (hd : D x) (hg : st.h.get x = some (.map es c)) (hx : ρ x = some (b, s)) (hb : w.heap[b]? = some (.map ms.toArray c)) (hm : MRel ρ es' ms')
 (hR : ∀ x, x ∈ st.R → x ∈ R) (hW : ∀ x, x ∈ st.W → x ∈ W) (hxW : x ∈ W ∨ st.base ≤ x) : Step ρ ρ D st ⟨st.h.set x (some (.map es' c')), st.nx, st.base, R, W⟩ w { w with heap := w.heap.setIfInBounds b (.map ms'.toArray c') } := by
 have hlt : b < w.heap.size := (Array.getElem?_eq_some_iff.1 hb).1
 exact Step.upd hs hd (by rw [hg]; simp) hx (o := .map es' c') (ob := .map ms'.toArray c') ⟨ms', rfl, hm⟩ hR hW hxW rfl rfl rfl (by simp) (by simp [hlt]) (fun k hk => by simp [Ne.symm hk])
theorem keyStays_ok {old kv u : Value} (h : pv P (Instr.keyThatStays old kv) = some u) : u = kv ∧ Instr.sameBits 10000 old kv = true := by
 unfold Instr.keyThatStays at h
 cases hb : Instr.sameBits 10000 old kv with
 | true => rw [hb] at h; simp only [if_true] at h; simp only [pure, pv, Option.some.injEq] at h; exact ⟨h.symm, rfl⟩
 | false => rw [hb] at h; cases h
theorem run_keyStays {old kv : Value} (h : Instr.sameBits 10000 old kv = true) : (Instr.keyThatStays old kv).run P w = .ok kv w := by
 simp [Instr.keyThatStays, h]
theorem ins2_has {b x : Nat} {l : List Nat} {D : Nat → Prop} {b0 : Nat} (e : b0 = b) (hD : ∀ y, y ∈ ins b x (ins b x l) ∨ b0 ≤ y → D y) : D x := hD x (by
 subst e
 rcases ins_has b0 x l with q | q
 ·exact .inl (ins_sub _ _ _ _ q)
 ·exact .inr q)
theorem muS_ok {T : TypeId} {x i v r : SV} {u z q : Value} (hx : Rel ρ x u) (hi : Rel ρ i z) (hv : Rel ρ v q) (h : muS P T x i v st = some (r, st')) (hs : Sim ρ D st w) (hD : ∀ x, x ∈ st'.R ∨ st.base ≤ x → D x) :
 r = .raw undef ∧ ∃ w', (Instr.mapUpdate T u z q).run P w = .ok () w' ∧ Step ρ ρ D st st' w w' := by
 unfold muS at h
 split at h
 ·rename_i kt et hu
  split at h
  ·rename_i kv hk
   have := toV_rel hk hi
   subst this
   split at h
   ·rename_i b
    obtain ⟨es, c, hg, h⟩ := rdMK_some h
    rw [Rel] at hx
    obtain ⟨B, s, hB, rfl⟩ := hx
    split at h
    ·rename_i hc
     have hc := pv_run hc w
     split at h
     ·rename_i j e hr
      split at h
      ·rename_i old ho
       split at h
       ·rename_i kk hks
        obtain ⟨_, hks⟩ := keyStays_ok hks
        obtain ⟨hj, h⟩ := putEK_some h
        rw [wtK_eq] at h
        simp only [Option.some.injEq, Prod.mk.injEq] at h
        obtain ⟨rfl, rfl⟩ := h
        refine ⟨rfl, ?_⟩
        have hdx : D b := ins2_has rfl hD
        obtain ⟨b', s', ms, q1, q2, q3⟩ := hs.mapAt hdx hg
        rw [hB] at q1; cases q1
        obtain ⟨r', g1, n, m, e3, g4, g5, rfl⟩ := fnd_ok (w := w) q3 hr
        have e3 : n = j := by omega
        subst e3
        obtain ⟨m', f1, f2, f3, f4⟩ := q3.at g4
        rw [g5] at f1; cases f1
        have hold := toV_rel ho f2
        refine ⟨_, ?_, Step.wmap (es' := es.set n ⟨i, v, e.born⟩) (c' := c) (ms' := ms.set n { m with key := z, val := q }) hs hdx hg hB q2 (q3.set hi hv f4) (fun y hy => ins_sub _ _ _ _ (ins_sub _ _ _ _ hy)) (ins_sub _ _ _) (ins_has _ _ _)⟩
        simp [Instr.mapUpdate, run_underlying hu, run_getMap q2, hc, g1, g5, hold, run_keyStays hks, run_setMap q2, modify_at g5]
       ·cases h
      ·cases h
     ·rename_i hr
      simp only [appK_eq, natK_eq, wtK_eq, Option.some.injEq, Prod.mk.injEq] at h
      obtain ⟨rfl, rfl⟩ := h
      refine ⟨rfl, ?_⟩
      have hdx : D b := ins2_has rfl hD
      obtain ⟨b', s', ms, q1, q2, q3⟩ := hs.mapAt hdx hg
      rw [hB] at q1; cases q1
      obtain ⟨r', g1, g2⟩ := fnd_ok (w := w) q3 hr
      simp only [FR] at g2
      subst g2
      refine ⟨_, ?_, Step.wmap (es' := es ++ [⟨i, v, c⟩]) (c' := c + 1) (ms' := ms ++ [{ key := z, val := q, born := c }]) hs hdx hg hB q2 (q3.snoc hi hv rfl) (fun y hy => ins_sub _ _ _ _ (ins_sub _ _ _ _ hy)) (ins_sub _ _ _) (ins_has _ _ _)⟩
      simp [Instr.mapUpdate, run_underlying hu, run_getMap q2, hc, g1, run_setMap q2]
     ·cases h
    ·cases h
   ·cases h
  ·cases h
 ·cases h
theorem meS_ok {T : TypeId} {x i v : SV} {u z : Value} (hx : Rel ρ x u) (hi : Rel ρ i z) (h : meS P T x i st = some (v, st')) (hs : Sim ρ D st w) (hD : ∀ x, x ∈ st'.R ∨ st.base ≤ x → D x) : Did P ρ D st st' w v (Instr.mapEntry T u z) := by
 unfold meS at h
 split at h
 ·rename_i kt et hu
  split at h
  ·rename_i kv hk
   have := toV_rel hk hi
   subst this
   split at h
   ·rename_i b
    obtain ⟨es, c, hg, h⟩ := rdMK_some h
    rw [Rel] at hx
    obtain ⟨B, s, hB, rfl⟩ := hx
    split at h
    ·rename_i hc
     have hc := pv_run hc w
     split at h
     ·rename_i j e hr
      split at h
      ·rename_i old ho
       split at h
       ·rename_i kk hks
        obtain ⟨_, hks⟩ := keyStays_ok hks
        obtain ⟨hj, h⟩ := putEK_some h
        rw [wtK_eq] at h
        simp only [Option.some.injEq, Prod.mk.injEq] at h
        obtain ⟨rfl, rfl⟩ := h
        have hdx : D b := ins2_has rfl hD
        obtain ⟨b', s', ms, q1, q2, q3⟩ := hs.mapAt hdx hg
        rw [hB] at q1; cases q1
        obtain ⟨r', g1, n, m, e3, g4, g5, rfl⟩ := fnd_ok (w := w) q3 hr
        have e3 : n = j := by omega
        subst e3
        obtain ⟨m', f1, f2, f3, f4⟩ := q3.at g4
        rw [g5] at f1; cases f1
        have hold := toV_rel ho f2
        refine ⟨.tuple #[m.val, goInt m.born], _, ρ, ?_, ?_, Step.wmap (es' := es.set n ⟨i, e.val, e.born⟩) (c' := c) (ms' := ms.set n { m with key := z }) hs hdx hg hB q2 (q3.set hi f3 f4) (fun y hy => ins_sub _ _ _ _ (ins_sub _ _ _ _ hy)) (ins_sub _ _ _) (ins_has _ _ _)⟩
        ·simp [Instr.mapEntry, run_underlying hu, run_getMap q2, hc, g1, g5, hold, run_keyStays hks, run_setMap q2, modify_at g5]
        ·rw [Rel]; exact ⟨[m.val, goInt m.born], RelL.cons f3 (RelL.cons (by rw [Rel, f4]; rfl) RelL.nil), rfl⟩
       ·cases h
      ·cases h
     ·rename_i hr
      split at h
      ·rename_i zz hz
       simp only [appK_eq, natK_eq, wtK_eq, Option.some.injEq, Prod.mk.injEq] at h
       obtain ⟨rfl, rfl⟩ := h
       have hdx : D b := ins2_has rfl hD
       obtain ⟨b', s', ms, q1, q2, q3⟩ := hs.mapAt hdx hg
       rw [hB] at q1; cases q1
       obtain ⟨r', g1, g2⟩ := fnd_ok (w := w) q3 hr
       simp only [FR] at g2
       subst g2
       refine ⟨.tuple #[zz, goInt c], _, ρ, ?_, ?_, Step.wmap (es' := es ++ [⟨i, svOf zz, c⟩]) (c' := c + 1) (ms' := ms ++ [{ key := z, val := zz, born := c }]) hs hdx hg hB q2 (q3.snoc hi (svOf_rel zz) rfl) (fun y hy => ins_sub _ _ _ _ (ins_sub _ _ _ _ hy)) (ins_sub _ _ _) (ins_has _ _ _)⟩
       ·simp [Instr.mapEntry, run_underlying hu, run_getMap q2, hc, g1, run_setMap q2, run_zeroValue hz]
       ·rw [Rel]; exact ⟨[zz, goInt c], RelL.cons (svOf_rel zz) (RelL.cons (by rw [Rel]; rfl) RelL.nil), rfl⟩
      ·cases h
     ·cases h
    ·cases h
   ·cases h
  ·cases h
 ·cases h
theorem bornI_ok {n : Nat} {es : List SEnt} : ∀ {ms : List MapEntry} {i j : Nat} {e : SEnt}, MRel ρ es ms → bornI es n i = some (j, e) → ∃ k m, j = i + k ∧ es[k]? = some e ∧ ms[k]? = some m ∧ ms.findIdx? (fun e => (e.born : Int) == (n : Int)) = some k := by
 induction es with
 | nil => intro ms i j e hm h; simp [bornI] at h
 | cons a es ih =>
  intro ms i j e hm h
  rw [MRel] at hm
  obtain ⟨m, q, rfl, h2, h3, h4, h5⟩ := hm
  simp only [bornI] at h
  cases hb : Nat.beq a.born n with
  | true =>
   rw [hb, cond_true] at h
   simp only [Option.some.injEq, Prod.mk.injEq] at h
   obtain ⟨rfl, rfl⟩ := h
   have hb := Nat.eq_of_beq_eq_true hb
   refine ⟨0, m, rfl, by simp, by simp, ?_⟩
   rw [List.findIdx?_cons]
   simp [h4, hb]
  | false =>
   rw [hb, cond_false] at h
   have hne : a.born ≠ n := fun q => by rw [q, Nat.beq_refl] at hb; cases hb
   obtain ⟨k, m', g1, g2, g3, g4⟩ := ih h5 h
   refine ⟨k + 1, m', by omega, by simpa using g2, by simpa using g3, ?_⟩
   rw [List.findIdx?_cons, g4]
   have : ((m.born : Int) == (n : Int)) = false := by simp [h4]; omega
   simp [this]
theorem esS_ok {T : TypeId} {x i v r : SV} {u z q : Value} (hx : Rel ρ x u) (hi : Rel ρ i z) (hv : Rel ρ v q) (h : esS x i v st = some (r, st')) (hs : Sim ρ D st w) (hD : ∀ x, x ∈ st'.R ∨ st.base ≤ x → D x) :
 r = .raw undef ∧ ∃ w', (Instr.entryStore T u z q).run P w = .ok () w' ∧ Step ρ ρ D st st' w w' := by
 unfold esS at h
 split at h
 ·rename_i b
  split at h
  ·rename_i k n
   rw [Rel] at hi
   subst hi
   obtain ⟨es, c, hg, h⟩ := rdMK_some h
   rw [Rel] at hx
   obtain ⟨B, s, hB, rfl⟩ := hx
   split at h
   ·rename_i j e hb
    obtain ⟨hj, h⟩ := putEK_some h
    rw [wtK_eq] at h
    simp only [Option.some.injEq, Prod.mk.injEq] at h
    obtain ⟨rfl, rfl⟩ := h
    refine ⟨rfl, ?_⟩
    have hdx : D b := ins2_has rfl hD
    obtain ⟨b', s', ms, q1, q2, q3⟩ := hs.mapAt hdx hg
    rw [hB] at q1; cases q1
    obtain ⟨k', m, e3, g4, g5, g6⟩ := bornI_ok q3 hb
    have e3 : k' = j := by omega
    subst e3
    obtain ⟨m', f1, f2, f3, f4⟩ := q3.at g4
    rw [g5] at f1; cases f1
    refine ⟨_, ?_, Step.wmap (es' := es.set k' ⟨e.key, v, e.born⟩) (c' := c) (ms' := ms.set k' { m with val := q }) hs hdx hg hB q2 (q3.set f2 hv f4) (fun y hy => ins_sub _ _ _ _ (ins_sub _ _ _ _ hy)) (ins_sub _ _ _) (ins_has _ _ _)⟩
    simp [Instr.entryStore, run_getMap q2, asInt, asIntOf, g6, run_setMap q2, modify_at g5]
   ·cases h
  ·cases h
 ·cases h
theorem deS_ok {T ty : TypeId} {tys : List TypeId} {x i v : SV} {u z : Value} (hx : Rel ρ x u) (hi : Rel ρ i z) (h : deS P T x i st = some (v, st')) (hs : Sim ρ D st w) (hD : ∀ x, x ∈ st'.R ∨ st.base ≤ x → D x) : Did P ρ D st st' w v (Builtin.delete_ (T :: tys).toArray ty #[u, z]) := by
 unfold deS at h
 split at h
 ·rename_i kt et hu
  split at h
  ·rename_i kv hk
   have := toV_rel hk hi
   subst this
   split at h
   ·rename_i b
    obtain ⟨es, c, hg, h⟩ := rdMK_some h
    rw [Rel] at hx
    obtain ⟨B, s, hB, rfl⟩ := hx
    split at h
    ·rename_i hc
     have hc := pv_run hc w
     split at h
     ·rename_i j e hr
      obtain ⟨hj, h⟩ := delEK_some h
      rw [wtK_eq] at h
      simp only [Option.some.injEq, Prod.mk.injEq] at h
      obtain ⟨rfl, rfl⟩ := h
      have hdx : D b := ins2_has rfl hD
      obtain ⟨b', s', ms, q1, q2, q3⟩ := hs.mapAt hdx hg
      rw [hB] at q1; cases q1
      obtain ⟨r', g1, n, m, e3, g4, g5, rfl⟩ := fnd_ok (w := w) q3 hr
      have e3 : n = j := by omega
      subst e3
      have hie := isE_eq q3
      refine ⟨.tuple #[], _, ρ, ?_, by rw [Rel]; exact ⟨[], RelL.nil, rfl⟩, Step.wmap (es' := es.eraseIdx n) (c' := c) (ms' := ms.eraseIdx n) hs hdx hg hB q2 q3.erase (fun y hy => ins_sub _ _ _ _ (ins_sub _ _ _ _ hy)) (ins_sub _ _ _) (ins_has _ _ _)⟩
      simp [Builtin.delete_, run_underlying hu, run_getMap q2, hie, hc, g1, run_setMap q2]
     ·rename_i hr
      rw [wtK_eq] at h
      simp only [Option.some.injEq, Prod.mk.injEq] at h
      obtain ⟨rfl, rfl⟩ := h
      have hdx : D b := ins2_has rfl hD
      obtain ⟨b', s', ms, q1, q2, q3⟩ := hs.mapAt hdx hg
      rw [hB] at q1; cases q1
      obtain ⟨r', g1, g2⟩ := fnd_ok (w := w) q3 hr
      simp only [FR] at g2
      subst g2
      have hie := isE_eq q3
      refine ⟨.tuple #[], _, ρ, ?_, by rw [Rel]; exact ⟨[], RelL.nil, rfl⟩, Step.wmap (es' := es) (c' := c) (ms' := ms) hs hdx hg hB q2 q3 (fun y hy => ins_sub _ _ _ _ (ins_sub _ _ _ _ hy)) (ins_sub _ _ _) (ins_has _ _ _)⟩
      simp [Builtin.delete_, run_underlying hu, run_getMap q2, hie, hc, g1, run_setMap q2]
     ·cases h
    ·cases h
   ·cases h
  ·cases h
 ·cases h
theorem clS_ok {T ty : TypeId} {tys : List TypeId} {x v : SV} {u : Value} (hx : Rel ρ x u) (h : clS P T x st = some (v, st')) (hs : Sim ρ D st w) (hD : ∀ x, x ∈ st'.R ∨ st.base ≤ x → D x) : Did P ρ D st st' w v (Builtin.clear_ (T :: tys).toArray ty #[u]) := by
 have nil : Rel ρ (.tup []) (.tuple #[]) := by rw [Rel]; exact ⟨[], RelL.nil, rfl⟩
 unfold clS at h
 split at h
 ·split at h
  ·rename_i d hu
   simp only [Option.some.injEq, Prod.mk.injEq] at h
   obtain ⟨rfl, rfl⟩ := h
   rw [Rel] at hx; subst hx
   exact Did.pure hs (by simp [Builtin.clear_, run_underlying hu]) nil
  ·cases h
 ·split at h
  ·rename_i d hu
   simp only [Option.some.injEq, Prod.mk.injEq] at h
   obtain ⟨rfl, rfl⟩ := h
   rw [Rel] at hx
   obtain ⟨ad, k, rfl⟩ := hx
   refine Did.pure hs ?_ nil
   cases ad <;> simp [Builtin.clear_, run_underlying hu]
  ·cases h
 ·rename_i b o n c
  rw [Rel] at hx
  obtain ⟨B, s, cap, hB, hc, rfl⟩ := hx
  split at h
  ·rename_i e sz by' z hT
   obtain ⟨hu, i, zv, hi, rfl, rfl, hz, rfl, hzc, hzl⟩ := slT_ok hT
   split at h
   ·simp only [Option.some.injEq, Prod.mk.injEq] at h
    obtain ⟨rfl, rfl⟩ := h
    exact Did.pure hs (by simp [Builtin.clear_, run_underlying hu]) nil
   ·rename_i n'
    have hones := (bif_of h).1
    replace h := (bif_of h).2
    obtain ⟨l, e', op, hg, h⟩ := rdK_some h
    obtain ⟨hl, h⟩ := wrK_some h
    rw [wtK_eq] at h
    simp only [Option.some.injEq, Prod.mk.injEq] at h
    obtain ⟨rfl, e2⟩ := h
    have hdx : D b := hD b (by rw [← e2]; rcases ins_has st.base b st.R with q | q; exact .inl (ins_sub _ _ _ _ q); exact .inr q)
    obtain ⟨b', s', pre, us, vs', q1, q2, qz, q3, q4, q5⟩ := hs.row hdx hg
    rw [hB] at q1; cases q1
    have hul := q3.len
    have hrow := zrow_rel (ρ := ρ) (RelL.raws (vcl zv)) (n' + 1)
    have hwl := hrow.len
    have hrow1 : ∀ u ∈ (List.replicate (n' + 1) (vcl zv)).flatten, u.oneCell' = true := by
     intro u hu
     rw [List.mem_flatten] at hu
     obtain ⟨l1, h1, h2⟩ := hu
     rw [List.mem_replicate] at h1
     rw [h1.2] at h2
     exact (RelL.raws (ρ := ρ) (vcl zv)).ones hones u h2
    obtain ⟨w', hr, a1, a2, a3, a4, a5, a6⟩ := run_storeCells_own (P := P) (b := B) (off := s.1 + o) (t := e') ((List.replicate (n' + 1) (vcl zv)).flatten) 0 w (pre ++ (us ++ vs')) q2 (by rw [← qz, Nat.add_zero]; simp only [List.length_append]; omega) hrow1
    refine ⟨.tuple #[], w', ρ, ?_, nil, ?_⟩
    ·have hzr : (Builtin.zeroCells zv.cells (n' + 1)).toList = (List.replicate (n' + 1) (vcl zv)).flatten := by
      have := range_mod (zs := vcl zv) (n' + 1)
      unfold Builtin.zeroCells
      rw [hzc]
      simpa using congrArg Array.toList this
     simp [Builtin.clear_, run_underlying hu, run_zeroValue (show Go.TH.zv P e = some zv from by simp [Go.TH.zv, hi, hz]), hzr, hr]
    ·rw [← e2]
     exact Step.wrow hs hdx hg hB qz q3 q4 q5 hrow hl (fun y hy => ins_sub _ _ _ _ (ins_sub _ _ _ _ hy)) (ins_sub _ _ _) (ins_has _ _ _) a1 a2 a3 a4 (by simpa using a5) a6
  ·cases h
 ·rename_i b
  split at h
  ·rename_i kt et hu
   obtain ⟨es, c, hg, h⟩ := rdMK_some h
   rw [wtK_eq] at h
   simp only [Option.some.injEq, Prod.mk.injEq] at h
   obtain ⟨rfl, rfl⟩ := h
   rw [Rel] at hx
   obtain ⟨B, s, hB, rfl⟩ := hx
   have hdx : D b := ins2_has rfl hD
   obtain ⟨b', s', ms, q1, q2, q3⟩ := hs.mapAt hdx hg
   rw [hB] at q1; cases q1
   refine ⟨.tuple #[], _, ρ, ?_, nil, Step.wmap (es' := []) (c' := c) (ms' := []) hs hdx hg hB q2 rfl (fun y hy => ins_sub _ _ _ _ (ins_sub _ _ _ _ hy)) (ins_sub _ _ _) (ins_has _ _ _)⟩
   simp [Builtin.clear_, run_underlying hu, run_getMap q2, run_setMap q2]
  ·cases h
 ·cases h
def rgS (P : Program) (T : TypeId) (x : SV) (st : St) : Option (SV × St) := match P.underlying T with
 | some (.map _ _) => match x with
  | .raw (.map none) => newK st (.iter none 0 [] 0) fun q st' => some (.ptr q 0, st')
  | .map b => rdMK st b fun _ c st1 => newK st1 (.iter (some b) c [] c) fun q st' => some (.ptr q 0, st')
  | _ => none
 | _ => none
def oldB (since : Nat) : List SEnt → Bool
 | [] => true
 | e :: r => bif Nat.blt e.born since then oldB since r else false
def leftS (seen : List Nat) : List SEnt → List SEnt
 | [] => []
 | e :: r => bif memb e.born seen then leftS seen r else e :: leftS seen r
def outsS (q : Nat) (m since clk : Nat) (seen : List Nat) (st : St) : List SEnt → Option (List (SV × St))
 | [] => some []
 | e :: r => wtK st q (.iter (some m) since (e.born :: seen) clk) fun st' => match outsS q m since clk seen st r with
  | some l => some ((.tup [.raw (.bool true), e.key, e.val], st') :: l)
  | none => none
def nxS (x : SV) (st : St) : Option (List (SV × St)) := match x with
 | .ptr q 0 => match st.h.get q with
  | some (.iter none _ _ _) => insK st.base q st.R fun R' => some [(.tup [.raw (.bool false)], ⟨st.h, st.nx, st.base, R', st.W⟩)]
  | some (.iter (some m) since seen last) => bif Nat.ble since last then rdMK st m fun es clk st1 => bif oldB since es then (match leftS seen es with
   | [] => insK st1.base q st1.R fun R' => some [(.tup [.raw (.bool false)], ⟨st1.h, st1.nx, st1.base, R', st1.W⟩)]
   | e :: r => outsS q m since clk seen st1 (e :: r)) else none else none
  | _ => none
 | _ => none
def nodupB : List SEnt → List Nat → Bool
 | [], _ => true
 | e :: r, l => bif memb e.born l then false else nodupB r (e.born :: l)
def enS (x : SV) (st : St) : Option (SV × St) := match x with
 | .ptr q 0 => match st.h.get q with
  | some (.iter (some m) _ (b :: _) last) => rdMK st m fun es clk st1 => bif Nat.beq clk last && nodupB es [] then (match bornI es b 0 with
   | some (_, e) => insK st1.base q st1.R fun R' => some (.tup [e.key, e.val], ⟨st1.h, st1.nx, st1.base, R', st1.W⟩)
   | none => none) else none
  | some (.itl m _ b last) => rdMK st m fun es clk st1 => bif Nat.beq clk last && nodupB es [] then (match bornI es b 0 with
   | some (_, e) => insK st1.base q st1.R fun R' => some (.tup [e.key, e.val], ⟨st1.h, st1.nx, st1.base, R', st1.W⟩)
   | none => none) else none
  | _ => none
 | _ => none
theorem rgS_ok {T : TypeId} {x v : SV} {u : Value} (hx : Rel ρ x u) (h : rgS P T x st = some (v, st')) (hs : Sim ρ D st w) (hD : ∀ x, x ∈ st'.R ∨ st.base ≤ x → D x) (hf : Free ρ st.nx st'.nx) : Did P ρ D st st' w v (Instr.range T u) := by
 unfold rgS at h
 split at h
 ·rename_i kt et hu
  split at h
  ·simp only [newK_eq, Option.some.injEq, Prod.mk.injEq] at h
   obtain ⟨e1, e2⟩ := h
   rw [Rel] at hx; subst hx
   refine Did.new (n := (0, 0)) hs hf e2.symm (u := .pointer (some ⟨w.heap.size, 0, none⟩)) (ob := .mapIter none 0 #[] 0) (w' := w.alloc (.mapIter none 0 #[] 0)) ?_ ⟨rfl, none, rfl, rfl⟩ rfl rfl rfl rfl (by rw [← e1]; exact rel_ptr0)
   simp [Instr.range, run_underlying hu]
  ·rename_i b
   obtain ⟨es, c, hg, h⟩ := rdMK_some h
   simp only [newK_eq, Option.some.injEq, Prod.mk.injEq] at h
   obtain ⟨e1, e2⟩ := h
   rw [Rel] at hx
   obtain ⟨B, s, hB, rfl⟩ := hx
   have hdx : D b := hD b (by rw [← e2]; exact ins_has _ _ _)
   obtain ⟨b', s', ms, q1, q2, q3⟩ := hs.mapAt hdx hg
   rw [hB] at q1; cases q1
   have hne : ρ st.nx = none := hf _ (Nat.le_refl _) (by rw [← e2]; exact Nat.lt_succ_self _)
   refine Did.after hs (ins_sub st.base b st.R) ?_
   refine Did.new (n := (0, 0)) (st := ⟨st.h, st.nx, st.base, ins st.base b st.R, st.W⟩) ⟨hs.live, hs.inj, hs.lt⟩ hf e2.symm (u := .pointer (some ⟨w.heap.size, 0, none⟩)) (ob := .mapIter (some B) c #[] c) (w' := w.alloc (.mapIter (some B) c #[] c)) ?_ ⟨rfl, some B, rfl, B, s, Ren.put_le hne _ _ hB, rfl⟩ rfl rfl rfl rfl (by rw [← e1]; exact rel_ptr0)
   simp [Instr.range, run_underlying hu, run_getMap q2]
  ·cases h
 ·cases h
theorem oldB_ok {since : Nat} {es : List SEnt} : ∀ {ms : List MapEntry}, MRel ρ es ms → oldB since es = true → ∀ x ∈ ms, x.born < since := by
 induction es with
 | nil => intro ms hm _ x hx; rw [MRel] at hm; subst hm; cases hx
 | cons a es ih =>
  intro ms hm h x hx
  rw [MRel] at hm
  obtain ⟨m, r, rfl, _, _, h4, h5⟩ := hm
  simp only [oldB] at h
  cases hb : Nat.blt a.born since with
  | false => rw [hb] at h; cases h
  | true =>
   rw [hb, cond_true] at h
   rcases List.mem_cons.1 hx with rfl | hx
   ·rw [h4]; exact Nat.blt_eq.mp hb
   ·exact ih h5 h x hx
theorem memb_iff {x : Nat} {l : List Nat} : memb x l = true ↔ x ∈ l := by
 constructor
 ·exact memb_mem
 ·intro h
  induction l with
  | nil => cases h
  | cons y r ih =>
   simp only [memb]
   cases hb : Nat.beq x y with
   | true => rfl
   | false =>
    rw [cond_false]
    rcases List.mem_cons.1 h with rfl | h
    ·rw [Nat.beq_refl] at hb; cases hb
    ·exact ih h
theorem leftS_ok {seen : List Nat} {es : List SEnt} : ∀ {ms : List MapEntry}, MRel ρ es ms → MRel ρ (leftS seen es) (ms.filter fun e => !seen.contains e.born) := by
 induction es with
 | nil => intro ms hm; rw [MRel] at hm; subst hm; rfl
 | cons a es ih =>
  intro ms hm
  rw [MRel] at hm
  obtain ⟨m, r, rfl, h2, h3, h4, h5⟩ := hm
  have e : seen.contains m.born = memb a.born seen := by
   rw [Bool.eq_iff_iff, memb_iff, List.contains_iff_mem, h4]
  simp only [leftS, List.filter_cons, e]
  cases memb a.born seen with
  | true => simpa using ih h5
  | false => simp only [cond_false, Bool.not_false, if_true, MRel]; exact ⟨m, _, rfl, h2, h3, h4, ih h5⟩
theorem outsS_at {q m since clk : Nat} {seen : List Nat} : ∀ {l : List SEnt} {L : List (SV × St)}, outsS q m since clk seen st l = some L → ∀ e ∈ l, ((.tup [.raw (.bool true), e.key, e.val] : SV), (⟨st.h.set q (some (.iter (some m) since (e.born :: seen) clk)), st.nx, st.base, ins st.base q st.R, ins st.base q st.W⟩ : St)) ∈ L
 | [], _, _, e, he => by cases he
 | a :: l, L, h, e, he => by
  simp only [outsS, wtK_eq] at h
  split at h
  ·rename_i L' hL
   simp only [Option.some.injEq] at h
   subst h
   rcases List.mem_cons.1 he with rfl | he
   ·exact List.mem_cons_self
   ·exact List.mem_cons_of_mem _ (outsS_at hL e he)
  ·cases h
theorem MRel.mem {es : List SEnt} : ∀ {ms : List MapEntry} {m : MapEntry}, MRel ρ es ms → m ∈ ms → ∃ e ∈ es, Rel ρ e.key m.key ∧ Rel ρ e.val m.val ∧ m.born = e.born := by
 induction es with
 | nil => intro ms m hm h; rw [MRel] at hm; subst hm; cases h
 | cons a es ih =>
  intro ms m hm h
  rw [MRel] at hm
  obtain ⟨m', r, rfl, h2, h3, h4, h5⟩ := hm
  rcases List.mem_cons.1 h with rfl | h
  ·exact ⟨a, by simp, h2, h3, h4⟩
  ·obtain ⟨e, he, hh⟩ := ih h5 h
   exact ⟨e, by simp [he], hh⟩
theorem nxS_ok {ty : TypeId} {x : SV} {u : Value} {L : List (SV × St)} (hx : Rel ρ x u) (h : nxS x st = some L) (hs : Sim ρ D st w) (hD : ∀ p ∈ L, ∀ x, x ∈ p.2.R ∨ st.base ≤ x → D x) : ∃ p ∈ L, Did P ρ D st p.2 w p.1 (Instr.next u false ty) := by
 have over : Rel ρ (.tup [.raw (.bool false)]) (.tuple #[.bool false]) := by rw [Rel]; exact ⟨[.bool false], RelL.cons (by rw [Rel]) RelL.nil, rfl⟩
 unfold nxS at h
 split at h
 ·rename_i q
  rw [Rel] at hx
  obtain ⟨Q, s, hQ, rfl⟩ := hx
  split at h
  ·rename_i a1 a2 a3 hg
   rw [insK_eq] at h
   simp only [Option.some.injEq] at h
   subst h
   refine ⟨_, List.mem_cons_self, ?_⟩
   have hd : D q := hD _ List.mem_cons_self q (ins_has _ _ _)
   obtain ⟨b', s', ob, q1, q2, q3⟩ := hs.live q _ hd hg
   rw [hQ] at q1; cases q1
   obtain ⟨h0, mb, rfl, rfl⟩ := q3
   refine ⟨_, w, ρ, ?_, over, Step.touch hs (ins_sub _ _ _) fun _ h => h⟩
   simp [Instr.next, h0, getObj, Sem.run, q2]
  ·rename_i m since seen last hg
   have hle := Nat.ble_eq.mp (bif_of h).1
   replace h := (bif_of h).2
   obtain ⟨es, clk, hm, h⟩ := rdMK_some h
   have hold := (bif_of h).1
   replace h := (bif_of h).2
   have hout : ∀ p ∈ L, q ∈ p.2.R ∨ st.base ≤ q := by
    intro p hp
    split at h
    ·rw [insK_eq] at h
     simp only [Option.some.injEq] at h
     subst h
     rw [List.mem_singleton] at hp
     subst hp
     exact ins_has _ _ _
    ·rename_i e r he
     have : ∀ {l : List SEnt} {L : List (SV × St)} {s : St}, outsS q m since clk seen s l = some L → ∀ p ∈ L, q ∈ p.2.R ∨ s.base ≤ q := by
      intro l
      induction l with
      | nil => intro L s h p hp; simp only [outsS, Option.some.injEq] at h; subst h; cases hp
      | cons a l ih =>
       intro L s h p hp
       simp only [outsS, wtK_eq] at h
       split at h
       ·rename_i L' hL
        simp only [Option.some.injEq] at h
        subst h
        rcases List.mem_cons.1 hp with rfl | hp
        ·exact ins_has _ _ _
        ·exact ih hL p hp
       ·cases h
     exact this h p hp
   have hmem : ∃ p, p ∈ L := by
    split at h
    ·rw [insK_eq] at h
     simp only [Option.some.injEq] at h
     subst h
     exact ⟨_, List.mem_cons_self⟩
    ·exact ⟨_, outsS_at h _ List.mem_cons_self⟩
   obtain ⟨p0, hp0⟩ := hmem
   have hdq : D q := hD p0 hp0 q (hout p0 hp0)
   have hdm : D m := by
    have hR : ∀ p ∈ L, m ∈ p.2.R ∨ st.base ≤ m := by
     intro p hp
     split at h
     ·rw [insK_eq] at h
      simp only [Option.some.injEq] at h
      subst h
      rw [List.mem_singleton] at hp
      subst hp
      rcases ins_has st.base m st.R with q | q
      ·exact .inl (ins_sub _ _ _ _ q)
      ·exact .inr q
     ·rename_i e r he
      have : ∀ {l : List SEnt} {L : List (SV × St)} {s : St}, outsS q m since clk seen s l = some L → ∀ p ∈ L, ∀ x, x ∈ s.R → x ∈ p.2.R := by
       intro l
       induction l with
       | nil => intro L s h p hp; simp only [outsS, Option.some.injEq] at h; subst h; cases hp
       | cons a l ih =>
        intro L s h p hp x hx
        simp only [outsS, wtK_eq] at h
        split at h
        ·rename_i L' hL
         simp only [Option.some.injEq] at h
         subst h
         rcases List.mem_cons.1 hp with rfl | hp
         ·exact ins_sub _ _ _ _ hx
         ·exact ih hL p hp x hx
        ·cases h
      rcases ins_has st.base m st.R with q | q
      ·exact .inl (this h p hp m q)
      ·exact .inr q
    exact hD p0 hp0 m (hR p0 hp0)
   obtain ⟨b', s', ob, q1, q2, q3⟩ := hs.live q _ hdq hg
   rw [hQ] at q1; cases q1
   obtain ⟨h0, mb, rfl, M, z, hM, rfl⟩ := q3
   obtain ⟨b2, s2, ms, r1, r2, r3⟩ := hs.mapAt hdm hm
   rw [hM] at r1; cases r1
   have hQ0 : (.pointer (some ⟨Q, s.1 + 0, none⟩) : Value) = .pointer (some ⟨Q, 0, none⟩) := by rw [h0]
   rw [hQ0]
   have hleft := leftS_ok (seen := seen) r3
   have hlo : (leftOf ms.toArray seen.reverse.toArray).toList = ms.filter fun e => !seen.contains e.born := by
    unfold leftOf
    rw [Array.toList_filter]
    congr 1
    funext e
    simp
   rcases run_next_at (P := P) w ty Q M since last seen.reverse.toArray ms.toArray clk q2 r2 (by simpa using oldB_ok r3 hold) hle with ⟨e0, er⟩ | ⟨e, he, w1, hw1, er⟩
   ·have hl0 : leftS seen es = [] := by
     have hz : (leftOf ms.toArray seen.reverse.toArray).toList = [] := List.eq_nil_of_length_eq_zero (by simpa using e0)
     rw [hlo] at hz
     rw [hz] at hleft
     cases hq : leftS seen es with
     | nil => rfl
     | cons a r => rw [hq, MRel] at hleft; obtain ⟨_, _, h, _⟩ := hleft; cases h
    rw [hl0, insK_eq] at h
    simp only [Option.some.injEq] at h
    subst h
    refine ⟨_, List.mem_cons_self, _, w, ρ, er, over, ?_⟩
    exact Step.touch hs (fun x hx => ins_sub _ _ _ _ (ins_sub _ _ _ _ hx)) fun _ h => h
   ·rw [hlo] at he
    obtain ⟨e', he', k1, k2, k3⟩ := hleft.mem he
    have hin : (.tup [.raw (.bool true), e'.key, e'.val], (⟨st.h.set q (some (.iter (some m) since (e'.born :: seen) clk)), st.nx, st.base, ins st.base q (ins st.base m st.R), ins st.base q st.W⟩ : St)) ∈ L := by
     split at h
     ·rename_i hl0; rw [hl0] at he'; cases he'
     ·rename_i a r hl0
      rw [hl0] at he'
      exact outsS_at (st := ⟨st.h, st.nx, st.base, ins st.base m st.R, st.W⟩) h e' he'
    refine ⟨_, hin, _, _, ρ, er, ?_, ?_⟩
    ·rw [Rel]; exact ⟨[.bool true, e.key, e.val], RelL.cons (by rw [Rel]) (RelL.cons k1 (RelL.cons k2 RelL.nil)), rfl⟩
    ·have hlt : Q < w.heap.size := (Array.getElem?_eq_some_iff.1 q2).1
     have hw2 : w1.heap = w.heap ∧ w1.os = w.os ∧ w1.tape = w.tape ∧ w1.output = w.output := by rcases hw1 with rfl | rfl <;> exact ⟨rfl, rfl, rfl, rfl⟩
     refine Step.upd hs hdq (by rw [hg]; simp) hQ (o := .iter (some m) since (e'.born :: seen) clk) (ob := .mapIter (some M) since (seen.reverse.toArray.push e.born) clk) ⟨h0, some M, by rw [k3]; simp, M, z, hM, rfl⟩ (fun x hx => ins_sub _ _ _ _ (ins_sub _ _ _ _ hx)) (ins_sub _ _ _) (ins_has _ _ _) hw2.2.1 hw2.2.2.1 hw2.2.2.2 (by simp [ChangeMaps.setBlock, hw2.1]) (by simp [ChangeMaps.setBlock, hw2.1, hlt]) (fun k hk => by simp [ChangeMaps.setBlock, hw2.1, Ne.symm hk])
  ·cases h
 ·cases h
theorem nodupB_ok {es : List SEnt} : ∀ {ms : List MapEntry} {l : List Nat}, MRel ρ es ms → nodupB es l = true → (ms.map (·.born)).Nodup ∧ ∀ x ∈ ms.map (·.born), x ∉ l := by
 induction es with
 | nil => intro ms l hm _; rw [MRel] at hm; subst hm; simp
 | cons a es ih =>
  intro ms l hm h
  rw [MRel] at hm
  obtain ⟨m, r, rfl, _, _, h4, h5⟩ := hm
  simp only [nodupB] at h
  cases hb : memb a.born l with
  | true => rw [hb] at h; cases h
  | false =>
   rw [hb, cond_false] at h
   obtain ⟨g1, g2⟩ := ih h5 h
   have hna : a.born ∉ l := fun q => by rw [memb_iff.2 q] at hb; cases hb
   rw [List.map_cons, List.nodup_cons, h4]
   refine ⟨⟨fun q => g2 _ q List.mem_cons_self, g1⟩, fun x hx => ?_⟩
   rcases List.mem_cons.1 hx with rfl | hx
   ·exact hna
   ·exact fun q => g2 x hx (List.mem_cons_of_mem _ q)
theorem bornI_mem {n : Nat} {es : List SEnt} : ∀ {ms : List MapEntry} {i j : Nat} {e : SEnt}, MRel ρ es ms → bornI es n i = some (j, e) → ∃ m ∈ ms, Rel ρ e.key m.key ∧ Rel ρ e.val m.val ∧ m.born = n := by
 induction es with
 | nil => intro ms i j e hm h; simp [bornI] at h
 | cons a es ih =>
  intro ms i j e hm h
  rw [MRel] at hm
  obtain ⟨m, q, rfl, h2, h3, h4, h5⟩ := hm
  simp only [bornI] at h
  cases hb : Nat.beq a.born n with
  | true =>
   rw [hb, cond_true] at h
   simp only [Option.some.injEq, Prod.mk.injEq] at h
   obtain ⟨rfl, rfl⟩ := h
   exact ⟨m, by simp, h2, h3, h4.trans (Nat.eq_of_beq_eq_true hb)⟩
  | false =>
   rw [hb, cond_false] at h
   obtain ⟨m', g1, g2⟩ := ih h5 h
   exact ⟨m', by simp [g1], g2⟩
theorem enS_ok {x v : SV} {u : Value} (hx : Rel ρ x u) (h : enS x st = some (v, st')) (hs : Sim ρ D st w) (hD : ∀ x, x ∈ st'.R ∨ st.base ≤ x → D x) : Did P ρ D st st' w v (Instr.entry u) := by
 unfold enS at h
 split at h
 ·rename_i q
  rw [Rel] at hx
  obtain ⟨Q, s, hQ, rfl⟩ := hx
  split at h
  ·rename_i m since b seen last hg
   obtain ⟨es, clk, hm, h⟩ := rdMK_some h
   have hc := (bif_of h).1
   replace h := (bif_of h).2
   rw [Bool.and_eq_true] at hc
   have hclk := Nat.eq_of_beq_eq_true hc.1
   split at h
   case h_2 => cases h
   rename_i j e hb
   rw [insK_eq] at h
   simp only [Option.some.injEq, Prod.mk.injEq] at h
   obtain ⟨rfl, rfl⟩ := h
   have hdq : D q := hD q (ins_has _ _ _)
   have hdm : D m := hD m (by
    rcases ins_has st.base m st.R with q | q
    ·exact .inl (ins_sub _ _ _ _ q)
    ·exact .inr q)
   obtain ⟨b', s', ob, q1, q2, q3⟩ := hs.live q _ hdq hg
   rw [hQ] at q1; cases q1
   obtain ⟨h0, mb, rfl, M, z, hM, rfl⟩ := q3
   obtain ⟨b2, s2, ms, r1, r2, r3⟩ := hs.mapAt hdm hm
   rw [hM] at r1; cases r1
   obtain ⟨e', he', k1, k2, k3⟩ := bornI_mem r3 hb
   have hQ0 : (.pointer (some ⟨Q, s.1 + 0, none⟩) : Value) = .pointer (some ⟨Q, 0, none⟩) := by rw [h0]
   rw [hQ0]
   have er := run_entry_at (P := P) w Q M since seen.reverse.toArray ms.toArray clk e' (by rw [q2, k3, hclk]; simp) r2 (by simpa using he') (by simpa using (nodupB_ok r3 hc.2).1)
   refine ⟨_, w, ρ, er, ?_, Step.touch hs (fun x hx => ins_sub _ _ _ _ (ins_sub _ _ _ _ hx)) fun _ h => h⟩
   rw [Rel]; exact ⟨[e'.key, e'.val], RelL.cons k1 (RelL.cons k2 RelL.nil), rfl⟩
  ·rename_i m since b last hg
   obtain ⟨es, clk, hm, h⟩ := rdMK_some h
   have hc := (bif_of h).1
   replace h := (bif_of h).2
   rw [Bool.and_eq_true] at hc
   have hclk := Nat.eq_of_beq_eq_true hc.1
   split at h
   case h_2 => cases h
   rename_i j e hb
   rw [insK_eq] at h
   simp only [Option.some.injEq, Prod.mk.injEq] at h
   obtain ⟨rfl, rfl⟩ := h
   have hdq : D q := hD q (ins_has _ _ _)
   have hdm : D m := hD m (by
    rcases ins_has st.base m st.R with q | q
    ·exact .inl (ins_sub _ _ _ _ q)
    ·exact .inr q)
   obtain ⟨b', s', ob, q1, q2, q3⟩ := hs.live q _ hdq hg
   rw [hQ] at q1; cases q1
   obtain ⟨h0, M, z, l, hM, rfl⟩ := q3
   obtain ⟨b2, s2, ms, r1, r2, r3⟩ := hs.mapAt hdm hm
   rw [hM] at r1; cases r1
   obtain ⟨e', he', k1, k2, k3⟩ := bornI_mem r3 hb
   have hQ0 : (.pointer (some ⟨Q, s.1 + 0, none⟩) : Value) = .pointer (some ⟨Q, 0, none⟩) := by rw [h0]
   rw [hQ0]
   have er := run_entry_at (P := P) w Q M since l.toArray ms.toArray clk e' (by rw [q2, k3, hclk]; simp) r2 (by simpa using he') (by simpa using (nodupB_ok r3 hc.2).1)
   refine ⟨_, w, ρ, er, ?_, Step.touch hs (fun x hx => ins_sub _ _ _ _ (ins_sub _ _ _ _ hx)) fun _ h => h⟩
   rw [Rel]; exact ⟨[e'.key, e'.val], RelL.cons k1 (RelL.cons k2 RelL.nil), rfl⟩
  ·cases h
 ·cases h
end
end Go.TX
namespace Go.TX
open Go Go.TH
noncomputable section
def ncS (x : SV) : Option SV := match x with
 | .ptr b o => some (.ptr b o)
 | .fn f l m => some (.fn f l m)
 | .yield b => some (.yield b)
 | .raw (.func f l m) => match f with
  | .func _ => some (.raw (.func f l m))
  | _ => none
 | _ => none
def pkS (c x y : SV) : Option SV := match c with
 | .raw (.bool true) => some x
 | .raw (.bool false) => some y
 | _ => none
def withS (v : Option SV) (st : St) : Option (SV × St) := match v with
 | some v => some (v, st)
 | none => none
def mxS (P : Program) (mx : Bool) (ats : List TypeId) (ty : TypeId) (xs : List SV) : Option SV := match raws xs with
 | some vs => match pv P (match mx with | true => Builtin.max_ ats.toArray ty vs.toArray | false => Builtin.min_ ats.toArray ty vs.toArray) with
  | some v => valV v
  | none => none
 | none => none
def biS (P : Program) (b : Builtin) (ats : List TypeId) (ty : TypeId) (xs : List SV) (st : St) : Option (SV × St) := match b with
 | .len => match ats with
  | [T] => match xs with
   | [x] => lnS P T x st
   | _ => none
  | _ => none
 | .append => match ats with
  | [T, T'] => match xs with
   | [x, y] => apS P T T' x y st
   | _ => none
  | _ => none
 | .copy => match ats with
  | T :: _ => match xs with
   | [x, y] => cpS P T x y st
   | _ => none
  | _ => none
 | .max => withS (mxS P true ats ty xs) st
 | .min => withS (mxS P false ats ty xs) st
 | .delete => match ats with
  | T :: _ => match xs with
   | [x, i] => deS P T x i st
   | _ => none
  | _ => none
 | .clear => match ats with
  | T :: _ => match xs with
   | [x] => clS P T x st
   | _ => none
  | _ => none
 | _ => none
def opS (P : Program) (env : Tr SV) (op : Op) (st : St) : Option (SV × St) := match op with
 | .move x => some (svOp env x, st)
 | .assign x => some (svOp env x, st)
 | .pick c x y => withS (pkS (svOp env c) (svOp env x) (svOp env y)) st
 | .alloc T => alS P T st
 | .box T x => bxS T (svOp env x) st
 | .build T parts => withS (bdS P T (svParts env parts.toList)) st
 | .buildSlice T len parts => bsS P T len (svParts env parts.toList) st
 | .load T x => ldS P T (svOp env x) st
 | .store T x v => stS P T (svOp env x) (svOp env v) st
 | .nilCheck x => withS (ncS (svOp env x)) st
 | .binOp op T x y _ => withS (boS P op T x y (svOp env x) (svOp env y)) st
 | .unOp op _ x => withS (unS P op (svOp env x)) st
 | .convert T T' x => withS (cvS P T T' (svOp env x)) st
 | .makeFunc f first cap => match f with
  | .func f => some (.fn f (svOps env first.toList) (svOps env cap.toList), st)
  | _ => none
 | .makeMap _ r => match r with
  | none => mmS none st
  | some _ => none
 | .makeSlice T l c => mkS P T (svOp env l) (svOp env c) st
 | .slice T x lo hi mx => slS P T (svOp env x) (lo.map (svOp env)) (hi.map (svOp env)) (mx.map (svOp env)) st
 | .fieldAddr T x f => withS (faS P T f (svOp env x)) st
 | .field T x f => withS (fdS P T f (svOp env x)) st
 | .indexAddr T x i => withS (iaS P T (svOp env x) (svOp env i)) st
 | .index T x i => withS (ixS P T (svOp env x) (svOp env i)) st
 | .lookup T x i ok => lkS P T (svOp env x) (svOp env i) ok st
 | .mapUpdate T x i v => muS P T (svOp env x) (svOp env i) (svOp env v) st
 | .insert T x i v => muS P T (svOp env x) (svOp env i) (svOp env v) st
 | .mapEntry T x i => meS P T (svOp env x) (svOp env i) st
 | .entryStore _ x i v => esS (svOp env x) (svOp env i) (svOp env v) st
 | .extract x i => withS (exS (svOp env x) i) st
 | .range T x => rgS P T (svOp env x) st
 | .entry x => enS (svOp env x) st
 | _ => none
def eqL {α : Type} (f : α → α → Bool) : List α → List α → Bool
 | [], [] => true
 | x :: l, y :: r => bif f x y then eqL f l r else false
 | _, _ => false
def eqC : Cap → Cap → Bool
 | .kn n, .kn m => Nat.beq n m
 | .rest n, .rest m => Nat.beq n m
 | _, _ => false
def eqW : Value → Value → Bool
 | .pointer none, .pointer none => true
 | .slice none n k, .slice none n' k' => Nat.beq n n' && Nat.beq k k'
 | .map none, .map none => true
 | .nilFunc, .nilFunc => true
 | .nilIface, .nilIface => true
 | .tuple ⟨[]⟩, .tuple ⟨[]⟩ => true
 | v, u => veq v u
mutual
def eqV : SV → SV → Bool
 | .raw v, .raw u => eqW v u
 | .ptr b o, .ptr b' o' => Nat.beq b b' && Nat.beq o o'
 | .sl b o n c, .sl b' o' n' c' => Nat.beq b b' && Nat.beq o o' && Nat.beq n n' && eqC c c'
 | .sl0, .sl0 => true
 | .map b, .map b' => Nat.beq b b'
 | .fn f l m, .fn f' l' m' => Nat.beq f f' && eqVs l l' && eqVs m m'
 | .yield b, .yield b' => Nat.beq b b'
 | .agg l, .agg l' => eqVs l l'
 | .tup l, .tup l' => eqVs l l'
 | _, _ => false
def eqVs : List SV → List SV → Bool
 | [], [] => true
 | x :: l, y :: r => bif eqV x y then eqVs l r else false
 | _, _ => false
end
def eqE (x y : SEnt) : Bool := eqV x.key y.key && eqV x.val y.val && Nat.beq x.born y.born
def eqB : Bool → Bool → Bool
 | true, true => true
 | false, false => true
 | _, _ => false
def eqO : SO → SO → Bool
 | .cells l e op, .cells l' e' op' => eqVs l l' && Nat.beq e e' && eqB op op'
 | .map es c, .map es' c' => eqL eqE es es' && Nat.beq c c'
 | .dfr a, .dfr b => eqB a b
 | .iter (some m) s l t, .iter (some m') s' l' t' => Nat.beq m m' && Nat.beq s s' && eqL Nat.beq l l' && Nat.beq t t'
 | .iter none s l t, .iter none s' l' t' => Nat.beq s s' && eqL Nat.beq l l' && Nat.beq t t'
 | _, _ => false
def eqS : LoopState → LoopState → Bool
 | .ready, .ready => true
 | .busy, .busy => true
 | .done, .done => true
 | .exhausted, .exhausted => true
 | _, _ => false
def eqJ : Option Code → Option Code → Bool
 | none, none => true
 | some (.exit a), some (.exit b) => Nat.beq a b
 | some (.goto a), some (.goto b) => Nat.beq a b
 | some .ret, some .ret => true
 | _, _ => false
def eqLp : SO → SO → Bool
 | .loop r, .loop r' => eqS r.state r'.state && eqJ r.pending r'.pending
 | _, _ => false
def meetK {β : Type} (n0 : Nat) (h1 h2 : Tr SO) : Nat → Tr SO → (Tr SO → Option β) → Option β
 | 0, h, k => k h
 | n + 1, h, k => match h1.get n with
  | some o1 => match h2.get n with
   | some o2 => bif eqO o1 o2 || (Nat.blt n n0 && eqLp o1 o2) then h.setK n (some o1) fun h' => meetK n0 h1 h2 n h' k else (bif Nat.ble n0 n then meetK n0 h1 h2 n h k else none)
   | none => bif Nat.ble n0 n then meetK n0 h1 h2 n h k else none
  | none => match h2.get n with
   | some _ => bif Nat.ble n0 n then meetK n0 h1 h2 n h k else none
   | none => meetK n0 h1 h2 n h k
def join2 (n0 : Nat) (p q : SV × St) : Option (SV × St) := match p with
 |(v, ⟨h, nx, b, R, W⟩) => match q with
  |(v', ⟨h', nx', b', R', W'⟩) => bif eqV v v' then (bif Nat.beq nx nx' then (bif Nat.beq b b' then meetK n0 h h' nx .lf fun h2 => appK R R' fun R2 => appK W W' fun W2 => some (v, ⟨h2, nx, b, R2, W2⟩) else none) else none) else none
def joinA (n0 : Nat) : SV × St → List (SV × St) → Option (SV × St)
 | p, [] => some p
 | p, q :: r => match join2 n0 p q with
  | some p' => joinA n0 p' r
  | none => none
def joinL (n0 : Nat) : List (SV × St) → List (SV × St)
 | [] => []
 | p :: l => match l with
  | [] => [p]
  | q :: r => match joinA n0 p (q :: r) with
   | some p' => [p']
   | none => p :: q :: r
inductive Ex where
 | nrm
 | ext (id : Nat)
 | gto (l : Nat)
 | ret
abbrev Out := Ex × Tr SV × List Nat × St
abbrev Rec := Option Nat → Nat → Code → Tr SV → List Nat → St → Option (List Out)
abbrev Sums := FuncId → Option (List SV → St → Option (SV × St))
def mapB {α β : Type} (f : α → Option (List β)) : List α → Option (List β)
 | [] => some []
 | x :: r => match f x with
  | some l => match r with
   | [] => some l
   | y :: r' => match mapB f (y :: r') with
    | some l' => some (l ++ l')
    | none => none
  | none => none
def oneL {α : Type} (r : Option α) : Option (List α) := match r with
 | some p => some [p]
 | none => none
section
variable (P : Program) (sm : Sums) (rec : Rec)
def envK {β : Type} : List SV → Nat → Tr SV → (Tr SV → Option β) → Option β
 | [], _, env, k => k env
 | x :: r, i, env, k => env.setK i (some x) fun env' => envK r (Nat.succ i) env' k
def shutK {β : Type} : List Nat → St → (St → Option β) → Option β
 | [], st, k => k st
 | d :: r, st, k => match st.h.get d with
  | some (.dfr false) => wtK st d (.dfr true) fun st' => shutK r st' k
  | _ => none
def rvK (env : Tr SV) (r : ResultVar) (st : St) : Option (SV × St) := match r with
 | .tmp t => some (svOp env (.tmp t), st)
 | .cell a T => ldS P T (svOp env (.tmp a)) st
def resK (env : Tr SV) : List ResultVar → St → (List SV → St → Option (SV × St)) → Option (SV × St)
 | [], st, k => k [] st
 | r :: rs, st, k => match rvK P env r st with
  | some (v, st') => resK env rs st' fun vs st2 => k (v :: vs) st2
  | none => none
def oneOf (vs : List SV) : SV := match vs with
 | [v] => v
 | vs => .tup vs
def finS (fn : Func) (o : Out) : Option (SV × St) := match o with
 |(e, env, ds, st) => match e with
  | .nrm => shutK ds st fun st2 => resK P env fn.results.toList st2 fun vs st3 => some (oneOf vs, st3)
  | .ret => shutK ds st fun st2 => resK P env fn.results.toList st2 fun vs st3 => some (oneOf vs, st3)
  | _ => none
def exF (f : FuncId) (args : List SV) (st : St) : Option (List (SV × St)) := match sm f with
 | some s => oneL (s args st)
 | none => match P.funcs[f]? with
  | some fn => match fn.body with
   | some c => bif Nat.ble (llen args) fn.ntmps then envK args 0 .lf fun env => match rec none fn.ntmps c env [] st with
    | some L => match mapB (fun o => oneL (finS P fn o)) L with
     | some R => some (joinL st.nx R)
     | none => none
    | none => none
    else none
   | none => none
  | none => none
def jmpOf : Ex → Option Code
 | .nrm => none
 | .ext id => some (.exit id)
 | .gto l => some (.goto l)
 | .ret => some .ret
def putsK {β : Type} : List Tmp → List SV → Nat → Tr SV → (Tr SV → Option β) → Option β
 | [], [], _, env, k => k env
 | t :: ts, x :: xs, N, env, k => bif Nat.blt t N then env.setK t (some x) fun env' => putsK ts xs N env' k else none
 | _, _, _, _, _ => none
def yEnd (l : Nat) (o : Out) : Option (SV × St) := match o with
 |(e3, _, _, st3) => match st3.h.get l with
  | some (.loop r3) => match jmpOf e3 with
   | none => wtK st3 l (.loop { r3 with state := .ready, pending := none }) fun st4 => some (.raw (.bool true), st4)
   | some c => wtK st3 l (.loop { r3 with state := .done, pending := some c }) fun st4 => some (.raw (.bool false), st4)
  | _ => none
def exYb (l : Nat) (r : SLoop) (env : Tr SV) (st : St) : Option (List (SV × St)) := match rec (some l) r.N r.assign env [] st with
 | some [(e, env1, ds1, st1)] => match e with
  | .nrm => match st1.h.get l with
   | some (.loop r1) => match r1.state with
    | .ready => wtK st1 l (.loop { r1 with state := .busy }) fun st2 => match rec (some l) r.N r.body env1 ds1 st2 with
     | some L => mapB (fun o => oneL (yEnd l o)) L
     | none => none
    | _ => none
   | _ => none
  | _ => none
 | _ => none
def exY (l : Nat) (args : List SV) (st : St) : Option (List (SV × St)) := match st.h.get l with
 | some (.loop r) => putsK r.params.toList args r.N r.tmps fun env => exYb rec l r env st
 | _ => none
def appS : List SV → List SV → List SV
 | [], r => r
 | x :: l, r => x :: appS l r
def exO (env : Tr SV) (o : Oper) (st : St) : Option (List (SV × St)) := match o.op with
 | .call c => match c.callee with
  | .builtin b => oneL (biS P b c.argTypes.toList o.type (svOps env c.args.toList) st)
  | .value x => match svOp env x with
   | .fn f first cap => exF P sm rec f (appS first (appS (svOps env c.args.toList) cap)) st
   | .yield l => exY rec l (svOps env c.args.toList) st
   | _ => none
  | _ => none
 | .next x s => match s with
  | false => nxS (svOp env x) st
  | true => none
 | op => oneL (opS P env op st)
def putK {β : Type} (N : Nat) (env : Tr SV) (d : Option Tmp) (v : SV) (k : Tr SV → Option β) : Option β := match d with
 | none => k env
 | some d => bif Nat.blt d N then env.setK d (some v) k else none
def beqB : Bool → Bool → Bool
 | true, true => true
 | false, false => true
 | _, _ => false
def wantS (ops : List Oper) (env : Tr SV) (o : Oper) : Option Bool := match o.guard with
 | none => some true
 | some (j, want) => match nth ops j with
  | some oj => match oj.dst with
   | some d => match env.get d with
    | some (.raw v) => match v with
     | .bool b => some (beqB b want)
     | _ => some false
    | some (.tup _) => some false
    | _ => none
   | none => none
  | none => none
def exL (N : Nat) (ops : List Oper) : List Oper → Tr SV → St → Option (List (Tr SV × St))
 | [], env, st => some [(env, st)]
 | o :: r, env, st => match wantS ops env o with
  | some true => match exO P sm rec env o st with
   | some L => mapB (fun p => putK N env o.dst p.1 fun env' => exL N ops r env' p.2) L
   | none => none
  | some false => putK N env o.dst (.raw undef) fun env' => exL N ops r env' st
  | none => none
structure Tc where
 R : List Nat
 W : List Nat
 a : Nat
 b : Nat
 /-- nothing is written or made -/
 q : Bool
def quietB : List Nat → Nat → Nat → Bool
 | [], a, b => Nat.beq a b
 | _ :: _, _, _ => false
def mrgK {β : Type} (h' : Tr SO) : List Nat → Tr SO → (Tr SO → Option β) → Option β
 | [], h, k => k h
 | x :: r, h, k => match h'.get x with
  | some o => h.setK x (some o) fun h2 => mrgK h' r h2 k
  | none => h.setK x none fun h2 => mrgK h' r h2 k
def rngK {β : Type} (h' : Tr SO) : Nat → Nat → Tr SO → (Tr SO → Option β) → Option β
 | 0, _, h, k => k h
 | n + 1, x, h, k => match h'.get x with
  | some o => h.setK x (some o) fun h2 => natK (Nat.succ x) fun x' => rngK h' n x' h2 k
  | none => h.setK x none fun h2 => natK (Nat.succ x) fun x' => rngK h' n x' h2 k
def okW (nx : Nat) (R : List Nat) : List Nat → Bool
 | [] => true
 | x :: r => bif Nat.blt x nx then (bif memb x R then okW nx R r else false) else false
def endK {β : Type} (h : Tr SO) (nx : Nat) (st' : St) (k : Tr SO → Nat → Tc → Option β) : Option β := match st' with
 | ⟨h', nx', _, R, W⟩ => bif quietB W nx nx' then k h nx ⟨R, [], nx, nx, true⟩ else
  (bif Nat.ble nx nx' then (bif okW nx R W then mrgK h' W h fun h1 => rngK h' (nx' - nx) nx h1 fun h2 => k h2 nx' ⟨R, W, nx, nx', false⟩ else none) else none)
def exR (N : Nat) (ops : List Oper) : List Oper → Tr SV → Tr SO → Nat → List Tc → Option (Tr SV × Tr SO × Nat × List Tc)
 | [], env, h, nx, acc => some (env, h, nx, acc)
 | o :: r, env, h, nx, acc => match wantS ops env o with
  | some true => match exO P sm rec env o ⟨h, nx, nx, [], []⟩ with
   | some [(v, st')] => endK h nx st' fun h2 nx2 t => putK N env o.dst v fun env' => exR N ops r env' h2 nx2 (t :: acc)
   | _ => none
  | some false => putK N env o.dst (.raw undef) fun env' => exR N ops r env' h nx (⟨[], [], nx, nx, true⟩ :: acc)
  | none => none
def disj : List Nat → List Nat → Bool
 | [], _ => true
 | x :: r, l => bif memb x l then false else disj r l
def outR (a b : Nat) : List Nat → Bool
 | [] => true
 | x :: r => bif Nat.ble a x && Nat.blt x b then false else outR a b r
def sepF (t u : Tc) : Bool := disj t.W u.R && disj t.W u.W && disj t.R u.W && outR t.a t.b u.R
def sepT (t u : Tc) : Bool := match t.q with
 | true => match u.q with
  | true => true
  | false => sepF t u
 | false => sepF t u
def allQ : List Tc → Bool
 | [] => true
 | t :: r => match t.q with
  | true => allQ r
  | false => false
def bitB (m i : Nat) : Bool := Nat.beq (Nat.land (Nat.shiftRight m i) 1) 1
def cloB : List (List Nat) → List Nat → List Nat
 | [], acc => acc
 | af :: r, acc => cloB r (natK (go acc (llen acc) af 0) fun m => m :: acc)
where
 /-- the bits of those that it names, and of theirs -/
 go (acc : List Nat) (n : Nat) : List Nat → Nat → Nat
  | [], m => m
  | j :: js, m => match nth acc (n - 1 - j) with
   | some mj => go acc n js (Nat.lor m (Nat.lor mj (Nat.shiftLeft 1 j)))
   | none => go acc n js m
def sepAll : List Tc → List Nat → Bool
 | [], _ => true
 | u :: r, m :: ms => sepU u m r (llen r) && sepAll r ms
 | _ :: _, [] => false
where
 sepU (u : Tc) (m : Nat) : List Tc → Nat → Bool
  | [], _ => true
  | t :: r, n => bif sepT t u then sepU u m r (n - 1) else (bif bitB m (n - 1) then sepU u m r (n - 1) else false)
def afsL (o : Oper) : List Nat := go o.after.toList
where
 go : List Edge → List Nat
  | [] => []
  | e :: r => match e.ground with
   | .textOnly _ => go r
   | .gcOnly _ => go r
   | _ => e.on :: go r
def afsAll : List Oper → List (List Nat)
 | [] => []
 | o :: r => afsL o :: afsAll r
def cloO (ops : List Oper) : List Nat := cloB (afsAll ops) []
def apAll (ops : Array Oper) : List Oper → List Nat → Bool
 | [], _ => true
 | u :: r, m :: ms => apU u m r (llen r) && apAll ops r ms
 | _ :: _, [] => false
where
 apU (u : Oper) (m : Nat) : List Oper → Nat → Bool
  | [], _ => true
  | t :: r, n => bif bitB m (n - 1) then apU u m r (n - 1) else (bif t.apart ops u then apU u m r (n - 1) else false)
def ltAll : List Nat → Nat → Bool
 | [], _ => true
 | j :: r, i => bif Nat.blt j i then ltAll r i else false
def backAll : List (List Nat) → Nat → Bool
 | [], _ => true
 | a :: r, i => bif ltAll a i then backAll r (Nat.succ i) else false
def revK {α : Type} : List α → List α → List α
 | [], acc => acc
 | x :: r, acc => revK r (x :: acc)
def statD (ops : Array Oper) : Bool := backAll (afsAll ops.toList) 0 && apAll ops (revK ops.toList []) (cloO ops.toList)
def insAllK {β : Type} (b : Nat) : List Nat → List Nat → (List Nat → β) → β
 | [], R, k => k R
 | x :: r, R, k => insK b x R fun R' => insAllK b r R' k
def tellK {β : Type} (b : Nat) : List Tc → List Nat → List Nat → (List Nat → List Nat → β) → β
 | [], R, W, k => k R W
 | t :: r, R, W, k => insAllK b t.R R fun R' => insAllK b t.W W fun W' => tellK b r R' W' k
def exD (N : Nat) (ops : Array Oper) (env : Tr SV) (st : St) : Option (Tr SV × St) := match st with
 | ⟨h, nx, b, R, W⟩ => bif statD ops then (match exR P sm rec N ops.toList ops.toList env h nx [] with
  | some (env', h', nx', ts) => bif allQ ts || sepAll ts (cloO ops.toList) then tellK b ts R W fun R' W' => some (env', ⟨h', nx', b, R', W'⟩) else none
  | none => none) else none
def rfE (ro : Option Nat) (N : Nat) (env : Tr SV) (ds0 : List Nat) (l : Nat) (st3 : St) : Option (List Out) := match st3.h.get l with
 | some (.loop r) => match r.state with
  | .busy => none
  | _ => wtK st3 l (.loop { r with state := .exhausted }) fun st4 => match r.pending with
   | none => some [(.nrm, env, ds0, st4)]
   | some c => rec ro N c env ds0 st4
 | _ => none
def rfB (ro : Option Nat) (N : Nat) (g : Operand) (env : Tr SV) (ds0 : List Nat) (l : Nat) (st2 : St) : Option (List Out) := match svOp env g with
 | .fn f first cap => match exF P sm rec f (appS first (.yield l :: cap)) st2 with
  | some L => mapB (fun p => rfE rec ro N env ds0 l p.2) L
  | none => none
 | _ => none
def rfS (ro : Option Nat) (N : Nat) (g : Operand) (ps : Array Tmp) (assign body : Code) (env : Tr SV) (ds : List Nat) (st : St) : Option (List Out) := match ro with
 | none => newK st (.dfr false) fun d st1 => newK st1 (.loop ⟨.ready, none, N, env, ps, assign, body, d⟩) fun l st2 => rfB P sm rec none N g env (d :: ds) l st2
 | some l0 => match st.h.get l0 with
  | some (.loop r0) => insK st.base l0 st.R fun R' => newK ⟨st.h, st.nx, st.base, R', st.W⟩ (.loop ⟨.ready, none, N, env, ps, assign, body, r0.defers⟩) fun l st2 => rfB P sm rec (some l0) N g env ds l st2
  | _ => none
def thnS (ro : Option Nat) (N : Nat) (y : Code) (o : Out) : Option (List Out) := match o with
 |(e, env', ds', st') => match e with
  | .nrm => rec ro N y env' ds' st'
  | e => some [(e, env', ds', st')]
def blkS (id : Nat) (o : Out) : Option (List Out) := match o with
 |(e, env', ds', st') => match e with
  | .ext i => bif Nat.beq i id then some [(.nrm, env', ds', st')] else some [(.ext i, env', ds', st')]
  | e => some [(e, env', ds', st')]
def scoS (o : Out) : Option (List Out) := match o with
 |(e, env', ds', st') => match e with
  | .gto _ => none
  | e => some [(e, env', ds', st')]
def nrmS (ds : List Nat) (p : Tr SV × St) : Option (List Out) := some [(.nrm, p.1, ds, p.2)]
def stepC (ro : Option Nat) (N : Nat) (c : Code) (env : Tr SV) (ds : List Nat) (st : St) : Option (List Out) := match c with
 | .skip => some [(.nrm, env, ds, st)]
 | .region _ ops draw => match draw with
  | false => match exL P sm rec N ops.toList ops.toList env st with
   | some L => mapB (nrmS ds) L
   | none => none
  | true => match exD P sm rec N ops env st with
   | some p => nrmS ds p
   | none => none
 | .seq x y => match rec ro N x env ds st with
  | some L => mapB (thnS rec ro N y) L
  | none => none
 | .cond c x y => match svOp env c with
  | .raw (.bool true) => rec ro N x env ds st
  | .raw (.bool false) => rec ro N y env ds st
  | _ => none
 | .block id b => match rec ro N b env ds st with
  | some L => mapB (blkS id) L
  | none => none
 | .loop b => match rec ro N b env ds st with
  | some L => mapB (thnS rec ro N (.loop b)) L
  | none => none
 | .rangeFunc g ps assign body => rfS P sm rec ro N g ps assign body env ds st
 | .exit id => some [(.ext id, env, ds, st)]
 | .scope b => match rec ro N b env ds st with
  | some L => mapB scoS L
  | none => none
 | .label _ => some [(.nrm, env, ds, st)]
 | .goto l => some [(.gto l, env, ds, st)]
 | .ret => some [(.ret, env, ds, st)]
 | _ => none
end
def exC (P : Program) (sm : Sums) (n : Nat) : Rec := Nat.rec (motive := fun _ => Rec) (fun _ _ _ _ _ _ => none) (fun _ ih => stepC P sm ih) n
def st0 : St := ⟨.lf, 0, 0, [], []⟩
def allT : List (SV × St) → Bool
 | [] => true
 | p :: r => match p.1 with
  | .raw (.bool true) => allT r
  | _ => false
def yes (P : Program) (sm : Sums) (n : Nat) (f : FuncId) : Bool := match exF P sm (exC P sm n) f [] st0 with
 | some L => allT L
 | _ => false
end
end Go.TX
namespace Go.TX
open Go Go.TH
noncomputable section
variable {ρ : Ren} {N : Nat} {env : Tr SV} {a : Act} {P : Program} {D : Nat → Prop} {st st' : St} {w : World}
def OpDid (P : Program) (ρ : Ren) (D : Nat → Prop) (st st' : St) (w : World) (v : SV) (s : Sem Next) : Prop :=
 ∃ u w' ρ', (s.run P w = .ok (.value u) w' ∨ (s.run P w = .ok .skip w' ∧ u = undef)) ∧ Rel ρ' v u ∧ Step ρ ρ' D st st' w w'
theorem OpDid.of {v : SV} {s : Sem Value} (h : Did P ρ D st st' w v s) : OpDid P ρ D st st' w v (do pure (.value (← s))) := by
 obtain ⟨u, w', ρ', h1, h2, h3⟩ := h
 exact ⟨u, w', ρ', .inl (by simp [h1]), h2, h3⟩
theorem OpDid.pure (hs : Sim ρ D st w) {v : SV} {u : Value} (h : Rel ρ v u) : OpDid P ρ D st st w v (Pure.pure (.value u)) := ⟨u, w, ρ, .inl rfl, h, Step.refl hs⟩
theorem OpDid.unit {v : SV} {s : Sem Unit} (h : v = .raw undef ∧ ∃ w', s.run P w = .ok () w' ∧ Step ρ ρ D st st' w w') : OpDid P ρ D st st' w v (do s; Pure.pure .skip) := by
 obtain ⟨rfl, w', h1, h2⟩ := h
 exact ⟨undef, w', ρ, .inr ⟨by simp [h1], rfl⟩, by rw [Rel], h2⟩
theorem withS_some {x : Option SV} {v : SV} (h : withS x st = some (v, st')) : x = some v ∧ st = st' := by
 unfold withS at h
 split at h
 ·simp only [Option.some.injEq, Prod.mk.injEq] at h
  obtain ⟨rfl, rfl⟩ := h
  exact ⟨rfl, rfl⟩
 ·cases h
theorem Did.read (hs : Sim ρ D st w) {v : SV} {s : Sem Value} (h : ∃ u, s.run P w = .ok u w ∧ Rel ρ v u) : Did P ρ D st st w v s := by
 obtain ⟨u, h1, h2⟩ := h
 exact Did.pure hs h1 h2
theorem ncS_ok {x v : SV} {u : Value} (hx : Rel ρ x u) (h : ncS x = some v) : v = x ∧ ((∃ b o, u = .pointer (some ⟨b, o, none⟩)) ∨ (∃ f l m, u = .func (.func f) l m) ∨ ∃ b, u = .func (.yield b) #[] #[]) := by
 unfold ncS at h
 split at h
 ·simp only [Option.some.injEq] at h; subst h
  rw [Rel] at hx; obtain ⟨b, s, _, rfl⟩ := hx
  exact ⟨rfl, .inl ⟨_, _, rfl⟩⟩
 ·simp only [Option.some.injEq] at h; subst h
  rw [Rel] at hx; obtain ⟨us, vs, _, _, rfl⟩ := hx
  exact ⟨rfl, .inr (.inl ⟨_, _, _, rfl⟩)⟩
 ·simp only [Option.some.injEq] at h; subst h
  rw [Rel] at hx; obtain ⟨b, s, _, rfl⟩ := hx
  exact ⟨rfl, .inr (.inr ⟨_, rfl⟩)⟩
 ·split at h
  ·simp only [Option.some.injEq] at h; subst h
   rw [Rel] at hx; subst hx
   exact ⟨rfl, .inr (.inl ⟨_, _, _, rfl⟩)⟩
  ·cases h
 ·cases h
theorem pkS_ok {c x y v : SV} {uc ux uy : Value} (hc : Rel ρ c uc) (hx : Rel ρ x ux) (hy : Rel ρ y uy) (h : pkS c x y = some v) : ∃ b : Bool, uc = .bool b ∧ Rel ρ v (if b then ux else uy) := by
 unfold pkS at h
 split at h
 ·simp only [Option.some.injEq] at h; subst h
  rw [Rel] at hc; exact ⟨true, hc, hx⟩
 ·simp only [Option.some.injEq] at h; subst h
  rw [Rel] at hc; exact ⟨false, hc, hy⟩
 ·cases h
theorem mxS_ok {mx : Bool} {ats : List TypeId} {ty : TypeId} {xs : List SV} {us : List Value} {v : SV} (hx : RelL ρ xs us) (h : mxS P mx ats ty xs = some v) : ∃ r, (match mx with | true => Builtin.max_ ats.toArray ty us.toArray | false => Builtin.min_ ats.toArray ty us.toArray).run P w = .ok r w ∧ Rel ρ v r := by
 unfold mxS at h
 split at h
 ·rename_i vs hv
  have := raws_rel hv hx
  subst this
  split at h
  ·rename_i r hr
   exact ⟨r, pv_run hr w, valV_rel h⟩
  ·cases h
 ·cases h
theorem fn_ok (he : EnvR ρ N env a.tmps) {f : FuncId} {xs ys : List Operand} : ∃ u, (Instr.makeFunc (.func f) (xs.toArray.map a.eval) (ys.toArray.map a.eval)).run P w = .ok u w ∧ Rel ρ (.fn f (svOps env xs) (svOps env ys)) u := by
 refine ⟨.func (.func f) (xs.toArray.map a.eval) (ys.toArray.map a.eval), by simp [Instr.makeFunc], ?_⟩
 rw [Rel]
 exact ⟨_, _, svOps_rel he xs, svOps_rel he ys, by simp⟩
theorem biS_ok {b : Builtin} {ats : List TypeId} {ty : TypeId} {xs : List SV} {us : List Value} {cs : Array Bool} {v : SV} (hx : RelL ρ xs us) (h : biS P b ats ty xs st = some (v, st')) (hs : Sim ρ D st w) (hD : ∀ x, x ∈ st'.R ∨ st.base ≤ x → D x) (hf : Free ρ st.nx st'.nx) :
 OpDid P ρ D st st' w v (builtin b ats.toArray ty cs us.toArray) := by
 unfold biS at h
 split at h
 ·split at h
  ·split at h
   ·rename_i x
    rw [RelL] at hx; obtain ⟨u, r, rfl, h1, h2⟩ := hx
    rw [RelL] at h2; subst h2
    exact OpDid.of (lnS_ok h1 h hs hD)
   ·cases h
  ·cases h
 ·split at h
  ·split at h
   ·rename_i x y
    rw [RelL] at hx; obtain ⟨u, r, rfl, h1, h2⟩ := hx
    rw [RelL] at h2; obtain ⟨u2, r2, rfl, h3, h4⟩ := h2
    rw [RelL] at h4; subst h4
    exact OpDid.of (apS_ok h1 h3 h hs hD hf)
   ·cases h
  ·cases h
 ·split at h
  ·split at h
   ·rename_i x y
    rw [RelL] at hx; obtain ⟨u, r, rfl, h1, h2⟩ := hx
    rw [RelL] at h2; obtain ⟨u2, r2, rfl, h3, h4⟩ := h2
    rw [RelL] at h4; subst h4
    exact OpDid.of (cpS_ok h1 h3 h hs hD)
   ·cases h
  ·cases h
 ·obtain ⟨hw, rfl⟩ := withS_some h
  exact OpDid.of (Did.read hs (mxS_ok (mx := true) hx hw))
 ·obtain ⟨hw, rfl⟩ := withS_some h
  exact OpDid.of (Did.read hs (mxS_ok (mx := false) hx hw))
 ·split at h
  ·split at h
   ·rename_i x i
    rw [RelL] at hx; obtain ⟨u, r, rfl, h1, h2⟩ := hx
    rw [RelL] at h2; obtain ⟨u2, r2, rfl, h3, h4⟩ := h2
    rw [RelL] at h4; subst h4
    exact OpDid.of (deS_ok h1 h3 h hs hD)
   ·cases h
  ·cases h
 ·split at h
  ·split at h
   ·rename_i x
    rw [RelL] at hx; obtain ⟨u, r, rfl, h1, h2⟩ := hx
    rw [RelL] at h2; subst h2
    exact OpDid.of (clS_ok h1 h hs hD)
   ·cases h
  ·cases h
 ·cases h
theorem opS_ok {o : Oper} {v : SV} (he : EnvR ρ N env a.tmps) (h : opS P env o.op st = some (v, st')) (hs : Sim ρ D st w) (hD : ∀ x, x ∈ st'.R ∨ st.base ≤ x → D x) (hf : Free ρ st.nx st'.nx) : OpDid P ρ D st st' w v (execOp a.eval o) := by
 obtain ⟨dst, op, ty, pos, af, g⟩ := o
 cases op <;> simp only [opS] at h <;> try (cases h; done)
 ·rename_i x
  simp only [Option.some.injEq, Prod.mk.injEq] at h
  obtain ⟨rfl, rfl⟩ := h
  exact OpDid.pure hs (svOp_rel he x)
 ·rename_i x
  simp only [Option.some.injEq, Prod.mk.injEq] at h
  obtain ⟨rfl, rfl⟩ := h
  exact OpDid.pure hs (svOp_rel he x)
 ·rename_i c x y
  obtain ⟨hw, rfl⟩ := withS_some h
  obtain ⟨b, h1, h2⟩ := pkS_ok (svOp_rel he c) (svOp_rel he x) (svOp_rel he y) hw
  refine ⟨_, w, ρ, .inl ?_, h2, Step.refl hs⟩
  simp [execOp, h1, asBool]
 ·exact OpDid.of (alS_ok h hs hf)
 ·rename_i T x
  exact OpDid.of (bxS_ok (svOp_rel he x) h hs hf)
 ·rename_i T ps
  obtain ⟨hw, rfl⟩ := withS_some h
  exact OpDid.of (Did.read hs (bdS_ok (parts := ps.toList) he hw))
 ·rename_i T n ps
  exact OpDid.of (bsS_ok (parts := ps.toList) he h hs hf)
 ·rename_i T x i v'
  exact OpDid.unit (muS_ok (svOp_rel he x) (svOp_rel he i) (svOp_rel he v') h hs hD)
 ·rename_i T x
  exact OpDid.of (ldS_ok (svOp_rel he x) h hs hD)
 ·rename_i T x v'
  exact OpDid.unit (stS_ok (svOp_rel he x) (svOp_rel he v') h hs hD)
 ·rename_i x
  obtain ⟨hw, rfl⟩ := withS_some h
  have hx := svOp_rel he x
  obtain ⟨rfl, h1⟩ := ncS_ok hx hw
  refine ⟨a.eval x, w, ρ, .inl ?_, hx, Step.refl hs⟩
  rcases h1 with ⟨b, o, e⟩ | ⟨f, l, m, e⟩ | ⟨b, e⟩ <;> simp [execOp, e]
 ·rename_i op T x y yt
  obtain ⟨hw, rfl⟩ := withS_some h
  exact OpDid.of (Did.read hs (boS_ok (svOp_rel he x) (svOp_rel he y) hw))
 ·rename_i op T x
  obtain ⟨hw, rfl⟩ := withS_some h
  exact OpDid.of (Did.read hs (unS_ok (svOp_rel he x) hw))
 ·rename_i T T' x
  obtain ⟨hw, rfl⟩ := withS_some h
  exact OpDid.of (Did.read hs (cvS_ok (svOp_rel he x) hw))
 ·rename_i f xs ys
  split at h
  ·simp only [Option.some.injEq, Prod.mk.injEq] at h
   obtain ⟨rfl, rfl⟩ := h
   exact OpDid.of (Did.read hs (fn_ok (xs := xs.toList) (ys := ys.toList) he))
  ·cases h
 ·rename_i T r
  split at h
  ·exact OpDid.of (mmS_ok (r := none) (env := env) h hs hf)
  ·cases h
 ·rename_i T l c
  exact OpDid.of (mkS_ok (svOp_rel he l) (svOp_rel he c) h hs hf)
 ·rename_i T x lo hi mx
  exact OpDid.of (slS_ok he (svOp_rel he x) h hs hD)
 ·rename_i T x f
  obtain ⟨hw, rfl⟩ := withS_some h
  exact OpDid.of (Did.read hs (faS_ok (svOp_rel he x) hw))
 ·rename_i T x f
  obtain ⟨hw, rfl⟩ := withS_some h
  exact OpDid.of (Did.read hs (fdS_ok (svOp_rel he x) hw))
 ·rename_i T x i
  obtain ⟨hw, rfl⟩ := withS_some h
  exact OpDid.of (Did.read hs (iaS_ok (svOp_rel he x) (svOp_rel he i) hw))
 ·rename_i T x i
  obtain ⟨hw, rfl⟩ := withS_some h
  exact OpDid.of (Did.read hs (ixS_ok (svOp_rel he x) (svOp_rel he i) hw))
 ·rename_i T x i ok
  exact OpDid.of (lkS_ok (svOp_rel he x) (svOp_rel he i) h hs hD)
 ·rename_i T x i v'
  exact OpDid.unit (muS_ok (svOp_rel he x) (svOp_rel he i) (svOp_rel he v') h hs hD)
 ·rename_i T x i
  exact OpDid.of (meS_ok (svOp_rel he x) (svOp_rel he i) h hs hD)
 ·rename_i T x i v'
  exact OpDid.unit (esS_ok (svOp_rel he x) (svOp_rel he i) (svOp_rel he v') h hs hD)
 ·rename_i T x
  exact OpDid.of (rgS_ok (svOp_rel he x) h hs hD hf)
 ·rename_i x
  exact OpDid.of (enS_ok (svOp_rel he x) h hs hD)
 ·rename_i x i
  obtain ⟨hw, rfl⟩ := withS_some h
  exact OpDid.of (Did.read hs (exS_ok (svOp_rel he x) hw))
end
end Go.TX
namespace Go.TX
open Go Go.TH
noncomputable section
section cur
open Classical
variable {α : Type} (f : Nat → Nat → α) (tch : Nat → Nat → Prop) (S : Nat → Prop)
def cur : Nat → Nat → α
  | 0, x => f 0 x
  | i + 1, x => if S i ∧ tch i x then f (i + 1) x else cur i x
theorem cur_at {n x : Nat} (hf : ∀ i, i < n → ∀ x, ¬ tch i x → f (i + 1) x = f i x) : ∀ {t : Nat}, t ≤ n → (∀ i, i < t → tch i x → S i) → cur f tch S t x = f t x
  | 0, _, _ => rfl
  | t + 1, ht, h1 => by
    have ih := cur_at hf (t := t) (by omega) (fun i hi => h1 i (by omega))
    simp only [cur]
    by_cases h : tch t x
    · rw [if_pos ⟨h1 t (by omega) h, h⟩]
    · rw [if_neg (fun q => h q.2), ih, hf t (by omega) x h]
theorem cur_stay {t x : Nat} : ∀ {n : Nat}, t ≤ n → (∀ i, t ≤ i → i < n → S i → ¬ tch i x) → cur f tch S n x = cur f tch S t x
  | 0, ht, _ => by have : t = 0 := by omega
                   rw [this]
  | n + 1, ht, h => by
    by_cases e : t = n + 1
    · rw [e]
    · have ih := cur_stay (n := n) (t := t) (by omega) (fun i h1 h2 => h i h1 (by omega))
      simp only [cur]
      rw [if_neg (fun q => h n (by omega) (by omega) q.1 q.2), ih]
theorem cur_is {n t x : Nat} (hf : ∀ i, i < n → ∀ x, ¬ tch i x → f (i + 1) x = f i x) (ht : t ≤ n) (h1 : ∀ i, i < t → tch i x → S i) (h2 : ∀ i, t ≤ i → i < n → S i → ¬ tch i x) : cur f tch S n x = f t x := by
  rw [cur_stay f tch S ht h2, cur_at f tch S hf ht h1]
theorem cur_other {t x : Nat} (S' : Nat → Prop) (hS : ∀ i, i ≠ t → (S' i ↔ S i)) (hx : ¬ tch t x) : ∀ n, cur f tch S' n x = cur f tch S n x
  | 0 => rfl
  | n + 1 => by
    simp only [cur, cur_other S' hS hx n]
    by_cases e : n = t
    · subst e; rw [if_neg (fun q => hx q.2), if_neg (fun q => hx q.2)]
    · rw [hS n e]
theorem cur_none {x : Nat} (h : ∀ i, ¬ S i) : ∀ n, cur f tch S n x = f 0 x
  | 0 => rfl
  | n + 1 => by simp only [cur]; rw [if_neg (fun q => h n q.1), cur_none h n]
end cur
theorem mem_afsL {o : Oper} {j : Nat} : j ∈ afsL o ↔ ∃ e ∈ o.after.toList, Region.binds .any e = true ∧ e.on = j := by
  unfold afsL
  generalize o.after.toList = l
  induction l with
  | nil => simp [afsL.go]
  | cons e l ih =>
    simp only [afsL.go]
    cases hg : e.ground <;> simp [ih, Region.binds, hg] <;> constructor <;> intro h <;> rcases h with h | h <;> first | exact .inl h.symm | exact .inr h | (exact absurd h (by decide))
def Good (A : List (List Nat)) (k m : Nat) : Prop := ∀ S : Nat → Prop, (∀ i af, A[i]? = some af → S i → ∀ j ∈ af, S j) → (∀ af, A[k]? = some af → ∀ j ∈ af, S j) → ∀ j, bitB m j = true → S j
theorem bitB_testBit (m i : Nat) : bitB m i = m.testBit i := by
  unfold bitB
  have h : Nat.beq (Nat.land (Nat.shiftRight m i) 1) 1 = ((m >>> i) &&& 1 == 1) := by
    show Nat.beq ((m >>> i) &&& 1) 1 = ((m >>> i) &&& 1 == 1)
    generalize (m >>> i) &&& 1 = z
    rw [Bool.eq_iff_iff]; simp
  rw [h, Nat.testBit, Nat.and_comm]
  have := Nat.and_one_is_mod (m >>> i)
  rw [Nat.and_comm 1, this]
  rcases Nat.mod_two_eq_zero_or_one (m >>> i) with h | h <;> simp [h]
theorem cloGo_ok {A : List (List Nat)} {acc : List Nat} (hA : ∀ k m, k < acc.length → acc[acc.length - 1 - k]? = some m → Good A k m) {S : Nat → Prop} (hS : ∀ i af, A[i]? = some af → S i → ∀ j ∈ af, S j) :
    ∀ (js : List Nat) (m0 : Nat), (∀ j ∈ js, j < acc.length) → (∀ j ∈ js, S j) → (∀ j, bitB m0 j = true → S j) → ∀ j, bitB (cloB.go acc acc.length js m0) j = true → S j
  | [], m0, _, _, h0, j, hj => by simp only [cloB.go] at hj; exact h0 j hj
  | x :: js, m0, hlt, hjs, h0, j, hj => by
    simp only [cloB.go] at hj
    split at hj
    · rename_i mj hm
      rw [nth_eq] at hm
      have hx : S x := hjs x (by simp)
      refine cloGo_ok hA hS js _ (fun j hj => hlt j (by simp [hj])) (fun j hj => hjs j (by simp [hj])) ?_ j hj
      intro j hj
      rw [bitB_testBit] at hj
      have e : Nat.lor m0 (Nat.lor mj (Nat.shiftLeft 1 x)) = m0 ||| (mj ||| (1 <<< x)) := rfl
      rw [e, Nat.testBit_or, Nat.testBit_or, Bool.or_eq_true, Bool.or_eq_true] at hj
      rcases hj with hj | hj | hj
      · exact h0 j (by rw [bitB_testBit]; exact hj)
      · exact hA x mj (hlt x (by simp)) hm S hS (fun af haf => hS x af haf hx) j (by rw [bitB_testBit]; exact hj)
      · rw [Nat.one_shiftLeft, Nat.testBit_two_pow] at hj
        have : x = j := by simpa using hj
        subst this; exact hx
    · exact cloGo_ok hA hS js _ (fun j hj => hlt j (by simp [hj])) (fun j hj => hjs j (by simp [hj])) h0 j hj
theorem ltAll_ok : ∀ {l : List Nat} {i : Nat}, ltAll l i = true → ∀ j ∈ l, j < i
  | [], _, _, j, hj => by cases hj
  | x :: r, i, h, j, hj => by
    simp only [ltAll] at h
    cases hb : Nat.blt x i with
    | false => rw [hb] at h; cases h
    | true =>
      rw [hb, cond_true] at h
      rcases List.mem_cons.1 hj with rfl | hj
      · exact Nat.blt_eq.mp hb
      · exact ltAll_ok h j hj
theorem backAll_ok : ∀ {A : List (List Nat)} {i0 : Nat}, backAll A i0 = true → ∀ i af, A[i]? = some af → ∀ j ∈ af, j < i0 + i
  | [], _, _, i, af, h, _, _ => by simp at h
  | a :: r, i0, h, i, af, ha, j, hj => by
    simp only [backAll] at h
    cases hb : ltAll a i0 with
    | false => rw [hb] at h; cases h
    | true =>
      rw [hb, cond_true] at h
      cases i with
      | zero => simp only [List.getElem?_cons_zero, Option.some.injEq] at ha; subst ha; exact ltAll_ok hb j hj
      | succ i =>
        simp only [List.getElem?_cons_succ] at ha
        have := backAll_ok h i af ha j hj
        omega
def Masks (A : List (List Nat)) (ms : List Nat) : Prop := ∀ k m, k < ms.length → ms[ms.length - 1 - k]? = some m → Good A k m
theorem cloB_ok {A : List (List Nat)} (hback : ∀ (i : Nat) (af : List Nat), A[i]? = some af → ∀ j ∈ af, j < i) : ∀ (r : List (List Nat)) (acc : List Nat), A.drop acc.length = r → Masks A acc → Masks A (cloB r acc) ∧ (cloB r acc).length = acc.length + r.length
  | [], acc, _, h => ⟨h, rfl⟩
  | af :: r, acc, hd, h => by
    simp only [cloB, natK_eq]
    have haf : A[acc.length]? = some af := by
      have := congrArg (fun l => l[0]?) hd
      simpa [List.getElem?_drop] using this
    have hr : A.drop (acc.length + 1) = r := by
      have := congrArg (List.drop 1) hd
      simpa [List.drop_drop] using this
    have hm : Masks A (cloB.go acc (llen acc) af 0 :: acc) := by
      intro k m hk hm
      rw [List.length_cons] at hk hm
      by_cases e : k = acc.length
      · subst e
        have e1 : acc.length + 1 - 1 - acc.length = 0 := by omega
        rw [e1, List.getElem?_cons_zero, Option.some.injEq] at hm
        subst hm
        intro S hS hk2 j hj
        rw [llen_eq] at hj
        exact cloGo_ok h hS af 0 (fun j hj => hback _ af haf j hj) (fun j hj => hk2 af haf j hj) (fun j hj => by rw [bitB_testBit, Nat.zero_testBit] at hj; cases hj) j hj
      · have e1 : acc.length + 1 - 1 - k = (acc.length - 1 - k) + 1 := by omega
        rw [e1, List.getElem?_cons_succ] at hm
        exact h k m (by omega) hm
    obtain ⟨h1, h2⟩ := cloB_ok hback r _ (by simpa using hr) hm
    exact ⟨h1, by rw [h2]; simp; omega⟩
theorem afsAll_eq : ∀ (l : List Oper), afsAll l = l.map afsL
  | [] => rfl
  | o :: r => by simp [afsAll, afsAll_eq r]
theorem revK_eq {α : Type} : ∀ (l acc : List α), revK l acc = l.reverse ++ acc
  | [], _ => rfl
  | x :: r, acc => by simp [revK, revK_eq r]
theorem apU_ok {ops : Array Oper} {u : Oper} {m : Nat} : ∀ {r : List Oper}, apAll.apU ops u m r r.length = true → ∀ i t, i < r.length → r[r.length - 1 - i]? = some t → bitB m i = true ∨ t.apart ops u = true
  | [], _, i, t, hi, _ => by simp at hi
  | x :: r, h, i, t, hi, ht => by
    simp only [List.length_cons, apAll.apU, Nat.add_sub_cancel] at h
    simp only [List.length_cons] at hi ht
    by_cases e : i = r.length
    · subst e
      have e1 : r.length + 1 - 1 - r.length = 0 := by omega
      rw [e1, List.getElem?_cons_zero, Option.some.injEq] at ht
      subst ht
      cases hb : bitB m r.length with
      | true => exact .inl rfl
      | false =>
        rw [hb, cond_false] at h
        cases ha : x.apart ops u with
        | true => exact .inr rfl
        | false => rw [ha] at h; cases h
    · have e1 : r.length + 1 - 1 - i = (r.length - 1 - i) + 1 := by omega
      rw [e1, List.getElem?_cons_succ] at ht
      have h' : apAll.apU ops u m r r.length = true := by
        cases hb : bitB m r.length with
        | true => rw [hb, cond_true] at h; exact h
        | false =>
          rw [hb, cond_false] at h
          cases ha : x.apart ops u with
          | true => rw [ha, cond_true] at h; exact h
          | false => rw [ha] at h; cases h
      exact apU_ok h' i t (by omega) ht
theorem apAll_ok {ops : Array Oper} : ∀ {r : List Oper} {ms : List Nat}, r.length = ms.length → apAll ops r ms = true → ∀ i j t u m, i < j → j < r.length → r[r.length - 1 - i]? = some t → r[r.length - 1 - j]? = some u → ms[ms.length - 1 - j]? = some m → bitB m i = true ∨ t.apart ops u = true
  | [], _, _, _, i, j, t, u, m, _, hj, _, _, _ => by simp at hj
  | x :: r, [], hl, _, _, _, _, _, _, _, _, _, _, _ => by simp at hl
  | x :: r, y :: ms, hl, h, i, j, t, u, m, hij, hj, ht, hu, hm => by
    simp only [apAll, Bool.and_eq_true] at h
    obtain ⟨h1, h2⟩ := h
    rw [llen_eq] at h1
    simp only [List.length_cons] at hj ht hu hm hl
    have hl' : r.length = ms.length := by omega
    have ei : r.length + 1 - 1 - i = (r.length - 1 - i) + 1 := by omega
    rw [ei, List.getElem?_cons_succ] at ht
    by_cases e : j = r.length
    · subst e
      have e1 : r.length + 1 - 1 - r.length = 0 := by omega
      rw [e1, List.getElem?_cons_zero, Option.some.injEq] at hu
      rw [← hl', e1, List.getElem?_cons_zero, Option.some.injEq] at hm
      subst hu; subst hm
      exact apU_ok h1 i t (by omega) ht
    · have e1 : r.length + 1 - 1 - j = (r.length - 1 - j) + 1 := by omega
      rw [e1, List.getElem?_cons_succ] at hu
      rw [← hl', e1, List.getElem?_cons_succ] at hm
      rw [hl'] at hm
      exact apAll_ok hl' h2 i j t u m hij (by omega) ht hu hm
theorem sepU_ok {u : Tc} {m : Nat} : ∀ {r : List Tc}, sepAll.sepU u m r r.length = true → ∀ i t, i < r.length → r[r.length - 1 - i]? = some t → bitB m i = true ∨ sepT t u = true
  | [], _, i, t, hi, _ => by simp at hi
  | x :: r, h, i, t, hi, ht => by
    simp only [List.length_cons, sepAll.sepU, Nat.add_sub_cancel] at h
    simp only [List.length_cons] at hi ht
    have h' : (sepT x u = true ∨ bitB m r.length = true) ∧ sepAll.sepU u m r r.length = true := by
      cases ha : sepT x u with
      | true => rw [ha, cond_true] at h; exact ⟨.inl rfl, h⟩
      | false =>
        rw [ha, cond_false] at h
        cases hb : bitB m r.length with
        | true => rw [hb, cond_true] at h; exact ⟨.inr rfl, h⟩
        | false => rw [hb] at h; cases h
    by_cases e : i = r.length
    · subst e
      have e1 : r.length + 1 - 1 - r.length = 0 := by omega
      rw [e1, List.getElem?_cons_zero, Option.some.injEq] at ht
      subst ht
      exact h'.1.symm
    · have e1 : r.length + 1 - 1 - i = (r.length - 1 - i) + 1 := by omega
      rw [e1, List.getElem?_cons_succ] at ht
      exact sepU_ok h'.2 i t (by omega) ht
theorem sepAll_ok : ∀ {r : List Tc} {ms : List Nat}, r.length = ms.length → sepAll r ms = true → ∀ i j t u m, i < j → j < r.length → r[r.length - 1 - i]? = some t → r[r.length - 1 - j]? = some u → ms[ms.length - 1 - j]? = some m → bitB m i = true ∨ sepT t u = true
  | [], _, _, _, i, j, t, u, m, _, hj, _, _, _ => by simp at hj
  | x :: r, [], hl, _, _, _, _, _, _, _, _, _, _, _ => by simp at hl
  | x :: r, y :: ms, hl, h, i, j, t, u, m, hij, hj, ht, hu, hm => by
    simp only [sepAll, Bool.and_eq_true] at h
    obtain ⟨h1, h2⟩ := h
    rw [llen_eq] at h1
    simp only [List.length_cons] at hj ht hu hm hl
    have hl' : r.length = ms.length := by omega
    have ei : r.length + 1 - 1 - i = (r.length - 1 - i) + 1 := by omega
    rw [ei, List.getElem?_cons_succ] at ht
    by_cases e : j = r.length
    · subst e
      have e1 : r.length + 1 - 1 - r.length = 0 := by omega
      rw [e1, List.getElem?_cons_zero, Option.some.injEq] at hu
      rw [← hl', e1, List.getElem?_cons_zero, Option.some.injEq] at hm
      subst hu; subst hm
      exact sepU_ok h1 i t (by omega) ht
    · have e1 : r.length + 1 - 1 - j = (r.length - 1 - j) + 1 := by omega
      rw [e1, List.getElem?_cons_succ] at hu
      rw [← hl', e1, List.getElem?_cons_succ] at hm
      rw [hl'] at hm
      exact sepAll_ok hl' h2 i j t u m hij (by omega) ht hu hm
theorem allQ_ok : ∀ {l : List Tc}, allQ l = true → ∀ t ∈ l, t.q = true
  | [], _, t, ht => by cases ht
  | x :: r, h, t, ht => by
    simp only [allQ] at h
    split at h
    · rename_i hq
      rcases List.mem_cons.1 ht with rfl | ht
      · exact hq
      · exact allQ_ok h t ht
    · cases h
theorem memb_no {x : Nat} : ∀ {l : List Nat}, memb x l = false → x ∉ l
  | [], _, hx => by cases hx
  | y :: r, h, hx => by
    simp only [memb] at h
    cases hb : Nat.beq x y with
    | true => rw [hb] at h; cases h
    | false =>
      rw [hb, cond_false] at h
      rcases List.mem_cons.1 hx with rfl | hx
      · rw [Nat.beq_refl] at hb; cases hb
      · exact memb_no h hx
theorem disj_ok : ∀ {l m : List Nat}, disj l m = true → ∀ x ∈ l, x ∉ m
  | [], _, _, x, hx => by cases hx
  | y :: r, m, h, x, hx => by
    simp only [disj] at h
    cases hb : memb y m with
    | true => rw [hb] at h; cases h
    | false =>
      rw [hb, cond_false] at h
      rcases List.mem_cons.1 hx with rfl | hx
      · exact memb_no hb
      · exact disj_ok h x hx
theorem outR_ok {a b : Nat} : ∀ {l : List Nat}, outR a b l = true → ∀ x ∈ l, ¬ (a ≤ x ∧ x < b)
  | [], _, x, hx => by cases hx
  | y :: r, h, x, hx => by
    simp only [outR] at h
    cases hb : (Nat.ble a y && Nat.blt y b) with
    | true => rw [hb] at h; cases h
    | false =>
      rw [hb, cond_false] at h
      rcases List.mem_cons.1 hx with rfl | hx
      · intro ⟨h1, h2⟩
        rw [Nat.ble_eq.mpr h1, Nat.blt_eq.mpr h2] at hb
        cases hb
      · exact outR_ok h x hx
theorem sepT_ok {t u : Tc} (h : sepT t u = true) : (t.q = true ∧ u.q = true) ∨ ((∀ x ∈ t.W, x ∉ u.R) ∧ (∀ x ∈ t.W, x ∉ u.W) ∧ (∀ x ∈ t.R, x ∉ u.W) ∧ ∀ x ∈ u.R, ¬ (t.a ≤ x ∧ x < t.b)) := by
  have hf : sepF t u = true → (∀ x ∈ t.W, x ∉ u.R) ∧ (∀ x ∈ t.W, x ∉ u.W) ∧ (∀ x ∈ t.R, x ∉ u.W) ∧ ∀ x ∈ u.R, ¬ (t.a ≤ x ∧ x < t.b) := by
    intro h
    unfold sepF at h
    simp only [Bool.and_eq_true] at h
    exact ⟨disj_ok h.1.1.1, disj_ok h.1.1.2, disj_ok h.1.2, outR_ok h.2⟩
  unfold sepT at h
  split at h
  · rename_i h1
    split at h
    · rename_i h2; exact .inl ⟨h1, h2⟩
    · exact .inr (hf h)
  · exact .inr (hf h)
theorem insAllK_eq {β : Type} {b : Nat} : ∀ {l R : List Nat} {k : List Nat → β}, ∃ R', insAllK b l R k = k R' ∧ (∀ x ∈ R, x ∈ R') ∧ ∀ x ∈ l, x ∈ R' ∨ b ≤ x
  | [], R, k => ⟨R, rfl, fun _ h => h, fun x hx => by cases hx⟩
  | y :: l, R, k => by
    simp only [insAllK, insK_eq]
    obtain ⟨R', h1, h2, h3⟩ := insAllK_eq (b := b) (l := l) (R := ins b y R) (k := k)
    refine ⟨R', h1, fun x hx => h2 x (ins_sub _ _ _ x hx), fun x hx => ?_⟩
    rcases List.mem_cons.1 hx with rfl | hx
    · rcases ins_has b x R with h | h
      · exact .inl (h2 _ h)
      · exact .inr h
    · exact h3 x hx
theorem tellK_eq {β : Type} {b : Nat} : ∀ {ts : List Tc} {R W : List Nat} {k : List Nat → List Nat → β}, ∃ R' W', tellK b ts R W k = k R' W' ∧ (∀ x ∈ R, x ∈ R') ∧ (∀ x ∈ W, x ∈ W') ∧ ∀ t ∈ ts, (∀ x ∈ t.R, x ∈ R' ∨ b ≤ x) ∧ ∀ x ∈ t.W, x ∈ W' ∨ b ≤ x
  | [], R, W, k => ⟨R, W, rfl, fun _ h => h, fun _ h => h, fun t ht => by cases ht⟩
  | t :: ts, R, W, k => by
    simp only [tellK]
    obtain ⟨R1, h1, h2, h3⟩ := insAllK_eq (b := b) (l := t.R) (R := R) (k := fun R' => insAllK b t.W W fun W' => tellK b ts R' W' k)
    obtain ⟨W1, g1, g2, g3⟩ := insAllK_eq (b := b) (l := t.W) (R := W) (k := fun W' => tellK b ts R1 W' k)
    obtain ⟨R2, W2, e1, e2, e3, e4⟩ := tellK_eq (b := b) (ts := ts) (R := R1) (W := W1) (k := k)
    refine ⟨R2, W2, by rw [h1, g1, e1], fun x hx => e2 x (h2 x hx), fun x hx => e3 x (g2 x hx), fun t' ht => ?_⟩
    rcases List.mem_cons.1 ht with rfl | ht
    · refine ⟨fun x hx => ?_, fun x hx => ?_⟩
      · rcases h3 x hx with q | q
        · exact .inl (e2 x q)
        · exact .inr q
      · rcases g3 x hx with q | q
        · exact .inl (e3 x q)
        · exact .inr q
    · exact e4 t' ht
end
end Go.TX
namespace Go.TX
open Go Go.TH
noncomputable section
variable {P : Program} {D : Nat → Prop} {ρ0 ρ ρ' : Ren} {w0 w w' : World} {st : St}
theorem Step.before {T Ht : Tr SO} {nE x0 : Nat} {Rf Wf Rt : List Nat} (hI : Step ρ0 ρ D st ⟨T, nE, st.base, Rf, Wf⟩ w0 w)
 (hR : ∀ x ∈ Rt, x < x0 → T.get x = Ht.get x) (hRf : ∀ x ∈ Rt, x ∈ Rf ∨ st.base ≤ x) (hD0 : ∀ x, x ∈ Rf ∨ st.base ≤ x → D x) (hHl : ∀ x, Ht.get x ≠ none → x < x0) :
 Sim ρ (fun x => x ∈ Rt ∨ x0 ≤ x) ⟨Ht, x0, x0, [], []⟩ w := by
 have h1 : ∀ x, (x ∈ Rt ∨ x0 ≤ x) → Ht.get x ≠ none → x ∈ Rt ∧ T.get x = Ht.get x ∧ (D x ∨ st.nx ≤ x) := by
  intro x d g
  have hl := hHl x g
  have hr : x ∈ Rt := d.resolve_right (by omega)
  exact ⟨hr, hR x hr hl, .inl (hD0 x (hRf x hr))⟩
 refine ⟨?_, ?_, hHl⟩
 ·intro x o d g
  have g : Ht.get x = some o := g
  obtain ⟨_, h2, h3⟩ := h1 x d (by rw [g]; simp)
  exact hI.sim.live x o h3 (by show T.get x = some o; rw [h2, g])
 ·intro x y b s s' dx dy gx gy hx hy
  obtain ⟨_, h2, h3⟩ := h1 x dx gx
  obtain ⟨_, h4, h5⟩ := h1 y dy gy
  exact hI.sim.inj x y b s s' h3 h5 (by show T.get x ≠ none; rw [h2]; exact gx) (by show T.get y ≠ none; rw [h4]; exact gy) hx hy
theorem Step.behind {T T' Ht hq : Tr SO} {nE x0 x1 b' : Nat} {Rf Wf Rt Wt : List Nat} (hI : Step ρ0 ρ D st ⟨T, nE, st.base, Rf, Wf⟩ w0 w)
 (hop : Step ρ ρ' (fun x => x ∈ Rt ∨ x0 ≤ x) ⟨Ht, x0, x0, [], []⟩ ⟨hq, x1, b', Rt, Wt⟩ w w') (hx0 : st.nx ≤ x0) (hx1 : x1 ≤ nE)
 (hR : ∀ x ∈ Rt, x < x0 → T.get x = Ht.get x) (hWR : ∀ x ∈ Wt, x ∈ Rt) (hWl : ∀ x ∈ Wt, x < x0) (hRf : ∀ x ∈ Rt, x ∈ Rf ∨ st.base ≤ x) (hWf : ∀ x ∈ Wt, x ∈ Wf ∨ st.base ≤ x)
 (hD0 : ∀ x, x ∈ Rf ∨ st.base ≤ x → D x) (hfree : ∀ x, x0 ≤ x → x < x1 → ρ x = none) (hHl : ∀ x, Ht.get x ≠ none → x < x0)
 (hTa : ∀ x, (x ∈ Wt ∨ (x0 ≤ x ∧ x < x1)) → T'.get x = hq.get x) (hTb : ∀ x, ¬ (x ∈ Wt ∨ (x0 ≤ x ∧ x < x1)) → T'.get x = T.get x) :
 Step ρ0 ρ' D st ⟨T', nE, st.base, Rf, Wf⟩ w0 w' := by
 have hle : ρ.Le ρ' := hop.le (fun x h1 h2 => hfree x h1 h2)
 have hTH : ∀ x ∈ Wt, T.get x = Ht.get x := fun x hx => hR x (hWR x hx) (hWl x hx)
 have hdead : ∀ x ∈ Wt, T.get x = none → hq.get x = none := fun x hx hn => hop.dead x (hWl x hx) (by show Ht.get x = none; rw [← hTH x hx]; exact hn)
 have hgone : ∀ x, x < x0 → T.get x = none → T'.get x = none := by
  intro x hx hn
  by_cases h : x ∈ Wt
  ·rw [hTa x (.inl h)]; exact hdead x h hn
  ·rw [hTb x (by rintro (q | q); exact h q; omega)]; exact hn
 have hext : ∀ x, ¬ (x0 ≤ x ∧ x < x1) → ρ' x = ρ x := fun x hx => hop.ext x (by
  show x < x0 ∨ x1 ≤ x
  omega)
 have hkeep : ∀ b, b < w.heap.size → w'.heap[b]? = w.heap[b]? ∨ ∃ x s, ρ x = some (b, s) ∧ x ∈ Wt ∧ T.get x ≠ none := by
  intro b hb
  rcases hop.keep b hb with e | ⟨x, s, e1, e2, e3, e4⟩
  ·exact .inl e
  ·have hl := hHl x e3
   have hw : x ∈ Wt := e4.resolve_right (by show ¬ x0 ≤ x; omega)
   exact .inr ⟨x, s, e1, hw, by rw [hTH x hw]; exact e3⟩
 have hfresh : ∀ x b s, x0 ≤ x → hq.get x ≠ none → ρ' x = some (b, s) → w.heap.size ≤ b ∨ ∃ z s', z ∈ Wt ∧ ρ z = some (b, s') ∧ T.get z ≠ none ∧ hq.get z = none := by
  intro x b s hx hg hr
  rcases hop.fresh x b s hx hg hr with e | ⟨z, s', e1, e2, e3, e4, e5, e6⟩
  ·exact .inl e
  ·have hl := hHl z e4
   have hw : z ∈ Wt := e6.resolve_right (by show ¬ x0 ≤ z; omega)
   exact .inr ⟨z, s', hw, e2, by rw [hTH z hw]; exact e4, e5⟩
 have hDx : ∀ x ∈ Wt, D x := fun x hx => hD0 x (hRf x (hWR x hx))
 refine ⟨hop.os.trans hI.os, hop.tape.trans hI.tape, hop.output.trans hI.output, Nat.le_trans hI.size hop.size, hI.nx, rfl, hI.sR, hI.sW, ?_, ?_, ?_, ?_, ?_, ?_⟩
 ·intro x hx
  have hx' : x < st.nx ∨ nE ≤ x := hx
  rw [hext x (by omega)]
  exact hI.ext x hx
 ·intro b hb
  rcases hkeep b (Nat.lt_of_lt_of_le hb hI.size) with e | ⟨x, s, e1, e2, e3⟩
  ·rcases hI.keep b hb with e' | ⟨x, s, e1, e2, e3, e4⟩
   ·exact .inl (e.trans e')
   ·exact .inr ⟨x, s, e1, e2, e3, e4⟩
  ·by_cases hx : x < st.nx
   ·refine .inr ⟨x, s, ?_, hDx x e2, fun hn => e3 (hI.dead x hx hn), hWf x e2⟩
    rw [← hI.ext x (.inl hx)]; exact e1
   ·rcases hI.fresh x b s (by omega) e3 e1 with e5 | ⟨z, s', g1, g2, g3, g4, g5, g6⟩
    ·omega
    ·exact .inr ⟨z, s', g2, g3, g4, g6⟩
 ·intro x hx hn
  exact hgone x (by omega) (hI.dead x hx hn)
 ·intro x hx
  by_cases h : x ∈ Wt
  ·exact .inl (hWf x h)
  ·rcases hI.same x hx with e | e
   ·exact .inl e
   ·right
    show T'.get x = _
    rw [hTb x (by rintro (q | q); exact h q; omega)]; exact e
 ·intro x b s hx hg hr
  have hg : T'.get x ≠ none := hg
  by_cases hr1 : x0 ≤ x ∧ x < x1
  ·rw [hTa x (.inr hr1)] at hg
   rcases hfresh x b s hr1.1 hg hr with e | ⟨z, s', e1, e2, e3, e4⟩
   ·exact .inl (Nat.le_trans hI.size e)
   ·by_cases hz : z < st.nx
    ·refine .inr ⟨z, s', hz, by rw [← hI.ext z (.inl hz)]; exact e2, hDx z e1, fun hn => e3 (hI.dead z hz hn), ?_, hWf z e1⟩
     show T'.get z = none
     rw [hTa z (.inl e1)]; exact e4
    ·rcases hI.fresh z b s' (by omega) e3 e2 with e5 | ⟨y, s2, f1, f2, f3, f4, f5, f6⟩
     ·exact .inl e5
     ·exact .inr ⟨y, s2, f1, f2, f3, f4, hgone y (by omega) f5, f6⟩
  ·have hgT : T.get x ≠ none := by
    by_cases h : x ∈ Wt
    ·rw [hTa x (.inl h)] at hg
     exact fun hn => hg (hdead x h hn)
    ·rw [hTb x (by rintro (q | q); exact h q; exact hr1 q)] at hg; exact hg
   rw [hext x hr1] at hr
   rcases hI.fresh x b s hx hgT hr with e5 | ⟨y, s2, f1, f2, f3, f4, f5, f6⟩
   ·exact .inl e5
   ·exact .inr ⟨y, s2, f1, f2, f3, f4, hgone y (by omega) f5, f6⟩
 ·
  have hold : ∀ x, ¬ (x ∈ Wt ∨ (x0 ≤ x ∧ x < x1)) → ∀ o, T.get x = some o → (D x ∨ st.nx ≤ x) → ∃ b s ob, ρ x = some (b, s) ∧ w.heap[b]? = some ob ∧ ORel ρ s o ob ∧ b < w.heap.size ∧ w'.heap[b]? = w.heap[b]? := by
   intro x hx o ho d
   obtain ⟨b, s, ob, e1, e2, e3⟩ := hI.sim.live x o d ho
   have hb := (Array.getElem?_eq_some_iff.1 e2).1
   refine ⟨b, s, ob, e1, e2, e3, hb, ?_⟩
   rcases hkeep b hb with e | ⟨y, s', f1, f2, f3⟩
   ·exact e
   ·have := hI.sim.inj x y b s s' d (.inl (hDx y f2)) (by show T.get x ≠ none; rw [ho]; simp) f3 e1 f1
    subst this
    exact absurd (.inl f2) hx
  refine ⟨?_, ?_, ?_⟩
  ·intro x o d g
   have g : T'.get x = some o := g
   by_cases hx : x ∈ Wt ∨ (x0 ≤ x ∧ x < x1)
   ·rw [hTa x hx] at g
    exact hop.sim.live x o (by rcases hx with q | q; exact .inl (.inl (hWR x q)); exact .inr q.1) g
   ·rw [hTb x hx] at g
    obtain ⟨b, s, ob, e1, e2, e3, e4, e5⟩ := hold x hx o g d
    exact ⟨b, s, ob, hle _ _ e1, by rw [e5]; exact e2, e3.mono hle⟩
  ·have mix : ∀ x y b s s', (x ∈ Wt ∨ (x0 ≤ x ∧ x < x1)) → ¬ (y ∈ Wt ∨ (x0 ≤ y ∧ y < x1)) → (D y ∨ st.nx ≤ y) → T'.get x ≠ none → T'.get y ≠ none → ρ' x = some (b, s) → ρ' y = some (b, s') → False := by
    intro x y b s s' hx hy dy gx gy ex ey
    rw [hTb y hy] at gy
    rw [hext y (fun q => hy (.inr q))] at ey
    obtain ⟨o, ho⟩ := Option.ne_none_iff_exists'.1 gy
    obtain ⟨b2, s2, ob, e1, e2, e3, e4, e5⟩ := hold y hy o ho dy
    rw [ey] at e1; cases e1
    rw [hTa x hx] at gx
    by_cases hxw : x ∈ Wt
    ·rw [hext x (fun q => by have := hWl x hxw; omega)] at ex
     have hxT : T.get x ≠ none := fun hn => gx (hdead x hxw hn)
     have := hI.sim.inj x y b s s' (.inl (hDx x hxw)) dy hxT gy ex ey
     subst this
     exact hy hx
    ·have hxr := hx.resolve_left hxw
     rcases hfresh x b s hxr.1 gx ex with e | ⟨z, s3, f1, f2, f3, f4⟩
     ·omega
     ·have := hI.sim.inj z y b s3 s' (.inl (hDx z f1)) dy f3 gy f2 ey
      subst this
      exact hy (.inl f1)
   intro x y b s s' dx dy gx gy ex ey
   have gx : T'.get x ≠ none := gx
   have gy : T'.get y ≠ none := gy
   by_cases hx : x ∈ Wt ∨ (x0 ≤ x ∧ x < x1) <;> by_cases hy : y ∈ Wt ∨ (x0 ≤ y ∧ y < x1)
   ·rw [hTa x hx] at gx
    rw [hTa y hy] at gy
    exact hop.sim.inj x y b s s' (by rcases hx with q | q; exact .inl (.inl (hWR x q)); exact .inr q.1) (by rcases hy with q | q; exact .inl (.inl (hWR y q)); exact .inr q.1) gx gy ex ey
   ·exact (mix x y b s s' hx hy dy gx gy ex ey).elim
   ·exact (mix y x b s' s hy hx dx gy gx ey ex).elim
   ·rw [hTb x hx] at gx
    rw [hTb y hy] at gy
    rw [hext x (fun q => hx (.inr q))] at ex
    rw [hext y (fun q => hy (.inr q))] at ey
    exact hI.sim.inj x y b s s' dx dy gx gy ex ey
  ·intro x hg
   have hg : T'.get x ≠ none := hg
   show x < nE
   by_cases hx : x ∈ Wt ∨ (x0 ≤ x ∧ x < x1)
   ·rcases hx with q | q
    ·have hTx : T.get x ≠ none := fun hn => hg (by rw [hTa x (.inl q)]; exact hdead x q hn)
     exact hI.sim.lt x hTx
    ·omega
   ·rw [hTb x hx] at hg
    exact hI.sim.lt x hg
end
end Go.TX
namespace Go.TX
open Go Go.TH
noncomputable section
variable {P : Program} {sm : Sums} {rec : Rec} {D : Nat → Prop} {ρ ρ' : Ren} {w w' : World} {st st' : St} {env env2 : Tr SV}
theorem svOps_congr : ∀ {l : List Operand}, (∀ x ∈ l, svOp env x = svOp env2 x) → svOps env l = svOps env2 l
 | [], _ => rfl
 | x :: l, h => by simp only [svOps]; rw [h x (by simp), svOps_congr fun y hy => h y (by simp [hy])]
theorem svParts_congr : ∀ {l : List (Nat × Operand)}, (∀ x ∈ l, svOp env x.2 = svOp env2 x.2) → svParts env l = svParts env2 l
 | [], _ => rfl
 |(i, x) :: l, h => by simp only [svParts]; rw [h (i, x) (by simp), svParts_congr fun y hy => h y (by simp [hy])]
theorem optMap_congr {o : Option Operand} (h : ∀ x ∈ o.toArray, svOp env x = svOp env2 x) : o.map (svOp env) = o.map (svOp env2) := by
 cases o with
 | none => rfl
 | some x => simp only [Option.map_some]; rw [h x (by simp)]
theorem opS_congr {op : Op} (h : ∀ x ∈ op.operands, svOp env x = svOp env2 x) : opS P env op st = opS P env2 op st := by
 cases op
 case build T ps =>
  simp only [opS]
  rw [svParts_congr (env := env) (env2 := env2) fun x hx => h x.2 (by simp only [Op.operands]; simp only [List.mem_toArray, List.mem_map]; exact ⟨x, hx, rfl⟩)]
 case buildSlice T n ps =>
  simp only [opS]
  rw [svParts_congr (env := env) (env2 := env2) fun x hx => h x.2 (by simp only [Op.operands]; simp only [List.mem_toArray, List.mem_map]; exact ⟨x, hx, rfl⟩)]
 case makeFunc f xs ys =>
  simp only [opS]
  rw [svOps_congr (env := env) (env2 := env2) (l := xs.toList) fun x hx => h x (by simp only [Op.operands, Array.mem_append]; exact .inl (Array.mem_toList_iff.1 hx)),
   svOps_congr (env := env) (env2 := env2) (l := ys.toList) fun x hx => h x (by simp only [Op.operands, Array.mem_append]; exact .inr (Array.mem_toList_iff.1 hx))]
 case slice T x lo hi mx =>
  simp only [opS]
  have e1 := h x (by simp [Op.operands])
  rw [e1, optMap_congr (o := lo) fun y hy => h y (by simp only [Op.operands, Array.mem_append]; exact .inl (.inl (.inr hy))),
   optMap_congr (o := hi) fun y hy => h y (by simp only [Op.operands, Array.mem_append]; exact .inl (.inr hy)),
   optMap_congr (o := mx) fun y hy => h y (by simp only [Op.operands, Array.mem_append]; exact .inr hy)]
 all_goals
  simp only [opS]
  try rfl
  try simp only [Op.operands, List.mem_toArray, List.mem_cons, List.not_mem_nil, or_false, forall_eq_or_imp, forall_eq] at h
  try simp only [h]
theorem exO_congr {o : Oper} (h : ∀ x ∈ o.op.operands, svOp env x = svOp env2 x) : exO P sm rec env o st = exO P sm rec env2 o st := by
 obtain ⟨dst, op, ty, pos, af, g⟩ := o
 cases op with
 | call c =>
  obtain ⟨callee, args, ats⟩ := c
  have ha : svOps env args.toList = svOps env2 args.toList := svOps_congr fun x hx => h x (by
   simp only [Op.operands, Call.operands, Array.mem_append]; exact .inr (Array.mem_toList_iff.1 hx))
  cases callee with
  | builtin b => simp only [exO]; rw [ha]
  | value f =>
   have hf := h f (by simp [Op.operands, Call.operands])
   simp only [exO]
   rw [ha, hf]
  | invoke r n => rfl
 | next x s =>
  cases s with
  | true => rfl
  | false => simp only [exO]; rw [h x (by simp [Op.operands])]
 | _ => simp only [exO]; rw [opS_congr h]
theorem look_op {ops : Array Oper} {o : Oper} (h : ∀ d ∈ o.looksAt ops, env.get d = env2.get d) : ∀ x ∈ o.op.operands, svOp env x = svOp env2 x := by
 intro x hx
 cases x with
 | tmp t =>
  have : t ∈ o.looksAt ops := by
   unfold Oper.looksAt
   rw [List.mem_append]
   left
   rw [List.mem_filterMap]
   exact ⟨.tmp t, Array.mem_toList_iff.2 hx, rfl⟩
  simp only [svOp, h t this]
 | const v => rfl
 | global g => rfl
 | func f => rfl
theorem wantS_congr {l : List Oper} {o : Oper} (h : ∀ d ∈ o.looksAt l.toArray, env.get d = env2.get d) : wantS l env o = wantS l env2 o := by
 unfold wantS
 cases hg : o.guard with
 | none => rfl
 | some p =>
  obtain ⟨j, want⟩ := p
  simp only
  cases hn : nth l j with
  | none => rfl
  | some oj =>
   simp only
   cases hd : oj.dst with
   | none => rfl
   | some d =>
    have : d ∈ o.looksAt l.toArray := by
     unfold Oper.looksAt
     rw [List.mem_append]
     right
     rw [hg]
     rw [nth_eq] at hn
     simp [hn, hd]
    simp only [h d this]
theorem wantS_ok {l : List Oper} {o : Oper} {b : Bool} {N : Nat} {a : Act} (he : EnvR ρ N env a.tmps) (h : wantS l env o = some b) : Region.wanted o (yielded l.toArray a.tmps) = b := by
 unfold wantS at h
 unfold Region.wanted
 cases hg : o.guard with
 | none => rw [hg] at h; simp only [Option.some.injEq] at h; exact h
 | some p =>
  obtain ⟨j, want⟩ := p
  rw [hg] at h
  simp only at h ⊢
  cases hn : nth l j with
  | none => rw [hn] at h; cases h
  | some oj =>
   rw [hn] at h
   simp only at h
   cases hd : oj.dst with
   | none => rw [hd] at h; cases h
   | some d =>
    rw [hd] at h
    simp only at h
    have hr := he.2 d
    rw [nth_eq] at hn
    have hy : yielded l.toArray a.tmps j = match a.tmps.getD d undef with | .bool b => some b | _ => none := by
     unfold yielded
     rw [Array.getD_eq_getD_getElem?]
     cases ht : a.tmps[d]? with
     | none => simp [hn, hd, ht]; rfl
     | some u => cases u <;> simp [hn, hd, ht]
    rw [hy]
    cases he2 : env.get d with
    | none => rw [he2] at h; cases h
    | some s =>
     rw [he2] at h hr
     simp only [Option.getD_some] at hr
     cases s <;> simp only at h <;> try (cases h; done)
     ·rename_i v
      rw [Rel] at hr
      rw [hr]
      cases v <;> simp only [Option.some.injEq] at h <;> subst h
      case bool b' => cases b' <;> cases want <;> rfl
      all_goals rfl
     ·rename_i l'
      simp only [Option.some.injEq] at h
      subst h
      rw [Rel] at hr
      obtain ⟨us, _, hr⟩ := hr
      rw [hr]
      rfl
def PutR (N : Nat) (env : Tr SV) (dst : Option Tmp) (v : SV) (env' : Tr SV) : Prop := (∀ d, dst = some d → d < N) ∧ env' = match dst with | none => env | some d => env.set d (some v)
theorem putK_some {β : Type} {N : Nat} {d : Option Tmp} {v : SV} {k : Tr SV → Option β} {r : β} (h : putK N env d v k = some r) : ∃ env', PutR N env d v env' ∧ k env' = some r := by
 unfold putK at h
 cases d with
 | none => exact ⟨env, ⟨(fun d hd => by cases hd), rfl⟩, h⟩
 | some d =>
  simp only at h
  have hb := (bif_of h).1
  replace h := (bif_of h).2
  rw [Tr.setK_eq] at h
  exact ⟨_, ⟨fun d' hd => by cases hd; exact Nat.blt_eq.mp hb, rfl⟩, h⟩
theorem PutR.envR {N : Nat} {d : Option Tmp} {v : SV} {env' : Tr SV} {a : Act} {u : Value} (h : PutR N env d v env') (he : EnvR ρ N env a.tmps) (hv : Rel ρ v u) : EnvR ρ N env' (a.put d u).tmps := by
 obtain ⟨h1, rfl⟩ := h
 cases d with
 | none => exact he
 | some d => exact he.put (h1 d rfl) hv
theorem PutR.other {N : Nat} {d : Option Tmp} {v : SV} {env' : Tr SV} (h : PutR N env d v env') {t : Nat} (ht : ¬ d = some t) : env'.get t = env.get t := by
 obtain ⟨h1, rfl⟩ := h
 cases d with
 | none => rfl
 | some d => show (env.set d (some v)).get t = _; rw [Tr.get_set, if_neg (fun e => ht (by rw [e]))]
theorem PutR.at {N : Nat} {d : Nat} {v : SV} {env' : Tr SV} (h : PutR N env (some d) v env') : env'.get d = some v := by
 obtain ⟨h1, rfl⟩ := h
 show (env.set d (some v)).get d = _
 rw [Tr.get_set, if_pos rfl]
structure StepR (P : Program) (sm : Sums) (rec : Rec) (N : Nat) (ops : List Oper) (o : Oper) (E : Tr SV) (H : Tr SO) (X : Nat) (T : Tc) (E' : Tr SV) (H' : Tr SO) (X' : Nat) : Prop where
 a : T.a = X
 b : T.b = X'
 le : X ≤ X'
 wr : ∀ x ∈ T.W, x ∈ T.R
 wl : ∀ x ∈ T.W, x < X
 q : T.q = true → T.W = [] ∧ X' = X
 out : ∀ x, ¬ (x ∈ T.W ∨ (X ≤ x ∧ x < X')) → H'.get x = H.get x
 eo : ∀ t, ¬ o.dst = some t → E'.get t = E.get t
 is : (wantS ops E o = some false ∧ T.W = [] ∧ X' = X ∧ PutR N E o.dst (.raw undef) E') ∨
  (wantS ops E o = some true ∧ ∃ v hq b, exO P sm rec E o ⟨H, X, X, [], []⟩ = some [(v, ⟨hq, X', b, T.R, T.W⟩)] ∧ (∀ x, (x ∈ T.W ∨ (X ≤ x ∧ x < X')) → H'.get x = hq.get x) ∧ PutR N E o.dst v E')
theorem mrgK_some {β : Type} {h' : Tr SO} : ∀ {l : List Nat} {h : Tr SO} {k : Tr SO → Option β} {r : β}, mrgK h' l h k = some r → ∃ h2, k h2 = some r ∧ (∀ x ∈ l, h2.get x = h'.get x) ∧ ∀ x, x ∉ l → h2.get x = h.get x
 | [], h, k, r, hh => ⟨h, hh, (fun x hx => by cases hx), fun _ _ => rfl⟩
 | y :: l, h, k, r, hh => by
  have hh : mrgK h' l (h.set y (h'.get y)) k = some r := by
   simp only [mrgK] at hh
   split at hh
   ·rename_i o ho; rw [Tr.setK_eq] at hh; rw [ho]; exact hh
   ·rename_i ho; rw [Tr.setK_eq] at hh; rw [ho]; exact hh
  obtain ⟨h2, e1, e2, e3⟩ := mrgK_some hh
  refine ⟨h2, e1, fun x hx => ?_, fun x hx => ?_⟩
  ·by_cases hl : x ∈ l
   ·exact e2 x hl
   ·rcases List.mem_cons.1 hx with rfl | hx
    ·rw [e3 x hl, Tr.get_set, if_pos rfl]
    ·exact absurd hx hl
  ·rw [List.mem_cons, not_or] at hx
   rw [e3 x hx.2, Tr.get_set, if_neg hx.1]
theorem rngK_some {β : Type} {h' : Tr SO} : ∀ {n y : Nat} {h : Tr SO} {k : Tr SO → Option β} {r : β}, rngK h' n y h k = some r → ∃ h2, k h2 = some r ∧ (∀ x, y ≤ x → x < y + n → h2.get x = h'.get x) ∧ ∀ x, ¬ (y ≤ x ∧ x < y + n) → h2.get x = h.get x
 | 0, y, h, k, r, hh => ⟨h, hh, fun x h1 h2 => by omega, fun _ _ => rfl⟩
 | n + 1, y, h, k, r, hh => by
  have hh : rngK h' n (y + 1) (h.set y (h'.get y)) k = some r := by
   simp only [rngK] at hh
   split at hh
   ·rename_i o ho; rw [Tr.setK_eq, natK_eq] at hh; rw [ho]; exact hh
   ·rename_i ho; rw [Tr.setK_eq, natK_eq] at hh; rw [ho]; exact hh
  obtain ⟨h2, e1, e2, e3⟩ := rngK_some hh
  refine ⟨h2, e1, fun x h3 h4 => ?_, fun x hx => ?_⟩
  ·by_cases e : x = y
   ·subst e; rw [e3 x (by omega), Tr.get_set, if_pos rfl]
   ·exact e2 x (by omega) (by omega)
  ·rw [e3 x (by omega), Tr.get_set, if_neg (by omega)]
theorem okW_ok {nx : Nat} {R : List Nat} : ∀ {l : List Nat}, okW nx R l = true → ∀ x ∈ l, x < nx ∧ x ∈ R
 | [], _, x, hx => by cases hx
 | y :: l, h, x, hx => by
  simp only [okW] at h
  cases h1 : Nat.blt y nx with
  | false => rw [h1] at h; cases h
  | true =>
   rw [h1, cond_true] at h
   cases h2 : memb y R with
   | false => rw [h2] at h; cases h
   | true =>
    rw [h2, cond_true] at h
    rcases List.mem_cons.1 hx with rfl | hx
    ·exact ⟨Nat.blt_eq.mp h1, memb_mem h2⟩
    ·exact okW_ok h x hx
theorem quietB_ok {W : List Nat} {a b : Nat} (h : quietB W a b = true) : W = [] ∧ b = a := by
 cases W with
 | nil => exact ⟨rfl, (Nat.eq_of_beq_eq_true h).symm⟩
 | cons x r => cases h
theorem exR_seq {N : Nat} {ops : List Oper} : ∀ {l : List Oper} {env : Tr SV} {h : Tr SO} {nx : Nat} {acc : List Tc} {env' : Tr SV} {h' : Tr SO} {nx' : Nat} {acc' : List Tc}, exR P sm rec N ops l env h nx acc = some (env', h', nx', acc') →
 ∃ (E : Nat → Tr SV) (H : Nat → Tr SO) (X : Nat → Nat) (T : Nat → Tc), E 0 = env ∧ H 0 = h ∧ X 0 = nx ∧ E l.length = env' ∧ H l.length = h' ∧ X l.length = nx' ∧ acc' = ((List.range l.length).map T).reverse ++ acc ∧
  ∀ (i : Nat) (o : Oper), l[i]? = some o → StepR P sm rec N ops o (E i) (H i) (X i) (T i) (E (i + 1)) (H (i + 1)) (X (i + 1))
 | [], env, h, nx, acc, env', h', nx', acc', hh => by
  simp only [exR, Option.some.injEq, Prod.mk.injEq] at hh
  obtain ⟨rfl, rfl, rfl, rfl⟩ := hh
  exact ⟨fun _ => env, fun _ => h, fun _ => nx, fun _ => ⟨[], [], 0, 0, true⟩, rfl, rfl, rfl, rfl, rfl, rfl, by simp, fun i o hi => by simp at hi⟩
 | o :: r, env, h, nx, acc, env', h', nx', acc', hh => by
  have key : ∃ env1 h1 nx1 t, StepR P sm rec N ops o env h nx t env1 h1 nx1 ∧ exR P sm rec N ops r env1 h1 nx1 (t :: acc) = some (env', h', nx', acc') := by
   simp only [exR] at hh
   split at hh
   ·rename_i hw
    split at hh
    ·rename_i v st2 he
     obtain ⟨hq, nq, b, R, W⟩ := st2
     simp only [endK] at hh
     cases hqt : quietB W nx nq with
     | true =>
      rw [hqt, cond_true] at hh
      obtain ⟨env1, p1, hh⟩ := putK_some hh
      obtain ⟨rfl, rfl⟩ := quietB_ok hqt
      exact ⟨env1, h, nq, _, ⟨rfl, rfl, Nat.le_refl _, (fun x hx => by cases hx), (fun x hx => by cases hx), fun _ => ⟨rfl, rfl⟩, fun _ _ => rfl, fun t ht => p1.other ht, .inr ⟨hw, v, hq, b, he, (fun x hx => by rcases hx with q | q; cases q; omega), p1⟩⟩, hh⟩
     | false =>
      rw [hqt, cond_false] at hh
      have hle := Nat.ble_eq.mp (bif_of hh).1
      replace hh := (bif_of hh).2
      have hok := okW_ok (bif_of hh).1
      replace hh := (bif_of hh).2
      obtain ⟨h1, hh, e1, e2⟩ := mrgK_some hh
      obtain ⟨h2, hh, e3, e4⟩ := rngK_some hh
      obtain ⟨env1, p1, hh⟩ := putK_some hh
      refine ⟨env1, h2, nq, _, ⟨rfl, rfl, hle, fun x hx => (hok x hx).2, fun x hx => (hok x hx).1, (fun q => by cases q), fun x hx => ?_, fun t ht => p1.other ht, .inr ⟨hw, v, hq, b, he, fun x hx => ?_, p1⟩⟩, hh⟩
      ·rw [not_or] at hx
       rw [e4 x (by omega), e2 x hx.1]
      ·by_cases hr : nx ≤ x ∧ x < nq
       ·exact e3 x hr.1 (by omega)
       ·rw [e4 x (by omega)]; exact e1 x (hx.resolve_right hr)
    ·cases hh
   ·rename_i hw
    obtain ⟨env1, p1, hh⟩ := putK_some hh
    exact ⟨env1, h, nx, _, ⟨rfl, rfl, Nat.le_refl _, (fun x hx => by cases hx), (fun x hx => by cases hx), fun _ => ⟨rfl, rfl⟩, fun _ _ => rfl, fun t ht => p1.other ht, .inl ⟨hw, rfl, rfl, p1⟩⟩, hh⟩
   ·cases hh
  obtain ⟨env1, h1, nx1, t, s1, hh⟩ := key
  obtain ⟨E, H, X, T, a1, a2, a3, a4, a5, a6, a7, a8⟩ := exR_seq hh
  refine ⟨fun i => match i with | 0 => env | i + 1 => E i, fun i => match i with | 0 => h | i + 1 => H i, fun i => match i with | 0 => nx | i + 1 => X i, fun i => match i with | 0 => t | i + 1 => T i, rfl, rfl, rfl, a4, a5, a6, ?_, ?_⟩
  ·rw [a7, List.length_cons, List.range_succ_eq_map, List.map_cons, List.map_map, List.reverse_cons, List.append_assoc]
   rfl
  ·intro i o' hi
   cases i with
   | zero =>
    simp only [List.getElem?_cons_zero, Option.some.injEq] at hi
    subst hi
    show StepR P sm rec N ops o env h nx t (E 0) (H 0) (X 0)
    rw [a1, a2, a3]; exact s1
   | succ i =>
    simp only [List.getElem?_cons_succ] at hi
    exact a8 i o' hi
end
end Go.TX
namespace Go.TX
open Go Go.TH
noncomputable section
variable {P : Program} {sm : Sums} {rec : Rec}
def OpOK (P : Program) (F : Fence) (N : Nat) (o : Oper) (env : Tr SV) (st : St) (L : List (SV × St)) : Prop :=
  ∀ (ρ : Ren) (D : Nat → Prop) (w : World) (a : Act) (K : Act → World → Prop) (Q : Exit → Act → World → Prop), EnvR ρ N env a.tmps → Sim ρ D st w → (∀ p ∈ L, ∀ x, x ∈ p.2.R ∨ st.base ≤ x → D x) → (∀ p ∈ L, Free ρ st.nx p.2.nx) →
    (∀ p ∈ L, ∀ u w' ρ', Rel ρ' p.1 u → Step ρ ρ' D st p.2 w w' → K (a.put o.dst u) w') → o.wpIn F 0 P a w K Q
structure DInv (l : List Oper) (E : Nat → Tr SV) (H : Nat → Tr SO) (X : Nat → Nat) (T : Nat → Tc) (N : Nat) (ρ0 : Ren) (D : Nat → Prop) (st : St) (Rf Wf : List Nat) (w0 : World) (a0 : Act) (S : Nat → Prop) (a : Act) (w : World) : Prop where
  is : ∃ (ρ : Ren) (M : Tr SO) (B : Tr SV), (∀ x, M.get x = cur (fun i => (H i).get) (fun i x => x ∈ (T i).W ∨ (X i ≤ x ∧ x < X (i + 1))) S l.length x) ∧
    (∀ t, B.get t = cur (fun i => (E i).get) (fun i t => (l[i]?).bind (·.dst) = some t) S l.length t) ∧ EnvR ρ N B a.tmps ∧ a.defers = a0.defers ∧
    Step ρ0 ρ D st ⟨M, X l.length, st.base, Rf, Wf⟩ w0 w ∧ ∀ i, i < l.length → ¬ S i → ∀ x, X i ≤ x → x < X (i + 1) → ρ x = none
theorem mono_nat {X : Nat → Nat} {n : Nat} (h : ∀ i, i < n → X i ≤ X (i + 1)) : ∀ {i j : Nat}, i ≤ j → j ≤ n → X i ≤ X j := by
  intro i j hij hj
  induction j with
  | zero => have : i = 0 := by omega
            rw [this]; exact Nat.le_refl _
  | succ j ih =>
    by_cases e : i = j + 1
    · rw [e]; exact Nat.le_refl _
    · exact Nat.le_trans (ih (by omega) (by omega)) (h j (by omega))
theorem exD_ok {F : Fence} (hFn : ∀ f, F.fn f) (hm : P.follows .mixedOrders = true) {N id : Nat} {ops : Array Oper} {env env' : Tr SV} {st st' : St}
    (hO : ∀ o env st L, exO P sm rec env o st = some L → OpOK P F N o env st L) (h : exD P sm rec N ops env st = some (env', st'))
    {ρ0 : Ren} {D : Nat → Prop} {w0 : World} {a0 : Act} (he : EnvR ρ0 N env a0.tmps) (hs : Sim ρ0 D st w0) (hD : ∀ x, x ∈ st'.R ∨ st.base ≤ x → D x) (hf : Free ρ0 st.nx st'.nx) :
    (Code.region id ops true).wpIn F 0 P (fun e a' w' => e = .normal ∧ ∃ ρ', a'.defers = a0.defers ∧ EnvR ρ' N env' a'.tmps ∧ Step ρ0 ρ' D st st' w0 w') a0 w0 := by
  obtain ⟨l⟩ := ops
  obtain ⟨h0, nx0, bs, R0, W0⟩ := st
  simp only [exD] at h
  have hstat := (bif_of h).1
  replace h := (bif_of h).2
  split at h
  case h_2 => cases h
  rename_i envE hE nxE ts hR
  have hsep := (bif_of h).1
  replace h := (bif_of h).2
  obtain ⟨Rf, Wf, ht, hRf0, hWf0, htold⟩ := tellK_eq (b := bs) (ts := ts) (R := R0) (W := W0) (k := fun R' W' => some (envE, (⟨hE, nxE, bs, R', W'⟩ : St)))
  rw [ht] at h
  simp only [Option.some.injEq, Prod.mk.injEq] at h
  obtain ⟨rfl, rfl⟩ := h
  obtain ⟨E, H, X, T, hE0, hH0, hX0, hEn, hHn, hXn, hts, hst⟩ := exR_seq hR
  have hXs : ∀ i, i < l.length → X i ≤ X (i + 1) := fun i hi => (hst i l[i] (by simp [hi])).le
  have hXm : ∀ {i j : Nat}, i ≤ j → j ≤ l.length → X i ≤ X j := fun {i j} => mono_nat hXs
  simp only [statD, Bool.and_eq_true] at hstat
  obtain ⟨hback, hap⟩ := hstat
  rw [afsAll_eq] at hback
  have hback : ∀ (i : Nat) (af : List Nat), (l.map afsL)[i]? = some af → ∀ j ∈ af, j < i := fun i af hi j hj => by have := backAll_ok hback i af hi j hj; omega
  have hmk : Masks (l.map afsL) (cloO l) ∧ (cloO l).length = l.length := by
    have := cloB_ok hback (l.map afsL) [] rfl (fun k m hk => by simp at hk)
    rw [cloO, afsAll_eq]
    simpa using this
  have hafl : ∀ (i : Nat) (o : Oper), l[i]? = some o → (l.map afsL)[i]? = some (afsL o) := fun i o hi => by simp [hi]
  have hlt1 : ∀ (i : Nat) (o : Oper), l[i]? = some o → ∀ j ∈ afsL o, j < i := fun i o hi j hj => hback i _ (hafl i o hi) j hj
  let Cl : (Nat → Prop) → Prop := fun S => ∀ i o, l[i]? = some o → S i → ∀ j ∈ afsL o, S j
  have hpair : ∀ (S : Nat → Prop), Cl S → ∀ (i j : Nat) (o : Oper), i < j → l[j]? = some o → (∀ k ∈ afsL o, S k) → (S i ∨ (∃ t, l[i]? = some t ∧ t.apart l.toArray o = true)) ∧ (S i ∨ sepT (T i) (T j) = true ∨ ((T i).q = true ∧ (T j).q = true)) := by
    intro S hS i j o hij hj haf
    have hjl := (List.getElem?_eq_some_iff.1 hj).1
    have hm0 : j < (cloO l).length := by rw [hmk.2]; exact hjl
    have hmj : (cloO l)[(cloO l).length - 1 - j]? = some ((cloO l)[(cloO l).length - 1 - j]'(by omega)) := by simp
    have hgood : ∀ i, bitB ((cloO l)[(cloO l).length - 1 - j]'(by omega)) i = true → S i := hmk.1 j _ hm0 hmj S (fun i af hi hSi k hk => by
      rw [List.getElem?_map] at hi
      cases hl : l[i]? with
      | none => rw [hl] at hi; cases hi
      | some o' =>
        rw [hl] at hi
        simp only [Option.map_some, Option.some.injEq] at hi
        subst hi
        exact hS i o' hl hSi k hk) (fun af hi k hk => by
      rw [hafl j o hj] at hi
      simp only [Option.some.injEq] at hi
      subst hi
      exact haf k hk)
    constructor
    · rw [revK_eq, List.append_nil] at hap
      have hil : i < l.length := by omega
      have e1 : l.reverse[l.reverse.length - 1 - i]? = some l[i] := by
        rw [List.getElem?_reverse (by simp; omega)]
        simp only [List.length_reverse]
        have : l.length - 1 - (l.length - 1 - i) = i := by omega
        rw [this]; simp [hil]
      have e2 : l.reverse[l.reverse.length - 1 - j]? = some o := by
        rw [List.getElem?_reverse (by simp; omega)]
        simp only [List.length_reverse]
        have : l.length - 1 - (l.length - 1 - j) = j := by omega
        rw [this]; exact hj
      rcases apAll_ok (by rw [List.length_reverse, hmk.2]) hap i j l[i] o _ hij (by simpa using hjl) e1 e2 hmj with q | q
      · exact .inl (hgood i q)
      · exact .inr ⟨l[i], by simp [hil], q⟩
    · have htl : ts.length = l.length := by rw [hts]; simp
      have hget : ∀ k, k < l.length → ts[ts.length - 1 - k]? = some (T k) := by
        intro k hk
        rw [htl, hts, List.append_nil, List.getElem?_reverse (by simp; omega)]
        simp only [List.length_map, List.length_range]
        have : l.length - 1 - (l.length - 1 - k) = k := by omega
        rw [this]; simp [hk]
      rw [Bool.or_eq_true] at hsep
      rcases hsep with hq | hq
      · have := allQ_ok hq
        refine .inr (.inr ⟨this _ (List.mem_of_getElem? (hget i (by omega))), this _ (List.mem_of_getElem? (hget j hjl))⟩)
      · rcases sepAll_ok (by rw [htl, hmk.2]) hq i j (T i) (T j) _ hij (by omega) (hget i (by omega)) (hget j hjl) hmj with q | q
        · exact .inl (hgood i q)
        · exact .inr (.inl q)
  have hTR : ∀ i, i < l.length → (∀ x ∈ (T i).R, x ∈ Rf ∨ bs ≤ x) ∧ ∀ x ∈ (T i).W, x ∈ Wf ∨ bs ≤ x := by
    intro i hi
    exact htold (T i) (by rw [hts]; simp; exact ⟨i, hi, rfl⟩)
  let tH : Nat → Nat → Prop := fun i x => x ∈ (T i).W ∨ (X i ≤ x ∧ x < X (i + 1))
  let tE : Nat → Nat → Prop := fun i t => (l[i]?).bind (·.dst) = some t
  have hoH : ∀ i, i < l.length → ∀ x, ¬ tH i x → (H (i + 1)).get x = (H i).get x := fun i hi x hx => (hst i l[i] (by simp [hi])).out x hx
  have hoE : ∀ i, i < l.length → ∀ t, ¬ tE i t → (E (i + 1)).get t = (E i).get t := fun i hi t ht => (hst i l[i] (by simp [hi])).eo t (fun q => ht (by simp [tE, hi, q]))
  have hHl : ∀ i, i ≤ l.length → ∀ x, (H i).get x ≠ none → x < X i := by
    intro i
    induction i with
    | zero => intro _ x hx; rw [hH0] at hx; rw [hX0]; exact hs.lt x hx
    | succ i ih =>
      intro hi x hx
      by_cases ht : tH i x
      · rcases ht with q | q
        · have := (hst i l[i] (by simp)).wl x q
          have := hXs i (by omega)
          omega
        · exact q.2
      · rw [hoH i (by omega) x ht] at hx
        have := ih (by omega) x hx
        have := hXs i (by omega)
        omega
  have hsepq : ∀ {i j : Nat}, i < l.length → j < l.length → (sepT (T i) (T j) = true ∨ ((T i).q = true ∧ (T j).q = true)) → ((T i).W = [] ∧ X (i + 1) = X i ∧ (T j).W = [] ∧ X (j + 1) = X j) ∨ ((∀ x ∈ (T i).W, x ∉ (T j).R) ∧ (∀ x ∈ (T i).W, x ∉ (T j).W) ∧ (∀ x ∈ (T i).R, x ∉ (T j).W) ∧ ∀ x ∈ (T j).R, ¬ (X i ≤ x ∧ x < X (i + 1))) := by
    intro i j hi hj h
    have si := hst i l[i] (by simp [hi])
    have sj := hst j l[j] (by simp [hj])
    have hq : ((T i).q = true ∧ (T j).q = true) → (T i).W = [] ∧ X (i + 1) = X i ∧ (T j).W = [] ∧ X (j + 1) = X j := fun q => ⟨(si.q q.1).1, (si.q q.1).2, (sj.q q.2).1, (sj.q q.2).2⟩
    rcases h with h | h
    · rcases sepT_ok h with q | ⟨q1, q2, q3, q4⟩
      · exact .inl (hq q)
      · rw [si.a, si.b] at q4
        exact .inr ⟨q1, q2, q3, q4⟩
    · exact .inl (hq h)
  let S : Array Bool → Nat → Prop := fun ls i => i < l.length ∧ ls.getD i true = true
  refine wpIn_region_any hm ?_
  have main : ∀ (fuel : Nat) (ls : Array Bool) (a : Act) (w : World), ls.size = l.length → ls.toList.count false ≤ fuel → Cl (S ls) → DInv l E H X T N ρ0 D ⟨h0, nx0, bs, R0, W0⟩ Rf Wf w0 a0 (S ls) a w →
      wpAnyIn F 0 P .any l.toArray (fun e a' w' => e = .normal ∧ ∃ ρ', a'.defers = a0.defers ∧ EnvR ρ' N envE a'.tmps ∧ Step ρ0 ρ' D ⟨h0, nx0, bs, R0, W0⟩ ⟨hE, nxE, bs, Rf, Wf⟩ w0 w') fuel ls a w := by
    intro fuel
    have allDone : ∀ (ls : Array Bool), ls.size = l.length → Region.ready .any l.toArray ls = [] → ∀ i, i < l.length → ls.getD i true = true := by
      intro ls hsz hr i
      induction i using Nat.strongRecOn with
      | _ i ih =>
        intro hi
        cases hg : ls.getD i true with
        | true => rfl
        | false =>
          exfalso
          have : i ∈ Region.ready .any l.toArray ls := by
            refine mem_ready.2 ⟨hg, l[i], by simp [hi], fun e he hb => ?_⟩
            have hlt : e.on < i := hlt1 i l[i] (by simp [hi]) _ (mem_afsL.2 ⟨e, by simpa using he, hb, rfl⟩)
            have := ih e.on hlt (by omega)
            have hs' : e.on < ls.size := by omega
            simp only [Array.getD_eq_getD_getElem?, Array.getElem?_eq_getElem hs', Option.getD_some] at this ⊢
            exact this
          rw [hr] at this
          cases this
    have finish : ∀ (ls : Array Bool) a w, ls.size = l.length → Region.ready .any l.toArray ls = [] → DInv l E H X T N ρ0 D ⟨h0, nx0, bs, R0, W0⟩ Rf Wf w0 a0 (S ls) a w →
        (Exit.normal = Exit.normal ∧ ∃ ρ', a.defers = a0.defers ∧ EnvR ρ' N envE a.tmps ∧ Step ρ0 ρ' D ⟨h0, nx0, bs, R0, W0⟩ ⟨hE, nxE, bs, Rf, Wf⟩ w0 w) := by
      intro ls a w hsz hr ⟨ρ, M, B, e1, e2, e3, e4, e5, _⟩
      have hall := allDone ls hsz hr
      have hM : ∀ x, M.get x = hE.get x := fun x => by
        rw [e1 x, ← hHn]
        exact cur_at (fun i => (H i).get) tH (S ls) hoH (Nat.le_refl _) fun i hi _ => ⟨hi, hall i hi⟩
      have hB : ∀ t, B.get t = envE.get t := fun t => by
        rw [e2 t, ← hEn]
        exact cur_at (fun i => (E i).get) tE (S ls) hoE (Nat.le_refl _) fun i hi _ => ⟨hi, hall i hi⟩
      refine ⟨rfl, ρ, e4, ⟨e3.1, fun t => by rw [← hB t]; exact e3.2 t⟩, ?_⟩
      rw [hXn] at e5
      refine ⟨e5.os, e5.tape, e5.output, e5.size, e5.nx, rfl, e5.sR, e5.sW, e5.ext, e5.keep, fun x hx hn => ?_, fun x hx => ?_, fun x b s hx hg hr => ?_, ⟨fun x o d g => ?_, fun x y b s s' d d' g g' => ?_, fun x g => ?_⟩⟩
      · show hE.get x = none; rw [← hM x]; exact e5.dead x hx hn
      · rcases e5.same x hx with q | q
        · exact .inl q
        · right; show hE.get x = _; rw [← hM x]; exact q
      · have hg : hE.get x ≠ none := hg
        rw [← hM x] at hg
        rcases e5.fresh x b s hx hg hr with q | ⟨z, s', q1, q2, q3, q4, q5, q6⟩
        · exact .inl q
        · exact .inr ⟨z, s', q1, q2, q3, q4, by show hE.get z = none; rw [← hM z]; exact q5, q6⟩
      · have g : hE.get x = some o := g
        rw [← hM x] at g
        exact e5.sim.live x o d g
      · have g : hE.get x ≠ none := g
        have g' : hE.get y ≠ none := g'
        rw [← hM x] at g
        rw [← hM y] at g'
        exact e5.sim.inj x y b s s' d d' g g'
      · have g : hE.get x ≠ none := g
        rw [← hM x] at g
        exact e5.sim.lt x g
    induction fuel with
    | zero =>
      intro ls a w hsz hcnt hcl hS
      have hr : Region.ready .any l.toArray ls = [] := by
        cases hr : Region.ready .any l.toArray ls with
        | nil => rfl
        | cons i r =>
          have hi : i ∈ Region.ready .any l.toArray ls := by rw [hr]; simp
          obtain ⟨h1, o, h2, _⟩ := mem_ready.1 hi
          have hlt : i < ls.size := by
            rw [hsz]; have := (Array.getElem?_eq_some_iff.1 h2).1; simpa using this
          have : false ∈ ls.toList := by
            have e : ls[i]? = some false := by
              simp only [Array.getD_eq_getD_getElem?, Array.getElem?_eq_getElem hlt, Option.getD_some] at h1
              rw [Array.getElem?_eq_getElem hlt, h1]
            exact Array.mem_toList_iff.2 (Array.mem_of_getElem? e)
          have := List.count_pos_iff.2 this
          omega
      exact ⟨hr, finish ls a w hsz hr hS⟩
    | succ fuel ih =>
      intro ls a w hsz hcnt hcl hS
      refine ⟨fun hr => finish ls a w hsz hr hS, fun i hi => ?_⟩
      obtain ⟨h1, o, ho, haf⟩ := mem_ready.1 hi
      have ho' : l[i]? = some o := by simpa using ho
      have hil : i < l.length := (List.getElem?_eq_some_iff.1 ho').1
      have his : i < ls.size := by omega
      have hcnt' : (ls.setIfInBounds i true).toList.count false ≤ fuel := by
        have e : ls.toList[i]? = some false := by
          simp only [Array.getD_eq_getD_getElem?, Array.getElem?_eq_getElem his, Option.getD_some] at h1
          simp [his, h1]
        have := count_set ls.toList i e
        rw [Array.toList_setIfInBounds]
        omega
      have hsz' : (ls.setIfInBounds i true).size = l.length := by simp [hsz]
      have hbefore : ∀ j, j ∈ afsL o → S ls j := by
        intro j hj
        have hjl := hlt1 i o ho' j hj
        obtain ⟨e, he, hb, rfl⟩ := mem_afsL.1 hj
        have hh := haf e (by simpa using he) hb
        have hlt : e.on < ls.size := by omega
        refine ⟨by omega, ?_⟩
        simp only [Array.getD_eq_getD_getElem?, Array.getElem?_eq_getElem hlt, Option.getD_some] at hh ⊢
        exact hh
      have hni : ¬ S ls i := fun q => by have := q.2; rw [h1] at this; cases this
      have hS' : ∀ j, S (ls.setIfInBounds i true) j ↔ (S ls j ∨ j = i) := by
        intro j
        simp only [S]
        rw [getD_set ls i j his]
        by_cases e : i = j
        · subst e; simp [hil]
        · have : (i == j) = false := by simp [e]
          rw [this]; simp; omega
      have hcl' : Cl (S (ls.setIfInBounds i true)) := by
        intro i' o' ho2 hl' j hj
        rw [hS'] at hl' ⊢
        rcases hl' with q | rfl
        · exact .inl (hcl i' o' ho2 q j hj)
        · rw [ho'] at ho2
          obtain rfl : o = o' := by simpa using ho2
          exact .inl (hbefore j hj)
      have hsti := hst i o ho'
      obtain ⟨ρ, M, B, e1, e2, e3, e4, e5, e6⟩ := hS
      have hbe : ∀ j, j < i → (S ls j ∨ ∃ t, l[j]? = some t ∧ t.apart l.toArray o = true) ∧ (S ls j ∨ sepT (T j) (T i) = true ∨ ((T j).q = true ∧ (T i).q = true)) := fun j hj => hpair (S ls) hcl j i o hj ho' hbefore
      have haft : ∀ j, i < j → j < l.length → S ls j → (∃ t, l[j]? = some t ∧ o.apart l.toArray t = true) ∧ (sepT (T i) (T j) = true ∨ ((T i).q = true ∧ (T j).q = true)) := by
        intro j hij hj hSj
        obtain ⟨q1, q2⟩ := hpair (S ls) hcl i j l[j] hij (by simp [hj]) (fun k hk => hcl j l[j] (by simp [hj]) hSj k hk)
        refine ⟨?_, q2.resolve_left hni⟩
        obtain ⟨t, ht, q⟩ := q1.resolve_left hni
        rw [ho'] at ht
        simp only [Option.some.injEq] at ht
        subst ht
        exact ⟨l[j], by simp [hj], q⟩
      have hRt : ∀ x ∈ (T i).R, x < X i → M.get x = (H i).get x := by
        intro x hx hxl
        rw [e1 x]
        refine cur_is (fun i => (H i).get) tH (S ls) hoH (by omega) ?_ ?_
        · intro j hj htj
          rcases (hbe j hj).2 with q | q
          · exact q
          · rcases hsepq (by omega) hil q with ⟨q1, q2, _⟩ | ⟨q1, q2, q3, q4⟩
            · rcases htj with r | r
              · rw [q1] at r; cases r
              · omega
            · rcases htj with r | r
              · exact absurd hx (q1 x r)
              · exact absurd r (q4 x hx)
        · intro j hj hjl hSj htj
          by_cases e : j = i
          · subst e; exact hni hSj
          · have hm2 : X (i + 1) ≤ X j := hXm (by omega) (by omega)
            have hm3 := hXs i hil
            rcases hsepq hil hjl (haft j (by omega) hjl hSj).2 with ⟨_, _, q1, q2⟩ | ⟨q1, q2, q3, q4⟩
            · rcases htj with r | r
              · rw [q1] at r; cases r
              · omega
            · rcases htj with r | r
              · exact absurd r (q3 x hx)
              · omega
      have hBt : ∀ t ∈ o.looksAt l.toArray, B.get t = (E i).get t := by
        intro t ht
        rw [e2 t]
        refine cur_is (fun i => (E i).get) tE (S ls) hoE (by omega) ?_ ?_
        · intro j hj htj
          rcases (hbe j hj).1 with q | ⟨u, hu, q⟩
          · exact q
          · simp only [tE, hu, Option.bind_some] at htj
            exact absurd ht ((Oper.apart_spec q).1 t htj)
        · intro j hj hjl hSj htj
          by_cases e : j = i
          · subst e; exact hni hSj
          · obtain ⟨u, hu, q⟩ := (haft j (by omega) hjl hSj).1
            simp only [tE, hu, Option.bind_some] at htj
            exact (Oper.apart_spec q).2.2 t htj ht
      have hB' : ∀ (v : SV) (B' : Tr SV), PutR N (E i) o.dst v (E (i + 1)) → PutR N B o.dst v B' → ∀ t, B'.get t = cur (fun i => (E i).get) tE (S (ls.setIfInBounds i true)) l.length t := by
        intro v B' p1 p2 t
        by_cases htt : tE i t
        · have hd : o.dst = some t := by simpa [tE, ho'] using htt
          have e : cur (fun i => (E i).get) tE (S (ls.setIfInBounds i true)) l.length t = (E (i + 1)).get t := by
            refine cur_is (fun i => (E i).get) tE _ hoE (by omega) ?_ ?_
            · intro j hj htj
              rw [hS']
              by_cases e : j = i
              · exact .inr e
              · left
                rcases (hbe j (by omega)).1 with q | ⟨u, hu, q⟩
                · exact q
                · simp only [tE, hu, Option.bind_some] at htj
                  exact absurd hd ((Oper.apart_spec q).2.1 t htj)
            · intro j hj hjl hSj htj
              rw [hS'] at hSj
              have hSj := hSj.resolve_right (by omega)
              obtain ⟨u, hu, q⟩ := (haft j (by omega) hjl hSj).1
              simp only [tE, hu, Option.bind_some] at htj
              exact (Oper.apart_spec q).2.1 t hd htj
          rw [e]
          rw [hd] at p1 p2
          rw [p1.at, p2.at]
        · have hd : ¬ o.dst = some t := fun q => htt (by simp [tE, ho', q])
          rw [p2.other hd, e2 t]
          exact (cur_other (fun i => (E i).get) tE (S ls) (t := i) (S (ls.setIfInBounds i true)) (fun j hj => by rw [hS']; simp [hj]) htt l.length).symm
      have hput : ∀ (v : SV) (E2 : Tr SV), PutR N (E i) o.dst v E2 → ∃ B', PutR N B o.dst v B' := fun v E2 p => ⟨_, p.1, rfl⟩
      have hstep : ∀ (M' : Tr SO) (hq : Tr SO), (∀ x, (x ∈ (T i).W ∨ (X i ≤ x ∧ x < X (i + 1))) → (H (i + 1)).get x = hq.get x) → (∀ x, (x ∈ (T i).W ∨ (X i ≤ x ∧ x < X (i + 1))) → M'.get x = hq.get x) → (∀ x, ¬ (x ∈ (T i).W ∨ (X i ≤ x ∧ x < X (i + 1))) → M'.get x = M.get x) →
          ∀ x, M'.get x = cur (fun i => (H i).get) tH (S (ls.setIfInBounds i true)) l.length x := by
        intro M' hq g1 g2 g3 x
        by_cases htx : tH i x
        · have e : cur (fun i => (H i).get) tH (S (ls.setIfInBounds i true)) l.length x = (H (i + 1)).get x := by
            refine cur_is (fun i => (H i).get) tH _ hoH (by omega) ?_ ?_
            · intro j hj htj
              rw [hS']
              by_cases e : j = i
              · exact .inr e
              · left
                have hm1 : X (j + 1) ≤ X i := hXm (by omega) (by omega)
                have hm3 := hXs j (by omega)
                rcases htx with hx | hx
                · rcases (hbe j (by omega)).2 with q | q
                  · exact q
                  · rcases hsepq (by omega) hil q with ⟨q1, q2, q3, _⟩ | ⟨q1, q2, q3, q4⟩
                    · rw [q3] at hx; cases hx
                    · rcases htj with r | r
                      · exact absurd hx (q2 x r)
                      · exact absurd r (q4 x (hsti.wr x hx))
                · exfalso
                  rcases htj with r | r
                  · have := (hst j l[j] (by simp)).wl x r
                    omega
                  · omega
            · intro j hj hjl hSj htj
              rw [hS'] at hSj
              have hSj := hSj.resolve_right (by omega)
              have hm2 : X (i + 1) ≤ X j := hXm (by omega) (by omega)
              have hm3 := hXs i hil
              rcases hsepq hil hjl (haft j (by omega) hjl hSj).2 with ⟨q1, q2, q3, q4⟩ | ⟨q1, q2, q3, q4⟩
              · rcases htj with r | r
                · rw [q3] at r; cases r
                · omega
              · rcases htx with hx | hx
                · rcases htj with r | r
                  · exact absurd r (q2 x hx)
                  · have := hsti.wl x hx; omega
                · rcases htj with r | r
                  · exact absurd hx (q4 x ((hst j l[j] (by simp [hjl])).wr x r))
                  · omega
          rw [e, g1 x htx]
          exact g2 x htx
        · rw [g3 x htx, e1 x]
          exact (cur_other (fun i => (H i).get) tH (S ls) (t := i) (S (ls.setIfInBounds i true)) (fun j hj => by rw [hS']; simp [hj]) htx l.length).symm
      have hdfr : ∀ (u : Value), (a.put o.dst u).defers = a0.defers := fun u => by
        rw [← e4]
        cases o.dst <;> rfl
      have hfr : ∀ j, j < l.length → ¬ S (ls.setIfInBounds i true) j → ∀ x, X j ≤ x → x < X (j + 1) → ρ x = none := fun j hj hSj => e6 j hj (fun q => hSj ((hS' j).2 (.inl q)))
      simp only [wpOpIn, List.getElem?_toArray, ho']
      rcases hsti.is with ⟨hw, q1, q2, q3⟩ | ⟨hw, v, hq, b, hx, q1, q3⟩
      · have hwb : wantS l B o = some false := by rw [wantS_congr (env := B) (env2 := E i) hBt]; exact hw
        rw [if_neg (by rw [wantS_ok e3 hwb]; simp)]
        refine ⟨fun f _ => hFn f, ?_⟩
        obtain ⟨B', p⟩ := hput _ _ q3
        refine ih _ _ w hsz' hcnt' hcl' ⟨ρ, M, B', ?_, hB' _ _ q3 p, p.envR e3 (by rw [Rel]), hdfr undef, e5, hfr⟩
        have hno : ∀ x, ¬ (x ∈ (T i).W ∨ (X i ≤ x ∧ x < X (i + 1))) := fun x q => by
          rcases q with q | q
          · rw [q1] at q; cases q
          · omega
        exact hstep M M (fun x hx => absurd hx (hno x)) (fun x hx => absurd hx (hno x)) (fun _ _ => rfl)
      · have hwb : wantS l B o = some true := by rw [wantS_congr (env := B) (env2 := E i) hBt]; exact hw
        rw [if_pos (by rw [wantS_ok e3 hwb])]
        have hx' : exO P sm rec B o ⟨H i, X i, X i, [], []⟩ = some [(v, ⟨hq, X (i + 1), b, (T i).R, (T i).W⟩)] := by
          rw [exO_congr (look_op (ops := l.toArray) hBt)]; exact hx
        have hD0 : ∀ x, x ∈ Rf ∨ bs ≤ x → D x := hD
        have hRf := (hTR i hil).1
        have hWf := (hTR i hil).2
        have hHi := hHl i (by omega)
        have hsim := Step.before (x0 := X i) e5 hRt hRf hD0 hHi
        obtain ⟨B', p⟩ := hput _ _ q3
        refine hO o B _ _ hx' ρ (fun x => x ∈ (T i).R ∨ X i ≤ x) w a _ _ e3 hsim (fun p hp x hx => by rw [List.mem_singleton] at hp; subst hp; exact hx) (fun p hp x h2 h3 => by rw [List.mem_singleton] at hp; subst hp; exact e6 i hil hni x h2 h3) ?_
        intro p0 hp0 u w' ρ' hv hop
        rw [List.mem_singleton] at hp0
        subst hp0
        have hle : ρ.Le ρ' := hop.le (fun x h2 h3 => e6 i hil hni x h2 h3)
        obtain ⟨M', g2, g3⟩ : ∃ M' : Tr SO, (∀ x, (x ∈ (T i).W ∨ (X i ≤ x ∧ x < X (i + 1))) → M'.get x = hq.get x) ∧ ∀ x, ¬ (x ∈ (T i).W ∨ (X i ≤ x ∧ x < X (i + 1))) → M'.get x = M.get x := by
          have b1 : ∀ (l : List Nat) (M : Tr SO), ∃ M' : Tr SO, (∀ x ∈ l, M'.get x = hq.get x) ∧ ∀ x, x ∉ l → M'.get x = M.get x := by
            intro l
            induction l with
            | nil => exact fun M => ⟨M, (fun x hx => by cases hx), fun _ _ => rfl⟩
            | cons y l ih =>
              intro M
              obtain ⟨M', f1, f2⟩ := ih (M.set y (hq.get y))
              refine ⟨M', fun x hx => ?_, fun x hx => ?_⟩
              · by_cases hl : x ∈ l
                · exact f1 x hl
                · rcases List.mem_cons.1 hx with rfl | hx
                  · rw [f2 x hl, Tr.get_set, if_pos rfl]
                  · exact absurd hx hl
              · rw [List.mem_cons, not_or] at hx
                rw [f2 x hx.2, Tr.get_set, if_neg hx.1]
          obtain ⟨M', f1, f2⟩ := b1 ((T i).W ++ (List.range (X (i + 1) - X i)).map (X i + ·)) M
          have hmem : ∀ x, x ∈ (T i).W ++ (List.range (X (i + 1) - X i)).map (X i + ·) ↔ (x ∈ (T i).W ∨ (X i ≤ x ∧ x < X (i + 1))) := by
            intro x
            rw [List.mem_append, List.mem_map]
            constructor
            · rintro (q | ⟨k, hk, rfl⟩)
              · exact .inl q
              · rw [List.mem_range] at hk; right; omega
            · rintro (q | q)
              · exact .inl q
              · right; exact ⟨x - X i, by rw [List.mem_range]; omega, by omega⟩
          exact ⟨M', fun x hx => f1 x ((hmem x).2 hx), fun x hx => f2 x (fun q => hx ((hmem x).1 q))⟩
        refine ih _ _ w' hsz' hcnt' hcl' ⟨ρ', M', B', ?_, hB' _ _ q3 p, p.envR (e3.mono hle) hv, hdfr u, ?_, ?_⟩
        · exact hstep M' hq q1 g2 g3
        · have hx0 : nx0 ≤ X i := by rw [← hX0]; exact hXm (Nat.zero_le _) (by omega)
          have hx1 : X (i + 1) ≤ X l.length := hXm (by omega) (Nat.le_refl _)
          exact Step.behind e5 hop hx0 hx1 hRt hsti.wr hsti.wl hRf hWf hD0 (fun x h2 h3 => e6 i hil hni x h2 h3) hHi g2 g3
        · intro j hj hSj x h2 h3
          have hji : j ≠ i := fun q => hSj ((hS' j).2 (.inr q))
          have e : ρ' x = ρ x := hop.ext x (by
            show x < X i ∨ X (i + 1) ≤ x
            rcases Nat.lt_or_gt_of_ne hji with q | q
            · have := hXm (i := j + 1) (j := i) (by omega) (by omega); omega
            · have := hXm (i := i + 1) (j := j) (by omega) (by omega); omega)
          rw [e]
          exact hfr j hj hSj x h2 h3
  have hnone : ∀ i, ¬ S (Array.replicate (Array.mk l).size false) i := by
    rintro i ⟨q1, q2⟩
    simp [q1] at q2
  refine main _ _ _ _ (by simp) (by simp) ?_ ⟨ρ0, h0, env, ?_, ?_, he, rfl, ?_, ?_⟩
  · intro i o _ hi; exact absurd hi (hnone i)
  · intro x; rw [cur_none _ _ _ hnone, hH0]
  · intro t; rw [cur_none _ _ _ hnone, hE0]
  · have hle : nx0 ≤ X l.length := by rw [← hX0]; exact hXm (Nat.zero_le _) (Nat.le_refl _)
    refine ⟨rfl, rfl, rfl, Nat.le_refl _, hle, rfl, hRf0, hWf0, fun _ _ => rfl, fun _ _ => .inl rfl, fun _ _ h => h, fun _ _ => .inr rfl, fun x b s hx hg _ => absurd (hs.lt x hg) (Nat.not_lt.2 hx), ⟨fun x o d g => ?_, fun x y b s s' d d' g g' => ?_, fun x g => ?_⟩⟩
    · exact hs.live x o (d.resolve_right (by have := hs.lt x (by show h0.get x ≠ none; rw [show h0.get x = some o from g]; simp); exact Nat.not_le.2 this)) g
    · exact hs.inj x y b s s' (d.resolve_right (Nat.not_le.2 (hs.lt x g))) (d'.resolve_right (Nat.not_le.2 (hs.lt y g'))) g g'
    · have := hs.lt x g; exact Nat.lt_of_lt_of_le this hle
  · intro i hi _ x h1 h2
    refine hf x ?_ ?_
    · show nx0 ≤ x
      have := hXm (i := 0) (j := i) (by omega) (by omega)
      rw [hX0] at this; omega
    · show x < nxE
      have := hXm (i := i + 1) (j := l.length) (by omega) (Nat.le_refl _)
      rw [hXn] at this; omega
end
end Go.TX
