/-
  What is proved here: slices of slices; what is made and copied, of elements of several cells. Conditions: none; each rule states its own.
  What is proved here: calls that are handed pieces; a range over a function that hands a piece with each value, and may be left. Conditions: none; each rule states its own.
  What is proved here: what is appended may be nothing. Conditions: none; each rule states its own.
  What is proved here: operations on the bits of numbers. Conditions: none; each rule states its own.
  What is proved here: loops with many variables. Conditions: none; each rule states its own.
  What is proved here: a window that moves along an array of one's own. Conditions: none; each rule states its own.
  What is proved here: tables of numbers: slices of arrays of arrays. Conditions: none; each rule states its own.
  What is proved here: bits that are taken away. Conditions: each rule states its own.
  What is proved here: comparisons whose answer is known. Conditions: each rule states its own.
  What is proved here: appending to a slice that is full, and parts of an array of one's own with three bounds. Conditions: none; each rule states its own.
  What is proved here: regions that draw their order, where what is made may hang on what was drawn first. Conditions: none; each rule states its own.
  What is proved here: from a law's contract to what its row asks. Conditions: none; each rule states its own.
  What is proved here: what is read as data is read as lists. Conditions: none; each rule states its own.
-/
import Derived.Test.YtelmclmklkiphaaM2
import Derived.Laws.Shifts
import Derived.Below
import Derived.ChangeSame
import Derived.ProofKit
import Derived.Deep.Slices
import Derived.Carry
set_option linter.unusedVariables false
set_option linter.unusedSimpArgs false
namespace Go.TH
open Go
theorem addr_add_add (a : Addr) (m n : Nat) : (a.add m).add n = a.add (m + n) := by
  unfold Addr.add
  split <;> split <;> simp_all <;> (try omega)
section
variable {P : Program} {C : Cx P} {E : Env} {H : List HP}
variable {ops : Array Oper} {K : KP} {rest : List Oper} {d : Nat} {ty : TypeId} {pos : String} {af : Array Edge} {x y : Operand} {T : TypeId}
/-- a bound of a slice, if it is told -/
def bv : Option Value → Nat → Nat → Prop
  | none, dfl, n => n = dfl
  | some v, _, n => ∃ k, v = .int k (n : Int)
theorem run_bound {k : IntKind} {q y : Nat} {code : BoundsCode} {w : World} (hq : q ≤ y) : (Instr.sliceBound (.int k (q : Int)) y code).run P w = .ok q w := by
  have hq' : (q : Int) ≤ (y : Int) := by omega
  simp [Instr.sliceBound, asIntOf, hq', go_sem]
theorem run_bounds {n c lo hi mx : Nat} {L0 H0 M0 : Option Value} {w : World} (hl : bv L0 0 lo) (hh : bv H0 n hi) (hm : bv M0 c mx) (hmh : M0.isSome = true → H0.isSome = true) (h1 : lo ≤ hi) (h2 : hi ≤ mx) (h3 : mx ≤ c) :
    (Instr.sliceBounds true n c L0 H0 M0).run P w = .ok (lo, hi, mx) w := by
  cases L0 <;> cases H0 <;> cases M0 <;> simp only [bv] at hl hh hm <;> first
    | (have := hmh rfl; simp at this; done)
    | skip
  · subst hl; subst hh; subst hm; simp [Instr.sliceBounds]
  · obtain ⟨k, rfl⟩ := hh; subst hl; subst hm; simp [Instr.sliceBounds, run_bound h2]
  · obtain ⟨k, rfl⟩ := hh; obtain ⟨k2, rfl⟩ := hm; subst hl; simp [Instr.sliceBounds, run_bound h2, run_bound h3]
  · obtain ⟨k, rfl⟩ := hl; subst hh; subst hm; simp [Instr.sliceBounds, run_bound h1]
  · obtain ⟨k, rfl⟩ := hl; obtain ⟨k2, rfl⟩ := hh; subst hm; simp [Instr.sliceBounds, run_bound h1, run_bound h2]
  obtain ⟨k, rfl⟩ := hl; obtain ⟨k2, rfl⟩ := hh; obtain ⟨k3, rfl⟩ := hm; simp [Instr.sliceBounds, run_bound h1, run_bound h2, run_bound h3]
def bnd (E : Env) : Option Operand → Nat → Nat → Prop
  | none, dfl, n => n = dfl
  | some x, _, n => ∃ k, ev E x = some (.int k (n : Int))
theorem bnd.no {n : Nat} : bnd E none n n := rfl
theorem bnd.at {x : Operand} {k : IntKind} {dfl n : Nat} (h : ev E x = some (.int k (n : Int))) : bnd E (some x) dfl n := ⟨k, h⟩
theorem bnd.atZ {x : Operand} {k : IntKind} {dfl n : Nat} {z : Int} (h : ev E x = some (.int k z)) (hz : z = (n : Int)) : bnd E (some x) dfl n := ⟨k, by rw [h, hz]⟩
theorem bnd.bv {N : Nat} {ac : Act} (hf : Fr N E ac) {o : Option Operand} {dfl n : Nat} (h : bnd E o dfl n) : bv (o.map ac.eval) dfl n := by
  cases o with
  | none => exact h
  | some x => obtain ⟨k, hk⟩ := h; exact ⟨k, hf.eval hk⟩
def ofs (a : Option Addr) (o : Nat) : Option Addr := a.map (·.add o)
/-- a part of a slice -/
theorem WO.slSl {x : Operand} {a : Option Addr} {n c lo hi mx e sz by' : Nat} {L0 H0 M0 : Option Operand} (hT : C.tt.sl? T = some (e, sz, by')) (hx : ev E x = some (.slice a n c))
    (hl : bnd E L0 0 lo) (hh : bnd E H0 n hi) (hm : bnd E M0 c mx) (hmh : M0.isSome = true → H0.isSome = true) (h1 : lo ≤ hi) (h2 : hi ≤ mx) (h3 : mx ≤ c) (hN : Nat.blt d C.N = true)
    (h : WO C ops rest K ((d, .slice (if mx = lo then a else ofs a (lo * sz)) (hi - lo) (mx - lo)) :: E) H) : WO C ops (⟨some d, .slice T x L0 H0 M0, ty, pos, af, none⟩ :: rest) K E H :=
  WO.pure _ (by simp) (fun L ac w hf hi' => by
    have hST := SlT.of hT
    have hsz : (sizeOf e).run P w = .ok sz w := run_sizeOf (by simpa [szv] using hST.size)
    have hb := run_bounds (P := P) (w := w) (hl.bv hf) (hh.bv hf) (hm.bv hf) (by simpa using hmh) h1 h2 h3
    simp [execOp, hf.eval hx, Instr.sliceAt, Instr.slice, run_underlying hST.u, hsz, ofs, hb]) hN h
/-- what is read in a part of a slice -/
theorem RdF.sub {α : Type} {enc : α → List Value} {sz B : Nat} {w : World} {a : Option Addr} {n c lo hi mx : Nat} {xs : List α} (h : RdF enc sz B w (.slice a n c) xs) (h1 : lo ≤ hi) (h2 : hi ≤ mx) (h3 : hi ≤ n) :
    RdF enc sz B w (.slice (if mx = lo then a else ofs a (lo * sz)) (hi - lo) (mx - lo)) ((xs.drop lo).take (hi - lo)) := by
  obtain ⟨hle, a', c', he, hb⟩ := h.sl
  have e1 : a' = a := by injection he with e1 e2 e3; exact e1.symm
  have e2 : n = xs.length := by injection he
  subst e1; subst e2
  have hlen : ((xs.drop lo).take (hi - lo)).length = hi - lo := by rw [List.length_take, List.length_drop]; omega
  rcases Nat.lt_or_ge lo hi with g | g
  · obtain ⟨b, o, rfl⟩ := hb (by omega)
    rw [if_neg (by omega)]
    refine ⟨⟨by omega, _, _, by rw [hlen], fun _ => ?_⟩, fun _ => ?_, fun i x hx j u hu => ?_⟩
    · exact ⟨b, o + lo * sz, by simp [ofs, Addr.add]⟩
    · have := h.blk (by omega)
      simpa [base, ofs, addr_add_block] using this
    have hi2 : i < hi - lo := by
      have := (List.getElem?_eq_some_iff.1 hx).1; omega
    rw [List.getElem?_take_of_lt hi2, List.getElem?_drop] at hx
    have := h.cell _ x hx j u hu
    have e : (base (.slice (ofs (some ⟨b, o, none⟩) (lo * sz)) (hi - lo) (mx - lo))).add (i * sz) = (base (.slice (some ⟨b, o, none⟩) xs.length c)).add ((lo + i) * sz) := by
      show (Addr.add (Addr.add ⟨b, o, none⟩ (lo * sz)) (i * sz)) = Addr.add ⟨b, o, none⟩ ((lo + i) * sz)
      rw [addr_add_add, Nat.add_mul]
    rw [e]; exact this
  have e0 : hi - lo = 0 := by omega
  rw [e0]
  refine ⟨⟨by simp, _, _, rfl, fun h => by simp at h⟩, fun h => by simp at h, fun i x hx => by simp at hx⟩
/-! ### make -/
theorem flat_rep {α : Type} (n : Nat) (z : List α) (i : Nat) (hz : 0 < z.length) (h : i < n * z.length) : ((List.replicate n z).flatten)[i]? = z[i % z.length]? := by
  induction n generalizing i with
  | zero => omega
  | succ n ih =>
    rw [List.replicate_succ, List.flatten_cons]
    rcases Nat.lt_or_ge i z.length with g | g
    · rw [List.getElem?_append_left g, Nat.mod_eq_of_lt g]
    rw [List.getElem?_append_right g, ih (i - z.length) (by rw [Nat.add_mul] at h; omega), Nat.mod_eq_sub_mod g]
theorem made_eq (z : List Value) (n : Nat) (hz : 0 < z.length) : madeCells z.toArray (n * z.length) = ((List.replicate n z).flatten).toArray := by
  have hl : ((List.replicate n z).flatten).length = n * z.length := by simp [List.length_flatten]
  apply Array.ext
  · rw [size_madeCells]; simp [hl]
  intro j h1 h2
  rw [size_madeCells] at h1
  have := flat_rep n z j hz h1
  have hm : j % z.length < z.length := Nat.mod_lt _ hz
  rw [List.getElem?_eq_getElem (by omega), List.getElem?_eq_getElem hm] at this
  injection this with this
  simp only [madeCells, Array.getElem_map, Array.getElem_range, List.size_toArray, List.getElem_toArray]
  rw [this]
  simp [hm]
/-- make: n elements, each of some cells -/
theorem WO.makeOwN {e sz by' : Nat} {n : Nat} {zv : Value} {zs : List Value} {k k' : IntKind} (hT : C.tt.sl? T = some (e, sz, by')) (hz : C.tt.z? e = some zv) (hc : zv.cells = zs.toArray) (hl : zs.length = sz) (hp : 0 < sz) (hx : ev E x = some (.int k (n : Int))) (hy : ev E y = some (.int k' (n : Int)))
    (hb : by' * n ≤ 281474976710656) (h63 : n ≤ 9223372036854775807) (hN : Nat.blt d C.N = true)
    (h : ∀ b, WO C ops rest K ((d, .slice (some ⟨b, 0, none⟩) n n) :: E) (OwC e sz (.slice (some ⟨b, 0, none⟩) n n) n ((List.replicate n zs).flatten) :: H)) : WO C ops (⟨some d, .makeSlice T x y, ty, pos, af, none⟩ :: rest) K E H := by
  refine WO.step rfl rfl hN (XO.run (by simp) fun L a w hf hi => ?_)
  obtain ⟨i, hi1, hi2, hi3, hi4⟩ := sl_info hT hz
  have hb' : (i.bytes : Int) * (n : Int) ≤ 281474976710656 := by
    have : ((by' * n : Nat) : Int) ≤ 281474976710656 := by omega
    rw [hi3]; rwa [Int.natCast_mul] at this
  have hr := run_make (P := P) w T e i zv (SlT.of hT).u hi1 hi4 k k' n n (by omega) (Int.le_refl _) hb' (by omega)
  simp only [Int.toNat_natCast] at hr
  have em : madeCells zv.cells (n * i.size) = ((List.replicate n zs).flatten).toArray := by
    rw [hi2, hc, ← hl]; exact made_eq zs n (by omega)
  refine ⟨.slice (some ⟨w.heap.size, 0, none⟩) n n, w.alloc (.cells (madeCells zv.cells (n * i.size)) e), OwC e sz (.slice (some ⟨w.heap.size, 0, none⟩) n n) n ((List.replicate n zs).flatten) :: H, .inl ?_, h _, ?_⟩
  · simp only [execOp, hf.eval hx, hf.eval hy, Sem.run_bind, hr]; rfl
  have h2 := hi.alloc' (.cells (madeCells zv.cells (n * i.size)) e)
  rw [em] at h2 ⊢
  refine OwC.shut (by simp [List.length_flatten, hl]) (Nat.le_refl _) (by simpa [maxLen] using h63) (by simp [List.length_flatten, hl]) ?_ h2
  exact List.take_of_length_le (by simp [List.length_flatten, hl])
theorem WO.makeEN {α : Type} {enc : α → List Value} {e sz by' : Nat} {n : Nat} {z : α} {zv : Value} {k k' : IntKind} (he : EncOk enc sz) (hT : C.tt.sl? T = some (e, sz, by')) (hz : C.tt.z? e = some zv) (hc : zv.cells = (enc z).toArray) (hx : ev E x = some (.int k (n : Int))) (hy : ev E y = some (.int k' (n : Int)))
    (hb : by' * n ≤ 281474976710656) (h63 : n ≤ 9223372036854775807) (hN : Nat.blt d C.N = true)
    (h : ∀ b, WO C ops rest K ((d, .slice (some ⟨b, 0, none⟩) n n) :: E) (OwE enc e sz (.slice (some ⟨b, 0, none⟩) n n) (List.replicate n z) :: H)) : WO C ops (⟨some d, .makeSlice T x y, ty, pos, af, none⟩ :: rest) K E H := by
  refine WO.makeOwN hT hz hc (he.len z) he.pos hx hy hb h63 hN fun b => ?_
  have := h b
  unfold OwE at this
  rw [List.length_replicate, show (List.replicate n z).flatMap enc = (List.replicate n (enc z)).flatten by rw [List.flatMap_def, List.map_replicate]] at this
  exact this
/-! ### copy -/
theorem run_copy_rowN {P : Program} (w : World) (dT sT ty elem : TypeId) (g o dLen dCap : Nat) (a : Addr) (sLen sCap sz : Nat) (cur : Array Value) (t : TypeId) (cs : List Value)
    (hu : P.underlying dT = some (.slice elem)) (hs : (P.info? elem).map (·.size) = some sz)
    (hg : w.heap[g]? = some (.cells cur t (0, 0))) (hn : cs.length = Nat.min sLen dLen * sz)
    (hsrc : ∀ j v, cs[j]? = some v → w.cell? (a.add j) = some v) (hfit : o + cs.length ≤ cur.size) (h1 : ∀ v ∈ cs, v.oneCell' = true) :
    (Builtin.copy_ #[dT, sT] ty #[.slice (some ⟨g, o, none⟩) dLen dCap, .slice (some a) sLen sCap]).run P w =
      .ok (goInt (Nat.min sLen dLen)) (w.setRow g (cur.toList.take o ++ cs ++ cur.toList.drop (o + cs.length)).toArray) := by
  have hl := run_loadCells_list (P := P) w a cs hsrc
  have hst := run_storeCells_at P g o t cs 0 cur w hg (by simpa using hfit) h1
  cases hq : P.info? elem with
  | none => simp [hq] at hs
  | some i =>
    have hi : i.size = sz := by simpa [hq] using hs
    simp [Builtin.copy_, run_underlying hu, Builtin.lenOf, Builtin.firstCells, sizeOf, typeInfo, hq, hi, ← hn, hl, hst]
theorem WO.copyOwN {e sz by' n m : Nat} {v u : Value} {cs ws : List Value} {H' : List HP} (hT : C.tt.sl? T = some (e, sz, by')) (hx : ev E x = some v) (hy : ev E y = some u) (p : Pick (OwC e sz v n cs) H H') (hS : IsSl u m) (hnm : n ≤ m) (hn : 0 < n)
    (hc : Cells C H (base u) ws) (hl : ws.length = n * sz) (h1 : ∀ c ∈ ws, c.oneCell' = true) (hN : Nat.blt d C.N = true)
    (h : WO C ops rest K ((d, .int .i64 (n : Int)) :: E) (OwC e sz v n ws :: H')) : WO C ops (⟨some d, .call ⟨.builtin .copy, #[x, y], #[T, T]⟩, ty, pos, af, none⟩ :: rest) K E H := by
  refine WO.step rfl rfl hN (XO.run (by simp) fun L a w hf hi => ?_)
  obtain ⟨hcl, hcase⟩ := OwC.open (hi.pickL p)
  rcases hcase with ⟨_, rfl, _⟩ | ⟨g, cap, cur, rfl, q1, q2, q3, q4, hv⟩
  · omega
  obtain ⟨_, ao, c, rfl, hao⟩ := hS
  obtain ⟨gg, oo, rfl⟩ := hao (by omega)
  have hST := SlT.of hT
  have hlook := (hv.look (b := g) (o := .cells cur.toArray e (0, 0)) ((Pick.head).app L)).1
  have hmin : Nat.min m n = n := Nat.min_eq_right hnm
  have hle : n * sz ≤ cap * sz := Nat.mul_le_mul_right _ q1
  have hrun := run_copy_rowN (P := P) w T T ty e g 0 n cap ⟨gg, oo, none⟩ m c sz cur.toArray e ws hST.u hST.size hlook (by rw [hmin, hl])
    (fun j v' hj => by have := hc j v' hj L w hi; simpa [base] using this) (by simp [q3, hl]; omega) h1
  have hcur : ((cur.toArray.toList.take 0 ++ ws ++ cur.toArray.toList.drop (0 + ws.length)).toArray) = (ws ++ cur.drop (n * sz)).toArray := by simp [hl]
  rw [hcur, hmin] at hrun
  refine ⟨_, w.setRow g (ws ++ cur.drop (n * sz)).toArray, OwC e sz (.slice (some ⟨g, 0, none⟩) n cap) n ws :: H', .inl ?_, h, ?_⟩
  · simp only [execOp, resolve, hf.eval hx, hf.eval hy]
    simp [hf.eval hx, hf.eval hy, Deferred.ofValue, invoke, builtin, hrun, goInt]
  have h2 := Inv.set (b := g) (o := .cells cur.toArray e (0, 0)) (o' := .cells (ws ++ cur.drop (n * sz)).toArray e (0, 0)) (w' := w.setRow g (ws ++ cur.drop (n * sz)).toArray) hv (Pick.mem) rfl rfl rfl (by simp [World.setRow]) (setRow_same hlook) (fun k hk => setRow_other hk)
  have h3 := h2.perm (List.perm_middle (l₁ := L) (l₂ := H')).symm
  exact OwC.shut (by simpa using hl) q1 q2 (by simp [q3, hl]; omega) (by simp [← hl]) h3
theorem WO.copyEN {α : Type} {enc : α → List Value} {e sz by' m : Nat} {v u : Value} {xs ys : List α} {H' : List HP} (he : EncOk enc sz) (hT : C.tt.sl? T = some (e, sz, by')) (hx : ev E x = some v) (hy : ev E y = some u) (p : Pick (OwE enc e sz v xs) H H') (hS : IsSl u m) (hnm : xs.length ≤ m) (hn : 0 < xs.length)
    (hl : ys.length = xs.length) (hc : Cells C H (base u) (ys.flatMap enc)) (hN : Nat.blt d C.N = true)
    (h : WO C ops rest K ((d, .int .i64 (xs.length : Int)) :: E) (OwE enc e sz v ys :: H')) : WO C ops (⟨some d, .call ⟨.builtin .copy, #[x, y], #[T, T]⟩, ty, pos, af, none⟩ :: rest) K E H := by
  refine WO.copyOwN hT hx hy p hS hnm hn hc (by rw [he.flat_len, hl]) (fun c hc' => ?_) hN ?_
  · obtain ⟨x, _, hx'⟩ := List.mem_flatMap.1 hc'
    exact he.one x c hx'
  unfold OwE at h; rw [hl] at h; exact h
/-! ### a field of some cells, of a value -/
theorem run_partN {ft fo n : Nat} {vs us : List Value} {w : World} (hO : AT P ft n) (hv : (vs.drop fo).take n = us) : (part ft vs.toArray fo).run P w = .ok (.agg us.toArray) w := by
  simp only [part, Sem.run_bind, run_isAgg hO.agg, Result.andThen_ok, if_true, run_sizeOf hO.size]
  subst hv
  simp
theorem WO.fieldN {f fo ft n : Nat} {vs us : List Value} (hx : ev E x = some (.agg vs.toArray)) (hT : C.tt.fd? T f = some (fo, ft)) (hO : C.tt.ag? ft = some n) (hv : (vs.drop fo).take n = us) (hN : Nat.blt d C.N = true)
    (h : WO C ops rest K ((d, .agg us.toArray) :: E) H) : WO C ops (⟨some d, .field T x f, ty, pos, af, none⟩ :: rest) K E H :=
  WO.pure (.agg us.toArray) (by simp) (fun L a w hf hi => by
    have h1 := (FT.of hT).at_
    unfold fieldOf at h1
    cases hu : P.underlying T with
    | none => rw [hu] at h1; cases h1
    | some ds =>
      rw [hu] at h1
      cases ds <;> simp only [] at h1 <;> try (cases h1; done)
      rename_i fs
      cases hfs : fs[f]? with
      | none => rw [hfs] at h1; cases h1
      | some fl =>
        rw [hfs] at h1
        simp at h1
        obtain ⟨h2, h3⟩ := h1
        have hr : (Instr.field T (.agg vs.toArray) f).run P w = .ok (.agg us.toArray) w := by
          simp only [Instr.field, Sem.run_bind, run_underlying hu, Result.andThen_ok]
          simp only [hfs, asAgg, Sem.run_bind, Sem.run_pure, Result.andThen_ok]
          rw [h2, h3]
          exact run_partN (AT.of hO) hv
        simp [execOp, hf.eval hx, hr]) hN h
end
end Go.TH
namespace Go.TH
open Go
section
variable {P : Program}
/-- a contract of a function that is handed pieces -/
def CtH (P : Program) (f : FuncId) (vs : List Value) (w : World) (Hp : List HP) (B : Nat) (Post : Value → List HP → Prop) : Prop :=
  ∀ M, (∀ b ∈ M, B ≤ b) → Inv w M Hp w → Ct P f vs.toArray w fun v w' => ∃ Hq, Post v Hq ∧ Inv w M Hq w'
theorem CtH.of {f : FuncId} {fn : Func} {c : Code} {vs : List Value} {w : World} {B : Nat} {Hp : List HP} {Pst : Value → List HP → Prop} (hm : P.follows .mixedOrders = true) (tt : TTab P) (hB : B ≤ w.heap.size)
    (hf : P.funcs[f]? = some fn) (hb : fn.body = some c) (ha : Nat.ble vs.length fn.ntmps = true)
    (h : ∀ M (hM : ∀ b ∈ M, B ≤ b), W (itCx hm tt fn.ntmps w M B hB hM) c (fin (itCx hm tt fn.ntmps w M B hB hM) fn Pst) (enumE 0 vs) Hp) : CtH P f vs w Hp B Pst := fun M hM hi =>
  Ct.of_W (M := M) (Hp := Hp) (itCx hm tt fn.ntmps w M B hB hM) rfl rfl rfl hf hb rfl (by simpa [itCx] using Nat.ble_eq.mp ha) (fun t v hv => by
    have := lk_enumE vs 0 t v hv
    simpa using this.2) (h M hM) hi
theorem CtH.mono {f : FuncId} {vs : List Value} {w : World} {Hp Hp' : List HP} {B : Nat} {Post Post' : Value → List HP → Prop} (h : CtH P f vs w Hp B Post) (hp : ∀ h, sat Hp' h → sat Hp h) (hq : ∀ v Hq, Post v Hq → ∃ Hq', Post' v Hq' ∧ ∀ h, sat Hq h → sat Hq' h) : CtH P f vs w Hp' B Post' := fun M hM hi =>
  (h M hM (Inv.chg (L := []) hi hp)).mono fun _ _ ⟨Hq, p, hi'⟩ => by
    obtain ⟨Hq', p', hh⟩ := hq _ Hq p
    exact ⟨Hq', p', Inv.chg (L := []) hi' hh⟩
variable {C : Cx P} {E : Env} {H : List HP}
variable {ops : Array Oper} {K : KP} {rest : List Oper} {d : Nat} {ty : TypeId} {pos : String} {af : Array Edge} {x : Operand} {xs : List Operand} {ats : Array TypeId} {vs : List Value} {f : FuncId}
theorem WO.callH {Hp Hr : List HP} {Post : Value → List HP → Prop} (hxs : evs E xs = some vs) (hcall : ∀ (args : Array Value) (w : World), (callFunc f args).run P w = .ok (.enter f args) w) (hH : Sub H (Hp ++ Hr))
    (hspec : ∀ (L : List HP) w, Inv C.w0 C.M (L ++ H) w → C.B ≤ w.heap.size → CtH P f vs w Hp C.B Post) (hN : Nat.blt d C.N = true)
    (h : ∀ v Hq, Post v Hq → WO C ops rest K ((d, v) :: E) (Hq ++ Hr)) : WO C ops (⟨some d, .call ⟨.value (.func f), xs.toArray, ats⟩, ty, pos, af, none⟩ :: rest) K E H := by
  refine WO.step rfl rfl hN (XO.callF (Hp := Hp) (Hr := Hr) (Post := Post) (first := #[]) (captured := #[]) rfl hxs hcall hH (fun L w M' hi hM hp => ?_) h)
  have hc := hspec L w hi (Nat.le_trans C.hB hi.size) M' (fun b hb => by
    rcases hM b hb with h | h
    · exact Nat.le_trans C.hB h
    exact C.hM b h) hp
  simpa only [List.nil_append, Array.append_empty, Array.empty_append] using hc
/-- a round: handed the pieces Hp it hands back whether it goes on, and leaves the pieces Hq -/
def YieldB (P : Program) (B : Nat) (wr : World) (l : Nat) (args : Array Value) (go : Bool) (Hp Hq : List HP) : Prop :=
  ∀ w M', B ≤ w.heap.size → (∀ k, k < B → w.heap[k]? = wr.heap[k]?) → (∀ b ∈ M', B ≤ b) → Inv w M' Hp w →
    ∃ f tmps assign body, (Instr.yield l args).run P w = .ok (.round l f tmps assign body) w ∧ RoundIn Fence.wide 0 P l f tmps assign body w (fun e w' => e = .returned (.bool go) ∧ Inv w M' Hq w')
theorem XO.yieldB {X : Value → List HP → Prop} {dst : Option Tmp} {l : Nat} {go : Bool} {Hp Hr Hq : List HP}
    (hf : ev E x = some (.func (.yield l) #[] #[])) (hxs : evs E xs = some vs) (hH : Sub H (Hp ++ Hr)) (hy : YieldB P C.B C.w0 l vs.toArray go Hp Hq) (h : X (.bool go) (Hq ++ Hr)) : XO C ⟨dst, .call ⟨.value x, xs.toArray, ats⟩, ty, pos, af, none⟩ X E H := by
  intro L a w hfr hi
  refine ⟨fun _ _ => trivial, ?_⟩
  rw [Oper.semAt_eq _ _ _ (by simp)]
  have hi2 : Inv C.w0 C.M (Hp ++ (L ++ Hr)) w := (hi.sub ((hH.app L).trans (Sub.rot L Hp Hr)))
  obtain ⟨M', h1, h2, s, pa, pb, hM⟩ := handed hi2
  have hMB : ∀ b ∈ M', C.B ≤ b := fun b hb => by
    rcases (handed_own s hM b hb).1 with h | h
    · exact Nat.le_trans C.hB h
    exact C.hM b h
  obtain ⟨f, tmps, assign, body, hr, hround⟩ := hy w M' (Nat.le_trans C.hB hi.size) hi.keepB hMB (handed_start s pa hM)
  have hev : (execOp a.eval ⟨dst, .call ⟨.value x, xs.toArray, ats⟩, ty, pos, af, none⟩).run P w = .ok (.round l f tmps assign body) w := by
    have := evs_map hfr hxs
    simp [execOp, resolve, hfr.eval hf, Deferred.ofValue, invoke, this, hr]
  rw [hev]
  refine uponIn_round_of (r := C.ro) rfl rfl hround ?_
  rintro e w' ⟨rfl, hi'⟩
  refine ⟨_, rfl, .bool go, Hq ++ Hr, h, rfl, ?_⟩
  have := handed_back (hi.sub .nil) s pb hM hi'
  exact this.sub (Sub.rot' L Hq Hr)
theorem YieldB.one {B : Nat} {wr : World} {l : Nat} {args : Array Value} {go : Bool} {A : HP} {Hp Hq : List HP} (h : YieldB P B wr l args go (A :: Hp) Hq) : YieldB P B wr l args go [A, sat Hp] [sat Hq] := fun w M' h1 h2 h3 h4 => by
  have e : Inv w M' (A :: Hp) w := by
    have := Inv.chg (L := [A]) h4 (sat_many (Hs := Hp) (H := []))
    simpa using this
  obtain ⟨f, tmps, as, body, hr, hd⟩ := h w M' h1 h2 h3 e
  refine ⟨f, tmps, as, body, hr, RoundIn.mono hd ?_⟩
  rintro e w' ⟨rfl, hi⟩
  refine ⟨rfl, ?_⟩
  have := Inv.chg (L := []) (H := Hq ++ []) (by simpa using hi) (sat_one (Hs := Hq) (H := []))
  simpa using this
theorem YieldB.agree {B : Nat} {wr w0 : World} {l : Nat} {args : Array Value} {go : Bool} {Hp Hq : List HP} (h : YieldB P B wr l args go Hp Hq) (hk : ∀ k, k < B → w0.heap[k]? = wr.heap[k]?) : YieldB P B w0 l args go Hp Hq := fun w M' h1 h2 h3 h4 =>
  h w M' h1 (fun k hlt => by rw [h2 k hlt, hk k hlt]) h3 h4
theorem WO.yieldB {l : Nat} {go : Bool} {A1 A2 A' : HP} {H1 H' : List HP} (hx : ev E x = some (.func (.yield l) #[] #[])) (hxs : evs E xs = some vs) (p : Pick A1 H H1) (q : Pick A2 H1 H') (hy : YieldB P C.B C.w0 l vs.toArray go [A1, A2] [A']) (hN : Nat.blt d C.N = true)
    (h : WO C ops rest K ((d, .bool go) :: E) (A' :: H')) : WO C ops (⟨some d, .call ⟨.value x, xs.toArray, ats⟩, ty, pos, af, none⟩ :: rest) K E H :=
  WO.step rfl rfl hN (XO.yieldB (Hp := [A1, A2]) (Hr := H') (Hq := [A']) hx hxs (.cons p (.cons q (Sub.refl _))) hy h)
/-- how a round that does not go on is left -/
inductive Jmp where
  | ret
  | exit (id : Nat)
def Jmp.ex : Jmp → Exit
  | .ret => .ret
  | .exit id => .exit id
def Jmp.code : Jmp → Code
  | .ret => .ret
  | .exit id => .exit id
theorem Jmp.round {F : Fence} {l : Nat} {R : Ending → World → Prop} (j : Jmp) {a : Act} {w : World} (h : ∃ v w', (Instr.endRound l (some j.code)).run P w = .ok v w' ∧ R (.returned v) w') : roundPost P l R j.ex a w := by
  cases j <;> exact h
theorem Jmp.run {F : Fence} {n : Nat} {Q : Exit → Act → World → Prop} (j : Jmp) {a : Act} {w : World} (h : Q j.ex a w) : (j.code).wpIn F n P Q a w := by
  cases j
  · exact wpIn_ret h
  exact wpIn_exit h
/-- what is asked at a round's end -/
def endR (go : Bool) (j : Jmp) (H' : List HP) : Post := fun e _ H3 => e = (if go then .normal else j.ex) ∧ ∀ h, sat H3 h → sat H' h
theorem endR.go {go : Bool} {j : Jmp} {H' H3 : List HP} {E3 : Env} (h : go = true) (s : ∀ h, sat H3 h → sat H' h) : endR go j H' .normal E3 H3 := ⟨by rw [h]; rfl, s⟩
theorem endR.stop {go : Bool} {j : Jmp} {H' H3 : List HP} {E3 : Env} {e : Exit} (h : go = false) (he : e = j.ex) (s : ∀ h, sat H3 h → sat H' h) : endR go j H' e E3 H3 := ⟨by rw [h, he]; rfl, s⟩
end
section
variable {P : Program} {C : Cx P} {E : Env} {H : List HP}
/-- a range over a function that hands a piece with each value; the round 'last' leaves it -/
theorem W.rangeFuncB {α : Type} {g : Operand} {p : Tmp} {assign body : Code} {Q : Post} {f : FuncId} {captured : List Value} (j : Jmp) (Hit : List HP) (HI : Nat → List HP) (xs : List α) (G : α → Value → HP) (last : Nat) (hro : C.ro = none) (hN : Nat.blt p C.N = true)
    (hg : ev E g = some (.func (.func f) #[] captured.toArray)) (hcall : ∀ (args : Array Value) (w : World), (callFunc f args).run P w = .ok (.enter f args) w)
    (hH : Sub H (Hit ++ HI 0))
    (hiter : ∀ (l : Nat) (Hc : Nat → List HP), (∀ k x v, xs[k]? = some x → k ≤ last → YieldB P C.B C.w0 l #[v] (bl (k < last)) (G x v :: Hc k) (Hc (k + 1))) →
      ∀ w M', C.B ≤ w.heap.size → (∀ k, k < C.B → w.heap[k]? = C.w0.heap[k]?) → (∀ b ∈ M', C.B ≤ b) → Inv w M' (Hit ++ Hc 0) w → Ct P f (#[.func (.yield l) #[] #[]] ++ captured.toArray) w fun _ w' => Inv w M' (Hit ++ Hc (min xs.length (last + 1))) w')
    (hround : ∀ (l : Nat) (w : World) (M : List Nat) (hB : C.B ≤ w.heap.size) (hM : ∀ b ∈ M, C.B ≤ b), (∀ k, k < C.B → w.heap[k]? = C.w0.heap[k]?) → ∀ k x v, xs[k]? = some x → k ≤ last →
      W (rdCx C l w M hB hM) assign (thn (fun E2 H2 => W (rdCx C l w M hB hM) body (endR (bl (k < last)) j (HI (k + 1))) E2 H2) (fun _ _ _ => False)) ((p, v) :: E) (G x v :: HI k))
    (h1 : xs.length ≤ last → Q .normal E (Hit ++ HI xs.length)) (h2 : last < xs.length → W C j.code Q E (Hit ++ HI (last + 1))) : W C (.rangeFunc g #[p] assign body) Q E H := by
  intro L ds a w hs
  have hF : C.F = Fence.wide := by unfold Cx.F; rw [hro]; rfl
  rw [hF]
  refine wpIn_rangeFunc ?_
  intro fn hfn
  obtain ⟨rec, hrec⟩ : ∃ rec : LoopState → Option Code → Loop, rec = fun st pe => { state := st, pending := pe, fn, tmps := a.tmps, params := #[p], assign, body, defers := w.heap.size } := ⟨_, rfl⟩
  obtain ⟨W1, hW1⟩ : ∃ W1, (w.alloc (.deferred (some []))).alloc (.loop (rec .ready none)) = W1 := ⟨_, rfl⟩
  let D := w.heap.size
  let l := w.heap.size + 1
  -- the record after k rounds
  obtain ⟨rk, hrk⟩ : ∃ rk : Nat → Loop, rk = fun k => if k ≤ last then rec .ready none else rec .done (some j.code) := ⟨_, rfl⟩
  have rk0 : rk 0 = rec .ready none := by rw [hrk]; simp
  have hinv1 : Inv C.w0 C.M ((((D :: ds).map ptd) ++ L) ++ ((Hit ++ (pt l (.loop (rk 0)) :: HI 0)))) W1 := by
    rw [rk0]
    have i1 := hs.inv.sub (Sub.app hH _)
    have i2 := i1.alloc (.deferred (some []))
    have i3 := i2.alloc (.loop (rec .ready none))
    rw [hW1] at i3
    have e : (w.alloc (.deferred (some []))).heap.size = l := by simp [l]
    rw [e] at i3
    refine i3.perm ?_
    have q1 : (pt l (.loop (rec .ready none)) :: ptd D :: ((ds.map ptd ++ L) ++ (Hit ++ HI 0))).Perm (pt l (.loop (rec .ready none)) :: ((((D :: ds).map ptd) ++ L ++ Hit) ++ HI 0)) := by
      simp [List.append_assoc]
    refine q1.trans ?_
    have q2 := (List.perm_middle (a := pt l (.loop (rec .ready none))) (l₁ := ((D :: ds).map ptd) ++ L ++ Hit) (l₂ := HI 0)).symm
    simpa [List.append_assoc] using q2
  refine ⟨l, [{ target := .collected D, args := #[] }], W1, { target := .fn (.func f) captured.toArray, args := #[.func (.yield l) #[] #[]] }, W1, f, #[.func (.yield l) #[] #[]] ++ captured.toArray, W1, ?_, ?_, ?_, ?_, fun h => by simp [Fence.wide] at h, ?_⟩
  · rw [← hW1, hrec]; exact run_enterLoop_outer _ _ _ _ _
  · simp only [resolve, hs.fr.eval hg]
    simp [go_sem, Deferred.ofValue, Act.eval]
  · intro f' hf'; trivial
  · simp [invoke, hcall]
  -- the iterator is handed its own pieces, and the caller's
  let Hc : Nat → List HP := fun k => pt l (.loop (rk k)) :: HI k
  have hi2 : Inv C.w0 C.M ((Hit ++ Hc 0) ++ (((D :: ds).map ptd) ++ L)) W1 := hinv1.perm List.perm_append_comm
  obtain ⟨M', h1', h2', s, pa, pb, hM⟩ := handed hi2
  have hMB : ∀ b ∈ M', C.B ≤ b := fun b hb => by
    rcases (handed_own s hM b hb).1 with h | h
    · exact Nat.le_trans C.hB h
    exact C.hM b h
  have hy : ∀ k x v, xs[k]? = some x → k ≤ last → YieldB P C.B C.w0 l #[v] (bl (k < last)) (G x v :: Hc k) (Hc (k + 1)) := by
    intro k x v hx hkl wy My hyB hyk hyM hyi0
    have rkk : rk k = rec .ready none := by rw [hrk]; simp [hkl]
    have hyi : Inv wy My (pt l (.loop (rec .ready none)) :: G x v :: HI k) wy := by
      have := hyi0.perm (List.Perm.swap (pt l (.loop (rk k))) (G x v) (HI k))
      rw [rkk] at this; exact this
    have hl : wy.heap[l]? = some (.loop (rec .ready none)) := (hyi.look .head).1
    have hy := run_yield (P := P) (args := #[v]) hl (by rw [hrec]; rfl)
    refine ⟨_, _, _, _, hy, roundIn_of_wpIn trivial ?_⟩
    have hrd := hround l wy My hyB hyM hyk k x v hx hkl
    have hst : St (rdCx C l wy My hyB hyM) [pt l (.loop (rec .ready none))] [] ((p, v) :: E) (G x v :: HI k) { tmps := (#[p].zip #[v]).foldl (fun tmps (t, a) => tmps.setIfInBounds t a) a.tmps, defers := [] } wy := by
      refine ⟨rfl, ?_, hyi⟩
      have := hs.fr.put (v := v) hN
      exact ⟨by have := this.size; simpa [Act.put, rdCx] using this, fun t u hu => by have := this.get t u hu; simpa [Act.put] using this⟩
    have hw := hrd _ _ _ _ hst
    have hFr : (rdCx C l wy My hyB hyM).F = Fence.wide.inRound l := rfl
    rw [hFr] at hw
    rw [hrec]
    rw [hrec] at hw hl
    refine wpIn_mono hw ?_
    rintro e a2 w2 ⟨ds2, E2, H2, q, st2⟩
    cases e <;> first | exact q.elim | skip
    have i2 : Inv wy My (ds2.map ptd ++ pt l (.loop (rec .ready none)) :: H2) w2 := by have := st2.inv; rw [hrec]; simpa [List.append_assoc, rdCx] using this
    have hl2 := (i2.look (b := l) (o := .loop (rec .ready none)) ((Pick.head).app (ds2.map ptd))).1
    have i3 := putObj_inv (o' := .loop (rec .busy none)) i2
    have hb2 := run_beginRound (P := P) hl2 (by rw [hrec])
    have e3 : ({ rec .ready none with state := .busy } : Loop) = rec .busy none := by rw [hrec]
    rw [e3] at hb2
    refine ⟨_, hb2, ?_⟩
    have hw3 := q [pt l (.loop (rec .busy none))] ds2 a2 _ ⟨st2.defers, st2.fr, by simpa [List.append_assoc, rdCx] using i3⟩
    rw [hFr] at hw3
    refine wpIn_mono hw3 ?_
    rintro e4 a4 w4 ⟨ds4, E4, H4, ⟨q4, q5⟩, st4⟩
    have i4 : Inv wy My (ds4.map ptd ++ pt l (.loop (rec .busy none)) :: H4) w4 := by simpa [List.append_assoc, rdCx] using st4.inv
    have hl4 := (i4.look (b := l) (o := .loop (rec .busy none)) ((Pick.head).app (ds4.map ptd))).1
    have fin : ∀ (st : LoopState) (pe : Option Code), rk (k + 1) = rec st pe → Inv wy My (Hc (k + 1)) (w4.putObj l (.loop (rec st pe))) := fun st pe he => by
      have i5 := putObj_inv (o' := .loop (rec st pe)) i4
      have s1 : Sub (ds4.map ptd ++ pt l (.loop (rec st pe)) :: H4) (pt l (.loop (rec st pe)) :: H4) := by
        induction ds4.map ptd with
        | nil => exact Sub.refl _
        | cons A r ih => exact Sub.tail ih
      show Inv wy My (pt l (.loop (rk (k + 1))) :: HI (k + 1)) _
      rw [he]
      exact Inv.chg (L := [pt l (.loop (rec st pe))]) (i5.sub s1) q5
    rcases Decidable.em (k < last) with hk | hk
    · rw [bl_t.2 hk, if_pos rfl] at q4
      subst q4
      have hb4 := run_endRound (P := P) none hl4
      have e5 : ({ rec .busy none with state := if (none : Option Code).isNone then .ready else .done, pending := none } : Loop) = rec .ready none := by rw [hrec]; rfl
      rw [e5] at hb4
      exact ⟨_, _, hb4, by rw [bl_t.2 hk]; rfl, fin _ _ (by rw [hrk]; simp [show k + 1 ≤ last from hk])⟩
    rw [bl_f.2 hk, if_neg (by simp)] at q4
    subst q4
    have hb4 := run_endRound (P := P) (some j.code) hl4
    have e5 : ({ rec .busy none with state := if (some j.code : Option Code).isNone then .ready else .done, pending := some j.code } : Loop) = rec .done (some j.code) := by rw [hrec]; rfl
    rw [e5] at hb4
    exact Jmp.round (F := Fence.wide) j ⟨_, _, hb4, by rw [bl_f.2 hk]; rfl, fin _ _ (by rw [hrk]; simp [show ¬ k + 1 ≤ last from hk])⟩
  have hct := hiter l Hc hy W1 M' (Nat.le_trans C.hB (by have := hinv1.size; exact this)) hinv1.keepB hMB (handed_start s pa hM)
  refine CallsIn.mono hct ?_
  rintro e w' ⟨v, rfl, hi'⟩
  have hb := handed_back (hi2.sub .nil) s pb hM hi'
  have hb2 : Inv C.w0 C.M ((((D :: ds).map ptd) ++ L ++ Hit) ++ pt l (.loop (rk (min xs.length (last + 1)))) :: HI (min xs.length (last + 1))) w' := by
    refine hb.perm ?_
    have := List.perm_append_comm (l₁ := Hit ++ Hc (min xs.length (last + 1))) (l₂ := ((D :: ds).map ptd) ++ L)
    simpa [Hc, List.append_assoc] using this
  have hl := (hb2.look (b := l) (o := .loop (rk (min xs.length (last + 1)))) ((Pick.head).app _)).1
  have stE : ∀ k, (w'.putObj l (.loop { rk (min xs.length (last + 1)) with state := .exhausted })) = k → Inv C.w0 C.M ((((D :: ds).map ptd) ++ L ++ Hit) ++ HI (min xs.length (last + 1))) k := fun k e => by
    subst e
    exact (putObj_inv (o' := .loop { rk (min xs.length (last + 1)) with state := .exhausted }) hb2).dropL
  have dfr : [{ target := .collected D, args := #[] }] ++ a.defers = (D :: ds).map mark := by
    rw [hs.defers]; rfl
  rcases Nat.lt_or_ge last xs.length with g | g
  · have em : min xs.length (last + 1) = last + 1 := by omega
    rw [em] at hl stE
    have er : rk (last + 1) = rec .done (some j.code) := by rw [hrk]; exact if_neg (by omega)
    rw [er] at hl stE
    have := run_endLoop (P := P) hl (by rw [hrec]; simp)
    have e6 : (rec .done (some j.code)).pending = some j.code := by rw [hrec]
    rw [e6] at this
    refine ⟨some j.code, _, this, ?_⟩
    have hw := h2 g L (D :: ds) { a with defers := [{ target := .collected D, args := #[] }] ++ a.defers } _ ⟨dfr, ⟨hs.fr.size, hs.fr.get⟩, by have := stE _ rfl; simp only [e6] at this; simpa [List.append_assoc] using this⟩
    rw [hF] at hw
    exact hw
  have em : min xs.length (last + 1) = xs.length := by omega
  rw [em] at hl stE
  have er : rk xs.length = rec .ready none := by rw [hrk]; exact if_pos g
  rw [er] at hl stE
  have := run_endLoop (P := P) hl (by rw [hrec]; simp)
  have e6 : (rec .ready none).pending = none := by rw [hrec]
  rw [e6] at this
  refine ⟨none, _, this, ?_⟩
  exact ⟨D :: ds, E, Hit ++ HI xs.length, h1 g, ⟨dfr, ⟨hs.fr.size, hs.fr.get⟩, by have := stE _ rfl; simp only [e6] at this; simpa [List.append_assoc] using this⟩⟩
end
end Go.TH
namespace Go.TH
open Go
section
variable {P : Program} {C : Cx P} {E : Env} {H : List HP}
variable {ops : Array Oper} {K : KP} {rest : List Oper} {d : Nat} {ty : TypeId} {pos : String} {af : Array Edge} {x y z : Operand} {T : TypeId}
theorem run_append_zero (w : World) (T ty e : TypeId) (i : TypeInfo) (ht : P.underlying T = some (.slice e)) (hi : P.info? e = some i) (base : Option Addr) (n cap : Nat) (hle : n ≤ cap) (a : Option Addr) (c : Nat) :
    (Builtin.append_ #[T, T] ty #[.slice base n cap, .slice a 0 c]).run P w = .ok (.slice base n cap) w := by
  have hl : ∀ (x : Addr), (loadCells x 0).run P w = .ok #[] w := fun x => by simpa using run_loadCells_list (P := P) w x [] (by simp)
  cases base <;> cases a <;> simp [Builtin.append_, run_underlying ht, sizeOf, typeInfo, hi, Builtin.lenOf, Builtin.firstCells, hle, hl, storeCells]
/-- nothing is appended -/
theorem WO.appendZ {e sz by' n : Nat} {v u : Value} {cs : List Value} {zv : Value} {H' : List HP} (hT : C.tt.sl? T = some (e, sz, by')) (hz : C.tt.z? e = some zv) (hx : ev E x = some v) (hy : ev E y = some u) (p : Pick (OwC e sz v n cs) H H') (hS : IsSl u 0) (hN : Nat.blt d C.N = true)
    (h : WO C ops rest K ((d, v) :: E) (OwC e sz v n cs :: H')) : WO C ops (⟨some d, .call ⟨.builtin .append, #[x, y], #[T, T]⟩, ty, pos, af, none⟩ :: rest) K E H := by
  refine WO.step rfl rfl hN (XO.run (by simp) fun L a w hf hi => ?_)
  obtain ⟨i, hi1, hi2, hi3, hi4⟩ := sl_info hT hz
  obtain ⟨_, a0, c0, rfl, _⟩ := hS
  have hi' := hi.pickL p
  obtain ⟨hcl, hcase⟩ := OwC.open hi'
  have fin : ∀ (base : Option Addr) (n' cap : Nat), n' ≤ cap → v = .slice base n' cap → (execOp a.eval ⟨some d, .call ⟨.builtin .append, #[x, y], #[T, T]⟩, ty, pos, af, none⟩).run P w = .ok (.value v) w := fun base n' cap hle e => by
    subst e
    have := run_append_zero (P := P) w T ty e i (SlT.of hT).u hi1 base n' cap hle a0 c0
    simp [execOp, resolve, hf.eval hx, hf.eval hy, invoke, builtin, this]
  rcases hcase with ⟨e1, e2, _⟩ | ⟨g, cap, cur, e1, q1, _⟩
  · exact ⟨_, w, _, .inl (fin none 0 0 (Nat.le_refl _) e1), h, hi'⟩
  exact ⟨_, w, _, .inl (fin _ n cap q1 e1), h, hi'⟩
theorem WO.appendN {e sz by' n m : Nat} {v u zv : Value} {cs news : List Value} {H' : List HP} (hT : C.tt.sl? T = some (e, sz, by')) (hz : C.tt.z? e = some zv) (hzs : Nat.beq zv.cells.size sz = true)
    (hx : ev E x = some v) (hy : ev E y = some u) (p : Pick (OwC e sz v n cs) H H') (hS : IsSl u m) (hc : Cells C H (base u) news) (hl : news.length = m * sz) (h1 : ∀ u ∈ news, u.oneCell' = true)
    (hb : (n + m) * by' ≤ 140737488355328) (h63 : n + m ≤ 9223372036854775807) (hN : Nat.blt d C.N = true)
    (h : ∀ v', WO C ops rest K ((d, v') :: E) (OwC e sz v' (n + m) (cs ++ news) :: H')) : WO C ops (⟨some d, .call ⟨.builtin .append, #[x, y], #[T, T]⟩, ty, pos, af, none⟩ :: rest) K E H := by
  rcases Nat.eq_zero_or_pos m with rfl | hm
  · obtain rfl : news = [] := List.eq_nil_of_length_eq_zero (by simpa using hl)
    refine WO.appendZ hT hz hx hy p hS hN ?_
    have := h v
    rw [List.append_nil] at this
    exact this
  exact WO.append hT hz hzs hx hy p hS hm hc hl h1 hb h63 hN fun g c => h _
theorem WO.appendEZ {α : Type} {enc : α → List Value} {e sz by' m : Nat} {v u zv : Value} {xs ys : List α} {H' : List HP} (he : EncOk enc sz) (hT : C.tt.sl? T = some (e, sz, by')) (hz : C.tt.z? e = some zv) (hzs : Nat.beq zv.cells.size sz = true)
    (hx : ev E x = some v) (hy : ev E y = some u) (p : Pick (OwE enc e sz v xs) H H') (hS : IsSl u m) (hl : ys.length = m) (hc : Cells C H (base u) (ys.flatMap enc))
    (hb : (xs.length + m) * by' ≤ 140737488355328) (h63 : xs.length + m ≤ 9223372036854775807) (hN : Nat.blt d C.N = true)
    (h : ∀ v', WO C ops rest K ((d, v') :: E) (OwE enc e sz v' (xs ++ ys) :: H')) : WO C ops (⟨some d, .call ⟨.builtin .append, #[x, y], #[T, T]⟩, ty, pos, af, none⟩ :: rest) K E H := by
  subst hl
  refine WO.appendN hT hz hzs hx hy p hS hc (he.flat_len ys) (fun u hu => ?_) hb h63 hN fun v' => ?_
  · obtain ⟨x, _, hx⟩ := List.mem_flatMap.1 hu
    exact he.one x u hx
  have := h v'
  unfold OwE at this
  rw [List.flatMap_append, List.length_append] at this
  exact this
/-! ### maps whose keys are whole numbers -/
theorem WO.lookupC {b : Nat} {es : Array MapEntry} {clk : Nat} {kt et : TypeId} {q : IntKind} {k v : Value} {ok : Bool} {H' : List HP} (hT : P.underlying T = some (.map kt et)) (hkt : P.underlying kt = some (.int q))
    (hm : ev E x = some (.map (some b))) (hk : ev E y = some k) (p : Pick (pt b (.map es clk)) H H') (hf : (∃ i, Instr.findNow (.int q) k es.toList 0 = some (some (i, v)) ∧ ok = true) ∨ (Instr.findNow (.int q) k es.toList 0 = some none ∧ C.tt.z? et = some v ∧ ok = false)) (hN : Nat.blt d C.N = true)
    (h : WO C ops rest K ((d, .tuple #[v, .bool ok]) :: E) H) : WO C ops (⟨some d, .lookup T x y true, ty, pos, af, none⟩ :: rest) K E H := by
  refine WO.pure (.tuple #[v, .bool ok]) (by simp) (fun L a w hfr hi => ?_) hN h
  have hl := (hi.look (p.app L)).1
  rcases hf with ⟨i, hf, rfl⟩ | ⟨hf, hz, rfl⟩
  · simp [execOp, hfr.eval hm, hfr.eval hk, Instr.lookup, run_underlying hT, getMap_run hl, checkKey_int hkt, MapKept.run_findKey hkt hf]
  have hzr : (zeroValue et).run P w = .ok v w := run_zeroValue (ZT.of hz).zero
  simp [execOp, hfr.eval hm, hfr.eval hk, Instr.lookup, run_underlying hT, getMap_run hl, checkKey_int hkt, MapKept.run_findKey hkt hf, hzr]
theorem WO.updateI {b : Nat} {es : Array MapEntry} {clk : Nat} {kt et : TypeId} {q : IntKind} {k u : Value} {H' : List HP} (hT : P.underlying T = some (.map kt et)) (hkt : P.underlying kt = some (.int q))
    (hm : ev E x = some (.map (some b))) (hk : ev E y = some k) (hu : ev E z = some u) (p : Pick (pt b (.map es clk)) H H') (hf : Instr.findNow (.int q) k es.toList 0 = some none)
    (h : WO C ops rest K E (pt b (.map (es.push { key := k, val := u, born := clk }) (clk + 1)) :: H')) : WO C ops (⟨none, .mapUpdate T x y z, ty, pos, af, none⟩ :: rest) K E H := by
  refine WO.step0 rfl rfl (XO.run (by simp) fun L a w hfr hi => ?_)
  have hl := (hi.look (p.app L)).1
  have hlt : b < w.heap.size := (Array.getElem?_eq_some_iff.1 hl).1
  refine ⟨undef, { w with heap := w.heap.setIfInBounds b (.map (es.push { key := k, val := u, born := clk }) (clk + 1)) }, _, .inr ⟨?_, rfl⟩, h, ?_⟩
  · have hr : (Instr.mapUpdate T (.map (some b)) k u).run P w = .ok () { w with heap := w.heap.setIfInBounds b (.map (es.push { key := k, val := u, born := clk }) (clk + 1)) } := by
      simp [Instr.mapUpdate, run_underlying hT, getMap_run hl, checkKey_int hkt, MapKept.run_findKey hkt hf]
      simp [setObj, Sem.run, hl, Result.andThen]
    simp [execOp, hfr.eval hm, hfr.eval hk, hfr.eval hu, hr]
  have hs := hi.set (o' := .map (es.push { key := k, val := u, born := clk }) (clk + 1)) (p.app L) (w' := { w with heap := w.heap.setIfInBounds b (.map (es.push { key := k, val := u, born := clk }) (clk + 1)) }) rfl rfl rfl (by simp) (by simp [hlt]) (fun k hk => by simp [Array.getElem?_setIfInBounds_ne (Ne.symm hk)])
  exact hs.perm (List.perm_middle (l₁ := L) (l₂ := H')).symm
theorem WO.deleteI {b : Nat} {es es' : Array MapEntry} {clk : Nat} {kt et : TypeId} {q : IntKind} {k : Value} {ts : Array TypeId} {H' : List HP} (hts : ts[0]? = some T) (hT : P.underlying T = some (.map kt et)) (hkt : P.underlying kt = some (.int q))
    (hm : ev E x = some (.map (some b))) (hk : ev E y = some k) (p : Pick (pt b (.map es clk)) H H') (hf : (∃ i v, Instr.findNow (.int q) k es.toList 0 = some (some (i, v)) ∧ es' = es.eraseIdxIfInBounds i) ∨ (Instr.findNow (.int q) k es.toList 0 = some none ∧ es' = es))
    (h : WO C ops rest K E (pt b (.map es' clk) :: H')) : WO C ops (⟨none, .call ⟨.builtin .delete, #[x, y], ts⟩, ty, pos, af, none⟩ :: rest) K E H := by
  refine WO.step0 rfl rfl (XO.run (by simp) fun L a w hfr hi => ?_)
  have hl := (hi.look (p.app L)).1
  have hlt : b < w.heap.size := (Array.getElem?_eq_some_iff.1 hl).1
  refine ⟨.tuple #[], { w with heap := w.heap.setIfInBounds b (.map es' clk) }, _, .inl ?_, h, ?_⟩
  · have hr : (Builtin.delete_ ts ty #[.map (some b), k]).run P w = .ok (.tuple #[]) { w with heap := w.heap.setIfInBounds b (.map es' clk) } := by
      rcases hf with ⟨i, v, hf, rfl⟩ | ⟨hf, rfl⟩
      · simp [Builtin.delete_, hts, run_underlying hT, getMap_run hl, checkKey_int hkt, MapKept.run_findKey hkt hf]
        simp [setObj, Sem.run, hl, Result.andThen]
      simp [Builtin.delete_, hts, run_underlying hT, getMap_run hl, checkKey_int hkt, MapKept.run_findKey hkt hf]
      simp [setObj, Sem.run, hl, Result.andThen]
    simp [execOp, resolve, hfr.eval hm, hfr.eval hk, Deferred.ofValue, invoke, builtin, hr]
  have hs := hi.set (o' := .map es' clk) (p.app L) (w' := { w with heap := w.heap.setIfInBounds b (.map es' clk) }) rfl rfl rfl (by simp) (by simp [hlt]) (fun k hk => by simp [Array.getElem?_setIfInBounds_ne (Ne.symm hk)])
  exact hs.perm (List.perm_middle (l₁ := L) (l₂ := H')).symm
theorem CtH.ofI {X : Type} {p : X → Value → Prop} {Hx : X → List HP} {f : FuncId} {fn : Func} {c : Code} {vs : List Value} {w : World} {B : Nat} {Hp : List HP} (hm : P.follows .mixedOrders = true) (tt : TTab P) (hB : B ≤ w.heap.size)
    (hf : P.funcs[f]? = some fn) (hb : fn.body = some c) (ha : Nat.ble vs.length fn.ntmps = true)
    (h : ∀ M (hM : ∀ b ∈ M, B ≤ b), W (itCx hm tt fn.ntmps w M B hB hM) c (fin (itCx hm tt fn.ntmps w M B hB hM) fn (fun v H => ∃ x, p x v ∧ ∀ h, sat H h → sat (Hx x) h)) (enumE 0 vs) Hp) : CtH P f vs w Hp B (fun v Hq => ∃ x, p x v ∧ Hq = Hx x) := fun M hM hi =>
  (CtH.of hm tt hB hf hb ha h M hM hi).mono fun _ _ ⟨_, ⟨x, hp, hq⟩, hv⟩ => ⟨Hx x, ⟨x, hp, rfl⟩, Inv.chg (L := []) hv hq⟩
theorem WO.callH1 {xs : List Operand} {ats : Array TypeId} {vs : List Value} {f : FuncId} {A : HP} {H' : List HP} {Post : Value → List HP → Prop} (hxs : evs E xs = some vs) (hcall : ∀ (args : Array Value) (w : World), (callFunc f args).run P w = .ok (.enter f args) w) (p : Pick A H H')
    (hspec : ∀ (L : List HP) w, Inv C.w0 C.M (L ++ H) w → C.B ≤ w.heap.size → CtH P f vs w [A] C.B Post) (hN : Nat.blt d C.N = true)
    (h : ∀ v Hq, Post v Hq → WO C ops rest K ((d, v) :: E) (Hq ++ H')) : WO C ops (⟨some d, .call ⟨.value (.func f), xs.toArray, ats⟩, ty, pos, af, none⟩ :: rest) K E H :=
  WO.callH (Hp := [A]) (Hr := H') hxs hcall (.cons p (Sub.refl _)) hspec hN h
end
section
variable {P : Program} {α : Type} {enc : α → List Value} {e sz : Nat}
theorem RowsE.up : ∀ {rv : List Value} {xss : List (List α)} {h h1 h2 : Hp}, Split h h1 h2 → RowsE enc e sz rv xss h1 → RowsE enc e sz rv xss h
  | [], [], _, _, _, _, _ => trivial
  | _ :: _, _ :: _, _, _, _, s, ⟨_, _, t, x, r⟩ => by
    obtain ⟨r', t1, t2⟩ := split_assoc s.comm t.comm
    exact ⟨_, r', t1.comm, x, RowsE.up t2.comm r⟩
  | [], _ :: _, _, _, _, _, a => a.elim
  | _ :: _, [], _, _, _, _, a => a.elim
theorem RowsE.app : ∀ {rv rv' : List Value} {xss xss' : List (List α)} {h h1 h2 : Hp}, Split h h1 h2 → RowsE enc e sz rv xss h1 → RowsE enc e sz rv' xss' h2 → RowsE enc e sz (rv ++ rv') (xss ++ xss') h := by
  intro rv rv' xss xss' h h1 h2 s a b
  induction rv' generalizing rv xss xss' h h1 h2 with
  | nil =>
    have := RowsE.len b
    cases xss' with
    | nil =>
      rw [List.append_nil, List.append_nil]
      exact RowsE.up s a
    | cons _ _ => simp at this
  | cons r rv' ih =>
    cases xss' with
    | nil => have := RowsE.len b; simp at this
    | cons xs xss' =>
      obtain ⟨k1, k2, s2, hx, hr⟩ := b
      obtain ⟨r', t1, t2⟩ := split_assoc s s2
      have := RowsE.snoc t2 a hx
      have := ih t1 this hr
      simpa using this
theorem RowsE.oc : ∀ {rv : List Value} {xss : List (List α)} {h : Hp}, RowsE enc e sz rv xss h → ∀ u ∈ rv, u.oneCell' = true
  | [], [], _, _ => fun u hu => by simp at hu
  | r :: rv, xs :: xss, _, ⟨_, _, _, x, q⟩ => fun u hu => by
    rcases List.mem_cons.1 hu with rfl | hu
    · obtain ⟨_, hc⟩ := x
      rcases hc with ⟨rfl, _⟩ | ⟨g, cap, cur, rfl, _⟩ <;> rfl
    exact RowsE.oc q u hu
  | [], _ :: _, _, h => h.elim
  | _ :: _, [], _, h => h.elim
theorem RowsE.ocF {C : Cx P} {H H' : List HP} {rv : List Value} {xss : List (List α)} (p : Pick (RowsE enc e sz rv xss) H H') : ∀ (L : List HP) w, Inv C.w0 C.M (L ++ H) w → rv.length = xss.length ∧ ∀ u ∈ rv, u.oneCell' = true := fun _ _ hi => by
  obtain ⟨h1, ha⟩ := (hi.pickL p).piece
  exact ⟨RowsE.len ha, RowsE.oc ha⟩
theorem rowsApp {rv rv' : List Value} {xss xss' : List (List α)} {H H1 H2 : List HP} (p : Pick (RowsE enc e sz rv xss) H H1) (q : Pick (RowsE enc e sz rv' xss') H1 H2) : ∀ h, sat H h → sat (RowsE enc e sz (rv ++ rv') (xss ++ xss') :: H2) h := fun h hs => by
  obtain ⟨h1, h2, s, a, b⟩ := p.sat hs
  obtain ⟨h3, h4, s2, c, d⟩ := q.sat b
  obtain ⟨r', t1, t2⟩ := split_assoc s s2
  exact ⟨r', h4, t1, RowsE.app t2 a c, d⟩
end
end Go.TH
namespace Go.TH
open Go
/-- how many bits a number of a kind has that is not below 0 -/
def room (k : IntKind) : Nat := if k.signed then k.bits - 1 else k.bits
def Fits (k : IntKind) (a : Nat) : Prop := a < 2 ^ room k
theorem wrap_nat {k : IntKind} {a : Nat} (h : Fits k a) : k.wrap (a : Int) = (a : Int) := by
  unfold Fits room at h
  have e1 : (a : Int) % (2 ^ k.bits : Int) = (a : Int) := by
    refine Int.emod_eq_of_lt (by omega) ?_
    have h2 : a < 2 ^ k.bits := Nat.lt_of_lt_of_le h (Nat.pow_le_pow_right (by omega) (by split <;> omega))
    exact_mod_cast h2
  unfold IntKind.wrap
  simp only [e1]
  split
  · rename_i hs
    simp only [Bool.and_eq_true, decide_eq_true_eq] at hs
    rw [if_pos hs.1] at h
    have h3 : (a : Int) < (2 ^ (k.bits - 1) : Int) := by exact_mod_cast h
    omega
  rfl
theorem ofInt_nat {k : IntKind} {a : Nat} (h : Fits k a) : (BitVec.ofInt k.bits (a : Int)).toNat = a := by
  have h2 : a < 2 ^ k.bits := Nat.lt_of_lt_of_le h (Nat.pow_le_pow_right (by omega) (by unfold room; split <;> omega))
  rw [show BitVec.ofInt k.bits (a : Int) = BitVec.ofNat k.bits a by simp, BitVec.toNat_ofNat]
  exact Nat.mod_eq_of_lt h2
theorem mod_fits {k : IntKind} {a : Nat} (h : Fits k a) : a % 2 ^ k.bits = a := Nat.mod_eq_of_lt (Nat.lt_of_lt_of_le h (Nat.pow_le_pow_right (by omega) (by unfold room; split <;> omega)))
theorem Fits.and {k : IntKind} {a b : Nat} (h : Fits k a) : Fits k (a &&& b) := Nat.lt_of_le_of_lt Nat.and_le_left h
theorem Fits.or {k : IntKind} {a b : Nat} (h : Fits k a) (h' : Fits k b) : Fits k (a ||| b) := Nat.or_lt_two_pow h h'
theorem Fits.xor {k : IntKind} {a b : Nat} (h : Fits k a) (h' : Fits k b) : Fits k (a ^^^ b) := Nat.xor_lt_two_pow h h'
theorem Fits.shr {k : IntKind} {a s : Nat} (h : Fits k a) : Fits k (a >>> s) := Nat.lt_of_le_of_lt (by rw [Nat.shiftRight_eq_div_pow]; exact Nat.div_le_self _ _) h
section
variable {P : Program} {C : Cx P} {E : Env} {H : List HP}
variable {ops : Array Oper} {K : KP} {rest : List Oper} {d : Nat} {ty : TypeId} {pos : String} {af : Array Edge} {x y : Operand} {T T' : TypeId} {k : IntKind} {a b : Nat}
theorem WO.andN (hx : ev E x = some (.int k (a : Int))) (hy : ev E y = some (.int k (b : Int))) (ha : Fits k a) (hb : Fits k b) (hN : Nat.blt d C.N = true) (h : WO C ops rest K ((d, .int k ((a &&& b : Nat) : Int)) :: E) H) : WO C ops (⟨some d, .binOp .and T x y T', ty, pos, af, none⟩ :: rest) K E H :=
  WO.pure _ (by simp) (fun L c w hf _ => by
    simp only [execOp, hf.eval hx, hf.eval hy]
    simp [binOp_and, eqGuard_and, Op.intBits, mod_fits ha, mod_fits hb]
    exact_mod_cast wrap_nat (k := k) (a := a &&& b) ha.and) hN h
theorem WO.orN (hx : ev E x = some (.int k (a : Int))) (hy : ev E y = some (.int k (b : Int))) (ha : Fits k a) (hb : Fits k b) (hN : Nat.blt d C.N = true) (h : WO C ops rest K ((d, .int k ((a ||| b : Nat) : Int)) :: E) H) : WO C ops (⟨some d, .binOp .or T x y T', ty, pos, af, none⟩ :: rest) K E H :=
  WO.pure _ (by simp) (fun L c w hf _ => by
    simp only [execOp, hf.eval hx, hf.eval hy]
    simp [binOp_or, eqGuard_or, Op.intBits, mod_fits ha, mod_fits hb]
    exact_mod_cast wrap_nat (k := k) (a := a ||| b) (ha.or hb)) hN h
theorem WO.xorN (hx : ev E x = some (.int k (a : Int))) (hy : ev E y = some (.int k (b : Int))) (ha : Fits k a) (hb : Fits k b) (hN : Nat.blt d C.N = true) (h : WO C ops rest K ((d, .int k ((a ^^^ b : Nat) : Int)) :: E) H) : WO C ops (⟨some d, .binOp .xor T x y T', ty, pos, af, none⟩ :: rest) K E H :=
  WO.pure _ (by simp) (fun L c w hf _ => by
    simp only [execOp, hf.eval hx, hf.eval hy]
    simp [binOp_xor, eqGuard_xor, Op.intBits, mod_fits ha, mod_fits hb]
    exact_mod_cast wrap_nat (k := k) (a := a ^^^ b) (ha.xor hb)) hN h
theorem WO.shrN {k' : IntKind} {s : Nat} (hx : ev E x = some (.int k (a : Int))) (hy : ev E y = some (.int k' (s : Int))) (hs : s ≤ k.bits) (hN : Nat.blt d C.N = true) (h : WO C ops rest K ((d, .int k ((a >>> s : Nat) : Int)) :: E) H) : WO C ops (⟨some d, .binOp .shr T x y T', ty, pos, af, none⟩ :: rest) K E H :=
  WO.pure _ (by simp) (fun L c w hf _ => by
    simp only [execOp, hf.eval hx, hf.eval hy]
    simp [binOp_shr, eqGuard_shr, shift_shr_any k k' a s (by omega), Nat.min_eq_left hs, Nat.shiftRight_eq_div_pow]) hN h
theorem WO.shlN {k' : IntKind} {s : Nat} (hx : ev E x = some (.int k (a : Int))) (hy : ev E y = some (.int k' (s : Int))) (hs : s ≤ k.bits) (hf' : Fits k (a <<< s)) (hN : Nat.blt d C.N = true) (h : WO C ops rest K ((d, .int k ((a <<< s : Nat) : Int)) :: E) H) : WO C ops (⟨some d, .binOp .shl T x y T', ty, pos, af, none⟩ :: rest) K E H :=
  WO.pure _ (by simp) (fun L c w hf _ => by
    have hw := wrap_nat hf'
    rw [Nat.shiftLeft_eq] at hw
    simp only [execOp, hf.eval hx, hf.eval hy]
    simp [binOp_shl, eqGuard_shl, shift_shl_any k k' a s (by omega), Nat.min_eq_left hs, Nat.shiftLeft_eq]
    exact_mod_cast hw) hN h
theorem fits01 {z : Nat} (h : z ≤ 1) : Fits k z := by
  have : 1 < 2 ^ room k := by cases k <;> decide
  exact Nat.lt_of_le_of_lt h this
/-- bits as numbers -/
theorem WO.and01 {z u : Int} (hx : ev E x = some (.int k z)) (hy : ev E y = some (.int k u)) (hz : z = 0 ∨ z = 1) (hu : u = 0 ∨ u = 1) (hN : Nat.blt d C.N = true) (h : WO C ops rest K ((d, .int k (z * u)) :: E) H) : WO C ops (⟨some d, .binOp .and T x y T', ty, pos, af, none⟩ :: rest) K E H := by
  rcases hz with rfl | rfl <;> rcases hu with rfl | rfl
  · exact WO.andN (a := 0) (b := 0) hx hy (fits01 (by omega)) (fits01 (by omega)) hN h
  · exact WO.andN (a := 0) (b := 1) hx hy (fits01 (by omega)) (fits01 (by omega)) hN h
  · exact WO.andN (a := 1) (b := 0) hx hy (fits01 (by omega)) (fits01 (by omega)) hN h
  exact WO.andN (a := 1) (b := 1) hx hy (fits01 (by omega)) (fits01 (by omega)) hN h
theorem WO.xor01 {z u : Int} (hx : ev E x = some (.int k z)) (hy : ev E y = some (.int k u)) (hz : z = 0 ∨ z = 1) (hu : u = 0 ∨ u = 1) (hN : Nat.blt d C.N = true) (h : WO C ops rest K ((d, .int k ((z + u) % 2)) :: E) H) : WO C ops (⟨some d, .binOp .xor T x y T', ty, pos, af, none⟩ :: rest) K E H := by
  rcases hz with rfl | rfl <;> rcases hu with rfl | rfl
  · exact WO.xorN (a := 0) (b := 0) hx hy (fits01 (by omega)) (fits01 (by omega)) hN h
  · exact WO.xorN (a := 0) (b := 1) hx hy (fits01 (by omega)) (fits01 (by omega)) hN h
  · exact WO.xorN (a := 1) (b := 0) hx hy (fits01 (by omega)) (fits01 (by omega)) hN h
  exact WO.xorN (a := 1) (b := 1) hx hy (fits01 (by omega)) (fits01 (by omega)) hN h
end
/-- a list of slices of which each one can be read -/
theorem RdR.of_lit {P : Program} {C : Cx P} {H : List HP} {α : Type} {enc : α → List Value} {sz e' : Nat} {v : Value} {rv : List Value} {xss : List (List α)} {H1 L : List HP} {w : World} {n : Nat} (p : Pick (OwC e' 1 v n rv) H H1) (hi : Inv C.w0 C.M (L ++ H) w) (hlen : rv.length = xss.length) (hrow : ∀ i, i < xss.length → RdF enc sz w.heap.size w (rv.getD i undef) (xss.getD i [])) : RdR enc sz w.heap.size w v rv xss := by
  have hn : rv.length = n := by have := (OwC.open (hi.pickL p)).1; omega
  subst hn
  refine ⟨⟨OwC.sl p L w hi, fun hl => ?_, fun i x hx j u hu => ?_⟩, hlen, hrow⟩
  · have := World.block_lt_of_cell? w _ (OwC.cell1 (C := C) p hl L w hi)
    rw [elt_eq, addr_add_block] at this
    exact this
  have hlt := (List.getElem?_eq_some_iff.1 hx).1
  obtain ⟨rfl, rfl⟩ : j = 0 ∧ u = x := by
    cases j with
    | zero => simp [encV] at hu; exact ⟨rfl, hu.symm⟩
    | succ j => simp [encV] at hu
  have := OwC.cell1 (C := C) p hlt L w hi
  rw [elt_eq] at this
  simpa [hx, Addr.add] using this
theorem RdR.of_two {P : Program} {C : Cx P} {H : List HP} {α : Type} {enc : α → List Value} {sz e' : Nat} {v a b : Value} {xs ys : List α} {H1 L : List HP} {w : World} (p : Pick (OwC e' 1 v 2 [a, b]) H H1) (hi : Inv C.w0 C.M (L ++ H) w) (ha : RdF enc sz w.heap.size w a xs) (hb : RdF enc sz w.heap.size w b ys) : RdR enc sz w.heap.size w v [a, b] [xs, ys] :=
  RdR.of_lit p hi rfl fun i hl => match i, hl with
    | 0, _ => ha
    | 1, _ => hb
section
variable {P : Program} {C : Cx P} {E : Env} {H : List HP}
variable {ops : Array Oper} {K : KP} {rest : List Oper} {d : Nat} {ty : TypeId} {pos : String} {af : Array Edge} {x y : Operand} {T : TypeId}
/-- an element of an array's value -/
theorem WO.indexV {len e i : Nat} {k : IntKind} {vs : List Value} {v : Value} (hT : C.tt.ar? T = some (len, e, 1)) (hO : C.tt.one? e = true) (hx : ev E x = some (.agg vs.toArray)) (hy : ev E y = some (.int k (i : Int))) (h1 : i < len) (hv : lget vs i = some v) (hN : Nat.blt d C.N = true)
    (h : WO C ops rest K ((d, v) :: E) H) : WO C ops (⟨some d, .index T x y, ty, pos, af, none⟩ :: rest) K E H :=
  WO.pure v (by simp) (fun L a w hf hi => by
    rw [lget_eq] at hv
    have hp := run_part1 (P := P) (w := w) (CT.of hO) hv
    simp [execOp, hf.eval hx, hf.eval hy, Instr.index, run_underlying (ArT.of hT).u, asIntOf, h1, run_sizeOf (ArT.of hT).size, hp]) hN h
end
end Go.TH
namespace Go.TH
open Go
section
variable {P : Program} {C : Cx P} {E : Env} {H : List HP} {Q : Post} {c : Code}
theorem W.loop6 {X1 X2 X3 X4 X5 X6 : Type} (p : X1 → X2 → X3 → X4 → X5 → X6 → Prop) (e : X1 → X2 → X3 → X4 → X5 → X6 → Env) (m : X1 → X2 → X3 → X4 → X5 → X6 → List HP) (μ : X1 → X2 → X3 → X4 → X5 → X6 → Nat) (x10 : X1) (x20 : X2) (x30 : X3) (x40 : X4) (x50 : X5) (x60 : X6) (h0 : p x10 x20 x30 x40 x50 x60) (hE : EnvIn E (e x10 x20 x30 x40 x50 x60)) (hH : Sub H (m x10 x20 x30 x40 x50 x60))
    (round : ∀ x1 x2 x3 x4 x5 x6, p x1 x2 x3 x4 x5 x6 → W C c (thn (fun E' H' => ∃ x1' x2' x3' x4' x5' x6', p x1' x2' x3' x4' x5' x6' ∧ μ x1' x2' x3' x4' x5' x6' < μ x1 x2 x3 x4 x5 x6 ∧ EnvIn E' (e x1' x2' x3' x4' x5' x6') ∧ Sub H' (m x1' x2' x3' x4' x5' x6')) Q) (e x1 x2 x3 x4 x5 x6) (m x1 x2 x3 x4 x5 x6)) : W C (.loop c) Q E H :=
  W.loop (X := X1 × X2 × X3 × X4 × X5 × X6) (fun x => p x.1 x.2.1 x.2.2.1 x.2.2.2.1 x.2.2.2.2.1 x.2.2.2.2.2) (fun x => e x.1 x.2.1 x.2.2.1 x.2.2.2.1 x.2.2.2.2.1 x.2.2.2.2.2) (fun x => m x.1 x.2.1 x.2.2.1 x.2.2.2.1 x.2.2.2.2.1 x.2.2.2.2.2) (fun x => μ x.1 x.2.1 x.2.2.1 x.2.2.2.1 x.2.2.2.2.1 x.2.2.2.2.2) (x10, x20, x30, x40, x50, x60) h0 hE hH fun x hp => (round x.1 x.2.1 x.2.2.1 x.2.2.2.1 x.2.2.2.2.1 x.2.2.2.2.2 hp).mono fun ex E' H' q => by
    cases ex <;> first | exact q | skip
    obtain ⟨x1', x2', x3', x4', x5', x6', qa, qb, qc, qd⟩ := q
    exact ⟨(x1', x2', x3', x4', x5', x6'), qa, qb, qc, qd⟩
theorem W.loop7 {X1 X2 X3 X4 X5 X6 X7 : Type} (p : X1 → X2 → X3 → X4 → X5 → X6 → X7 → Prop) (e : X1 → X2 → X3 → X4 → X5 → X6 → X7 → Env) (m : X1 → X2 → X3 → X4 → X5 → X6 → X7 → List HP) (μ : X1 → X2 → X3 → X4 → X5 → X6 → X7 → Nat) (x10 : X1) (x20 : X2) (x30 : X3) (x40 : X4) (x50 : X5) (x60 : X6) (x70 : X7) (h0 : p x10 x20 x30 x40 x50 x60 x70) (hE : EnvIn E (e x10 x20 x30 x40 x50 x60 x70)) (hH : Sub H (m x10 x20 x30 x40 x50 x60 x70))
    (round : ∀ x1 x2 x3 x4 x5 x6 x7, p x1 x2 x3 x4 x5 x6 x7 → W C c (thn (fun E' H' => ∃ x1' x2' x3' x4' x5' x6' x7', p x1' x2' x3' x4' x5' x6' x7' ∧ μ x1' x2' x3' x4' x5' x6' x7' < μ x1 x2 x3 x4 x5 x6 x7 ∧ EnvIn E' (e x1' x2' x3' x4' x5' x6' x7') ∧ Sub H' (m x1' x2' x3' x4' x5' x6' x7')) Q) (e x1 x2 x3 x4 x5 x6 x7) (m x1 x2 x3 x4 x5 x6 x7)) : W C (.loop c) Q E H :=
  W.loop (X := X1 × X2 × X3 × X4 × X5 × X6 × X7) (fun x => p x.1 x.2.1 x.2.2.1 x.2.2.2.1 x.2.2.2.2.1 x.2.2.2.2.2.1 x.2.2.2.2.2.2) (fun x => e x.1 x.2.1 x.2.2.1 x.2.2.2.1 x.2.2.2.2.1 x.2.2.2.2.2.1 x.2.2.2.2.2.2) (fun x => m x.1 x.2.1 x.2.2.1 x.2.2.2.1 x.2.2.2.2.1 x.2.2.2.2.2.1 x.2.2.2.2.2.2) (fun x => μ x.1 x.2.1 x.2.2.1 x.2.2.2.1 x.2.2.2.2.1 x.2.2.2.2.2.1 x.2.2.2.2.2.2) (x10, x20, x30, x40, x50, x60, x70) h0 hE hH fun x hp => (round x.1 x.2.1 x.2.2.1 x.2.2.2.1 x.2.2.2.2.1 x.2.2.2.2.2.1 x.2.2.2.2.2.2 hp).mono fun ex E' H' q => by
    cases ex <;> first | exact q | skip
    obtain ⟨x1', x2', x3', x4', x5', x6', x7', qa, qb, qc, qd⟩ := q
    exact ⟨(x1', x2', x3', x4', x5', x6', x7'), qa, qb, qc, qd⟩
theorem W.loop8 {X1 X2 X3 X4 X5 X6 X7 X8 : Type} (p : X1 → X2 → X3 → X4 → X5 → X6 → X7 → X8 → Prop) (e : X1 → X2 → X3 → X4 → X5 → X6 → X7 → X8 → Env) (m : X1 → X2 → X3 → X4 → X5 → X6 → X7 → X8 → List HP) (μ : X1 → X2 → X3 → X4 → X5 → X6 → X7 → X8 → Nat) (x10 : X1) (x20 : X2) (x30 : X3) (x40 : X4) (x50 : X5) (x60 : X6) (x70 : X7) (x80 : X8) (h0 : p x10 x20 x30 x40 x50 x60 x70 x80) (hE : EnvIn E (e x10 x20 x30 x40 x50 x60 x70 x80)) (hH : Sub H (m x10 x20 x30 x40 x50 x60 x70 x80))
    (round : ∀ x1 x2 x3 x4 x5 x6 x7 x8, p x1 x2 x3 x4 x5 x6 x7 x8 → W C c (thn (fun E' H' => ∃ x1' x2' x3' x4' x5' x6' x7' x8', p x1' x2' x3' x4' x5' x6' x7' x8' ∧ μ x1' x2' x3' x4' x5' x6' x7' x8' < μ x1 x2 x3 x4 x5 x6 x7 x8 ∧ EnvIn E' (e x1' x2' x3' x4' x5' x6' x7' x8') ∧ Sub H' (m x1' x2' x3' x4' x5' x6' x7' x8')) Q) (e x1 x2 x3 x4 x5 x6 x7 x8) (m x1 x2 x3 x4 x5 x6 x7 x8)) : W C (.loop c) Q E H :=
  W.loop (X := X1 × X2 × X3 × X4 × X5 × X6 × X7 × X8) (fun x => p x.1 x.2.1 x.2.2.1 x.2.2.2.1 x.2.2.2.2.1 x.2.2.2.2.2.1 x.2.2.2.2.2.2.1 x.2.2.2.2.2.2.2) (fun x => e x.1 x.2.1 x.2.2.1 x.2.2.2.1 x.2.2.2.2.1 x.2.2.2.2.2.1 x.2.2.2.2.2.2.1 x.2.2.2.2.2.2.2) (fun x => m x.1 x.2.1 x.2.2.1 x.2.2.2.1 x.2.2.2.2.1 x.2.2.2.2.2.1 x.2.2.2.2.2.2.1 x.2.2.2.2.2.2.2) (fun x => μ x.1 x.2.1 x.2.2.1 x.2.2.2.1 x.2.2.2.2.1 x.2.2.2.2.2.1 x.2.2.2.2.2.2.1 x.2.2.2.2.2.2.2) (x10, x20, x30, x40, x50, x60, x70, x80) h0 hE hH fun x hp => (round x.1 x.2.1 x.2.2.1 x.2.2.2.1 x.2.2.2.2.1 x.2.2.2.2.2.1 x.2.2.2.2.2.2.1 x.2.2.2.2.2.2.2 hp).mono fun ex E' H' q => by
    cases ex <;> first | exact q | skip
    obtain ⟨x1', x2', x3', x4', x5', x6', x7', x8', qa, qb, qc, qd⟩ := q
    exact ⟨(x1', x2', x3', x4', x5', x6', x7', x8'), qa, qb, qc, qd⟩
theorem W.loop9 {X1 X2 X3 X4 X5 X6 X7 X8 X9 : Type} (p : X1 → X2 → X3 → X4 → X5 → X6 → X7 → X8 → X9 → Prop) (e : X1 → X2 → X3 → X4 → X5 → X6 → X7 → X8 → X9 → Env) (m : X1 → X2 → X3 → X4 → X5 → X6 → X7 → X8 → X9 → List HP) (μ : X1 → X2 → X3 → X4 → X5 → X6 → X7 → X8 → X9 → Nat) (x10 : X1) (x20 : X2) (x30 : X3) (x40 : X4) (x50 : X5) (x60 : X6) (x70 : X7) (x80 : X8) (x90 : X9) (h0 : p x10 x20 x30 x40 x50 x60 x70 x80 x90) (hE : EnvIn E (e x10 x20 x30 x40 x50 x60 x70 x80 x90)) (hH : Sub H (m x10 x20 x30 x40 x50 x60 x70 x80 x90))
    (round : ∀ x1 x2 x3 x4 x5 x6 x7 x8 x9, p x1 x2 x3 x4 x5 x6 x7 x8 x9 → W C c (thn (fun E' H' => ∃ x1' x2' x3' x4' x5' x6' x7' x8' x9', p x1' x2' x3' x4' x5' x6' x7' x8' x9' ∧ μ x1' x2' x3' x4' x5' x6' x7' x8' x9' < μ x1 x2 x3 x4 x5 x6 x7 x8 x9 ∧ EnvIn E' (e x1' x2' x3' x4' x5' x6' x7' x8' x9') ∧ Sub H' (m x1' x2' x3' x4' x5' x6' x7' x8' x9')) Q) (e x1 x2 x3 x4 x5 x6 x7 x8 x9) (m x1 x2 x3 x4 x5 x6 x7 x8 x9)) : W C (.loop c) Q E H :=
  W.loop (X := X1 × X2 × X3 × X4 × X5 × X6 × X7 × X8 × X9) (fun x => p x.1 x.2.1 x.2.2.1 x.2.2.2.1 x.2.2.2.2.1 x.2.2.2.2.2.1 x.2.2.2.2.2.2.1 x.2.2.2.2.2.2.2.1 x.2.2.2.2.2.2.2.2) (fun x => e x.1 x.2.1 x.2.2.1 x.2.2.2.1 x.2.2.2.2.1 x.2.2.2.2.2.1 x.2.2.2.2.2.2.1 x.2.2.2.2.2.2.2.1 x.2.2.2.2.2.2.2.2) (fun x => m x.1 x.2.1 x.2.2.1 x.2.2.2.1 x.2.2.2.2.1 x.2.2.2.2.2.1 x.2.2.2.2.2.2.1 x.2.2.2.2.2.2.2.1 x.2.2.2.2.2.2.2.2) (fun x => μ x.1 x.2.1 x.2.2.1 x.2.2.2.1 x.2.2.2.2.1 x.2.2.2.2.2.1 x.2.2.2.2.2.2.1 x.2.2.2.2.2.2.2.1 x.2.2.2.2.2.2.2.2) (x10, x20, x30, x40, x50, x60, x70, x80, x90) h0 hE hH fun x hp => (round x.1 x.2.1 x.2.2.1 x.2.2.2.1 x.2.2.2.2.1 x.2.2.2.2.2.1 x.2.2.2.2.2.2.1 x.2.2.2.2.2.2.2.1 x.2.2.2.2.2.2.2.2 hp).mono fun ex E' H' q => by
    cases ex <;> first | exact q | skip
    obtain ⟨x1', x2', x3', x4', x5', x6', x7', x8', x9', qa, qb, qc, qd⟩ := q
    exact ⟨(x1', x2', x3', x4', x5', x6', x7', x8', x9'), qa, qb, qc, qd⟩
theorem W.loop10 {X1 X2 X3 X4 X5 X6 X7 X8 X9 X10 : Type} (p : X1 → X2 → X3 → X4 → X5 → X6 → X7 → X8 → X9 → X10 → Prop) (e : X1 → X2 → X3 → X4 → X5 → X6 → X7 → X8 → X9 → X10 → Env) (m : X1 → X2 → X3 → X4 → X5 → X6 → X7 → X8 → X9 → X10 → List HP) (μ : X1 → X2 → X3 → X4 → X5 → X6 → X7 → X8 → X9 → X10 → Nat) (x10 : X1) (x20 : X2) (x30 : X3) (x40 : X4) (x50 : X5) (x60 : X6) (x70 : X7) (x80 : X8) (x90 : X9) (x100 : X10) (h0 : p x10 x20 x30 x40 x50 x60 x70 x80 x90 x100) (hE : EnvIn E (e x10 x20 x30 x40 x50 x60 x70 x80 x90 x100)) (hH : Sub H (m x10 x20 x30 x40 x50 x60 x70 x80 x90 x100))
    (round : ∀ x1 x2 x3 x4 x5 x6 x7 x8 x9 x10, p x1 x2 x3 x4 x5 x6 x7 x8 x9 x10 → W C c (thn (fun E' H' => ∃ x1' x2' x3' x4' x5' x6' x7' x8' x9' x10', p x1' x2' x3' x4' x5' x6' x7' x8' x9' x10' ∧ μ x1' x2' x3' x4' x5' x6' x7' x8' x9' x10' < μ x1 x2 x3 x4 x5 x6 x7 x8 x9 x10 ∧ EnvIn E' (e x1' x2' x3' x4' x5' x6' x7' x8' x9' x10') ∧ Sub H' (m x1' x2' x3' x4' x5' x6' x7' x8' x9' x10')) Q) (e x1 x2 x3 x4 x5 x6 x7 x8 x9 x10) (m x1 x2 x3 x4 x5 x6 x7 x8 x9 x10)) : W C (.loop c) Q E H :=
  W.loop (X := X1 × X2 × X3 × X4 × X5 × X6 × X7 × X8 × X9 × X10) (fun x => p x.1 x.2.1 x.2.2.1 x.2.2.2.1 x.2.2.2.2.1 x.2.2.2.2.2.1 x.2.2.2.2.2.2.1 x.2.2.2.2.2.2.2.1 x.2.2.2.2.2.2.2.2.1 x.2.2.2.2.2.2.2.2.2) (fun x => e x.1 x.2.1 x.2.2.1 x.2.2.2.1 x.2.2.2.2.1 x.2.2.2.2.2.1 x.2.2.2.2.2.2.1 x.2.2.2.2.2.2.2.1 x.2.2.2.2.2.2.2.2.1 x.2.2.2.2.2.2.2.2.2) (fun x => m x.1 x.2.1 x.2.2.1 x.2.2.2.1 x.2.2.2.2.1 x.2.2.2.2.2.1 x.2.2.2.2.2.2.1 x.2.2.2.2.2.2.2.1 x.2.2.2.2.2.2.2.2.1 x.2.2.2.2.2.2.2.2.2) (fun x => μ x.1 x.2.1 x.2.2.1 x.2.2.2.1 x.2.2.2.2.1 x.2.2.2.2.2.1 x.2.2.2.2.2.2.1 x.2.2.2.2.2.2.2.1 x.2.2.2.2.2.2.2.2.1 x.2.2.2.2.2.2.2.2.2) (x10, x20, x30, x40, x50, x60, x70, x80, x90, x100) h0 hE hH fun x hp => (round x.1 x.2.1 x.2.2.1 x.2.2.2.1 x.2.2.2.2.1 x.2.2.2.2.2.1 x.2.2.2.2.2.2.1 x.2.2.2.2.2.2.2.1 x.2.2.2.2.2.2.2.2.1 x.2.2.2.2.2.2.2.2.2 hp).mono fun ex E' H' q => by
    cases ex <;> first | exact q | skip
    obtain ⟨x1', x2', x3', x4', x5', x6', x7', x8', x9', x10', qa, qb, qc, qd⟩ := q
    exact ⟨(x1', x2', x3', x4', x5', x6', x7', x8', x9', x10'), qa, qb, qc, qd⟩
theorem W.loop11 {X1 X2 X3 X4 X5 X6 X7 X8 X9 X10 X11 : Type} (p : X1 → X2 → X3 → X4 → X5 → X6 → X7 → X8 → X9 → X10 → X11 → Prop) (e : X1 → X2 → X3 → X4 → X5 → X6 → X7 → X8 → X9 → X10 → X11 → Env) (m : X1 → X2 → X3 → X4 → X5 → X6 → X7 → X8 → X9 → X10 → X11 → List HP) (μ : X1 → X2 → X3 → X4 → X5 → X6 → X7 → X8 → X9 → X10 → X11 → Nat) (x10 : X1) (x20 : X2) (x30 : X3) (x40 : X4) (x50 : X5) (x60 : X6) (x70 : X7) (x80 : X8) (x90 : X9) (x100 : X10) (x110 : X11) (h0 : p x10 x20 x30 x40 x50 x60 x70 x80 x90 x100 x110) (hE : EnvIn E (e x10 x20 x30 x40 x50 x60 x70 x80 x90 x100 x110)) (hH : Sub H (m x10 x20 x30 x40 x50 x60 x70 x80 x90 x100 x110))
    (round : ∀ x1 x2 x3 x4 x5 x6 x7 x8 x9 x10 x11, p x1 x2 x3 x4 x5 x6 x7 x8 x9 x10 x11 → W C c (thn (fun E' H' => ∃ x1' x2' x3' x4' x5' x6' x7' x8' x9' x10' x11', p x1' x2' x3' x4' x5' x6' x7' x8' x9' x10' x11' ∧ μ x1' x2' x3' x4' x5' x6' x7' x8' x9' x10' x11' < μ x1 x2 x3 x4 x5 x6 x7 x8 x9 x10 x11 ∧ EnvIn E' (e x1' x2' x3' x4' x5' x6' x7' x8' x9' x10' x11') ∧ Sub H' (m x1' x2' x3' x4' x5' x6' x7' x8' x9' x10' x11')) Q) (e x1 x2 x3 x4 x5 x6 x7 x8 x9 x10 x11) (m x1 x2 x3 x4 x5 x6 x7 x8 x9 x10 x11)) : W C (.loop c) Q E H :=
  W.loop (X := X1 × X2 × X3 × X4 × X5 × X6 × X7 × X8 × X9 × X10 × X11) (fun x => p x.1 x.2.1 x.2.2.1 x.2.2.2.1 x.2.2.2.2.1 x.2.2.2.2.2.1 x.2.2.2.2.2.2.1 x.2.2.2.2.2.2.2.1 x.2.2.2.2.2.2.2.2.1 x.2.2.2.2.2.2.2.2.2.1 x.2.2.2.2.2.2.2.2.2.2) (fun x => e x.1 x.2.1 x.2.2.1 x.2.2.2.1 x.2.2.2.2.1 x.2.2.2.2.2.1 x.2.2.2.2.2.2.1 x.2.2.2.2.2.2.2.1 x.2.2.2.2.2.2.2.2.1 x.2.2.2.2.2.2.2.2.2.1 x.2.2.2.2.2.2.2.2.2.2) (fun x => m x.1 x.2.1 x.2.2.1 x.2.2.2.1 x.2.2.2.2.1 x.2.2.2.2.2.1 x.2.2.2.2.2.2.1 x.2.2.2.2.2.2.2.1 x.2.2.2.2.2.2.2.2.1 x.2.2.2.2.2.2.2.2.2.1 x.2.2.2.2.2.2.2.2.2.2) (fun x => μ x.1 x.2.1 x.2.2.1 x.2.2.2.1 x.2.2.2.2.1 x.2.2.2.2.2.1 x.2.2.2.2.2.2.1 x.2.2.2.2.2.2.2.1 x.2.2.2.2.2.2.2.2.1 x.2.2.2.2.2.2.2.2.2.1 x.2.2.2.2.2.2.2.2.2.2) (x10, x20, x30, x40, x50, x60, x70, x80, x90, x100, x110) h0 hE hH fun x hp => (round x.1 x.2.1 x.2.2.1 x.2.2.2.1 x.2.2.2.2.1 x.2.2.2.2.2.1 x.2.2.2.2.2.2.1 x.2.2.2.2.2.2.2.1 x.2.2.2.2.2.2.2.2.1 x.2.2.2.2.2.2.2.2.2.1 x.2.2.2.2.2.2.2.2.2.2 hp).mono fun ex E' H' q => by
    cases ex <;> first | exact q | skip
    obtain ⟨x1', x2', x3', x4', x5', x6', x7', x8', x9', x10', x11', qa, qb, qc, qd⟩ := q
    exact ⟨(x1', x2', x3', x4', x5', x6', x7', x8', x9', x10', x11'), qa, qb, qc, qd⟩
theorem W.loop12 {X1 X2 X3 X4 X5 X6 X7 X8 X9 X10 X11 X12 : Type} (p : X1 → X2 → X3 → X4 → X5 → X6 → X7 → X8 → X9 → X10 → X11 → X12 → Prop) (e : X1 → X2 → X3 → X4 → X5 → X6 → X7 → X8 → X9 → X10 → X11 → X12 → Env) (m : X1 → X2 → X3 → X4 → X5 → X6 → X7 → X8 → X9 → X10 → X11 → X12 → List HP) (μ : X1 → X2 → X3 → X4 → X5 → X6 → X7 → X8 → X9 → X10 → X11 → X12 → Nat) (x10 : X1) (x20 : X2) (x30 : X3) (x40 : X4) (x50 : X5) (x60 : X6) (x70 : X7) (x80 : X8) (x90 : X9) (x100 : X10) (x110 : X11) (x120 : X12) (h0 : p x10 x20 x30 x40 x50 x60 x70 x80 x90 x100 x110 x120) (hE : EnvIn E (e x10 x20 x30 x40 x50 x60 x70 x80 x90 x100 x110 x120)) (hH : Sub H (m x10 x20 x30 x40 x50 x60 x70 x80 x90 x100 x110 x120))
    (round : ∀ x1 x2 x3 x4 x5 x6 x7 x8 x9 x10 x11 x12, p x1 x2 x3 x4 x5 x6 x7 x8 x9 x10 x11 x12 → W C c (thn (fun E' H' => ∃ x1' x2' x3' x4' x5' x6' x7' x8' x9' x10' x11' x12', p x1' x2' x3' x4' x5' x6' x7' x8' x9' x10' x11' x12' ∧ μ x1' x2' x3' x4' x5' x6' x7' x8' x9' x10' x11' x12' < μ x1 x2 x3 x4 x5 x6 x7 x8 x9 x10 x11 x12 ∧ EnvIn E' (e x1' x2' x3' x4' x5' x6' x7' x8' x9' x10' x11' x12') ∧ Sub H' (m x1' x2' x3' x4' x5' x6' x7' x8' x9' x10' x11' x12')) Q) (e x1 x2 x3 x4 x5 x6 x7 x8 x9 x10 x11 x12) (m x1 x2 x3 x4 x5 x6 x7 x8 x9 x10 x11 x12)) : W C (.loop c) Q E H :=
  W.loop (X := X1 × X2 × X3 × X4 × X5 × X6 × X7 × X8 × X9 × X10 × X11 × X12) (fun x => p x.1 x.2.1 x.2.2.1 x.2.2.2.1 x.2.2.2.2.1 x.2.2.2.2.2.1 x.2.2.2.2.2.2.1 x.2.2.2.2.2.2.2.1 x.2.2.2.2.2.2.2.2.1 x.2.2.2.2.2.2.2.2.2.1 x.2.2.2.2.2.2.2.2.2.2.1 x.2.2.2.2.2.2.2.2.2.2.2) (fun x => e x.1 x.2.1 x.2.2.1 x.2.2.2.1 x.2.2.2.2.1 x.2.2.2.2.2.1 x.2.2.2.2.2.2.1 x.2.2.2.2.2.2.2.1 x.2.2.2.2.2.2.2.2.1 x.2.2.2.2.2.2.2.2.2.1 x.2.2.2.2.2.2.2.2.2.2.1 x.2.2.2.2.2.2.2.2.2.2.2) (fun x => m x.1 x.2.1 x.2.2.1 x.2.2.2.1 x.2.2.2.2.1 x.2.2.2.2.2.1 x.2.2.2.2.2.2.1 x.2.2.2.2.2.2.2.1 x.2.2.2.2.2.2.2.2.1 x.2.2.2.2.2.2.2.2.2.1 x.2.2.2.2.2.2.2.2.2.2.1 x.2.2.2.2.2.2.2.2.2.2.2) (fun x => μ x.1 x.2.1 x.2.2.1 x.2.2.2.1 x.2.2.2.2.1 x.2.2.2.2.2.1 x.2.2.2.2.2.2.1 x.2.2.2.2.2.2.2.1 x.2.2.2.2.2.2.2.2.1 x.2.2.2.2.2.2.2.2.2.1 x.2.2.2.2.2.2.2.2.2.2.1 x.2.2.2.2.2.2.2.2.2.2.2) (x10, x20, x30, x40, x50, x60, x70, x80, x90, x100, x110, x120) h0 hE hH fun x hp => (round x.1 x.2.1 x.2.2.1 x.2.2.2.1 x.2.2.2.2.1 x.2.2.2.2.2.1 x.2.2.2.2.2.2.1 x.2.2.2.2.2.2.2.1 x.2.2.2.2.2.2.2.2.1 x.2.2.2.2.2.2.2.2.2.1 x.2.2.2.2.2.2.2.2.2.2.1 x.2.2.2.2.2.2.2.2.2.2.2 hp).mono fun ex E' H' q => by
    cases ex <;> first | exact q | skip
    obtain ⟨x1', x2', x3', x4', x5', x6', x7', x8', x9', x10', x11', x12', qa, qb, qc, qd⟩ := q
    exact ⟨(x1', x2', x3', x4', x5', x6', x7', x8', x9', x10', x11', x12'), qa, qb, qc, qd⟩
end
end Go.TH
namespace Go.TH
open Go
section
variable {P : Program} (w : World)
theorem run_append_roomO (t ty e : TypeId) (i : TypeInfo) (ht : P.underlying t = some (.slice e)) (hi : P.info? e = some i)
    (g off sLen sCap : Nat) (cur : Array Value) (hg : w.heap[g]? = some (.cells cur e (0, 0)))
    (a : Addr) (m c : Nat) (news : List Value) (hl : news.length = m * i.size) (hnews : ∀ j u, news[j]? = some u → w.cell? (a.add j) = some u) (h1 : ∀ u ∈ news, u.oneCell' = true)
    (hroom : sLen + m ≤ sCap) (hfit : off + sLen * i.size + news.length ≤ cur.size) :
    (Builtin.append_ #[t, t] ty #[.slice (some ⟨g, off, none⟩) sLen sCap, .slice (some a) m c]).run P w =
      .ok (.slice (some ⟨g, off, none⟩) (sLen + m) sCap) (w.setRow g (cur.toList.take (off + sLen * i.size) ++ news ++ cur.toList.drop (off + sLen * i.size + news.length)).toArray) := by
  have hf := run_firstCells_some (P := P) w i.size m a m c news hl hnews
  have hst := run_storeCells_at P g (off + sLen * i.size) e news 0 cur w hg (by simpa using hfit) h1
  simp only [Nat.add_zero] at hst
  simp [Builtin.append_, run_underlying ht, sizeOf, typeInfo, hi, Builtin.lenOf, hroom, hf, Addr.add_lit, hst]
end
/-- a part of an array of one's own: n elements of one cell each -/
def WinC (e : Nat) (v : Value) (n : Nat) (cs : List Value) : HP := fun h =>
  cs.length = n ∧ ∃ (g o cap : Nat) (cur : List Value), v = .slice (some ⟨g, o, none⟩) n cap ∧ n ≤ cap ∧ cap ≤ maxLen ∧ o + cap ≤ cur.length ∧ (cur.drop o).take n = cs ∧ pt g (.cells cur.toArray e (0, 0)) h
/-- a window that began as the slice of another's array, which has no room left -/
def NowP (e b n : Nat) (ss : List Value) (v : Value) (cs : List Value) : HP := fun h =>
  (v = .slice (some ⟨b, 0, none⟩) n n ∧ cs = ss ∧ OwC e 1 (.slice (some ⟨b, 0, none⟩) n n) n ss h) ∨
  ∃ h1 h2, Split h h1 h2 ∧ OwC e 1 (.slice (some ⟨b, 0, none⟩) n n) n ss h1 ∧ WinC e v n cs h2
theorem WinC.open {w0 : World} {M : List Nat} {L H : List HP} {w : World} {e n : Nat} {v : Value} {cs : List Value} (h : Inv w0 M (L ++ WinC e v n cs :: H) w) :
    cs.length = n ∧ ∃ (g o cap : Nat) (cur : List Value), v = .slice (some ⟨g, o, none⟩) n cap ∧ n ≤ cap ∧ cap ≤ maxLen ∧ o + cap ≤ cur.length ∧ (cur.drop o).take n = cs ∧ Inv w0 M (L ++ pt g (.cells cur.toArray e (0, 0)) :: H) w := by
  have h1 := h.perm List.perm_middle
  obtain ⟨ha, hb, s, ⟨hl, g, o, cap, cur, h2, h3, h4, h5, h6, h7⟩, hr⟩ := h1.mine
  refine ⟨hl, g, o, cap, cur, h2, h3, h4, h5, h6, ?_⟩
  have : Inv w0 M (pt g (.cells cur.toArray e (0, 0)) :: (L ++ H)) w := ⟨h1.os, h1.tape, h1.output, h1.size, h1.keep, ha, hb, s, h7, hr⟩
  exact this.perm List.perm_middle.symm
theorem WinC.shut {w0 : World} {M : List Nat} {L H : List HP} {w : World} {e n g o cap : Nat} {cs cur : List Value} (hl : cs.length = n) (hn : n ≤ cap) (hm : cap ≤ maxLen) (hc : o + cap ≤ cur.length) (ht : (cur.drop o).take n = cs)
    (h : Inv w0 M (L ++ pt g (.cells cur.toArray e (0, 0)) :: H) w) : Inv w0 M (L ++ WinC e (.slice (some ⟨g, o, none⟩) n cap) n cs :: H) w :=
  h.mono fun h hp => ⟨hl, g, o, cap, cur, rfl, hn, hm, hc, ht, hp⟩
theorem NowP.open {w0 : World} {M : List Nat} {L H : List HP} {w : World} {e b n : Nat} {v : Value} {ss cs : List Value} (h : Inv w0 M (L ++ NowP e b n ss v cs :: H) w) :
    (v = .slice (some ⟨b, 0, none⟩) n n ∧ cs = ss ∧ Inv w0 M (L ++ OwC e 1 (.slice (some ⟨b, 0, none⟩) n n) n ss :: H) w) ∨
    Inv w0 M (L ++ OwC e 1 (.slice (some ⟨b, 0, none⟩) n n) n ss :: WinC e v n cs :: H) w := by
  have h1 := h.perm List.perm_middle
  obtain ⟨ha, hb, s, hc, hr⟩ := h1.mine
  rcases hc with ⟨q1, q2, q3⟩ | ⟨x, y, t, q1, q2⟩
  · refine .inl ⟨q1, q2, ?_⟩
    have : Inv w0 M (OwC e 1 (.slice (some ⟨b, 0, none⟩) n n) n ss :: (L ++ H)) w := ⟨h1.os, h1.tape, h1.output, h1.size, h1.keep, ha, hb, s, q3, hr⟩
    exact this.perm List.perm_middle.symm
  refine .inr ?_
  have : Inv w0 M (OwC e 1 (.slice (some ⟨b, 0, none⟩) n n) n ss :: WinC e v n cs :: (L ++ H)) w := by
    refine ⟨h1.os, h1.tape, h1.output, h1.size, h1.keep, ?_⟩
    exact sat_join (H1 := [_, _]) s ⟨x, y, t, q1, y, fun _ => none, (split_none y).comm, q2, trivial⟩ hr
  refine this.perm ?_
  refine List.Perm.trans ?_ (List.perm_middle (l₁ := L) (l₂ := WinC e v n cs :: H)).symm
  exact List.Perm.cons _ (List.perm_middle (l₁ := L) (l₂ := H)).symm
theorem NowP.start {e b n : Nat} {ss : List Value} {H H' : List HP} (p : Pick (OwC e 1 (.slice (some ⟨b, 0, none⟩) n n) n ss) H H') : ∀ h, sat H h → sat (NowP e b n ss (.slice (some ⟨b, 0, none⟩) n n) ss :: H') h := fun h hs => by
  obtain ⟨h1, h2, s, a, r⟩ := p.sat hs
  exact ⟨h1, h2, s, .inl ⟨rfl, rfl, a⟩, r⟩
theorem NowP.stop {e b n : Nat} {ss : List Value} {v : Value} {cs : List Value} {H H' : List HP} (p : Pick (NowP e b n ss v cs) H H') : ∀ h, sat H h → sat (OwC e 1 (.slice (some ⟨b, 0, none⟩) n n) n ss :: H') h := fun h hs => by
  obtain ⟨h1, h2, s, a, r⟩ := p.sat hs
  rcases a with ⟨_, _, q⟩ | ⟨x, y, t, q1, q2⟩
  · exact ⟨h1, h2, s, q, r⟩
  have := sat_join (H1 := [OwC e 1 (.slice (some ⟨b, 0, none⟩) n n) n ss, WinC e v n cs]) s ⟨x, y, t, q1, y, fun _ => none, (split_none y).comm, q2, trivial⟩ r
  exact Sub.sat (.cons .head (.tail (Sub.refl _))) this
section
variable {P : Program} {C : Cx P} {E : Env} {H : List HP}
variable {ops : Array Oper} {K : KP} {rest : List Oper} {d : Nat} {ty : TypeId} {pos : String} {af : Array Edge} {x y z : Operand} {T T' : TypeId}
theorem WinC.cellsI {e n : Nat} {v : Value} {cs : List Value} {L H' : List HP} {w : World} (hi : Inv C.w0 C.M (L ++ WinC e v n cs :: H') w) : ∀ j u, cs[j]? = some u → w.cell? ((base v).add j) = some u := by
  intro j u hu
  obtain ⟨hl, g, o, cap, cur, rfl, h1, h2, h3, h4, hi'⟩ := WinC.open hi
  have hlook := (hi'.look (b := g) (o := .cells cur.toArray e (0, 0)) ((Pick.head).app L)).1
  have ea : (base (.slice (some ⟨g, o, none⟩) n cap)).add j = ⟨g, o + j, none⟩ := by simp [base, Addr.add_lit]
  rw [ea]
  subst h4
  rw [List.getElem?_take] at hu
  split at hu
  · rw [List.getElem?_drop] at hu
    simp [World.cell?, hlook, hu]
  cases hu
theorem NowP.cells {e b n : Nat} {ss : List Value} {v : Value} {cs : List Value} {H' : List HP} (p : Pick (NowP e b n ss v cs) H H') : Cells C H (base v) cs := by
  intro j u hu L w hi
  rcases NowP.open (hi.pickL p) with ⟨rfl, rfl, q⟩ | q
  · exact OwC.cells (C := C) (.head) j u hu L w q
  have q' : Inv C.w0 C.M ((L ++ [OwC e 1 (.slice (some ⟨b, 0, none⟩) n n) n ss]) ++ WinC e v n cs :: H') w := by rw [List.append_assoc]; exact q
  exact WinC.cellsI q' j u hu
theorem NowP.len {e b n : Nat} {ss : List Value} {v : Value} {cs : List Value} {H' : List HP} (p : Pick (NowP e b n ss v cs) H H') : ∀ (L : List HP) w, Inv C.w0 C.M (L ++ H) w → cs.length = n ∧ IsSl v n := fun L w hi => by
  rcases NowP.open (hi.pickL p) with ⟨rfl, rfl, q⟩ | q
  · obtain ⟨hl, _⟩ := OwC.open q
    exact ⟨by omega, OwC.isSl q⟩
  have q' : Inv C.w0 C.M ((L ++ [OwC e 1 (.slice (some ⟨b, 0, none⟩) n n) n ss]) ++ WinC e v n cs :: H') w := by rw [List.append_assoc]; exact q
  obtain ⟨hl, g, o, cap, cur, rfl, h1, h2, h3, h4, hi'⟩ := WinC.open q'
  simp only [maxLen] at h2
  exact ⟨hl, by omega, _, _, rfl, fun _ => ⟨_, _, rfl⟩⟩
theorem NowP.cell {e b n i : Nat} {ss : List Value} {v : Value} {cs : List Value} {H' : List HP} (p : Pick (NowP e b n ss v cs) H H') (hi : i < cs.length) : Cell C H (elt v i 1) (cs.getD i undef) := by
  have := NowP.cells (C := C) p i (cs.getD i undef) (by simp [hi])
  rw [elt_eq, Nat.mul_one]
  exact this
/-- one element is appended to the window -/
theorem WO.appendNow {e by' b n : Nat} {v u zv nu : Value} {ss cs : List Value} {H' : List HP} (hT : C.tt.sl? T = some (e, 1, by')) (hz : C.tt.z? e = some zv) (hzs : Nat.beq zv.cells.size 1 = true)
    (hx : ev E x = some v) (hy : ev E y = some u) (p : Pick (NowP e b n ss v cs) H H') (hS : IsSl u 1) (hc : Cells C H (base u) [nu]) (h1 : nu.oneCell' = true)
    (hb : (n + 1) * by' ≤ 140737488355328) (h63 : n + 1 ≤ 9223372036854775807) (hN : Nat.blt d C.N = true)
    (h : ∀ g o c, n + 1 ≤ c → WO C ops rest K ((d, .slice (some ⟨g, o, none⟩) (n + 1) c) :: E) (OwC e 1 (.slice (some ⟨b, 0, none⟩) n n) n ss :: WinC e (.slice (some ⟨g, o, none⟩) (n + 1) c) (n + 1) (cs ++ [nu]) :: H')) : WO C ops (⟨some d, .call ⟨.builtin .append, #[x, y], #[T, T]⟩, ty, pos, af, none⟩ :: rest) K E H := by
  refine WO.step rfl rfl hN (XO.run (by simp) fun L a w hf hi => ?_)
  obtain ⟨i, hi1, hi2, hi3, hi4⟩ := sl_info hT hz
  subst hi3
  have hzs' := Nat.eq_of_beq_eq_true hzs
  have hmax : n + 1 ≤ maxLen := by simpa [maxLen] using h63
  obtain ⟨a0, c0, rfl, ha0⟩ := hS.is
  obtain ⟨b0, o0, rfl⟩ := ha0 (by omega)
  have hnews : ∀ j v, [nu][j]? = some v → w.cell? ((⟨b0, o0, none⟩ : Addr).add j) = some v := fun j v hv => hc j v hv L w hi
  have hrun : ∀ (v' : Value) (w' : World), (Builtin.append_ #[T, T] ty #[v, .slice (some ⟨b0, o0, none⟩) 1 c0]).run P w = .ok v' w' → (execOp a.eval ⟨some d, .call ⟨.builtin .append, #[x, y], #[T, T]⟩, ty, pos, af, none⟩).run P w = .ok (.value v') w' := by
    intro v' w' hr
    simp [execOp, resolve, hf.eval hx, hf.eval hy, invoke, builtin, hr]
  -- a new row
  have grown : ∀ (old : Nat) (R : HP), cs.length = n → Inv C.w0 C.M (L ++ R :: H') w → Inv C.w0 C.M (L ++ R :: WinC e (.slice (some ⟨w.heap.size, 0, none⟩) (n + 1) (grownCap w (n + 1) old e)) (n + 1) (cs ++ [nu]) :: H')
      (w.drew.alloc (.cells (cs.toArray ++ [nu].toArray ++ Builtin.zeroCells zv.cells (grownCap w (n + 1) old e - (n + 1))) e)) := by
    intro old R hcl hv
    have hge := grownCap_ge w (n + 1) old e
    have hcm : grownCap w (n + 1) old e ≤ maxLen := grownCap_le_maxLen w (n + 1) old e hmax
    have h2 := (hv.drawn).alloc' (.cells (cs.toArray ++ [nu].toArray ++ Builtin.zeroCells zv.cells (grownCap w (n + 1) old e - (n + 1))) e)
    have e1 : cs.toArray ++ [nu].toArray ++ Builtin.zeroCells zv.cells (grownCap w (n + 1) old e - (n + 1)) = ((cs ++ [nu]) ++ (Builtin.zeroCells zv.cells (grownCap w (n + 1) old e - (n + 1))).toList).toArray := by
      apply Array.ext'; simp
    rw [e1] at h2 ⊢
    have h3 := WinC.shut (e := e) (n := n + 1) (g := w.drew.heap.size) (o := 0) (cap := grownCap w (n + 1) old e) (cs := cs ++ [nu]) (by simp [hcl]) hge hcm (by
      have e3 : (Builtin.zeroCells zv.cells (grownCap w (n + 1) old e - (n + 1))).toList.length = grownCap w (n + 1) old e - (n + 1) := by rw [Array.length_toList, size_zeroCells, hzs', Nat.mul_one]
      rw [List.length_append, e3]; simp [hcl]; omega) (by
      rw [List.drop_zero]; exact List.take_left' (by simp [hcl])) h2
    have h4 := h3.perm (List.perm_middle (l₁ := L) (l₂ := R :: H'))
    have h5 : Inv C.w0 C.M (L ++ R :: WinC e (.slice (some ⟨w.drew.heap.size, 0, none⟩) (n + 1) (grownCap w (n + 1) old e)) (n + 1) (cs ++ [nu]) :: H') _ := h4.perm (by
      refine List.Perm.trans ?_ (List.perm_append_left_iff L |>.2 (List.Perm.swap R _ H'))
      exact (List.perm_middle (l₁ := L) (l₂ := R :: H')).symm)
    exact h5
  rcases NowP.open (hi.pickL p) with ⟨rfl, rfl, q⟩ | q
  · obtain ⟨hcl, _⟩ := OwC.open q
    have hcl' : cs.length = n := by omega
    have holds : ∀ j u, cs[j]? = some u → w.cell? ((⟨b, 0, none⟩ : Addr).add j) = some u := fun j u hu => OwC.cells (C := C) (.head) j u hu L w q
    have hr := run_append_grow (P := P) w T ty e i zv (SlT.of hT).u hi1 hi4 ⟨b, 0, none⟩ n n cs (by rw [hi2]; exact hcl) holds ⟨b0, o0, none⟩ 1 c0 [nu] (by rw [hi2]; rfl) hnews (by omega) (by omega) (growslice_fits (by omega) hb)
    exact ⟨_, _, _, .inl (hrun _ _ hr), h _ _ _ (grownCap_ge w (n + 1) n e), grown n _ hcl' q⟩
  have q' : Inv C.w0 C.M ((L ++ [OwC e 1 (.slice (some ⟨b, 0, none⟩) n n) n ss]) ++ WinC e v n cs :: H') w := by rw [List.append_assoc]; exact q
  have hcells := WinC.cellsI q'
  obtain ⟨hcl, g, o, cap, cur, rfl, q1, q2, q3, q4, hv⟩ := WinC.open q'
  by_cases hroom : n + 1 ≤ cap
  · have hlook := (hv.look (b := g) (o := .cells cur.toArray e (0, 0)) ((Pick.head).app _)).1
    have hfit : o + n * i.size + [nu].length ≤ cur.toArray.size := by rw [hi2]; simp; omega
    have hr := run_append_roomO (P := P) w T ty e i (SlT.of hT).u hi1 g o n cap cur.toArray hlook ⟨b0, o0, none⟩ 1 c0 [nu] (by rw [hi2]; rfl) hnews (by simpa using h1) hroom hfit
    rw [hi2, Nat.mul_one] at hr
    refine ⟨_, _, _, .inl (hrun _ _ hr), h _ _ _ hroom, ?_⟩
    have hv2 := hv.perm (List.perm_middle (l₁ := L ++ [OwC e 1 (.slice (some ⟨b, 0, none⟩) n n) n ss]) (l₂ := H'))
    have h2 := hv2.set (b := g) (o := .cells cur.toArray e (0, 0)) (o' := .cells (cur.toArray.toList.take (o + n) ++ [nu] ++ cur.toArray.toList.drop (o + n + [nu].length)).toArray e (0, 0)) (H' := (L ++ [OwC e 1 (.slice (some ⟨b, 0, none⟩) n n) n ss]) ++ H') (w' := w.setRow g (cur.toArray.toList.take (o + n) ++ [nu] ++ cur.toArray.toList.drop (o + n + [nu].length)).toArray) (Pick.head) rfl rfl rfl (setRow_size w g _) (setRow_heap w g _ _ _ _ hlook) (fun k hk => setRow_other hk)
    have h3 := h2.perm (List.perm_middle (l₁ := L ++ [OwC e 1 (.slice (some ⟨b, 0, none⟩) n n) n ss]) (l₂ := H')).symm
    have hsz : o + n < cur.length := by omega
    have h4 := WinC.shut (e := e) (n := n + 1) (g := g) (o := o) (cap := cap) (cs := cs ++ [nu]) (by simp [hcl]) hroom q2 (by simp; omega) (by
      have e0 : (cur.toArray.toList.take (o + n) ++ [nu] ++ cur.toArray.toList.drop (o + n + [nu].length)).drop o = (cur.drop o).take n ++ ([nu] ++ cur.drop (o + n + 1)) := by
        rw [List.append_assoc, List.drop_append_of_le_length (by simp; omega), List.drop_take]
        simp
      rw [e0, q4, ← List.append_assoc]
      exact List.take_left' (by simp [hcl])) h3
    rw [List.append_assoc] at h4
    exact h4
  have hr := run_append_grow (P := P) w T ty e i zv (SlT.of hT).u hi1 hi4 ⟨g, o, none⟩ n cap cs (by rw [hi2]; omega) (by simpa [base] using hcells) ⟨b0, o0, none⟩ 1 c0 [nu] (by rw [hi2]; rfl) hnews (by omega) (by omega) (growslice_fits (by omega) hb)
  have hd := hv.dropL
  rw [List.append_assoc] at hd
  exact ⟨_, _, _, .inl (hrun _ _ hr), h _ _ _ (grownCap_ge w (n + 1) cap e), grown cap _ hcl hd⟩
end
/-- the window is moved by one -/
theorem NowP.next {e b n g o c : Nat} {ss cs : List Value} {H H1 H2 : List HP} (p : Pick (OwC e 1 (.slice (some ⟨b, 0, none⟩) n n) n ss) H H1) (q : Pick (WinC e (.slice (some ⟨g, o, none⟩) (n + 1) c) (n + 1) cs) H1 H2) :
    ∀ h, sat H h → sat (NowP e b n ss (.slice (if c = 1 then some ⟨g, o, none⟩ else ofs (some ⟨g, o, none⟩) (1 * 1)) (n + 1 - 1) (c - 1)) (cs.drop 1) :: H2) h := fun h hs => by
  obtain ⟨h1, h2, s, a, r⟩ := p.sat hs
  obtain ⟨h3, h4, s2, a2, r2⟩ := q.sat r
  obtain ⟨r', s3, s4⟩ := split_assoc s s2
  refine ⟨r', h4, s3, .inr ⟨h1, h3, s4, a, ?_⟩, r2⟩
  obtain ⟨hl, g', o', cap, cur, e1, q1, q2, q3, q4, q5⟩ := a2
  injection e1 with e1 e2 e3
  injection e1 with e1
  injection e1 with e1 e4
  subst e1; subst e4; subst e3
  refine ⟨by simp [hl], ?_⟩
  by_cases h1c : c = 1
  · subst h1c
    obtain rfl : n = 0 := by omega
    refine ⟨g, o, 0, cur, by simp, by omega, by omega, by omega, ?_, q5⟩
    rw [← q4]; simp
  refine ⟨g, o + 1, c - 1, cur, ?_, by omega, by omega, by omega, ?_, q5⟩
  · rw [if_neg h1c]; simp [ofs, Addr.add_lit]
  rw [← q4, show n + 1 = 1 + n by omega, List.drop_take, List.drop_drop]; simp
end Go.TH
namespace Go.TH
open Go
section
variable {P : Program} {C : Cx P} {E : Env} {H : List HP}
theorem prt_prt (p : Addr) (a b : Nat) : (prt p a).add b = prt p (a + b) := by rw [prt_eq, prt_eq, Addr.add_add]
section rules
variable {ops : Array Oper} {K : KP} {rest : List Oper} {d : Nat} {ty : TypeId} {pos : String} {af : Array Edge} {x y : Operand} {T : TypeId}
/-- an element of an array at an address, and of an array within one -/
theorem WO.indexArr0 {len e sz : Nat} {k : IntKind} {i : Nat} {zi : Int} {p : Addr} (hT : C.tt.ar? T = some (len, e, sz)) (hx : ev E x = some (.pointer (some p))) (hy : ev E y = some (.int k zi)) (hz : zi = (i : Int)) (h1 : i < len) (hN : Nat.blt d C.N = true)
    (h : WO C ops rest K ((d, .pointer (some (prt p (i * sz)))) :: E) H) : WO C ops (⟨some d, .indexAddr T x y, ty, pos, af, none⟩ :: rest) K E H := by
  subst hz
  refine WO.indexArr hT hx hy (by omega) (by omega) hN ?_
  rw [Int.toNat_natCast, ← prt_eq]; exact h
theorem WO.indexArrP {len e sz fo fo' : Nat} {k : IntKind} {i : Nat} {zi : Int} {p : Addr} (hT : C.tt.ar? T = some (len, e, sz)) (hx : ev E x = some (.pointer (some (prt p fo)))) (hy : ev E y = some (.int k zi)) (hz : zi = (i : Int)) (h1 : i < len) (hf : fo + i * sz = fo') (hN : Nat.blt d C.N = true)
    (h : WO C ops rest K ((d, .pointer (some (prt p fo'))) :: E) H) : WO C ops (⟨some d, .indexAddr T x y, ty, pos, af, none⟩ :: rest) K E H := by
  subst hz hf
  refine WO.indexArr hT hx hy (by omega) (by omega) hN ?_
  rw [Int.toNat_natCast, prt_prt]; exact h
end rules
/-- the cells of a table of n rows of sz numbers -/
def tabC (sz n : Nat) (g : Nat → Int) : List Value := (List.range (n * sz)).map fun k => .int .i64 (g k)
theorem tabC_len (sz n : Nat) (g : Nat → Int) : (tabC sz n g).length = n * sz := by simp [tabC]
theorem tabC_get {sz n k : Nat} {g : Nat → Int} (h : k < n * sz) : (tabC sz n g)[k]? = some (.int .i64 (g k)) := by
  unfold tabC; rw [List.getElem?_map, List.getElem?_range h]; rfl
def updF (g : Nat → Int) (k : Nat) (c : Int) : Nat → Int := fun j => if j = k then c else g j
theorem updF_same (g : Nat → Int) (k : Nat) (c : Int) : updF g k c k = c := if_pos rfl
theorem updF_other {g : Nat → Int} {k j : Nat} {c : Int} (h : j ≠ k) : updF g k c j = g j := if_neg h
theorem tabC_set {sz n k : Nat} {g : Nat → Int} {c : Int} (h : k < n * sz) : (tabC sz n g).set k (.int .i64 c) = tabC sz n (updF g k c) := by
  refine List.ext_getElem? fun j => ?_
  rw [List.getElem?_set, tabC_len]
  rcases Nat.lt_or_ge j (n * sz) with hj | hj
  · by_cases e : k = j
    · subst e; rw [if_pos rfl, if_pos h, tabC_get h, updF_same]
    rw [if_neg e, tabC_get hj, tabC_get hj, updF_other (fun x => e x.symm)]
  have h1 : k ≠ j := by omega
  rw [if_neg h1, List.getElem?_eq_none (by rw [tabC_len]; exact hj), List.getElem?_eq_none (by rw [tabC_len]; exact hj)]
/-- a table of one's own -/
def TabP (e sz : Nat) (v : Value) (n : Nat) (g : Nat → Int) : HP := OwC e sz v n (tabC sz n g)
/-- a table below block B -/
structure RdT (sz B : Nat) (w : World) (v : Value) (n : Nat) (g : Nat → Int) : Prop where
  sl : IsSl v n
  blk : 0 < n → (base v).block < B
  cell : ∀ i j, i < n → j < sz → w.cell? (((base v).add (i * sz)).add j) = some (.int .i64 (g (i * sz + j)))
theorem at_lt {i j n sz : Nat} (hi : i < n) (hj : j < sz) : i * sz + j < n * sz := by
  have := Nat.mul_le_mul_right sz (show i + 1 ≤ n by omega)
  rw [Nat.add_mul] at this; omega
theorem RdT.of {e sz n : Nat} {v : Value} {g : Nat → Int} {H' L : List HP} {w : World} (p : Pick (TabP e sz v n g) H H') (hs : 0 < sz) (hi : Inv C.w0 C.M (L ++ H) w) : RdT sz w.heap.size w v n g := by
  have key : ∀ i j, i < n → j < sz → w.cell? (((base v).add (i * sz)).add j) = some (.int .i64 (g (i * sz + j))) := fun i j h1 h2 =>
    OwC.cellAt (C := C) p (tabC_get (at_lt h1 h2)) L w hi
  refine ⟨OwC.sl p L w hi, fun hn => ?_, key⟩
  have := World.block_lt_of_cell? w _ (key 0 0 hn hs)
  rw [addr_add_block, addr_add_block] at this
  exact this
theorem RdT.cellAt {sz n : Nat} {v : Value} {g : Nat → Int} (h : RdT sz C.B C.w0 v n g) {i j : Nat} (hi : i < n) (hj : j < sz) : Cell C H (prt (elt v i sz) j) (.int .i64 (g (i * sz + j))) := by
  rw [prt_eq, elt_eq]
  exact Cell.old (by rw [addr_add_block, addr_add_block]; exact h.blk (by omega)) (h.cell i j hi hj)
theorem RdT.later {sz n : Nat} {v : Value} {g : Nat → Int} {L : List HP} {w : World} (h : RdT sz C.B C.w0 v n g) (hi : Inv C.w0 C.M (L ++ H) w) : RdT sz w.heap.size w v n g :=
  ⟨h.sl, fun hn => Nat.lt_of_lt_of_le (h.blk hn) (Nat.le_trans C.hB hi.size), fun i j h1 h2 => by have := (h.cellAt (H := H) h1 h2) L w hi; rwa [prt_eq, elt_eq] at this⟩
section rules
variable {ops : Array Oper} {K : KP} {rest : List Oper} {d : Nat} {ty : TypeId} {pos : String} {af : Array Edge} {x y : Operand} {T : TypeId}
theorem WO.storeT {e sz n i j : Nat} {v : Value} {g : Nat → Int} {c : Int} {H' : List HP} (hx : ev E x = some (.pointer (some (prt (elt v i sz) j)))) (hy : ev E y = some (.int .i64 c)) (hT : C.tt.one? T = true) (p : Pick (TabP e sz v n g) H H') (hl : i < n) (hj : j < sz)
    (h : WO C ops rest K E (TabP e sz v n (updF g (i * sz + j) c) :: H')) : WO C ops (⟨none, .store T x y, ty, pos, af, none⟩ :: rest) K E H := by
  refine WO.step0 rfl rfl (XO.run (by simp) fun L a w hf hi => ?_)
  obtain ⟨hcl, hcase⟩ := OwC.open (hi.pickL p)
  rcases hcase with ⟨rfl, rfl, hv⟩ | ⟨q, cap, cur, rfl, q1, q2, q3, q4, hv⟩
  · omega
  have hlook := (hv.look (b := q) (o := .cells cur.toArray e (0, 0)) ((Pick.head).app L)).1
  have ea : prt (elt (.slice (some ⟨q, 0, none⟩) n cap) i sz) j = ⟨q, i * sz + j, none⟩ := by rw [prt_eq, elt_eq, Addr.add_add]; simp [base, Addr.add_lit]
  have hk := at_lt hl hj
  have hle : n * sz ≤ cap * sz := Nat.mul_le_mul_right _ q1
  obtain ⟨w', hr, a1, a2, a3, a4, a5, a6⟩ := run_storeVar_own (P := P) (T := T) (b := q) (off := i * sz + j) (w := w) (cs := cur) (v := .int .i64 c) (vs := [.int .i64 c]) (by simp [Value.cells]) (CT.of hT).size hlook (by simp; omega) (by simp [Value.oneCell'])
  refine ⟨undef, w', _, .inr ⟨?_, rfl⟩, h, ?_⟩
  · simp [execOp, hf.eval hx, hf.eval hy, ea, Instr.storeAt, Instr.sureAddr, hr]
  have h2 := hv.set (b := q) (o := .cells cur.toArray e (0, 0)) (H' := L ++ H') Pick.mem a1 a2 a3 a4 a5 a6
  have h3 := h2.perm (List.perm_middle (l₁ := L) (l₂ := H')).symm
  refine OwC.shut (tabC_len sz n _) q1 q2 (by simpa [wrl] using q3) ?_ h3
  simp only [wrl]
  rw [List.take_set, q4, tabC_set hk]
theorem WO.makeT {e sz by' n : Nat} {zv : Value} {k k' : IntKind} (hs : 0 < sz) (hT : C.tt.sl? T = some (e, sz, by')) (hz : C.tt.z? e = some zv) (hc : zv.cells = (List.replicate sz (.int .i64 0)).toArray) (hx : ev E x = some (.int k (n : Int))) (hy : ev E y = some (.int k' (n : Int)))
    (hb : by' * n ≤ 281474976710656) (h63 : n ≤ 9223372036854775807) (hN : Nat.blt d C.N = true)
    (h : ∀ b, WO C ops rest K ((d, .slice (some ⟨b, 0, none⟩) n n) :: E) (TabP e sz (.slice (some ⟨b, 0, none⟩) n n) n (fun _ => 0) :: H)) : WO C ops (⟨some d, .makeSlice T x y, ty, pos, af, none⟩ :: rest) K E H := by
  refine WO.makeOwN hT hz hc (by simp) hs hx hy hb h63 hN fun b => ?_
  have := h b
  unfold TabP at this
  rw [show tabC sz n (fun _ => 0) = (List.replicate n (List.replicate sz (Value.int .i64 0))).flatten by unfold tabC; rw [List.flatten_replicate_replicate, List.map_const', List.length_range]] at this
  exact this
end rules
/-- a range over a function whose rounds all go on; the iterator may look at the caller's pieces -/
theorem W.rangeFuncG {g : Operand} {p : Tmp} {assign body : Code} {Q : Post} {f : FuncId} {captured : List Value} (Hit : List HP) (HI : Nat → List HP) (xs : List Value) (hro : C.ro = none) (hN : Nat.blt p C.N = true)
    (hg : ev E g = some (.func (.func f) #[] captured.toArray)) (hcall : ∀ (args : Array Value) (w : World), (callFunc f args).run P w = .ok (.enter f args) w)
    (hH : Sub H (Hit ++ HI 0))
    (hiter : ∀ (l : Nat) (Hc : Nat → List HP), (∀ k x, xs[k]? = some x → YieldOK P C.B C.w0 l #[x] (Hc k) (Hc (k + 1))) → (∀ k, ∃ A, Hc k = A :: HI k) →
      ∀ w M', C.B ≤ w.heap.size → (∀ k, k < C.B → w.heap[k]? = C.w0.heap[k]?) → (∀ b ∈ M', C.B ≤ b) → Inv w M' (Hit ++ Hc 0) w → Ct P f (#[.func (.yield l) #[] #[]] ++ captured.toArray) w fun _ w' => Inv w M' (Hit ++ Hc xs.length) w')
    (hround : ∀ (l : Nat) (w : World) (M : List Nat) (hB : C.B ≤ w.heap.size) (hM : ∀ b ∈ M, C.B ≤ b), (∀ k, k < C.B → w.heap[k]? = C.w0.heap[k]?) → ∀ k x, xs[k]? = some x →
      W (rdCx C l w M hB hM) assign (thn (fun E2 H2 => W (rdCx C l w M hB hM) body (thn (fun _ H3 => Sub H3 (HI (k + 1))) (fun _ _ _ => False)) E2 H2) (fun _ _ _ => False)) ((p, x) :: E) (HI k))
    (h : Q .normal E (Hit ++ HI xs.length)) : W C (.rangeFunc g #[p] assign body) Q E H := by
  intro L ds a w hs
  have hF : C.F = Fence.wide := by unfold Cx.F; rw [hro]; rfl
  rw [hF]
  refine wpIn_rangeFunc ?_
  intro fn hfn
  obtain ⟨rec, hrec⟩ : ∃ rec : LoopState → Option Code → Loop, rec = fun st pe => { state := st, pending := pe, fn, tmps := a.tmps, params := #[p], assign, body, defers := w.heap.size } := ⟨_, rfl⟩
  obtain ⟨W1, hW1⟩ : ∃ W1, (w.alloc (.deferred (some []))).alloc (.loop (rec .ready none)) = W1 := ⟨_, rfl⟩
  let D := w.heap.size
  let l := w.heap.size + 1
  have hinv1 : Inv C.w0 C.M ((((D :: ds).map ptd) ++ L) ++ ((Hit ++ (pt l (.loop (rec .ready none)) :: HI 0)))) W1 := by
    have i1 := hs.inv.sub (Sub.app hH _)
    have i2 := i1.alloc (.deferred (some []))
    have i3 := i2.alloc (.loop (rec .ready none))
    rw [hW1] at i3
    have e : (w.alloc (.deferred (some []))).heap.size = l := by simp [l]
    rw [e] at i3
    refine i3.perm ?_
    have q1 : (pt l (.loop (rec .ready none)) :: ptd D :: ((ds.map ptd ++ L) ++ (Hit ++ HI 0))).Perm (pt l (.loop (rec .ready none)) :: ((((D :: ds).map ptd) ++ L ++ Hit) ++ HI 0)) := by
      simp [List.append_assoc]
    refine q1.trans ?_
    have q2 := (List.perm_middle (a := pt l (.loop (rec .ready none))) (l₁ := ((D :: ds).map ptd) ++ L ++ Hit) (l₂ := HI 0)).symm
    simpa [List.append_assoc] using q2
  refine ⟨l, [{ target := .collected D, args := #[] }], W1, { target := .fn (.func f) captured.toArray, args := #[.func (.yield l) #[] #[]] }, W1, f, #[.func (.yield l) #[] #[]] ++ captured.toArray, W1, ?_, ?_, ?_, ?_, fun h => by simp [Fence.wide] at h, ?_⟩
  · rw [← hW1, hrec]; exact run_enterLoop_outer _ _ _ _ _
  · simp only [resolve, hs.fr.eval hg]
    simp [go_sem, Deferred.ofValue, Act.eval]
  · intro f' hf'; trivial
  · simp [invoke, hcall]
  -- the iterator is handed its own pieces, and the caller's
  let Hc : Nat → List HP := fun k => pt l (.loop (rec .ready none)) :: HI k
  have hi2 : Inv C.w0 C.M ((Hit ++ Hc 0) ++ (((D :: ds).map ptd) ++ L)) W1 := hinv1.perm List.perm_append_comm
  obtain ⟨M', h1, h2, s, pa, pb, hM⟩ := handed hi2
  have hMB : ∀ b ∈ M', C.B ≤ b := fun b hb => by
    rcases (handed_own s hM b hb).1 with h | h
    · exact Nat.le_trans C.hB h
    exact C.hM b h
  have hy : ∀ k x, xs[k]? = some x → YieldOK P C.B C.w0 l #[x] (Hc k) (Hc (k + 1)) := by
    intro k x hx wy My hyB hyk hyM hyi
    have hl : wy.heap[l]? = some (.loop (rec .ready none)) := (hyi.look .head).1
    have hy := run_yield (P := P) (args := #[x]) hl (by rw [hrec]; rfl)
    refine ⟨_, _, _, _, hy, roundIn_of_wpIn trivial ?_⟩
    have hrd := hround l wy My hyB hyM hyk k x hx
    have hst : St (rdCx C l wy My hyB hyM) [pt l (.loop (rec .ready none))] [] ((p, x) :: E) (HI k) { tmps := (#[p].zip #[x]).foldl (fun tmps (t, a) => tmps.setIfInBounds t a) a.tmps, defers := [] } wy := by
      refine ⟨rfl, ?_, hyi⟩
      have := hs.fr.put (v := x) hN
      exact ⟨by have := this.size; simpa [Act.put, rdCx] using this, fun t u hu => by have := this.get t u hu; simpa [Act.put] using this⟩
    have hw := hrd _ _ _ _ hst
    have hFr : (rdCx C l wy My hyB hyM).F = Fence.wide.inRound l := rfl
    rw [hFr] at hw
    rw [hrec]
    rw [hrec] at hw hl
    refine wpIn_mono hw ?_
    rintro e a2 w2 ⟨ds2, E2, H2, q, st2⟩
    cases e <;> first | exact q.elim | skip
    have i2 : Inv wy My (ds2.map ptd ++ pt l (.loop (rec .ready none)) :: H2) w2 := by have := st2.inv; rw [hrec]; simpa [List.append_assoc, rdCx] using this
    have hl2 := (i2.look (b := l) (o := .loop (rec .ready none)) ((Pick.head).app (ds2.map ptd))).1
    have i3 := putObj_inv (o' := .loop (rec .busy none)) i2
    have hb2 := run_beginRound (P := P) hl2 (by rw [hrec])
    have e3 : ({ rec .ready none with state := .busy } : Loop) = rec .busy none := by rw [hrec]
    rw [e3] at hb2
    refine ⟨_, hb2, ?_⟩
    have hw3 := q [pt l (.loop (rec .busy none))] ds2 a2 _ ⟨st2.defers, st2.fr, by simpa [List.append_assoc, rdCx] using i3⟩
    rw [hFr] at hw3
    refine wpIn_mono hw3 ?_
    rintro e4 a4 w4 ⟨ds4, E4, H4, q4, st4⟩
    cases e4 <;> first | exact q4.elim | skip
    have i4 : Inv wy My (ds4.map ptd ++ pt l (.loop (rec .busy none)) :: H4) w4 := by simpa [List.append_assoc, rdCx] using st4.inv
    have hl4 := (i4.look (b := l) (o := .loop (rec .busy none)) ((Pick.head).app (ds4.map ptd))).1
    have i5 := putObj_inv (o' := .loop (rec .ready none)) i4
    have hb4 := run_endRound (P := P) none hl4
    have e5 : ({ rec .busy none with state := if (none : Option Code).isNone then .ready else .done, pending := none } : Loop) = rec .ready none := by rw [hrec]; rfl
    rw [e5] at hb4
    refine ⟨_, _, hb4, rfl, ?_⟩
    have q4' : Sub H4 (HI (k + 1)) := q4
    refine i5.sub ?_
    have s1 : Sub (ds4.map ptd ++ pt l (.loop (rec .ready none)) :: H4) (pt l (.loop (rec .ready none)) :: H4) := by
      induction ds4.map ptd with
      | nil => exact Sub.refl _
      | cons A r ih => exact Sub.tail ih
    exact s1.trans (.cons .head q4')
  have hct := hiter l Hc hy (fun k => ⟨_, rfl⟩) W1 M' (Nat.le_trans C.hB (by have := hinv1.size; exact this)) hinv1.keepB hMB (handed_start s pa hM)
  refine CallsIn.mono hct ?_
  rintro e w' ⟨v, rfl, hi'⟩
  have hb := handed_back (hi2.sub .nil) s pb hM hi'
  have hb2 : Inv C.w0 C.M ((((D :: ds).map ptd) ++ L ++ Hit) ++ pt l (.loop (rec .ready none)) :: HI xs.length) w' := by
    refine hb.perm ?_
    have := List.perm_append_comm (l₁ := Hit ++ Hc xs.length) (l₂ := ((D :: ds).map ptd) ++ L)
    simpa [Hc, List.append_assoc] using this
  have hl := (hb2.look (b := l) (o := .loop (rec .ready none)) ((Pick.head).app _)).1
  refine ⟨none, w'.putObj l (.loop { rec .ready none with state := .exhausted }), ?_, ?_⟩
  · have := run_endLoop (P := P) hl (by rw [hrec]; simp)
    have e6 : (rec .ready none).pending = none := by rw [hrec]
    rw [this]; exact congrArg (fun q => Result.ok q _) e6
  have h6 := putObj_inv (o' := .loop { rec .ready none with state := .exhausted }) hb2
  have h7 := h6.dropL
  refine ⟨D :: ds, E, Hit ++ HI xs.length, h, ⟨?_, ⟨hs.fr.size, hs.fr.get⟩, by simpa [List.append_assoc] using h7⟩⟩
  show [_] ++ a.defers = _
  rw [hs.defers]; rfl
theorem Cap.upTo {w u : World} {p : Addr} {v : Value} (h : Cap w p v) (_ : w.heap.size ≤ u.heap.size) (hk : ∀ k, k < w.heap.size → u.heap[k]? = w.heap[k]?) : Cap u p v := ⟨by have := h.lt; omega, by rw [cell_agree hk h.lt]; exact h.at_⟩
theorem RdT.agree {sz B n : Nat} {w w' : World} {v : Value} {g : Nat → Int} (h : RdT sz B w v n g) (hk : ∀ k, k < B → w'.heap[k]? = w.heap[k]?) : RdT sz B w' v n g := ⟨h.sl, h.blk, fun i j h1 h2 => by rw [cell_agree hk (by rw [addr_add_block, addr_add_block]; exact h.blk (by omega))]; exact h.cell i j h1 h2⟩
theorem RdT.up {sz B B' n : Nat} {w : World} {v : Value} {g : Nat → Int} (h : RdT sz B w v n g) (hB : B ≤ B') : RdT sz B' w v n g := ⟨h.sl, fun hn => Nat.lt_of_lt_of_le (h.blk hn) hB, h.cell⟩
/-- a table of one's own of which something is known -/
def TabX (e sz : Nat) (v : Value) (n : Nat) (p : (Nat → Int) → Prop) : HP := fun h => ∃ g, p g ∧ TabP e sz v n g h
theorem TabX.open {e sz n : Nat} {v : Value} {p : (Nat → Int) → Prop} {H' : List HP} (pk : Pick (TabX e sz v n p) H H') : ∀ h, sat H h → ∃ g, p g ∧ sat (TabP e sz v n g :: H') h := fun h hs => by
  obtain ⟨h1, h2, s, ⟨g, hg, ht⟩, hr⟩ := pk.sat hs
  exact ⟨g, hg, h1, h2, s, ht, hr⟩
theorem TabX.shut {e sz n : Nat} {v : Value} {p : (Nat → Int) → Prop} {g : Nat → Int} {H' : List HP} (hg : p g) (pk : Pick (TabP e sz v n g) H H') : ∀ h, sat H h → sat (TabX e sz v n p :: H') h := fun h hs => by
  obtain ⟨h1, h2, s, ht, hr⟩ := pk.sat hs
  exact ⟨h1, h2, s, ⟨g, hg, ht⟩, hr⟩
theorem tabXm {e sz n : Nat} {v : Value} {p p' : (Nat → Int) → Prop} {H' : List HP} (hp : ∀ g, p g → p' g) (pk : Pick (TabX e sz v n p) H H') : ∀ h, sat H h → sat (TabX e sz v n p' :: H') h := fun h hs => by
  obtain ⟨h1, h2, s, ⟨g, hg, ht⟩, hr⟩ := pk.sat hs
  exact ⟨h1, h2, s, ⟨g, hp g hg, ht⟩, hr⟩
theorem TabP.sl {e sz n : Nat} {v : Value} {g : Nat → Int} {H' : List HP} (pk : Pick (TabP e sz v n g) H H') : ∀ (L : List HP) w, Inv C.w0 C.M (L ++ H) w → IsSl v n := OwC.sl pk
section clears
variable {ops : Array Oper} {K : KP} {rest : List Oper} {d : Nat} {ty : TypeId} {pos : String} {af : Array Edge} {x y : Operand} {T : TypeId}
/-- clear, of a block of one's own -/
theorem WO.clearP {b n c e by' : Nat} {t : TypeId} {cs : List Value} {zv : Value} {H' : List HP} (hT : C.tt.sl? T = some (e, 1, by')) (hz : C.tt.z? e = some zv) (h1 : zv.oneCell' = true) (hx : ev E x = some (.slice (some ⟨b, 0, none⟩) n c)) (hn : 0 < n)
    (p : Pick (pt b (.cells cs.toArray t (0, 0))) H H') (hl : cs.length = n) (h : WO C ops rest K E (pt b (.cells (List.replicate n zv).toArray t (0, 0)) :: H')) :
    WO C ops (⟨none, .call ⟨.builtin .clear, #[x], #[T]⟩, ty, pos, af, none⟩ :: rest) K E H := by
  refine WO.step0 rfl rfl (XO.run (by simp) fun L a w hf hi => ?_)
  have hi2 := hi.pickL p
  have hlook := (hi2.look (b := b) (o := .cells cs.toArray t (0, 0)) ((Pick.head).app L)).1
  have hST := SlT.of hT
  have hzc : (Builtin.zeroCells zv.cells n).toList = List.replicate n zv := by
    rw [show zv.cells = #[zv] by cases zv <;> simp_all [Value.cells, Value.oneCell']]
    simp [Builtin.zeroCells]
    apply List.ext_getElem
    · simp
    intro i h1 h2
    simp [Nat.mod_one]
  have hst := run_storeCells_at P b 0 t (List.replicate n zv) 0 cs.toArray w hlook (by simp [hl]) (fun v hv => by rw [List.eq_of_mem_replicate hv]; exact h1)
  have hzv : (zeroValue e).run P w = .ok zv w := run_zeroValue (ZT.of hz).zero
  have hcur : cs.toArray.toList.take (0 + 0) ++ List.replicate n zv ++ cs.toArray.toList.drop (0 + 0 + (List.replicate n zv).length) = List.replicate n zv := by simp; omega
  rw [hcur] at hst
  obtain ⟨m, rfl⟩ : ∃ m, n = m + 1 := ⟨n - 1, by omega⟩
  have hrun : ∀ ty, (Builtin.clear_ #[T] ty #[.slice (some ⟨b, 0, none⟩) (m + 1) c]).run P w = .ok (.tuple #[]) (w.setRow b (List.replicate (m + 1) zv).toArray) := fun ty => by
    simp [Builtin.clear_, run_underlying hST.u, hzv, hzc, hst]
  refine ⟨.tuple #[], w.setRow b (List.replicate (m + 1) zv).toArray, _, .inl ?_, h, ?_⟩
  · simp only [execOp, resolve, hf.eval hx]
    simp [hf.eval hx, Deferred.ofValue, invoke, builtin, hrun]
  have h2 := Inv.set (b := b) (o := .cells cs.toArray t (0, 0)) (o' := .cells (List.replicate (m + 1) zv).toArray t (0, 0)) (w' := w.setRow b (List.replicate (m + 1) zv).toArray) hi2 (Pick.mem) rfl rfl rfl (by simp [World.setRow]) (setRow_same hlook) (fun k hk => setRow_other hk)
  exact h2.perm (List.perm_middle (l₁ := L) (l₂ := H')).symm
end clears
end
end Go.TH
namespace Go.TH
open Go
section
variable {P : Program} {C : Cx P} {E : Env} {H : List HP}
variable {ops : Array Oper} {K : KP} {rest : List Oper} {d : Nat} {ty : TypeId} {pos : String} {af : Array Edge} {x y : Operand} {T T' : TypeId} {k : IntKind} {a b : Nat}
theorem bv_andNot {n : Nat} (x y : BitVec n) : x &&& ~~~y = x ^^^ (x &&& y) := by
  apply BitVec.eq_of_getLsbD_eq
  intro i hi
  simp [hi]
  cases x[i] <;> cases y[i] <;> rfl
theorem WO.andNotN (hx : ev E x = some (.int k (a : Int))) (hy : ev E y = some (.int k (b : Int))) (ha : Fits k a) (hb : Fits k b) (hN : Nat.blt d C.N = true) (h : WO C ops rest K ((d, .int k ((a ^^^ (a &&& b) : Nat) : Int)) :: E) H) : WO C ops (⟨some d, .binOp .andNot T x y T', ty, pos, af, none⟩ :: rest) K E H :=
  WO.pure _ (by simp) (fun L c w hf _ => by
    simp only [execOp, hf.eval hx, hf.eval hy]
    simp only [binOp_andNot, eqGuard_andNot, Op.intBits, bv_andNot]
    simp [mod_fits ha, mod_fits hb]
    exact_mod_cast wrap_nat (k := k) (a := a ^^^ (a &&& b)) (ha.xor ha.and)) hN h
end
end Go.TH
namespace Go.TH
open Go
section
variable {P : Program} {C : Cx P} {E : Env} {H : List HP} {ops : Array Oper} {K : KP} {rest : List Oper} {d : Nat} {ty : TypeId} {pos : String} {af : Array Edge} {x y : Operand} {T T' : TypeId} {k : IntKind} {a b : Int}
theorem WO.lssT (hx : ev E x = some (.int k a)) (hy : ev E y = some (.int k b)) (hp : a < b) (hN : Nat.blt d C.N = true) (h : WO C ops rest K ((d, .bool true) :: E) H) : WO C ops (⟨some d, .binOp .lss T x y T', ty, pos, af, none⟩ :: rest) K E H :=
  WO.lss hx hy hN (by rw [bl_t.2 hp]; exact h)
theorem WO.lssF (hx : ev E x = some (.int k a)) (hy : ev E y = some (.int k b)) (hp : ¬ (a < b)) (hN : Nat.blt d C.N = true) (h : WO C ops rest K ((d, .bool false) :: E) H) : WO C ops (⟨some d, .binOp .lss T x y T', ty, pos, af, none⟩ :: rest) K E H :=
  WO.lss hx hy hN (by rw [bl_f.2 hp]; exact h)
theorem WO.leqT (hx : ev E x = some (.int k a)) (hy : ev E y = some (.int k b)) (hp : a ≤ b) (hN : Nat.blt d C.N = true) (h : WO C ops rest K ((d, .bool true) :: E) H) : WO C ops (⟨some d, .binOp .leq T x y T', ty, pos, af, none⟩ :: rest) K E H :=
  WO.leq hx hy hN (by rw [bl_t.2 hp]; exact h)
theorem WO.leqF (hx : ev E x = some (.int k a)) (hy : ev E y = some (.int k b)) (hp : ¬ (a ≤ b)) (hN : Nat.blt d C.N = true) (h : WO C ops rest K ((d, .bool false) :: E) H) : WO C ops (⟨some d, .binOp .leq T x y T', ty, pos, af, none⟩ :: rest) K E H :=
  WO.leq hx hy hN (by rw [bl_f.2 hp]; exact h)
theorem WO.gtrT (hx : ev E x = some (.int k a)) (hy : ev E y = some (.int k b)) (hp : b < a) (hN : Nat.blt d C.N = true) (h : WO C ops rest K ((d, .bool true) :: E) H) : WO C ops (⟨some d, .binOp .gtr T x y T', ty, pos, af, none⟩ :: rest) K E H :=
  WO.gtr hx hy hN (by rw [bl_t.2 hp]; exact h)
theorem WO.gtrF (hx : ev E x = some (.int k a)) (hy : ev E y = some (.int k b)) (hp : ¬ (b < a)) (hN : Nat.blt d C.N = true) (h : WO C ops rest K ((d, .bool false) :: E) H) : WO C ops (⟨some d, .binOp .gtr T x y T', ty, pos, af, none⟩ :: rest) K E H :=
  WO.gtr hx hy hN (by rw [bl_f.2 hp]; exact h)
theorem WO.geqT (hx : ev E x = some (.int k a)) (hy : ev E y = some (.int k b)) (hp : b ≤ a) (hN : Nat.blt d C.N = true) (h : WO C ops rest K ((d, .bool true) :: E) H) : WO C ops (⟨some d, .binOp .geq T x y T', ty, pos, af, none⟩ :: rest) K E H :=
  WO.geq hx hy hN (by rw [bl_t.2 hp]; exact h)
theorem WO.geqF (hx : ev E x = some (.int k a)) (hy : ev E y = some (.int k b)) (hp : ¬ (b ≤ a)) (hN : Nat.blt d C.N = true) (h : WO C ops rest K ((d, .bool false) :: E) H) : WO C ops (⟨some d, .binOp .geq T x y T', ty, pos, af, none⟩ :: rest) K E H :=
  WO.geq hx hy hN (by rw [bl_f.2 hp]; exact h)
theorem WO.eqlT (hx : ev E x = some (.int k a)) (hy : ev E y = some (.int k b)) (hp : a = b) (hN : Nat.blt d C.N = true) (h : WO C ops rest K ((d, .bool true) :: E) H) : WO C ops (⟨some d, .binOp .eql T x y T', ty, pos, af, none⟩ :: rest) K E H :=
  WO.eql hx hy hN (by rw [bl_t.2 hp]; exact h)
theorem WO.eqlF (hx : ev E x = some (.int k a)) (hy : ev E y = some (.int k b)) (hp : ¬ (a = b)) (hN : Nat.blt d C.N = true) (h : WO C ops rest K ((d, .bool false) :: E) H) : WO C ops (⟨some d, .binOp .eql T x y T', ty, pos, af, none⟩ :: rest) K E H :=
  WO.eql hx hy hN (by rw [bl_f.2 hp]; exact h)
theorem WO.neqT (hx : ev E x = some (.int k a)) (hy : ev E y = some (.int k b)) (hp : a ≠ b) (hN : Nat.blt d C.N = true) (h : WO C ops rest K ((d, .bool true) :: E) H) : WO C ops (⟨some d, .binOp .neq T x y T', ty, pos, af, none⟩ :: rest) K E H :=
  WO.neq hx hy hN (by rw [bl_t.2 hp]; exact h)
theorem WO.neqF (hx : ev E x = some (.int k a)) (hy : ev E y = some (.int k b)) (hp : ¬ (a ≠ b)) (hN : Nat.blt d C.N = true) (h : WO C ops rest K ((d, .bool false) :: E) H) : WO C ops (⟨some d, .binOp .neq T x y T', ty, pos, af, none⟩ :: rest) K E H :=
  WO.neq hx hy hN (by rw [bl_f.2 hp]; exact h)
theorem w8_in {z : Int} (h : 0 ≤ z ∧ z ≤ 255) : IntKind.u8.wrap z = z := by
  simp [IntKind.wrap, IntKind.bits, IntKind.signed]; omega
theorem WO.quo8 {a b : Nat} (hx : ev E x = some (.int .u8 (a : Int))) (hy : ev E y = some (.int .u8 (b : Int))) (hb : 0 < b) (ha : a ≤ 255) (hN : Nat.blt d C.N = true) (h : WO C ops rest K ((d, .int .u8 ((a / b : Nat) : Int)) :: E) H) : WO C ops (⟨some d, .binOp .quo T x y T', ty, pos, af, none⟩ :: rest) K E H := by
  have e : ((a / b : Nat) : Int) = (a : Int).tdiv (b : Int) := Int.ofNat_tdiv a b
  have e2 : a / b ≤ a := Nat.div_le_self a b
  have e3 : (b : Int) ≠ 0 := by omega
  have e4 : 0 ≤ (a : Int).tdiv (b : Int) ∧ (a : Int).tdiv (b : Int) ≤ 255 := by rw [← e]; generalize a / b = q at e2; omega
  rw [e] at h
  generalize (a : Int) = A at hx e4 h
  generalize (b : Int) = B at hy e4 h e3
  exact WO.pure _ (by simp) (fun L c w hf _ => by simp only [execOp, hf.eval hx, hf.eval hy]; simp [binOp_quo, eqGuard_quo, Op.intDiv, e3]; exact w8_in e4) hN h
end
end Go.TH
namespace Go.TH
open Go
section
variable {P : Program} {C : Cx P} {E : Env} {H : List HP}
variable {ops : Array Oper} {K : KP} {rest : List Oper} {d : Nat} {ty : TypeId} {pos : String} {af : Array Edge} {x y z : Operand} {T : TypeId}
/-- what is full grows: what lay there before stays -/
theorem WO.appendFull {e sz by' n m : Nat} {a : Addr} {u zv : Value} {cs news : List Value} (hT : C.tt.sl? T = some (e, sz, by')) (hz : C.tt.z? e = some zv) (hzs : Nat.beq zv.cells.size sz = true)
    (hx : ev E x = some (.slice (some a) n n)) (hy : ev E y = some u) (hc0 : Cells C H a cs) (hcl : cs.length = n * sz) (hS : IsSl u m) (hm : 0 < m) (hc : Cells C H (base u) news) (hl : news.length = m * sz)
    (hb : (n + m) * by' ≤ 140737488355328) (h63 : n + m ≤ 9223372036854775807) (hN : Nat.blt d C.N = true)
    (h : ∀ g c, WO C ops rest K ((d, .slice (some ⟨g, 0, none⟩) (n + m) c) :: E) (OwC e sz (.slice (some ⟨g, 0, none⟩) (n + m) c) (n + m) (cs ++ news) :: H)) : WO C ops (⟨some d, .call ⟨.builtin .append, #[x, y], #[T, T]⟩, ty, pos, af, none⟩ :: rest) K E H := by
  refine WO.step rfl rfl hN (XO.run (by simp) fun L ac w hf hi => ?_)
  obtain ⟨i, hi1, hi2, hi3, hi4⟩ := sl_info hT hz
  subst hi2; subst hi3
  have hzs' := Nat.eq_of_beq_eq_true hzs
  have hmax : n + m ≤ maxLen := by simpa [maxLen] using h63
  obtain ⟨a0, c0, rfl, ha0⟩ := hS.is
  obtain ⟨b0, o0, rfl⟩ := ha0 hm
  have hnews : ∀ j v, news[j]? = some v → w.cell? ((⟨b0, o0, none⟩ : Addr).add j) = some v := fun j v hv => hc j v hv L w hi
  have holds : ∀ j v, cs[j]? = some v → w.cell? (a.add j) = some v := fun j v hv => hc0 j v hv L w hi
  have hr := run_append_grow (P := P) w T ty e i zv (SlT.of hT).u hi1 hi4 a n n cs hcl holds ⟨b0, o0, none⟩ m c0 news hl hnews (by omega) (by omega) (growslice_fits (by omega) hb)
  have hlen : (cs ++ news).length = (n + m) * i.size := by rw [List.length_append, hcl, hl, Nat.add_mul]
  have hrun : ∀ (v' : Value) (w' : World), (Builtin.append_ #[T, T] ty #[.slice (some a) n n, .slice (some ⟨b0, o0, none⟩) m c0]).run P w = .ok v' w' → (execOp ac.eval ⟨some d, .call ⟨.builtin .append, #[x, y], #[T, T]⟩, ty, pos, af, none⟩).run P w = .ok (.value v') w' := by
    intro v' w' hr
    simp [execOp, resolve, hf.eval hx, hf.eval hy, invoke, builtin, hr]
  have hinv : Inv C.w0 C.M (L ++ OwC e i.size (.slice (some ⟨w.heap.size, 0, none⟩) (n + m) (grownCap w (n + m) n e)) (n + m) (cs ++ news) :: H) (w.drew.alloc (.cells (cs.toArray ++ news.toArray ++ Builtin.zeroCells zv.cells (grownCap w (n + m) n e - (n + m))) e)) := by
    have hge := grownCap_ge w (n + m) n e
    have hcm : grownCap w (n + m) n e ≤ maxLen := grownCap_le_maxLen w (n + m) n e hmax
    have h2 := (hi.drawn).alloc' (.cells (cs.toArray ++ news.toArray ++ Builtin.zeroCells zv.cells (grownCap w (n + m) n e - (n + m))) e)
    have e1 : cs.toArray ++ news.toArray ++ Builtin.zeroCells zv.cells (grownCap w (n + m) n e - (n + m)) = ((cs ++ news) ++ (Builtin.zeroCells zv.cells (grownCap w (n + m) n e - (n + m))).toList).toArray := by
      apply Array.ext'; simp
    refine OwC.shut (cur := (cs ++ news) ++ (Builtin.zeroCells zv.cells (grownCap w (n + m) n e - (n + m))).toList) hlen hge hcm ?_ ?_ ?_
    · rw [List.length_append, hlen, Array.length_toList, size_zeroCells, hzs', ← Nat.add_mul]; congr 1; omega
    · rw [← hlen]; exact List.take_left
    rw [← e1]; exact h2
  exact ⟨_, _, _, .inl (hrun _ _ hr), h _ _, hinv⟩
/-- a[:n:n] of an array -/
theorem WO.sliceArrM {len e sz n : Nat} {k k' : IntKind} {p : Addr} (hT : C.tt.ar? T = some (len, e, sz)) (hx : ev E x = some (.pointer (some p))) (hy : ev E y = some (.int k (n : Int))) (hz : ev E z = some (.int k' (n : Int))) (hn : n ≤ len) (hN : Nat.blt d C.N = true)
    (h : WO C ops rest K ((d, .slice (some p) n n) :: E) H) : WO C ops (⟨some d, .slice T x none (some y) (some z), ty, pos, af, none⟩ :: rest) K E H :=
  WO.pure _ (by simp) (fun L a w hf hi => by
    have hn' : (n : Int) ≤ (len : Int) := by omega
    simp [execOp, hf.eval hx, hf.eval hy, hf.eval hz, Instr.sliceAt, Instr.sureAddr, run_underlying (ArT.of hT).u, Instr.sliceBounds, run_sliceBound, hn', run_sizeOf (ArT.of hT).size, Addr.add]) hN h
end
end Go.TH
namespace Go.TH.DB
open Go Go.TH

/-- how an operation is taken: r reads no memory, g reads one piece that stays till it is done, b reads what was there before, f reads what is there now, c changes what is new, s likewise but yields nothing, a makes a variable; X: the slots that may be written ahead of it -/
inductive Nd
  | g (k : Nat) (X : List Nat) (Q : HP) | r (k : Nat) (X : List Nat) | b (k : Nat) (X : List Nat) | f (k : Nat) (X : List Nat) | c (k : Nat) (X : List Nat) | s (k : Nat) (X : List Nat) | a (k d : Nat) (z : Nat → HP) (y : Nat → Value)
def Nd.ix : Nd → Nat
  | .g k _ _ => k
  | .r k _ => k
  | .b k _ => k
  | .f k _ => k
  | .c k _ => k
  | .s k _ => k
  | .a k _ _ _ => k
def Nd.isF : Nd → Bool
  | .f _ _ => true
  | _ => false
def Nd.al : Nd → List Nat
  | .a k _ _ _ => [k]
  | _ => []
def Nd.X : Nd → List Nat
  | .g _ X _ => X
  | .r _ X => X
  | .b _ X => X
  | .f _ X => X
  | .c _ X => X
  | .s _ X => X
  | .a _ _ _ _ => []
def cloT (l : List Oper) : List (List Nat) :=
  l.foldl (fun T o => T ++ [(List.range T.length).filter fun j => (afs o).any fun a => Nat.beq a j || (T.getD a []).elem j]) []
def cloOk (l : List Oper) (T : List (List Nat)) : Bool :=
  l.zipIdx.all fun (o, i) => (T.getD i []).all fun j => (afs o).any fun a => Nat.beq a j || (T.getD a []).elem j
def dtChk (l : List Oper) (T : List (List Nat)) (m : Nat) (AL : List Nat) : List Nd → List Nd → Bool
  | [], dn => (List.range m).all fun i => (dn.map Nd.ix).elem i
  | nd :: p, dn =>
    (!(dn.map Nd.ix).elem nd.ix && Nat.blt nd.ix m && Nat.blt nd.ix l.length &&
    (match nd with
     | .c k _ => !AL.elem k && dn.all (fun n => !n.isF || (T.getD k []).elem n.ix) && l.zipIdx.all (fun (o, j) => (dn.map Nd.ix).elem j || AL.elem j || Nat.beq j k || (afs o).any fun x => !(dn.map Nd.ix).elem x && !AL.elem x)
     | .s k _ => !AL.elem k && dn.all (fun n => !n.isF || (T.getD k []).elem n.ix) && l.zipIdx.all (fun (o, j) => (dn.map Nd.ix).elem j || AL.elem j || Nat.beq j k || (afs o).any fun x => !(dn.map Nd.ix).elem x && !AL.elem x)
     | .a k _ _ _ => AL.elem k && l.zipIdx.all (fun (o, j) => (dn.map Nd.ix).elem j || AL.elem j || (afs o).any fun x => !(dn.map Nd.ix).elem x && (Nat.beq x k || !AL.elem x))
     | n => !AL.elem n.ix)) && dtChk l T m AL p (nd :: dn)
def distinct : List Nat → Bool
  | [] => true
  | x :: r => !r.elem x && distinct r
def xOk (l : List Oper) (T : List (List Nat)) (m : Nat) (EK : List Nat) (n : Nd) : Bool :=
  (l.take m).zipIdx.all fun (o, k) => (T.getD k []).elem n.ix || match o.dst with
    | none => true
    | some d => n.X.elem d || !EK.elem d
def drawDOk (l : List Oper) (m : Nat) (plan : List Nd) (XT EK : List Nat) : Bool :=
  (plan.all fun n => xOk l (cloT l) m EK n) &&
  ((l.take m).all fun o => match o.dst with
    | none => true
    | some d => XT.elem d || !EK.elem d) &&
  (l.zipIdx.all fun (o, i) => (afs o).all (Nat.blt · i)) &&
  ((l.take m).zipIdx.all fun (o, i) => (l.take m).zipIdx.all fun (o', j) => i == j || o.dst.isNone || o.dst != o'.dst) &&
  cloOk l (cloT l) &&
  (l.zipIdx.drop m).all (fun (_, i) => (List.range i).all fun j => ((cloT l).getD i []).elem j) &&
  (plan.flatMap Nd.al).all (Nat.blt · m) && distinct (plan.map Nd.ix) &&
  dtChk l (cloT l) m (plan.flatMap Nd.al) plan []

theorem distinct_inj {α : Type} {f : α → Nat} : ∀ {l : List α}, distinct (l.map f) = true → ∀ {x y : α}, x ∈ l → y ∈ l → f x = f y → x = y
  | [], _, _, _, h, _, _ => by simp at h
  | z :: r, hd, x, y, hx, hy, e => by
    simp only [List.map_cons, distinct, Bool.and_eq_true, Bool.not_eq_true'] at hd
    have hn : ∀ u ∈ r, f u ≠ f z := fun u hu e => by
      have : (r.map f).elem (f z) = true := by
        simp only [List.elem_eq_mem, decide_eq_true_eq]
        exact List.mem_map.2 ⟨u, hu, e⟩
      rw [this] at hd; exact absurd hd.1 (by simp)
    rcases List.mem_cons.1 hx with ex | hx1
    · rcases List.mem_cons.1 hy with ey | hy1
      · rw [ex, ey]
      exact absurd (by rw [← e, ex]) (hn y hy1)
    rcases List.mem_cons.1 hy with ey | hy1
    · exact absurd (by rw [e, ey]) (hn x hx1)
    exact distinct_inj hd.2 hx1 hy1 e

section
variable {P : Program} {C : Cx P} {E : Env} {H : List HP}

/-- what is still to be read stays -/
def Keep (l : List Oper) (k : Nat) (H : List HP) : List Nd → Prop
  | [] => True
  | .g j _ Q :: dn => (((cloT l).getD k []).elem j = true ∨ ∃ R, Pick Q H R) ∧ Keep l k H dn
  | _ :: dn => Keep l k H dn
theorem Keep.at {l : List Oper} {k : Nat} {H : List HP} {j : Nat} {X : List Nat} {Q : HP} : ∀ {dn : List Nd}, Keep l k H dn → Nd.g j X Q ∈ dn → ((cloT l).getD k []).elem j = true ∨ ∃ R, Pick Q H R
  | [], _, h => by simp at h
  | nd :: dn, hk, h => by
    rcases List.mem_cons.1 h with rfl | h'
    · exact hk.1
    clear h
    cases nd with
    | g k X Q => exact Keep.at (And.right hk) h'
    | r k X => have hk2 : Keep l _ H dn := hk; exact Keep.at hk2 h'
    | b k X => have hk2 : Keep l _ H dn := hk; exact Keep.at hk2 h'
    | f k X => have hk2 : Keep l _ H dn := hk; exact Keep.at hk2 h'
    | c k X => have hk2 : Keep l _ H dn := hk; exact Keep.at hk2 h'
    | s k X => have hk2 : Keep l _ H dn := hk; exact Keep.at hk2 h'
    | a k d z y => have hk2 : Keep l _ H dn := hk; exact Keep.at hk2 h'
def DT (C : Cx P) (l : List Oper) (m : Nat) (K : KP) (XT : List Nat) (E0 : Env) (H0 : List HP) : List Nd → List Nd → List SE → List HP → Prop
  | [], _, pre, A => WO C l.toArray (l.drop m) K (allE (delE XT E0) pre) (A ++ H0)
  | .r k X :: p, dn, pre, A => ∃ o d v, l[k]? = some o ∧ o.dst = some d ∧ Nat.blt d C.N = true ∧ WO C l.toArray [o] (fun E' H' => E' = (d, v) :: selE (afs o) (delE X E0) pre ∧ H' = []) (selE (afs o) (delE X E0) pre) [] ∧ DT C l m K XT E0 H0 p (.r k X :: dn) (⟨k, d, v⟩ :: pre) A
  | .b k X :: p, dn, pre, A => ∃ o d v, l[k]? = some o ∧ o.dst = some d ∧ Nat.blt d C.N = true ∧ WO C l.toArray [o] (fun E' H' => E' = (d, v) :: selE (afs o) (delE X E0) pre ∧ H' = H0) (selE (afs o) (delE X E0) pre) H0 ∧ DT C l m K XT E0 H0 p (.b k X :: dn) (⟨k, d, v⟩ :: pre) A
  | .f k X :: p, dn, pre, A => ∃ o d v, l[k]? = some o ∧ o.dst = some d ∧ Nat.blt d C.N = true ∧ WO C l.toArray [o] (fun E' H' => E' = (d, v) :: selE (afs o) (delE X E0) pre ∧ H' = A ++ H0) (selE (afs o) (delE X E0) pre) (A ++ H0) ∧ DT C l m K XT E0 H0 p (.f k X :: dn) (⟨k, d, v⟩ :: pre) A
  | .c k X :: p, dn, pre, A => ∃ o d, l[k]? = some o ∧ o.dst = some d ∧ Nat.blt d C.N = true ∧ WO C l.toArray [o] (fun E' H' => ∃ v A', E' = (d, v) :: selE (afs o) (delE X E0) pre ∧ H' = A' ++ H0 ∧ Keep l k (A' ++ H0) dn ∧ DT C l m K XT E0 H0 p (.c k X :: dn) (⟨k, d, v⟩ :: pre) A') (selE (afs o) (delE X E0) pre) (A ++ H0)
  | .s k X :: p, dn, pre, A => ∃ o, l[k]? = some o ∧ o.dst = none ∧ WO C l.toArray [o] (fun E' H' => ∃ A', E' = selE (afs o) (delE X E0) pre ∧ H' = A' ++ H0 ∧ Keep l k (A' ++ H0) dn ∧ DT C l m K XT E0 H0 p (.s k X :: dn) pre A') (selE (afs o) (delE X E0) pre) (A ++ H0)
  | .a k d z y :: p, dn, pre, A => ∀ b, DT C l m K XT E0 H0 p (.a k d z y :: dn) (⟨k, d, y b⟩ :: pre) (z b :: A)
  | .g k X Q :: p, dn, pre, A => ∃ o d v, l[k]? = some o ∧ o.dst = some d ∧ Nat.blt d C.N = true ∧ (∃ R, Pick Q (A ++ H0) R) ∧ WO C l.toArray [o] (fun E' H' => E' = (d, v) :: selE (afs o) (delE X E0) pre ∧ H' = [Q]) (selE (afs o) (delE X E0) pre) [Q] ∧ DT C l m K XT E0 H0 p (.g k X Q :: dn) (⟨k, d, v⟩ :: pre) A

/-- what is made, whenever it be -/
def ALok (C : Cx P) (l : List Oper) (pre0 : List SE) : List Nd → Prop
  | [] => True
  | .a k d z y :: p => (∃ o, l[k]? = some o ∧ o.dst = some d ∧ Nat.blt d C.N = true ∧ WO C l.toArray [o] (fun E' H' => ∃ b, E' = (d, y b) :: selE (afs o) [] pre0 ∧ H' = [z b]) (selE (afs o) [] pre0) []) ∧ ALok C l pre0 p
  | _ :: p => ALok C l pre0 p
theorem ALok.at {l : List Oper} {pre0 : List SE} {plan : List Nd} (ha : ALok C l pre0 plan) {k d : Nat} {z : Nat → HP} {y : Nat → Value} (h : Nd.a k d z y ∈ plan) : ∃ o, l[k]? = some o ∧ o.dst = some d ∧ Nat.blt d C.N = true ∧ WO C l.toArray [o] (fun E' H' => ∃ b, E' = (d, y b) :: selE (afs o) [] pre0 ∧ H' = [z b]) (selE (afs o) [] pre0) [] := by
  induction plan with
  | nil => simp at h
  | cons nd p ih =>
    rcases List.mem_cons.1 h with rfl | h'
    · exact ha.1
    clear h
    cases nd <;> first | exact ih ha h' | exact ih ha.2 h'

structure AE where
  k : Nat
  d : Nat
  b : Nat
  z : Nat → HP
  y : Nat → Value
def AE.p (x : AE) : HP := x.z x.b

/-- a reading operation that is told, and not yet done -/
def PQ (C : Cx P) (l : List Oper) (E0 : Env) (pre : List SE) (k : Nat) (X : List Nat) (Hq : List HP) : Prop :=
  ∃ o d v Eq, l[k]? = some o ∧ o.dst = some d ∧ Nat.blt d C.N = true ∧ ⟨k, d, v⟩ ∈ pre ∧ WO C l.toArray [o] (fun E' H' => E' = (d, v) :: Eq ∧ H' = Hq) Eq Hq ∧
    ∀ t u, lk Eq t = some u → (∃ s ∈ pre, s.ix ∈ afs o ∧ s.d = t ∧ s.v = u) ∨ lk (delE X E0) t = some u
def Pd (C : Cx P) (l : List Oper) (E0 : Env) (H0 : List HP) (pre : List SE) (A : List HP) : Nd → Prop
  | .g k X Q => (∃ R, Pick Q (A ++ H0) R) ∧ PQ C l E0 pre k X [Q]
  | .r k X => PQ C l E0 pre k X []
  | .b k X => PQ C l E0 pre k X H0
  | .f k X => ∃ As Aq, A = As ++ Aq ∧ PQ C l E0 pre k X (Aq ++ H0)
  | .c _ _ => False
  | .s _ _ => False
  | .a _ _ _ _ => False
theorem PQ.more {l : List Oper} {E0 : Env} {pre : List SE} {k : Nat} {X : List Nat} {Hq : List HP} (h : PQ C l E0 pre k X Hq) (s : SE) : PQ C l E0 (s :: pre) k X Hq := by
  obtain ⟨o, d, v, Eq, h1, h2, h3, h4, h5, h6⟩ := h
  refine ⟨o, d, v, Eq, h1, h2, h3, by simp [h4], h5, fun t u hu => ?_⟩
  rcases h6 t u hu with ⟨s', a, b⟩ | h
  · exact .inl ⟨s', by simp [a], b⟩
  exact .inr h
theorem Pd.more {l : List Oper} {E0 : Env} {H0 : List HP} {pre : List SE} {A : List HP} {nd : Nd} (h : Pd C l E0 H0 pre A nd) (s : SE) : Pd C l E0 H0 (s :: pre) A nd := by
  cases nd <;> simp only [Pd] at h ⊢
  · exact ⟨h.1, h.2.more s⟩
  · exact h.more s
  · exact h.more s
  obtain ⟨As, Aq, e, h⟩ := h; exact ⟨As, Aq, e, h.more s⟩
theorem Pd.moreA {l : List Oper} {E0 : Env} {H0 : List HP} {pre : List SE} {A : List HP} {nd : Nd} (h : Pd C l E0 H0 pre A nd) (B : HP) : Pd C l E0 H0 pre (B :: A) nd := by
  cases nd <;> simp only [Pd] at h ⊢
  · obtain ⟨⟨R, p⟩, h⟩ := h; exact ⟨⟨_, .tail p⟩, h⟩
  · exact h
  · exact h
  obtain ⟨As, Aq, e, h⟩ := h; exact ⟨B :: As, Aq, by simp [e], h⟩

structure DS (C : Cx P) (l : List Oper) (m : Nat) (K : KP) (XT : List Nat) (E0 : Env) (H0 L : List HP) (plan : List Nd) (ls : Array Bool) (a : Act) (w : World) (p dn : List Nd) (pre : List SE) (A : List HP) (al : List AE) : Prop where
  chk : dtChk l (cloT l) m (plan.flatMap Nd.al) p dn = true
  dt : DT C l m K XT E0 H0 p dn pre A
  sub : ∀ n ∈ p, n ∈ plan
  exe : ∀ i, i < l.length → ls.getD i true = true → i ∈ dn.map Nd.ix ∨ i ∈ plan.flatMap Nd.al
  dnM : ∀ n ∈ dn, n.ix < m
  dnP : ∀ n ∈ dn, n ∈ plan
  preD : ∀ s ∈ pre, s.ix ∈ dn.map Nd.ix
  uniq : ∀ s ∈ pre, ∀ s' ∈ pre, s.ix = s'.ix → s = s'
  preO : ∀ s ∈ pre, ∃ o, l[s.ix]? = some o ∧ o.dst = some s.d ∧ s.ix < m
  val : ∀ s ∈ pre, ls.getD s.ix true = true → a.tmps[s.d]? = some s.v
  alO : ∀ x ∈ al, Nd.a x.k x.d x.z x.y ∈ plan ∧ x.k ∉ dn.map Nd.ix ∧ a.tmps[x.d]? = some (x.y x.b)
  alX : ∀ x ∈ al, ls.getD x.k true = true
  alC : ∀ k ∈ plan.flatMap Nd.al, k ∉ dn.map Nd.ix → ls.getD k true = true → ∃ x ∈ al, x.k = k
  pend : ∀ nd ∈ dn, ls.getD nd.ix true = false → Pd C l E0 H0 pre A nd
  mem : ∃ ds : List Nat, a.defers = ds.map mark ∧ Inv C.w0 C.M ((ds.map ptd ++ L) ++ (al.map AE.p ++ (A ++ H0))) w
  frN : a.tmps.size = C.N
  frE : ∀ t v, lk E0 t = some v → a.tmps[t]? = some v ∨ ∃ k o, l[k]? = some o ∧ k < m ∧ o.dst = some t ∧ ls.getD k true = true

def NF (ls : Array Bool) : List Nd → Prop
  | [] => True
  | .c _ _ :: _ => True
  | .s _ _ :: _ => True
  | .a k _ _ _ :: _ => ls.getD k true = false
  | _ :: _ => False

theorem al_mem {plan : List Nd} {k d : Nat} {z : Nat → HP} {y : Nat → Value} (h : Nd.a k d z y ∈ plan) : k ∈ plan.flatMap Nd.al := List.mem_flatMap.2 ⟨_, h, by simp [Nd.al]⟩
theorem mem_al {plan : List Nd} {k : Nat} (h : k ∈ plan.flatMap Nd.al) : ∃ d z y, Nd.a k d z y ∈ plan := by
  obtain ⟨n, hn, hk⟩ := List.mem_flatMap.1 h
  cases n <;> simp [Nd.al] at hk
  subst hk
  exact ⟨_, _, _, hn⟩

section norm
variable {l : List Oper} {m : Nat} {K : KP} {XT : List Nat} {E0 : Env} {H0 L : List HP} {plan : List Nd} {ls : Array Bool} {a : Act} {w : World}

theorem DS.quiet {nd : Nd} {p dn : List Nd} {pre : List SE} {A : List HP} {al : List AE} (h : DS C l m K XT E0 H0 L plan ls a w (nd :: p) dn pre A al) (hal : nd.ix ∉ plan.flatMap Nd.al) {o : Oper} {d : Nat} {v : Value}
    (ho : l[nd.ix]? = some o) (hd : o.dst = some d) (hm : nd.ix < m) (hn : nd.ix ∉ dn.map Nd.ix) (hc : dtChk l (cloT l) m (plan.flatMap Nd.al) p (nd :: dn) = true) (hdt : DT C l m K XT E0 H0 p (nd :: dn) (⟨nd.ix, d, v⟩ :: pre) A)
    (hp : Pd C l E0 H0 (⟨nd.ix, d, v⟩ :: pre) A nd) : DS C l m K XT E0 H0 L plan ls a w p (nd :: dn) (⟨nd.ix, d, v⟩ :: pre) A al := by
  have hlt : nd.ix < l.length := (List.getElem?_eq_some_iff.1 ho).1
  have hf : ls.getD nd.ix true = false := by
    cases hg : ls.getD nd.ix true with
    | false => rfl
    | true => rcases h.exe _ hlt hg with x | x; exact absurd x hn; exact absurd x hal
  refine ⟨hc, hdt, fun n hn' => h.sub n (by simp [hn']), fun i hi hi' => ?_, ?_, ?_, ?_, ?_, ?_, ?_, ?_, h.alX, ?_, ?_, h.mem, h.frN, h.frE⟩
  · rcases h.exe i hi hi' with x | x
    · exact .inl (by simp only [List.map_cons, List.mem_cons]; exact .inr x)
    exact .inr x
  · intro n hn'
    rcases List.mem_cons.1 hn' with rfl | hn'
    · exact hm
    exact h.dnM n hn'
  · intro n hn'
    rcases List.mem_cons.1 hn' with rfl | hn'
    · exact h.sub _ (by simp)
    exact h.dnP n hn'
  · intro s hs
    rcases List.mem_cons.1 hs with rfl | hs
    · simp
    simp only [List.map_cons, List.mem_cons]; exact .inr (h.preD s hs)
  · intro s hs s' hs' e
    rcases List.mem_cons.1 hs with rfl | hs <;> rcases List.mem_cons.1 hs' with rfl | hs'
    · rfl
    · exact absurd (by have := h.preD s' hs'; rw [← e] at this; exact this) hn
    · exact absurd (by have := h.preD s hs; rw [e] at this; exact this) hn
    exact h.uniq s hs s' hs' e
  · intro s hs
    rcases List.mem_cons.1 hs with rfl | hs
    · exact ⟨o, ho, hd, hm⟩
    exact h.preO s hs
  · intro s hs hl
    rcases List.mem_cons.1 hs with rfl | hs
    · rw [hf] at hl; cases hl
    exact h.val s hs hl
  · intro x hx
    obtain ⟨h1, h2, h3⟩ := h.alO x hx
    refine ⟨h1, ?_, h3⟩
    simp only [List.map_cons, List.mem_cons, not_or]
    exact ⟨fun e => hal (e ▸ al_mem h1), h2⟩
  · intro k hk hk' hl
    simp only [List.map_cons, List.mem_cons, not_or] at hk'
    exact h.alC k hk hk'.2 hl
  intro n hn' hl
  rcases List.mem_cons.1 hn' with rfl | hn'
  · exact hp
  exact (h.pend n hn' hl).more _

theorem DS.takeA {k d : Nat} {z : Nat → HP} {y : Nat → Value} {pre0 : List SE} {p dn : List Nd} {pre : List SE} {A : List HP} {al : List AE} (h : DS C l m K XT E0 H0 L plan ls a w (.a k d z y :: p) dn pre A al) (hdis : distinct (plan.map Nd.ix) = true) (hl : ls.getD k true = true)
    (hm : k < m) (hn : k ∉ dn.map Nd.ix) (hc : dtChk l (cloT l) m (plan.flatMap Nd.al) p (.a k d z y :: dn) = true) (hal : ALok C l pre0 plan) :
    ∃ pre' A' al', DS C l m K XT E0 H0 L plan ls a w p (.a k d z y :: dn) pre' A' al' ∧ ∀ s ∈ pre, s ∈ pre' := by
  have hpl : Nd.a k d z y ∈ plan := h.sub _ (by simp)
  obtain ⟨x, hx, hxk⟩ := h.alC k (al_mem hpl) hn hl
  obtain ⟨x1, x2, x3⟩ := h.alO x hx
  have e : Nd.a x.k x.d x.z x.y = .a k d z y := distinct_inj hdis x1 hpl (by simpa [Nd.ix] using hxk)
  simp only [Nd.a.injEq] at e
  obtain ⟨e1, e2, e3, e4⟩ := e
  obtain ⟨al1, al2, rfl⟩ := List.append_of_mem hx
  obtain ⟨o, ho, hd, _, _⟩ := hal.at hpl
  obtain ⟨ds, hds, hi⟩ := h.mem
  -- two of the same operation are one
  have hdup : ∀ y ∈ al1 ++ al2, y.k = k → ∃ s : Unit, True := fun _ _ _ => ⟨(), trivial⟩
  refine ⟨⟨k, d, y x.b⟩ :: pre, z x.b :: A, (al1 ++ al2).filter (fun y => !Nat.beq y.k k), ⟨hc, ?_, fun n hn' => h.sub n (by simp [hn']), fun i hi hi' => ?_, ?_, ?_, ?_, ?_, ?_, ?_, ?_, fun y hy => h.alX y (by rcases List.mem_append.1 (List.mem_filter.1 hy).1 with q | q <;> simp [q]), ?_, ?_, ⟨ds, hds, ?_⟩, h.frN, h.frE⟩, fun s hs => List.mem_cons_of_mem _ hs⟩
  · exact h.dt x.b
  · rcases h.exe i hi hi' with y | y
    · exact .inl (by simp only [List.map_cons, List.mem_cons]; exact .inr y)
    exact .inr y
  · intro n hn'
    rcases List.mem_cons.1 hn' with rfl | hn'
    · exact hm
    exact h.dnM n hn'
  · intro n hn'
    rcases List.mem_cons.1 hn' with rfl | hn'
    · exact h.sub _ (by simp)
    exact h.dnP n hn'
  · intro s hs
    rcases List.mem_cons.1 hs with rfl | hs
    · simp [Nd.ix]
    simp only [List.map_cons, List.mem_cons]; exact .inr (h.preD s hs)
  · intro s hs s' hs' e
    rcases List.mem_cons.1 hs with rfl | hs <;> rcases List.mem_cons.1 hs' with rfl | hs'
    · rfl
    · exact absurd (by have := h.preD s' hs'; rw [← e] at this; exact this) hn
    · exact absurd (by have := h.preD s hs; rw [e] at this; exact this) hn
    exact h.uniq s hs s' hs' e
  · intro s hs
    rcases List.mem_cons.1 hs with rfl | hs
    · exact ⟨o, ho, hd, hm⟩
    exact h.preO s hs
  · intro s hs hl'
    rcases List.mem_cons.1 hs with rfl | hs
    · rw [e2, e4] at x3; exact x3
    exact h.val s hs hl'
  · intro y hy
    obtain ⟨hy1, hy2⟩ := List.mem_filter.1 hy
    obtain ⟨h1, h2, h3⟩ := h.alO y (by rcases List.mem_append.1 hy1 with q | q <;> simp [q])
    refine ⟨h1, ?_, h3⟩
    simp only [List.map_cons, List.mem_cons, not_or]
    refine ⟨fun e => ?_, h2⟩
    simp only [Nd.ix] at e
    simp [e] at hy2
  · intro k' hk hk' hl'
    simp only [List.map_cons, List.mem_cons, not_or] at hk'
    obtain ⟨y, hy, hyk⟩ := h.alC k' hk hk'.2 hl'
    refine ⟨y, List.mem_filter.2 ⟨?_, ?_⟩, hyk⟩
    · rcases List.mem_append.1 hy with q | q
      · simp [q]
      rcases List.mem_cons.1 q with rfl | q
      · exact absurd (hyk.symm.trans e1) hk'.1
      simp [q]
    have : ¬ y.k = k := fun e => hk'.1 (hyk.symm.trans e)
    cases hb : Nat.beq y.k k with
    | false => rfl
    | true => exact absurd (Nat.eq_of_beq_eq_true hb) this
  · intro n hn' hl'
    rcases List.mem_cons.1 hn' with rfl | hn'
    · simp only [Nd.ix] at hl'; rw [hl] at hl'; cases hl'
    exact ((h.pend n hn' hl').more _).moreA _
  -- the memory
  refine hi.sub ?_
  refine Sub.app ?_ _
  have hxp : AE.p x = z x.b := by simp [AE.p, e3]
  have hs : ∀ (q : AE → Bool) (l1 : List AE) (R : List HP), Sub (l1.map AE.p ++ R) ((l1.filter q).map AE.p ++ R) := by
    intro q l1 R
    induction l1 with
    | nil => exact Sub.refl _
    | cons y l1 ih =>
      simp only [List.filter_cons]
      split
      · exact .cons .head ih
      exact Sub.tail ih
  have p1 : Sub (List.map AE.p (al1 ++ x :: al2) ++ (A ++ H0)) ((al1 ++ al2).map AE.p ++ (z x.b :: (A ++ H0))) := by
    have := Sub.rot (al1.map AE.p) [AE.p x] (al2.map AE.p ++ (A ++ H0))
    have q2 := Sub.rot [z x.b] ((al1 ++ al2).map AE.p) (A ++ H0)
    refine Sub.trans (H2 := [AE.p x] ++ (al1.map AE.p ++ (al2.map AE.p ++ (A ++ H0)))) ?_ ?_
    · simpa [List.append_assoc] using this
    rw [hxp]; simpa [List.append_assoc] using q2
  exact p1.trans (hs _ _ _)

theorem DS.norm (hdis : distinct (plan.map Nd.ix) = true) {pre0 : List SE} (hal : ALok C l pre0 plan) : ∀ {p dn : List Nd} {pre : List SE} {A : List HP} {al : List AE}, DS C l m K XT E0 H0 L plan ls a w p dn pre A al →
    ∃ p' dn' pre' A' al', DS C l m K XT E0 H0 L plan ls a w p' dn' pre' A' al' ∧ NF ls p' ∧ ∀ s ∈ pre, s ∈ pre' := by
  intro p
  induction p with
  | nil => exact fun h => ⟨_, _, _, _, _, h, trivial, fun _ h => h⟩
  | cons nd p ih =>
    intro dn pre A al h
    have hc := h.chk
    simp only [dtChk, Bool.and_eq_true, Bool.not_eq_true'] at hc
    obtain ⟨⟨⟨⟨c1, c2⟩, c3⟩, c4⟩, c5⟩ := hc
    have c1' : nd.ix ∉ dn.map Nd.ix := by simpa using c1
    have c2' := Nat.blt_eq.mp c2
    have more : ∀ {nd2 : Nd} {s0 : SE}, DS C l m K XT E0 H0 L plan ls a w p (nd2 :: dn) (s0 :: pre) A al → ∃ p' dn' pre' A' al', DS C l m K XT E0 H0 L plan ls a w p' dn' pre' A' al' ∧ NF ls p' ∧ ∀ s ∈ pre, s ∈ pre' := fun h2 => by
      obtain ⟨p2, dn2, pre2, A2, al2, g1, g2, g3⟩ := ih h2
      exact ⟨p2, dn2, pre2, A2, al2, g1, g2, fun s h => g3 s (List.mem_cons_of_mem _ h)⟩
    cases nd with
    | g k X Q =>
      obtain ⟨o, d, v, ho, hd, hN, hpk, hwo, hdt⟩ := h.dt
      refine more (h.quiet (by simpa using c4) ho hd c2' c1' c5 hdt ⟨hpk, o, d, v, _, ho, hd, hN, by simp [Nd.ix], hwo, fun t u hu => ?_⟩)
      rcases lk_selE hu with ⟨s, s1, s2⟩ | hu
      · exact .inl ⟨s, by simp [s1], s2⟩
      exact .inr hu
    | r k X =>
      obtain ⟨o, d, v, ho, hd, hN, hwo, hdt⟩ := h.dt
      refine more (h.quiet (by simpa using c4) ho hd c2' c1' c5 hdt ⟨o, d, v, _, ho, hd, hN, by simp [Nd.ix], hwo, fun t u hu => ?_⟩)
      rcases lk_selE hu with ⟨s, s1, s2⟩ | hu
      · exact .inl ⟨s, by simp [s1], s2⟩
      exact .inr hu
    | b k X =>
      obtain ⟨o, d, v, ho, hd, hN, hwo, hdt⟩ := h.dt
      refine more (h.quiet (by simpa using c4) ho hd c2' c1' c5 hdt ⟨o, d, v, _, ho, hd, hN, by simp [Nd.ix], hwo, fun t u hu => ?_⟩)
      rcases lk_selE hu with ⟨s, s1, s2⟩ | hu
      · exact .inl ⟨s, by simp [s1], s2⟩
      exact .inr hu
    | f k X =>
      obtain ⟨o, d, v, ho, hd, hN, hwo, hdt⟩ := h.dt
      refine more (h.quiet (by simpa using c4) ho hd c2' c1' c5 hdt ⟨[], A, rfl, o, d, v, _, ho, hd, hN, by simp [Nd.ix], hwo, fun t u hu => ?_⟩)
      rcases lk_selE hu with ⟨s, s1, s2⟩ | hu
      · exact .inl ⟨s, by simp [s1], s2⟩
      exact .inr hu
    | c k X => exact ⟨_, _, _, _, _, h, trivial, fun _ h => h⟩
    | s k X => exact ⟨_, _, _, _, _, h, trivial, fun _ h => h⟩
    | a k d z y =>
      cases hl : ls.getD k true with
      | false => exact ⟨_, _, _, _, _, h, hl, fun _ h => h⟩
      | true =>
        obtain ⟨pre', A', al', h', hs⟩ := h.takeA hdis hl c2' c1' c5 hal
        obtain ⟨p2, dn2, pre2, A2, al2, g1, g2, g3⟩ := ih h'
        exact ⟨p2, dn2, pre2, A2, al2, g1, g2, fun s h => g3 s (hs s h)⟩
end norm

theorem cloOk_at {l : List Oper} {T : List (List Nat)} (h : cloOk l T = true) {i : Nat} {o : Oper} (ho : l[i]? = some o) {j : Nat} (hj : j ∈ T.getD i []) : ∃ x ∈ afs o, x = j ∨ j ∈ T.getD x [] := by
  have := List.all_eq_true.1 h (o, i) (by rw [List.mem_zipIdx_iff_getElem?]; simpa using ho)
  have := List.all_eq_true.1 this j hj
  obtain ⟨x, hx, hx'⟩ := List.any_eq_true.1 this
  refine ⟨x, hx, ?_⟩
  rcases Bool.or_eq_true_iff.1 hx' with h | h
  · exact .inl (Nat.eq_of_beq_eq_true h)
  exact .inr (by simpa using h)

/-- the quiet ones that are taken first -/
def QB (C : Cx P) (l : List Oper) (m : Nat) (K : KP) (XT : List Nat) (E0 : Env) (H0 : List HP) (p plan : List Nd) : List Nd → List Nd → List SE → List HP → Prop
  | [], dn, pre, A => ALok C l pre plan ∧ DT C l m K XT E0 H0 p dn pre A
  | .r k X :: q, dn, pre, A => ∃ o d v, l[k]? = some o ∧ o.dst = some d ∧ Nat.blt d C.N = true ∧ WO C l.toArray [o] (fun E' H' => E' = (d, v) :: selE (afs o) (delE X E0) pre ∧ H' = []) (selE (afs o) (delE X E0) pre) [] ∧ QB C l m K XT E0 H0 p plan q (.r k X :: dn) (⟨k, d, v⟩ :: pre) A
  | .b k X :: q, dn, pre, A => ∃ o d v, l[k]? = some o ∧ o.dst = some d ∧ Nat.blt d C.N = true ∧ WO C l.toArray [o] (fun E' H' => E' = (d, v) :: selE (afs o) (delE X E0) pre ∧ H' = H0) (selE (afs o) (delE X E0) pre) H0 ∧ QB C l m K XT E0 H0 p plan q (.b k X :: dn) (⟨k, d, v⟩ :: pre) A
  | _ :: _, _, _, _ => False
theorem QB.al {l : List Oper} {m : Nat} {K : KP} {XT : List Nat} {E0 : Env} {H0 : List HP} {p plan : List Nd} : ∀ {q dn : List Nd} {pre : List SE} {A : List HP}, QB C l m K XT E0 H0 p plan q dn pre A → ∃ pre0, ALok C l pre0 plan
  | [], _, _, _, h => ⟨_, h.1⟩
  | .r _ _ :: _, _, _, _, ⟨_, _, _, _, _, _, _, h⟩ => QB.al h
  | .b _ _ :: _, _, _, _, ⟨_, _, _, _, _, _, _, h⟩ => QB.al h
  | .g _ _ _ :: _, _, _, _, h => h.elim
  | .f _ _ :: _, _, _, _, h => h.elim
  | .c _ _ :: _, _, _, _, h => h.elim
  | .s _ _ :: _, _, _, _, h => h.elim
  | .a _ _ _ _ :: _, _, _, _, h => h.elim
theorem QB.dt {l : List Oper} {m : Nat} {K : KP} {XT : List Nat} {E0 : Env} {H0 : List HP} {p plan : List Nd} : ∀ {q dn : List Nd} {pre : List SE} {A : List HP}, QB C l m K XT E0 H0 p plan q dn pre A → DT C l m K XT E0 H0 (q ++ p) dn pre A
  | [], _, _, _, h => h.2
  | .r _ _ :: _, _, _, _, ⟨o, d, v, h1, h2, h3, h4, h⟩ => ⟨o, d, v, h1, h2, h3, h4, QB.dt h⟩
  | .b _ _ :: _, _, _, _, ⟨o, d, v, h1, h2, h3, h4, h⟩ => ⟨o, d, v, h1, h2, h3, h4, QB.dt h⟩
  | .g _ _ _ :: _, _, _, _, h => h.elim
  | .f _ _ :: _, _, _, _, h => h.elim
  | .c _ _ :: _, _, _, _, h => h.elim
  | .s _ _ :: _, _, _, _, h => h.elim
  | .a _ _ _ _ :: _, _, _, _, h => h.elim
theorem QB.ds {l : List Oper} {m : Nat} {K : KP} {XT : List Nat} {E0 : Env} {H0 L : List HP} {p plan : List Nd} {ls : Array Bool} {a : Act} {w : World} {A : List HP} {al : List AE} : ∀ {q dn : List Nd} {pre : List SE}, QB C l m K XT E0 H0 p plan q dn pre A → DS C l m K XT E0 H0 L plan ls a w (q ++ p) dn pre A al → ∃ dn0 pre0, ALok C l pre0 plan ∧ DS C l m K XT E0 H0 L plan ls a w p dn0 pre0 A al
  | [], _, _, h, hd => ⟨_, _, h.1, hd⟩
  | .r k X :: q, dn, pre, ⟨o, d, v, h1, h2, h3, h4, h⟩, hD => by
    have hc := hD.chk
    simp only [List.cons_append, dtChk, Bool.and_eq_true, Bool.not_eq_true'] at hc
    obtain ⟨⟨⟨⟨c1, c2⟩, c3⟩, c4⟩, c5⟩ := hc
    refine QB.ds h (hD.quiet (by simpa using c4) h1 h2 (Nat.blt_eq.mp c2) (by simpa using c1) c5 (QB.dt h) ⟨o, d, v, _, h1, h2, h3, by simp [Nd.ix], h4, fun t u hu => ?_⟩)
    rcases lk_selE hu with ⟨s, s1, s2⟩ | hu
    · exact .inl ⟨s, by simp [s1], s2⟩
    exact .inr hu
  | .b k X :: q, dn, pre, ⟨o, d, v, h1, h2, h3, h4, h⟩, hD => by
    have hc := hD.chk
    simp only [List.cons_append, dtChk, Bool.and_eq_true, Bool.not_eq_true'] at hc
    obtain ⟨⟨⟨⟨c1, c2⟩, c3⟩, c4⟩, c5⟩ := hc
    refine QB.ds h (hD.quiet (by simpa using c4) h1 h2 (Nat.blt_eq.mp c2) (by simpa using c1) c5 (QB.dt h) ⟨o, d, v, _, h1, h2, h3, by simp [Nd.ix], h4, fun t u hu => ?_⟩)
    rcases lk_selE hu with ⟨s, s1, s2⟩ | hu
    · exact .inl ⟨s, by simp [s1], s2⟩
    exact .inr hu
  | .g _ _ _ :: _, _, _, h, _ => h.elim
  | .f _ _ :: _, _, _, h, _ => h.elim
  | .c _ _ :: _, _, _, h, _ => h.elim
  | .s _ _ :: _, _, _, h, _ => h.elim
  | .a _ _ _ _ :: _, _, _, h, _ => h.elim

theorem W.drawB {Q : Post} {id : Nat} {l : List Oper} (m : Nat) (q0 p0 : List Nd) (XT : List Nat) {A0 H0 : List HP} (hsub : Sub H (A0 ++ H0)) (hchk : drawDOk l m (q0 ++ p0) XT (E.map Prod.fst) = true) 
    (h : QB C l m (Q .normal) XT E H0 p0 (q0 ++ p0) q0 [] [] A0) : W C (.region id l.toArray true) Q E H := by
  obtain ⟨plan, hplan⟩ : ∃ pl, pl = q0 ++ p0 := ⟨_, rfl⟩
  rw [← hplan] at hchk h
  intro L ds a w hs
  refine wpIn_region_any C.mixed ?_
  simp only [drawDOk, Bool.and_eq_true] at hchk
  obtain ⟨⟨⟨⟨⟨⟨⟨⟨hxp, hxt⟩, hc1⟩, hc3⟩, hT⟩, hc2⟩, hALm⟩, hdis⟩, hdt⟩ := hchk
  have hc1 : ∀ i o, l[i]? = some o → ∀ j ∈ afs o, j < i := by
    intro i o hi j hj
    have := List.all_eq_true.1 hc1 (o, i) (by rw [List.mem_zipIdx_iff_getElem?]; simpa using hi)
    have := List.all_eq_true.1 this j hj
    exact Nat.blt_eq.mp this
  have hc2 : ∀ i, m ≤ i → i < l.length → ∀ j, j < i → j ∈ (cloT l).getD i [] := by
    intro i hm hi j hj
    have hmem : (l[i], i) ∈ l.zipIdx.drop m := by
      refine List.mem_iff_getElem?.2 ⟨i - m, ?_⟩
      rw [List.getElem?_drop]
      have : m + (i - m) = i := by omega
      rw [this]; simp [hi]
    have := List.all_eq_true.1 hc2 (l[i], i) hmem
    have := List.all_eq_true.1 this j (by simpa using hj)
    simpa using this
  have hc3 : ∀ i j o o', i < m → j < m → l[i]? = some o → l[j]? = some o' → i ≠ j → o.dst.isNone = false → o.dst ≠ o'.dst := by
    intro i j o o' him hjm hi hj hne hnn
    have m1 : (o, i) ∈ (l.take m).zipIdx := by rw [List.mem_zipIdx_iff_getElem?]; simp [List.getElem?_take, him, hi]
    have m2 : (o', j) ∈ (l.take m).zipIdx := by rw [List.mem_zipIdx_iff_getElem?]; simp [List.getElem?_take, hjm, hj]
    have := List.all_eq_true.1 hc3 (o, i) m1
    have := List.all_eq_true.1 this (o', j) m2
    simp only [hnn, Bool.or_false, Bool.or_eq_true, beq_iff_eq, bne_iff_ne, hne, false_or] at this
    exact this
  have hALm : ∀ k ∈ plan.flatMap Nd.al, k < m := fun k hk => Nat.blt_eq.mp (List.all_eq_true.1 hALm k hk)
  have hn : l.toArray.size = l.length := by simp
  -- what is behind a done operation is done
  have clo : ∀ (ls : Array Bool), (∀ i o, l[i]? = some o → ls.getD i true = true → ∀ j ∈ afs o, ls.getD j true = true) → ∀ i o, l[i]? = some o → (∀ j ∈ afs o, ls.getD j true = true) → ∀ j ∈ (cloT l).getD i [], ls.getD j true = true := by
    intro ls hd i
    induction i using Nat.strongRecOn with
    | _ i ih =>
      intro o ho ha j hj
      obtain ⟨x, hx, hx'⟩ := cloOk_at hT ho hj
      rcases hx' with rfl | hx'
      · exact ha _ hx
      have hlt := hc1 i o ho x hx
      have hxl : x < l.length := by have := (List.getElem?_eq_some_iff.1 ho).1; omega
      exact ih x hlt l[x] (by simp [hxl]) (hd x l[x] (by simp [hxl]) (ha x hx)) j hx'
  have hkey : ∀ t v, lk E t = some v → t ∈ E.map Prod.fst := by
    intro t v
    generalize E = F
    induction F with
    | nil => intro h; simp [lk] at h
    | cons x r ih =>
      obtain ⟨k, u⟩ := x
      intro h
      simp only [lk] at h
      cases hb : Nat.beq k t with
      | true => have := Nat.eq_of_beq_eq_true hb; simp [this]
      | false => rw [hb] at h; simp only [List.map_cons, List.mem_cons]; exact .inr (ih h)
  -- what a node looks at is not yet written
  have hX : ∀ n ∈ plan, ∀ (ls : Array Bool) (a : Act), (∀ i o, l[i]? = some o → ls.getD i true = true → ∀ j ∈ afs o, ls.getD j true = true) → ls.getD n.ix true = false →
      (∀ t v, lk E t = some v → a.tmps[t]? = some v ∨ ∃ k o, l[k]? = some o ∧ k < m ∧ o.dst = some t ∧ ls.getD k true = true) → ∀ t u, lk (delE n.X E) t = some u → a.tmps[t]? = some u := by
    intro n hn ls a hcl hl hfr t u hu
    obtain ⟨h1, h2⟩ := lk_delE hu
    rcases hfr t u h1 with h | ⟨k, o, ho, hk, hd, hlk⟩
    · exact h
    exfalso
    have := List.all_eq_true.1 hxp n hn
    have := List.all_eq_true.1 this (o, k) (by rw [List.mem_zipIdx_iff_getElem?]; simp [List.getElem?_take, hk, ho])
    simp only [hd, Bool.or_eq_true, Bool.not_eq_true'] at this
    rcases this with h | h | h
    · have := clo ls hcl k o ho (hcl k o ho hlk) n.ix (by simpa using h)
      rw [hl] at this; cases this
    · exact h2 (by simpa using h)
    exact absurd (hkey t u h1) (by simpa using h)
  have hXT : ∀ (ls : Array Bool) (a : Act), (∀ t v, lk E t = some v → a.tmps[t]? = some v ∨ ∃ k o, l[k]? = some o ∧ k < m ∧ o.dst = some t ∧ ls.getD k true = true) → ∀ t u, lk (delE XT E) t = some u → a.tmps[t]? = some u := by
    intro ls a hfr t u hu
    obtain ⟨h1, h2⟩ := lk_delE hu
    rcases hfr t u h1 with h | ⟨k, o, ho, hk, hd, hlk⟩
    · exact h
    exfalso
    have := List.all_eq_true.1 hxt o (List.mem_iff_getElem?.2 ⟨k, by rw [List.getElem?_take]; simp [hk, ho]⟩)
    simp only [hd, Bool.or_eq_true, Bool.not_eq_true'] at this
    rcases this with h | h
    · exact h2 (by simpa using h)
    exact absurd (hkey t u h1) (by simpa using h)
  let Q' : Exit → Act → World → Prop := fun e a' w' => ∃ ds' E' H', Q e E' H' ∧ St C L ds' E' H' a' w'
  -- the tail, one behind the other
  have tailQ : ∀ pre A a w, WO C l.toArray (l.drop m) (Q .normal) (allE (delE XT E) pre) (A ++ H0) → (∃ ds, St C L ds (allE (delE XT E) pre) (A ++ H0) a w) → wpListIn C.F 0 P l.toArray Q' (l.drop m) a w := by
    rintro pre A a w ht ⟨ds, hst⟩
    have := ht L ds a w hst
    have key : ∀ (k : List Oper) a w, wpListIn C.F 0 P l.toArray (fun e a' w' => ∃ ds' E' H', thn (Q .normal) (fun _ _ _ => False) e E' H' ∧ St C L ds' E' H' a' w') k a w → wpListIn C.F 0 P l.toArray Q' k a w := by
      intro k
      have hQ : ∀ e a' w', (∃ ds' E' H', thn (Q .normal) (fun _ _ _ => False) e E' H' ∧ St C L ds' E' H' a' w') → Q' e a' w' := by
        rintro e a' w' ⟨ds', E', H', q, s⟩
        cases e <;> first | exact ⟨ds', E', H', q, s⟩ | exact q.elim
      induction k with
      | nil => exact fun a w h => hQ _ _ _ h
      | cons o k ih =>
        intro a w h
        simp only [wpListIn] at h ⊢
        split
        · rename_i hw; rw [if_pos hw] at h; exact Oper.wpIn_mono2 (fun a w => ih a w) (fun e a w _ => hQ e a w) h
        rename_i hw; rw [if_neg hw] at h; exact ⟨h.1, ih _ _ h.2⟩
    exact key _ a w this
  have hlist : ∀ i o a w, l[i]? = some o → wpListIn C.F 0 P l.toArray Q' (l.drop i) a w → wpOpIn C.F 0 P l.toArray Q' i (wpListIn C.F 0 P l.toArray Q' (l.drop (i + 1))) a w := by
    intro i o a w hi h
    have hd : l.drop i = o :: l.drop (i + 1) := by
      obtain ⟨hlt, rfl⟩ := List.getElem?_eq_some_iff.1 hi
      exact List.drop_eq_getElem_cons hlt
    rw [hd] at h
    simp only [wpListIn] at h
    simp only [wpOpIn, List.getElem?_toArray, hi]
    exact h
  -- one operation out of its own law
  have hone : ∀ i o Ls ds Eq Hq (K : KP) (R : Act → World → Prop) a w, l[i]? = some o → WO C l.toArray [o] K Eq Hq → St C Ls ds Eq Hq a w →
      (∀ ds' E' H' a' w', K E' H' → St C Ls ds' E' H' a' w' → (∃ u, a'.tmps = (a.put o.dst u).tmps) → R a' w') → wpOpIn C.F 0 P l.toArray Q' i R a w := by
    intro i o Ls ds Eq Hq K R a w ho hwo hst hR
    have hw := hwo Ls ds a w hst
    simp only [wpListIn] at hw
    simp only [wpOpIn, List.getElem?_toArray, ho]
    split
    · rename_i hwant
      rw [if_pos hwant] at hw
      refine Oper.wpIn_mono2 (fun a' w' h => ?_) (fun e a' w' hne h => ?_) (wpIn_put hw)
      · obtain ⟨⟨ds', E', H', q, s⟩, hu⟩ := h
        exact hR ds' E' H' a' w' q s hu
      obtain ⟨ds', E', H', q, s⟩ := h
      cases e <;> first | exact q.elim | exact absurd rfl hne
    rename_i hwant
    rw [if_neg hwant] at hw
    obtain ⟨hab, ds', E', H', q, s⟩ := hw
    exact ⟨hab, hR ds' E' H' _ w q s ⟨undef, rfl⟩⟩
  let S : Array Bool → Act → World → Prop := fun ls a w =>
    (∃ p dn pre A al pre0, DS C l m (Q .normal) XT E H0 L plan ls a w p dn pre A al ∧ NF ls p ∧ ALok C l pre0 plan ∧ ∀ s ∈ pre0, s ∈ pre) ∨
    (∃ t, m < t ∧ (∀ i, i < l.length → ls.getD i true = Nat.blt i t) ∧ wpListIn C.F 0 P l.toArray Q' (l.drop t) a w)
  have main : ∀ (fuel : Nat) (ls : Array Bool) (a : Act) (w : World), ls.size = l.length → ls.toList.count false ≤ fuel → (∀ i o, l[i]? = some o → ls.getD i true = true → ∀ j ∈ afs o, ls.getD j true = true) →
      S ls a w → wpAnyIn C.F 0 P .any l.toArray Q' fuel ls a w := by
    intro fuel
    -- no operation is ready: all are listed
    have allDone : ∀ (ls : Array Bool), ls.size = l.length → Region.ready .any l.toArray ls = [] → ∀ i, i < l.length → ls.getD i true = true := by
      intro ls hsz hr i
      induction i using Nat.strongRecOn with
      | _ i ih =>
        intro hi
        cases hg : ls.getD i true with
        | true => rfl
        | false =>
          exfalso
          have : i ∈ Region.ready .any l.toArray ls := by
            refine mem_ready.2 ⟨hg, l[i], by simp [hi], fun e he hb => ?_⟩
            have hlt : e.on < i := hc1 i l[i] (by simp [hi]) _ (by
              simp only [afs, List.mem_filterMap]
              exact ⟨e, by simpa using he, by simp [hb]⟩)
            have := ih e.on hlt (by omega)
            have hs' : e.on < ls.size := by omega
            simp only [Array.getD_eq_getD_getElem?, Array.getElem?_eq_getElem hs', Option.getD_some] at this ⊢
            exact this
          rw [hr] at this
          cases this
    -- where the plan is at its end, and all of the first are done
    have toTail : ∀ ls a w dn pre A al, DS C l m (Q .normal) XT E H0 L plan ls a w [] dn pre A al → (∀ i, i < m → i < l.length → ls.getD i true = true) → wpListIn C.F 0 P l.toArray Q' (l.drop m) a w := by
      intro ls a w dn pre A al hD hall
      have hck := hD.chk
      simp only [dtChk] at hck
      have hin : ∀ i, i < m → i ∈ dn.map Nd.ix := fun i hi => by
        have := List.all_eq_true.1 hck i (by simpa using hi)
        simpa using this
      have hal0 : al = [] := by
        cases al with
        | nil => rfl
        | cons x al =>
          obtain ⟨h1, h2, _⟩ := hD.alO x (by simp)
          exact absurd (hin _ (hALm _ (al_mem h1))) h2
      obtain ⟨ds, hds, hi⟩ := hD.mem
      refine tailQ pre A a w hD.dt ⟨ds, hds, ⟨hD.frN, fun t u hu => ?_⟩, by rw [hal0] at hi; simpa using hi⟩
      rcases lk_allE hu with ⟨s, hs1, rfl, rfl⟩ | hu
      · obtain ⟨o, ho, _, hm⟩ := hD.preO s hs1
        exact hD.val s hs1 (hall _ hm (List.getElem?_eq_some_iff.1 ho).1)
      exact hXT ls a hD.frE t u hu
    have finish : ∀ (ls : Array Bool) a w, ls.size = l.length → Region.ready .any l.toArray ls = [] → S ls a w → Q' .normal a w := by
      intro ls a w hsz hr hS
      have hall := allDone ls hsz hr
      rcases hS with ⟨p, dn, pre, A, al, pre0, hD, hN, hal, hp0⟩ | ⟨t, h1, h2, h3⟩
      · have hck := hD.chk
        cases p with
        | nil =>
          have hm : l.length ≤ m := by
            rcases Nat.lt_or_ge m l.length with h | h
            · simp only [dtChk] at hck
              rcases hD.exe m h (hall m h) with x | x
              · obtain ⟨n, hn1, hn2⟩ := List.mem_map.1 x
                have := hD.dnM n hn1
                omega
              exact absurd (hALm _ x) (by omega)
            exact h
          have := toTail ls a w dn pre A al hD (fun i _ hi => hall i hi)
          rw [List.drop_eq_nil_of_le hm] at this; exact this
        | cons nd p =>
          simp only [dtChk, Bool.and_eq_true, Bool.not_eq_true'] at hck
          obtain ⟨⟨⟨⟨c1, c2⟩, c3⟩, c4⟩, c5⟩ := hck
          have c3' := Nat.blt_eq.mp c3
          cases nd <;> simp only [NF] at hN
          case c k X =>
            simp only [Bool.and_eq_true, Bool.not_eq_true'] at c4
            rcases hD.exe k c3' (hall k c3') with x | x
            · exact absurd x (by simpa [Nd.ix] using c1)
            exact absurd x (by simpa using c4.1.1)
          case s k X =>
            simp only [Bool.and_eq_true, Bool.not_eq_true'] at c4
            rcases hD.exe k c3' (hall k c3') with x | x
            · exact absurd x (by simpa [Nd.ix] using c1)
            exact absurd x (by simpa using c4.1.1)
          case a k d z y =>
            have := hall k c3'
            rw [hN] at this; cases this
      have : l.length ≤ t := by
        rcases Nat.lt_or_ge t l.length with h | h
        · have e1 := h2 t h
          rw [hall t h] at e1
          have := Nat.blt_eq.mp e1.symm
          omega
        exact h
      rw [List.drop_eq_nil_of_le this] at h3; exact h3
    induction fuel with
    | zero =>
      intro ls a w hsz hcnt hcl hS
      have hr : Region.ready .any l.toArray ls = [] := by
        cases hr : Region.ready .any l.toArray ls with
        | nil => rfl
        | cons i r =>
          have hi : i ∈ Region.ready .any l.toArray ls := by rw [hr]; simp
          obtain ⟨h1, o, h2, _⟩ := mem_ready.1 hi
          have hlt : i < ls.size := by
            rw [hsz]; have := (Array.getElem?_eq_some_iff.1 h2).1; simpa using this
          have : false ∈ ls.toList := by
            have e : ls[i]? = some false := by
              simp only [Array.getD_eq_getD_getElem?, Array.getElem?_eq_getElem hlt, Option.getD_some] at h1
              rw [Array.getElem?_eq_getElem hlt, h1]
            exact Array.mem_toList_iff.2 (Array.mem_of_getElem? e)
          have := List.count_pos_iff.2 this
          omega
      exact ⟨hr, finish ls a w hsz hr hS⟩
    | succ fuel ih =>
      intro ls a w hsz hcnt hcl hS
      refine ⟨fun hr => finish ls a w hsz hr hS, fun i hi => ?_⟩
      obtain ⟨h1, o, ho, haf⟩ := mem_ready.1 hi
      have ho' : l[i]? = some o := by simpa using ho
      have hil : i < l.length := (List.getElem?_eq_some_iff.1 ho').1
      have his : i < ls.size := by omega
      have hcnt' : (ls.setIfInBounds i true).toList.count false ≤ fuel := by
        have e : ls.toList[i]? = some false := by
          simp only [Array.getD_eq_getD_getElem?, Array.getElem?_eq_getElem his, Option.getD_some] at h1
          simp [his, h1]
        have := count_set ls.toList i e
        rw [Array.toList_setIfInBounds]
        omega
      have hsz' : (ls.setIfInBounds i true).size = l.length := by simp [hsz]
      have hbefore : ∀ j, j ∈ afs o → ls.getD j true = true := by
        intro j hj
        simp only [afs, List.mem_filterMap] at hj
        obtain ⟨e, he, hb⟩ := hj
        split at hb
        · rename_i hb'
          simp at hb
          subst hb
          have hh := haf e (by simpa using he) hb'
          have hlt : e.on < ls.size := by
            have := hc1 i o ho' e.on (by simp only [afs, List.mem_filterMap]; exact ⟨e, he, by simp [hb']⟩)
            omega
          simp only [Array.getD_eq_getD_getElem?, Array.getElem?_eq_getElem hlt, Option.getD_some] at hh ⊢
          exact hh
        cases hb
      have hset : ∀ j, j ≠ i → (ls.setIfInBounds i true).getD j true = ls.getD j true := by
        intro j hj
        rw [getD_set ls i j his]
        have : (i == j) = false := by simp; omega
        rw [this]; simp
      have hseti : (ls.setIfInBounds i true).getD i true = true := by rw [getD_set ls i i his]; simp
      have hcl' : ∀ i' o', l[i']? = some o' → (ls.setIfInBounds i true).getD i' true = true → ∀ j ∈ afs o', (ls.setIfInBounds i true).getD j true = true := by
        intro i' o' ho2 hl' j hj
        by_cases ej : j = i
        · rw [ej]; exact hseti
        rw [hset j ej]
        by_cases ei : i' = i
        · subst ei
          rw [ho'] at ho2
          obtain rfl : o = o' := by simpa using ho2
          exact hbefore j hj
        exact hcl i' o' ho2 (by rw [← hset i' ei]; exact hl') j hj
      have hT' : ∀ j ∈ (cloT l).getD i [], ls.getD j true = true := clo ls hcl i o ho' hbefore
      -- the tail's step
      have tailStep : ∀ a w, (∀ j, j < i → ls.getD j true = true) → m ≤ i → (∀ j, i ≤ j → j < l.length → ls.getD j true = false) → wpListIn C.F 0 P l.toArray Q' (l.drop i) a w →
          wpOpIn C.F 0 P l.toArray Q' i (wpAnyIn C.F 0 P .any l.toArray Q' fuel (ls.setIfInBounds i true)) a w := by
        intro a w hlo hm hhi hw
        refine wpOpIn_mono (fun a' w' h' => ih _ a' w' hsz' hcnt' hcl' (.inr ⟨i + 1, by omega, fun j hj => ?_, h'⟩)) (hlist i o a w ho' hw)
        rw [getD_set ls i j his]
        rcases Nat.lt_trichotomy j i with h | h | h
        · rw [hlo j h]; have : Nat.blt j (i + 1) = true := Nat.blt_eq.mpr (by omega)
          rw [this]; rfl
        · subst h; have : Nat.blt j (j + 1) = true := Nat.blt_eq.mpr (by omega)
          rw [this]; simp
        rw [hhi j (by omega) hj]
        have e1 : (i == j) = false := by simp; omega
        have e2 : Nat.blt j (i + 1) = false := by
          cases hb : Nat.blt j (i + 1) with
          | false => rfl
          | true => have := Nat.blt_eq.mp hb; omega
        rw [e1, e2]; rfl
      have go : ∀ a' w' p dn pre A al pre0, ALok C l pre0 plan → (∀ s ∈ pre0, s ∈ pre) → DS C l m (Q .normal) XT E H0 L plan (ls.setIfInBounds i true) a' w' p dn pre A al → wpAnyIn C.F 0 P .any l.toArray Q' fuel (ls.setIfInBounds i true) a' w' := by
        intro a' w' p dn pre A al pre0 hal hp0 hD
        obtain ⟨p', dn', pre', A', al', hD', hN', hs'⟩ := hD.norm hdis hal
        exact ih _ a' w' hsz' hcnt' hcl' (.inl ⟨p', dn', pre', A', al', pre0, hD', hN', hal, fun s h => hs' s (hp0 s h)⟩)
      rcases hS with ⟨p, dn, pre, A, al, pre0, hD, hN, hal, hp0⟩ | ⟨t, g1, g2, g3⟩
      · obtain ⟨ds0, hds, hmem⟩ := hD.mem
        have ixM : ∀ j ∈ dn.map Nd.ix, j < m := fun j hj => by
          obtain ⟨n, hn1, rfl⟩ := List.mem_map.1 hj
          exact hD.dnM n hn1
        -- the slot of i is no other's
        have keepS : ∀ (d : Nat) (a' : Act) (u : Value), i < m → o.dst = some d → a'.tmps = (a.put o.dst u).tmps →
            (∀ t, t ≠ d → a'.tmps[t]? = a.tmps[t]?) ∧ (∀ s ∈ pre, s.ix ≠ i → s.d ≠ d) ∧ (∀ x ∈ al, x.k ≠ i → x.d ≠ d) := by
          intro d a' u him hd hu
          refine ⟨fun t ht => ?_, fun s hs hne e => ?_, fun x hx hne e => ?_⟩
          · rw [hu, hd]; simp [Act.put, Array.getElem?_setIfInBounds_ne (Ne.symm ht)]
          · obtain ⟨o2, ho2, hd2, hm2⟩ := hD.preO s hs
            exact hc3 s.ix i o2 o hm2 him ho2 ho' hne (by rw [hd2]; rfl) (by rw [hd2, hd, e])
          obtain ⟨x1, _, _⟩ := hD.alO x hx
          obtain ⟨o2, ho2, hd2, _, _⟩ := hal.at x1
          exact hc3 x.k i o2 o (hALm _ (al_mem x1)) him ho2 ho' hne (by rw [hd2]; rfl) (by rw [hd2, hd, e])
        have frNext : ∀ (d : Nat) (a' : Act), i < m → o.dst = some d → (∀ t, t ≠ d → a'.tmps[t]? = a.tmps[t]?) → ∀ t v, lk E t = some v → a'.tmps[t]? = some v ∨ ∃ k o, l[k]? = some o ∧ k < m ∧ o.dst = some t ∧ (ls.setIfInBounds i true).getD k true = true := by
          intro d a' him hd hk t v hv
          by_cases e : t = d
          · exact .inr ⟨i, o, ho', him, by rw [hd, e], hseti⟩
          rcases hD.frE t v hv with h | ⟨k, o2, g1, g2, g3, g4⟩
          · exact .inl (by rw [hk t e]; exact h)
          refine .inr ⟨k, o2, g1, g2, g3, ?_⟩
          by_cases e2 : k = i
          · rw [e2]; exact hseti
          rw [hset k e2]; exact g4
        by_cases hid : i ∈ dn.map Nd.ix
        · -- one that was told
          have him := ixM i hid
          obtain ⟨nd, hnd, hix⟩ := List.mem_map.1 hid
          have hp := hD.pend nd hnd (by rw [hix]; exact h1)
          have runQ : ∀ (X : List Nat) (Hq B : List HP), PQ C l E pre i X Hq → (∀ t u, lk (delE X E) t = some u → a.tmps[t]? = some u) → (al.map AE.p ++ (A ++ H0)).Perm (B ++ Hq) → wpOpIn C.F 0 P l.toArray Q' i (wpAnyIn C.F 0 P .any l.toArray Q' fuel (ls.setIfInBounds i true)) a w := by
            intro X Hq B hpq hXn hB
            obtain ⟨o', d, v, Eq, q1, q2, q3, q4, q5, q6⟩ := hpq
            rw [ho'] at q1
            obtain rfl : o = o' := by simpa using q1
            refine hone i o (L ++ B) ds0 Eq Hq _ _ a w ho' q5 ⟨hds, ⟨hD.frN, fun t u hu => ?_⟩, ?_⟩ ?_
            · rcases q6 t u hu with ⟨s, s1, s2, s3, s4⟩ | hu
              · rw [← s3, ← s4]; exact hD.val s s1 (hbefore _ s2)
              exact hXn t u hu
            · have hm2 := hmem.perm (hB.append_left _)
              simpa [List.append_assoc] using hm2
            rintro ds' E' H' a' w' ⟨rfl, rfl⟩ hst ⟨u, hu⟩
            obtain ⟨k1, k2, k3⟩ := keepS d a' u him q2 hu
            refine go a' w' p dn pre A al pre0 hal hp0 ⟨hD.chk, hD.dt, hD.sub, fun j hj hl' => ?_, hD.dnM, hD.dnP, hD.preD, hD.uniq, hD.preO, fun s hs hl' => ?_, fun x hx => ?_, fun x hx => ?_, fun k hk hk' hl' => ?_, fun n hn' hl' => ?_, ⟨ds', hst.defers, ?_⟩, hst.fr.size, frNext d a' him q2 k1⟩
            · by_cases e : j = i
              · exact .inl (e ▸ hid)
              exact hD.exe j hj (by rw [← hset j e]; exact hl')
            · by_cases e : s.ix = i
              · have := hD.uniq s hs ⟨i, d, v⟩ q4 e
                rw [this]
                exact hst.fr.get d v (by simp [lk])
              rw [k1 _ (k2 s hs e)]; exact hD.val s hs (by rw [← hset _ e]; exact hl')
            · obtain ⟨x1, x2, x3⟩ := hD.alO x hx
              refine ⟨x1, x2, ?_⟩
              rw [k1 _ (k3 x hx (fun e => x2 (e ▸ hid)))]; exact x3
            · by_cases e : x.k = i
              · rw [e]; exact hseti
              rw [hset _ e]; exact hD.alX x hx
            · exact hD.alC k hk hk' (by rw [← hset k (fun e => hk' (e ▸ hid))]; exact hl')
            · have : n.ix ≠ i := fun e => by rw [e, hseti] at hl'; cases hl'
              exact hD.pend n hn' (by rw [← hset _ this]; exact hl')
            exact Inv.perm (by have := hst.inv; simpa [List.append_assoc] using this) (hB.symm.append_left (ds'.map ptd ++ L))
          cases nd with
          | g k X Q =>
            simp only [Nd.ix] at hix; subst hix
            obtain ⟨⟨R, pk⟩, hp⟩ := hp
            refine runQ X [Q] (al.map AE.p ++ R) hp (hX _ (hD.dnP _ hnd) ls a hcl h1 hD.frE) ?_
            rw [List.append_assoc]
            exact (pk.perm.trans (List.perm_append_comm (l₁ := [Q]) (l₂ := R))).append_left _
          | r k X => simp only [Nd.ix] at hix; subst hix; exact runQ X [] (al.map AE.p ++ (A ++ H0)) hp (hX _ (hD.dnP _ hnd) ls a hcl h1 hD.frE) (by simp)
          | b k X => simp only [Nd.ix] at hix; subst hix; exact runQ X H0 (al.map AE.p ++ A) hp (hX _ (hD.dnP _ hnd) ls a hcl h1 hD.frE) (by simp)
          | f k X =>
            simp only [Nd.ix] at hix; subst hix
            obtain ⟨As, Aq, e, hp⟩ := hp
            exact runQ X (Aq ++ H0) (al.map AE.p ++ As) hp (hX _ (hD.dnP _ hnd) ls a hcl h1 hD.frE) (by simp [e])
          | c k X => exact hp.elim
          | s k X => exact hp.elim
          | a k d z y => exact hp.elim
        by_cases hia : i ∈ plan.flatMap Nd.al
        · -- a variable is made
          have him := hALm i hia
          obtain ⟨d, z, y, hpl⟩ := mem_al hia
          obtain ⟨o', q1, q2, q3, q4⟩ := hal.at hpl
          rw [ho'] at q1
          obtain rfl : o = o' := by simpa using q1
          refine hone i o (L ++ (al.map AE.p ++ (A ++ H0))) ds0 (selE (afs o) [] pre0) [] _ _ a w ho' q4 ⟨hds, ⟨hD.frN, fun t u hu => ?_⟩, by simpa [List.append_assoc] using hmem⟩ ?_
          · rcases lk_selE hu with ⟨s, s1, s2, s3, s4⟩ | hu
            · rw [← s3, ← s4]; exact hD.val s (hp0 s s1) (hbefore _ s2)
            simp [lk] at hu
          rintro ds' E' H' a' w' ⟨b, rfl, rfl⟩ hst ⟨u, hu⟩
          obtain ⟨k1, k2, k3⟩ := keepS d a' u him q2 hu
          refine go a' w' p dn pre A (⟨i, d, b, z, y⟩ :: al) pre0 hal hp0 ⟨hD.chk, hD.dt, hD.sub, fun j hj hl' => ?_, hD.dnM, hD.dnP, hD.preD, hD.uniq, hD.preO, fun s hs hl' => ?_, fun x hx => ?_, fun x hx => ?_, fun k hk hk' hl' => ?_, fun n hn' hl' => ?_, ⟨ds', hst.defers, ?_⟩, hst.fr.size, frNext d a' him q2 k1⟩
          · by_cases e : j = i
            · exact .inr (e ▸ hia)
            exact hD.exe j hj (by rw [← hset j e]; exact hl')
          · have e : s.ix ≠ i := fun e => hid (e ▸ hD.preD s hs)
            rw [k1 _ (k2 s hs e)]; exact hD.val s hs (by rw [← hset _ e]; exact hl')
          · rcases List.mem_cons.1 hx with rfl | hx
            · exact ⟨hpl, hid, hst.fr.get d _ (by simp [lk])⟩
            obtain ⟨x1, x2, x3⟩ := hD.alO x hx
            refine ⟨x1, x2, ?_⟩
            have e : x.k ≠ i := fun e => by have := hD.alX x hx; rw [e, h1] at this; cases this
            rw [k1 _ (k3 x hx e)]; exact x3
          · by_cases e : x.k = i
            · rw [e]; exact hseti
            rcases List.mem_cons.1 hx with rfl | hx
            · exact absurd rfl e
            rw [hset _ e]; exact hD.alX x hx
          · by_cases e : k = i
            · exact ⟨⟨i, d, b, z, y⟩, by simp, e.symm⟩
            obtain ⟨x, hx, hxk⟩ := hD.alC k hk hk' (by rw [← hset k e]; exact hl')
            exact ⟨x, by simp [hx], hxk⟩
          · have : n.ix ≠ i := fun e => by rw [e, hseti] at hl'; cases hl'
            exact hD.pend n hn' (by rw [← hset _ this]; exact hl')
          have := hst.inv
          refine this.perm ?_
          have e : List.map AE.p (⟨i, d, b, z, y⟩ :: al) = z b :: al.map AE.p := rfl
          rw [e]
          have := List.perm_append_comm (l₁ := al.map AE.p ++ (A ++ H0)) (l₂ := [z b])
          have := List.Perm.append_left (ds'.map ptd ++ L) this
          simpa [List.append_assoc] using this
        -- what the plan waits for
        have hexe : ∀ x ∈ afs o, x ∈ dn.map Nd.ix ∨ x ∈ plan.flatMap Nd.al := fun x hx => hD.exe x (by have := hc1 i o ho' x hx; omega) (hbefore x hx)
        have hck := hD.chk
        cases p with
        | nil =>
          simp only [dtChk] at hck
          have hin : ∀ j, j < m → j ∈ dn.map Nd.ix := fun j hj => by
            have := List.all_eq_true.1 hck j (by simpa using hj)
            simpa using this
          have him : m ≤ i := by
            rcases Nat.lt_or_ge i m with h | h
            · exact absurd (hin i h) hid
            exact h
          have hlo : ∀ j, j < i → ls.getD j true = true := fun j hj => hT' j (hc2 i him hil j hj)
          have hno : ∀ j, m ≤ j → j < l.length → ls.getD j true = false := by
            intro j hj hjl
            cases hg : ls.getD j true with
            | false => rfl
            | true =>
              rcases hD.exe j hjl hg with x | x
              · have := ixM j x; omega
              have := hALm j x; omega
          have e : i = m := by
            rcases Nat.lt_or_ge m i with h | h
            · have e1 := hno m (Nat.le_refl _) (by omega)
              rw [hlo m h] at e1; cases e1
            omega
          subst e
          exact tailStep a w hlo (Nat.le_refl _) (fun j hj1 hj2 => hno j hj1 hj2) (toTail ls a w dn pre A al hD (fun j hj _ => hlo j hj))
        | cons nd p =>
          simp only [dtChk, Bool.and_eq_true, Bool.not_eq_true'] at hck
          obtain ⟨⟨⟨⟨c1, c2⟩, c3⟩, c4⟩, c5⟩ := hck
          cases nd <;> simp only [NF] at hN
          case c k X =>
            simp only [Bool.and_eq_true, Bool.not_eq_true'] at c4
            obtain ⟨⟨c6, c7⟩, c8⟩ := c4
            have hik : i = k := by
              have := List.all_eq_true.1 c8 (o, i) (by rw [List.mem_zipIdx_iff_getElem?]; simpa using ho')
              simp only [Bool.or_eq_true] at this
              rcases this with ((h | h) | h) | h
              · exact absurd (by simpa using h) hid
              · exact absurd (by simpa using h) hia
              · exact Nat.eq_of_beq_eq_true h
              obtain ⟨x, hx, hx'⟩ := List.any_eq_true.1 h
              simp only [Bool.and_eq_true, Bool.not_eq_true'] at hx'
              rcases hexe x hx with y | y
              · exact absurd y (by simpa using hx'.1)
              exact absurd y (by simpa using hx'.2)
            subst hik
            have him := Nat.blt_eq.mp c2
            simp only [Nd.ix] at him
            obtain ⟨o', d, q1, q2, q3, q4⟩ := hD.dt
            rw [ho'] at q1
            obtain rfl : o = o' := by simpa using q1
            refine hone i o (L ++ al.map AE.p) ds0 _ (A ++ H0) _ _ a w ho' q4 ⟨hds, ⟨hD.frN, fun t u hu => ?_⟩, by simpa [List.append_assoc] using hmem⟩ ?_
            · rcases lk_selE hu with ⟨s, s1, s2, s3, s4⟩ | hu
              · rw [← s3, ← s4]; exact hD.val s s1 (hbefore _ s2)
              exact hX (.c i X) (hD.sub _ (by simp)) ls a hcl h1 hD.frE t u hu
            rintro ds' E' H' a' w' ⟨v, A', rfl, rfl, hkp, hdt'⟩ hst ⟨u, hu⟩
            obtain ⟨k1, k2, k3⟩ := keepS d a' u him q2 hu
            have hne : ∀ s ∈ pre, s.ix ≠ i := fun s hs e => hid (e ▸ hD.preD s hs)
            refine go a' w' p (.c i X :: dn) (⟨i, d, v⟩ :: pre) A' al pre0 hal (fun s h => List.mem_cons_of_mem _ (hp0 s h)) ⟨c5, hdt', fun n hn' => hD.sub n (by simp [hn']), fun j hj hl' => ?_, ?_, ?_, ?_, ?_, ?_, ?_, fun x hx => ?_, fun x hx => ?_, fun k hk hk' hl' => ?_, fun n hn' hl' => ?_, ⟨ds', hst.defers, ?_⟩, hst.fr.size, frNext d a' him q2 k1⟩
            · by_cases e : j = i
              · exact .inl (by simp [Nd.ix, e])
              rcases hD.exe j hj (by rw [← hset j e]; exact hl') with x | x
              · exact .inl (by simp only [List.map_cons, List.mem_cons]; exact .inr x)
              exact .inr x
            · intro n hn'
              rcases List.mem_cons.1 hn' with rfl | hn'
              · exact him
              exact hD.dnM n hn'
            · intro n hn'
              rcases List.mem_cons.1 hn' with rfl | hn'
              · exact hD.sub _ (by simp)
              exact hD.dnP n hn'
            · intro s hs
              rcases List.mem_cons.1 hs with rfl | hs
              · simp [Nd.ix]
              simp only [List.map_cons, List.mem_cons]; exact .inr (hD.preD s hs)
            · intro s hs s' hs' e
              rcases List.mem_cons.1 hs with rfl | hs <;> rcases List.mem_cons.1 hs' with rfl | hs'
              · rfl
              · exact absurd e.symm (hne s' hs')
              · exact absurd e (hne s hs)
              exact hD.uniq s hs s' hs' e
            · intro s hs
              rcases List.mem_cons.1 hs with rfl | hs
              · exact ⟨o, ho', q2, him⟩
              exact hD.preO s hs
            · intro s hs hl'
              rcases List.mem_cons.1 hs with rfl | hs
              · exact hst.fr.get d v (by simp [lk])
              rw [k1 _ (k2 s hs (hne s hs))]; exact hD.val s hs (by rw [← hset _ (hne s hs)]; exact hl')
            · obtain ⟨x1, x2, x3⟩ := hD.alO x hx
              have hxi : x.k ≠ i := fun e => hia (e ▸ al_mem x1)
              refine ⟨x1, ?_, ?_⟩
              · simp only [List.map_cons, List.mem_cons, not_or]; exact ⟨hxi, x2⟩
              rw [k1 _ (k3 x hx hxi)]; exact x3
            · by_cases e : x.k = i
              · rw [e]; exact hseti
              rw [hset _ e]; exact hD.alX x hx
            · have hki : k ≠ i := fun e => hia (e ▸ hk)
              simp only [List.map_cons, List.mem_cons, not_or] at hk'
              exact hD.alC k hk hk'.2 (by rw [← hset k hki]; exact hl')
            · rcases List.mem_cons.1 hn' with rfl | hn'
              · simp only [Nd.ix] at hl'; rw [hseti] at hl'; cases hl'
              have hni : n.ix ≠ i := fun e => hid (e ▸ List.mem_map.2 ⟨n, hn', rfl⟩)
              rw [hset _ hni] at hl'
              have hp := hD.pend n hn' hl'
              cases n with
              | g k _ Q =>
                rcases hkp.at hn' with hk | hk
                · have := hT' k (by simpa using hk)
                  simp only [Nd.ix] at hl'
                  rw [this] at hl'; cases hl'
                exact ⟨hk, PQ.more hp.2 _⟩
              | r k _ => exact PQ.more hp _
              | b k _ => exact PQ.more hp _
              | f k _ =>
                have := List.all_eq_true.1 c7 _ hn'
                simp only [Nd.isF, Nd.ix, Bool.not_true, Bool.false_or] at this
                have := hT' k (by simpa using this)
                simp only [Nd.ix] at hl'
                rw [this] at hl'; cases hl'
              | c k _ => exact hp.elim
              | s k _ => exact hp.elim
              | a k d z y => exact hp.elim
            have := hst.inv
            simpa [List.append_assoc] using this
          case s k X =>
            simp only [Bool.and_eq_true, Bool.not_eq_true'] at c4
            obtain ⟨⟨c6, c7⟩, c8⟩ := c4
            have hik : i = k := by
              have := List.all_eq_true.1 c8 (o, i) (by rw [List.mem_zipIdx_iff_getElem?]; simpa using ho')
              simp only [Bool.or_eq_true] at this
              rcases this with ((h | h) | h) | h
              · exact absurd (by simpa using h) hid
              · exact absurd (by simpa using h) hia
              · exact Nat.eq_of_beq_eq_true h
              obtain ⟨x, hx, hx'⟩ := List.any_eq_true.1 h
              simp only [Bool.and_eq_true, Bool.not_eq_true'] at hx'
              rcases hexe x hx with y | y
              · exact absurd y (by simpa using hx'.1)
              exact absurd y (by simpa using hx'.2)
            subst hik
            have him := Nat.blt_eq.mp c2
            simp only [Nd.ix] at him
            obtain ⟨o', q1, q2, q4⟩ := hD.dt
            rw [ho'] at q1
            obtain rfl : o = o' := by simpa using q1
            refine hone i o (L ++ al.map AE.p) ds0 _ (A ++ H0) _ _ a w ho' q4 ⟨hds, ⟨hD.frN, fun t u hu => ?_⟩, by simpa [List.append_assoc] using hmem⟩ ?_
            · rcases lk_selE hu with ⟨s, s1, s2, s3, s4⟩ | hu
              · rw [← s3, ← s4]; exact hD.val s s1 (hbefore _ s2)
              exact hX (.s i X) (hD.sub _ (by simp)) ls a hcl h1 hD.frE t u hu
            rintro ds' E' H' a' w' ⟨A', rfl, rfl, hkp, hdt'⟩ hst ⟨u, hu⟩
            have k1 : a'.tmps = a.tmps := by rw [hu, q2]; rfl
            have hne : ∀ s ∈ pre, s.ix ≠ i := fun s hs e => hid (e ▸ hD.preD s hs)
            refine go a' w' p (.s i X :: dn) pre A' al pre0 hal hp0 ⟨c5, hdt', fun n hn' => hD.sub n (by simp [hn']), fun j hj hl' => ?_, ?_, ?_, ?_, ?_, ?_, ?_, fun x hx => ?_, fun x hx => ?_, fun k hk hk' hl' => ?_, fun n hn' hl' => ?_, ⟨ds', hst.defers, ?_⟩, hst.fr.size, fun t u' hu' => ?_⟩
            · by_cases e : j = i
              · exact .inl (by simp [Nd.ix, e])
              rcases hD.exe j hj (by rw [← hset j e]; exact hl') with x | x
              · exact .inl (by simp only [List.map_cons, List.mem_cons]; exact .inr x)
              exact .inr x
            · intro n hn'
              rcases List.mem_cons.1 hn' with rfl | hn'
              · exact him
              exact hD.dnM n hn'
            · intro n hn'
              rcases List.mem_cons.1 hn' with rfl | hn'
              · exact hD.sub _ (by simp)
              exact hD.dnP n hn'
            · intro s hs
              simp only [List.map_cons, List.mem_cons]; exact .inr (hD.preD s hs)
            · exact hD.uniq
            · exact hD.preO
            · intro s hs hl'
              rw [k1]; exact hD.val s hs (by rw [← hset _ (hne s hs)]; exact hl')
            · obtain ⟨x1, x2, x3⟩ := hD.alO x hx
              have hxi : x.k ≠ i := fun e => hia (e ▸ al_mem x1)
              refine ⟨x1, ?_, ?_⟩
              · simp only [List.map_cons, List.mem_cons, not_or]; exact ⟨hxi, x2⟩
              rw [k1]; exact x3
            · by_cases e : x.k = i
              · rw [e]; exact hseti
              rw [hset _ e]; exact hD.alX x hx
            · have hki : k ≠ i := fun e => hia (e ▸ hk)
              simp only [List.map_cons, List.mem_cons, not_or] at hk'
              exact hD.alC k hk hk'.2 (by rw [← hset k hki]; exact hl')
            · rcases List.mem_cons.1 hn' with rfl | hn'
              · simp only [Nd.ix] at hl'; rw [hseti] at hl'; cases hl'
              have hni : n.ix ≠ i := fun e => hid (e ▸ List.mem_map.2 ⟨n, hn', rfl⟩)
              rw [hset _ hni] at hl'
              have hp := hD.pend n hn' hl'
              cases n with
              | g k _ Q =>
                rcases hkp.at hn' with hk | hk
                · have := hT' k (by simpa using hk)
                  simp only [Nd.ix] at hl'
                  rw [this] at hl'; cases hl'
                exact ⟨hk, hp.2⟩
              | r k _ => exact hp
              | b k _ => exact hp
              | f k _ =>
                have := List.all_eq_true.1 c7 _ hn'
                simp only [Nd.isF, Nd.ix, Bool.not_true, Bool.false_or] at this
                have := hT' k (by simpa using this)
                simp only [Nd.ix] at hl'
                rw [this] at hl'; cases hl'
              | c k _ => exact hp.elim
              | s k _ => exact hp.elim
              | a k d z y => exact hp.elim
            · have := hst.inv
              simpa [List.append_assoc] using this
            rw [k1]
            rcases hD.frE t u' hu' with h | ⟨k, o2, g1, g2, g3, g4⟩
            · exact .inl h
            refine .inr ⟨k, o2, g1, g2, g3, ?_⟩
            by_cases e2 : k = i
            · rw [e2]; exact hseti
            rw [hset k e2]; exact g4
          case a k d z y =>
            simp only [Bool.and_eq_true] at c4
            exfalso
            have := List.all_eq_true.1 c4.2 (o, i) (by rw [List.mem_zipIdx_iff_getElem?]; simpa using ho')
            simp only [Bool.or_eq_true] at this
            rcases this with (h | h) | h
            · exact absurd (by simpa using h) hid
            · exact absurd (by simpa using h) hia
            obtain ⟨x, hx, hx'⟩ := List.any_eq_true.1 h
            simp only [Bool.and_eq_true, Bool.not_eq_true', Bool.or_eq_true] at hx'
            rcases hx'.2 with e | e
            · have e' := Nat.eq_of_beq_eq_true e
              have := hbefore x hx
              rw [e', hN] at this; cases this
            rcases hexe x hx with y | y
            · exact absurd y (by simpa using hx'.1)
            exact absurd y (by simpa using e)
      have hit : t ≤ i := by
        rcases Nat.lt_or_ge i t with h | h
        · have e1 := g2 i hil
          rw [h1, Nat.blt_eq.mpr h] at e1; cases e1
        exact h
      have hlo : ∀ j, j < i → ls.getD j true = true := fun j hj => hT' j (hc2 i (by omega) hil j hj)
      have e : i = t := by
        rcases Nat.lt_or_ge t i with h | h
        · have e1 := g2 t (by omega)
          rw [hlo t h] at e1
          have := Nat.blt_eq.mp e1.symm
          omega
        omega
      subst e
      refine tailStep a w hlo (by omega) (fun j hj1 hj2 => ?_) g3
      rw [g2 j hj2]
      cases hb : Nat.blt j i with
      | false => rfl
      | true => have := Nat.blt_eq.mp hb; omega
  have hD0 : DS C l m (Q .normal) XT E H0 L plan (Array.replicate l.toArray.size false) a { w with drawn := w.drawn + 1 } plan [] [] A0 [] := by
    refine ⟨hdt, by rw [hplan] at h ⊢; exact QB.dt h, fun _ h => h, fun i hi hl' => ?_, by simp, by simp, by simp, by simp, by simp, by simp, by simp, by simp, fun k hk _ hl' => ?_, by simp, ⟨ds, hs.defers, ?_⟩, hs.fr.size, fun t v hv => .inl (hs.fr.get t v hv)⟩
    · simp [Array.getD_eq_getD_getElem?, hi] at hl'
    · obtain ⟨d, z, y, hpl⟩ := mem_al hk
      obtain ⟨_, hal⟩ := QB.al h
      obtain ⟨o, ho, _, _, _⟩ := hal.at hpl
      have := (List.getElem?_eq_some_iff.1 ho).1
      simp [Array.getD_eq_getD_getElem?, this] at hl'
    have := hs.inv.drawn
    exact this.sub (Sub.app (by simpa using hsub) _)
  obtain ⟨dn0, pre0, hal, hD1⟩ := QB.ds h (by rw [← hplan]; exact hD0)
  obtain ⟨p, dn, pre, A, al, hD, hN, hs0⟩ := hD1.norm hdis hal
  refine main _ _ a _ (by simp) (by simp) (fun i o ho hl' => ?_) (.inl ⟨p, dn, pre, A, al, pre0, hD, hN, hal, hs0⟩)
  have := (List.getElem?_eq_some_iff.1 ho).1
  simp [Array.getD_eq_getD_getElem?, this] at hl'
end
section
variable {P : Program} {C : Cx P} {E : Env} {H : List HP} {l : List Oper} {m : Nat} {K : KP} {XT : List Nat} {E0 : Env} {H0 A : List HP} {p : List Nd} {pre : List SE} {k d : Nat} {X : List Nat} {o : Oper}
theorem DT.nil {dn : List Nd} (H' : List HP) (e : A ++ H0 = H') (h : WO C l.toArray (l.drop m) K (allE (delE XT E0) pre) H') : DT C l m K XT E0 H0 [] dn pre A := by subst e; exact h
theorem DT.r {dn : List Nd} {v : Value} (ho : l[k]? = some o) (hd : o.dst = some d) (hN : Nat.blt d C.N = true) (h : WO C l.toArray [o] (fun E' H' => E' = (d, v) :: selE (afs o) (delE X E0) pre ∧ H' = []) (selE (afs o) (delE X E0) pre) [])
    (r : DT C l m K XT E0 H0 p (.r k X :: dn) (⟨k, d, v⟩ :: pre) A) : DT C l m K XT E0 H0 (.r k X :: p) dn pre A := ⟨o, d, v, ho, hd, hN, h, r⟩
theorem DT.b {dn : List Nd} {v : Value} (ho : l[k]? = some o) (hd : o.dst = some d) (hN : Nat.blt d C.N = true) (h : WO C l.toArray [o] (fun E' H' => E' = (d, v) :: selE (afs o) (delE X E0) pre ∧ H' = H0) (selE (afs o) (delE X E0) pre) H0)
    (r : DT C l m K XT E0 H0 p (.b k X :: dn) (⟨k, d, v⟩ :: pre) A) : DT C l m K XT E0 H0 (.b k X :: p) dn pre A := ⟨o, d, v, ho, hd, hN, h, r⟩
theorem DT.g {dn : List Nd} {Q : HP} {R : List HP} {v : Value} (pk : Pick Q (A ++ H0) R) (ho : l[k]? = some o) (hd : o.dst = some d) (hN : Nat.blt d C.N = true) (h : WO C l.toArray [o] (fun E' H' => E' = (d, v) :: selE (afs o) (delE X E0) pre ∧ H' = [Q]) (selE (afs o) (delE X E0) pre) [Q])
    (r : DT C l m K XT E0 H0 p (.g k X Q :: dn) (⟨k, d, v⟩ :: pre) A) : DT C l m K XT E0 H0 (.g k X Q :: p) dn pre A := ⟨o, d, v, ho, hd, hN, ⟨R, pk⟩, h, r⟩
theorem DT.f {dn : List Nd} {v : Value} (H' : List HP) (e : A ++ H0 = H') (ho : l[k]? = some o) (hd : o.dst = some d) (hN : Nat.blt d C.N = true) (h : WO C l.toArray [o] (fun E' H1 => E' = (d, v) :: selE (afs o) (delE X E0) pre ∧ H1 = H') (selE (afs o) (delE X E0) pre) H')
    (r : DT C l m K XT E0 H0 p (.f k X :: dn) (⟨k, d, v⟩ :: pre) A) : DT C l m K XT E0 H0 (.f k X :: p) dn pre A := by subst e; exact ⟨o, d, v, ho, hd, hN, h, r⟩
theorem DT.c {dn : List Nd} (H' : List HP) (e : A ++ H0 = H') (ho : l[k]? = some o) (hd : o.dst = some d) (hN : Nat.blt d C.N = true)
    (h : WO C l.toArray [o] (fun E' H1 => ∃ v A', E' = (d, v) :: selE (afs o) (delE X E0) pre ∧ H1 = A' ++ H0 ∧ Keep l k (A' ++ H0) dn ∧ DT C l m K XT E0 H0 p (.c k X :: dn) (⟨k, d, v⟩ :: pre) A') (selE (afs o) (delE X E0) pre) H') : DT C l m K XT E0 H0 (.c k X :: p) dn pre A := by subst e; exact ⟨o, d, ho, hd, hN, h⟩
theorem DT.s {dn : List Nd} (H' : List HP) (e : A ++ H0 = H') (ho : l[k]? = some o) (hd : o.dst = none)
    (h : WO C l.toArray [o] (fun E' H1 => ∃ A', E' = selE (afs o) (delE X E0) pre ∧ H1 = A' ++ H0 ∧ Keep l k (A' ++ H0) dn ∧ DT C l m K XT E0 H0 p (.s k X :: dn) pre A') (selE (afs o) (delE X E0) pre) H') : DT C l m K XT E0 H0 (.s k X :: p) dn pre A := by subst e; exact ⟨o, ho, hd, h⟩
theorem DT.a {dn : List Nd} {z : Nat → HP} {y : Nat → Value} (h : ∀ b, DT C l m K XT E0 H0 p (.a k d z y :: dn) (⟨k, d, y b⟩ :: pre) (z b :: A)) : DT C l m K XT E0 H0 (.a k d z y :: p) dn pre A := h
theorem DT.rB {dn : List Nd} {q : Prop} {_inst : Decidable q} (ho : l[k]? = some o) (hd : o.dst = some d) (hN : Nat.blt d C.N = true) (h : WO C l.toArray [o] (fun E' H' => E' = (d, .bool (bl q)) :: selE (afs o) (delE X E0) pre ∧ H' = []) (selE (afs o) (delE X E0) pre) [])
    (ht : q → DT C l m K XT E0 H0 p (.r k X :: dn) (⟨k, d, .bool true⟩ :: pre) A) (hf : ¬ q → DT C l m K XT E0 H0 p (.r k X :: dn) (⟨k, d, .bool false⟩ :: pre) A) : DT C l m K XT E0 H0 (.r k X :: p) dn pre A := by
  by_cases hp : q
  · exact DT.r ho hd hN (by rw [bl_t.2 hp] at h; exact h) (ht hp)
  exact DT.r ho hd hN (by rw [bl_f.2 hp] at h; exact h) (hf hp)
theorem DT.rNB {dn : List Nd} {q : Prop} {_inst : Decidable q} (ho : l[k]? = some o) (hd : o.dst = some d) (hN : Nat.blt d C.N = true) (h : WO C l.toArray [o] (fun E' H' => E' = (d, .bool (!(bl q))) :: selE (afs o) (delE X E0) pre ∧ H' = []) (selE (afs o) (delE X E0) pre) [])
    (ht : ¬ q → DT C l m K XT E0 H0 p (.r k X :: dn) (⟨k, d, .bool true⟩ :: pre) A) (hf : q → DT C l m K XT E0 H0 p (.r k X :: dn) (⟨k, d, .bool false⟩ :: pre) A) : DT C l m K XT E0 H0 (.r k X :: p) dn pre A := by
  by_cases hp : q
  · exact DT.r ho hd hN (by rw [bl_t.2 hp] at h; exact h) (hf hp)
  exact DT.r ho hd hN (by rw [bl_f.2 hp] at h; exact h) (ht hp)
theorem Keep.g {dn : List Nd} {j : Nat} {Q : HP} (h : ((cloT l).getD k []).elem j = true ∨ ∃ R, Pick Q H R) (r : Keep l k H dn) : Keep l k H (.g j X Q :: dn) := ⟨h, r⟩
theorem Keep.r {dn : List Nd} {j : Nat} (h : Keep l k H dn) : Keep l k H (.r j X :: dn) := h
theorem Keep.b {dn : List Nd} {j : Nat} (h : Keep l k H dn) : Keep l k H (.b j X :: dn) := h
theorem Keep.f {dn : List Nd} {j : Nat} (h : Keep l k H dn) : Keep l k H (.f j X :: dn) := h
theorem Keep.c {dn : List Nd} {j : Nat} (h : Keep l k H dn) : Keep l k H (.c j X :: dn) := h
theorem Keep.s {dn : List Nd} {j : Nat} (h : Keep l k H dn) : Keep l k H (.s j X :: dn) := h
theorem Keep.a {dn : List Nd} {j : Nat} {z : Nat → HP} {y : Nat → Value} (h : Keep l k H dn) : Keep l k H (.a j d z y :: dn) := h
theorem Keep.nil : Keep l k H [] := trivial
/-- what is made at will -/
theorem ALok.n {z : Nat → HP} {y : Nat → Value} (ho : l[k]? = some o) (hd : o.dst = some d) (hN : Nat.blt d C.N = true) (h : WO C l.toArray [o] (fun E' H' => ∃ b, E' = (d, y b) :: selE (afs o) [] pre ∧ H' = [z b]) (selE (afs o) [] pre) []) (r : ALok C l pre p) : ALok C l pre (.a k d z y :: p) := ⟨⟨_, ho, hd, hN, h⟩, r⟩
theorem ALok.r (h : ALok C l pre p) : ALok C l pre (.r k X :: p) := h
theorem ALok.b (h : ALok C l pre p) : ALok C l pre (.b k X :: p) := h
theorem ALok.f (h : ALok C l pre p) : ALok C l pre (.f k X :: p) := h
theorem ALok.c (h : ALok C l pre p) : ALok C l pre (.c k X :: p) := h
theorem ALok.s (h : ALok C l pre p) : ALok C l pre (.s k X :: p) := h
theorem ALok.g {Q : HP} (h : ALok C l pre p) : ALok C l pre (.g k X Q :: p) := h
theorem ALok.nil : ALok C l pre [] := trivial
end
section
variable {P : Program} {C : Cx P} {l : List Oper} {m : Nat} {K : KP} {XT : List Nat} {E0 : Env} {H0 A : List HP} {p plan q dn : List Nd} {pre : List SE} {k d : Nat} {X : List Nat} {o : Oper} {v : Value}
theorem QB.r (ho : l[k]? = some o) (hd : o.dst = some d) (hN : Nat.blt d C.N = true) (h : WO C l.toArray [o] (fun E' H' => E' = (d, v) :: selE (afs o) (delE X E0) pre ∧ H' = []) (selE (afs o) (delE X E0) pre) [])
    (r : QB C l m K XT E0 H0 p plan q (.r k X :: dn) (⟨k, d, v⟩ :: pre) A) : QB C l m K XT E0 H0 p plan (.r k X :: q) dn pre A := ⟨o, d, v, ho, hd, hN, h, r⟩
theorem QB.b (ho : l[k]? = some o) (hd : o.dst = some d) (hN : Nat.blt d C.N = true) (h : WO C l.toArray [o] (fun E' H' => E' = (d, v) :: selE (afs o) (delE X E0) pre ∧ H' = H0) (selE (afs o) (delE X E0) pre) H0)
    (r : QB C l m K XT E0 H0 p plan q (.b k X :: dn) (⟨k, d, v⟩ :: pre) A) : QB C l m K XT E0 H0 p plan (.b k X :: q) dn pre A := ⟨o, d, v, ho, hd, hN, h, r⟩
theorem QB.nil (h1 : ALok C l pre plan) (h2 : DT C l m K XT E0 H0 p dn pre A) : QB C l m K XT E0 H0 p plan [] dn pre A := ⟨h1, h2⟩
end
end Go.TH.DB
namespace Go.TH
open Go Go.RowKit Go.WideShapes Go.ChangeShapes
theorem Inv.below {w w' : World} {H : List HP} (h : Inv w [] H w') : Below w.heap.size w w' := ⟨h.os, h.tape, h.output, h.size, fun k hk => h.keep k hk (by simp)⟩
theorem Ret.calls {P : Program} {f : FuncId} {args : Array Value} {w : World} {r : Value} (h : Ret P f args w r) : Calls P f args w fun e w' => e = .returned r ∧ Below w.heap.size w w' :=
  callsIn_wide.1 (CallsIn.mono h fun e w' ⟨v, he, Hq, ⟨hv, _⟩, hi⟩ => ⟨by rw [he, hv], hi.below⟩)
/-- what a row asks of a call that answers, turns nothing that was there, and hands its arguments back as they were -/
theorem post_law {H : Type} {enc : TypeId × Value → H} {P : Program} {f : Func} {s : ChangeSpec} {apart fresh handsOn again : Bool} {W W' : World} {args : Array Value} {v : Value} {ds gs : List (DataW H)} {before pa pv : List MemPlace}
    (hW : DataW.Whole enc P f.params.toList s.vars apart W args.toList ds gs before)
    (hres : ∀ (b : Nat) (sp : Nat → Bool) (hd : Bool), DataW.TrodAll enc P W' b sp hd f.resultTypes.toList (v.resultList f.resultTypes.size) (s.fn H (ds ++ gs)).results [])
    (hargs : ∀ sp : Nat → Bool, (∀ p ∈ before, sp p.block = true) → DataW.TrodAll enc P W' 0 sp true f.params.toList args.toList (s.fn H (ds ++ gs)).args pa)
    (hvars : ∀ sp : Nat → Bool, (∀ p ∈ before, sp p.block = true) → DataW.TrodVars enc P W' sp s.vars (s.fn H (ds ++ gs)).vars pv)
    (hps : before = pa ++ pv) (hb : Below W.heap.size W W')
    (hok : ∀ (j : Nat) (t : TypeId) (r : Value), f.resultTypes[j]? = some t → (v.resultList f.resultTypes.size)[j]? = some r → Value.okWide P W' .any 0 t r) :
    s.post enc P f apart fresh handsOn again W args v W' := by
  subst hps
  have hin : ∀ p ∈ pa ++ pv, decide (p.block < W.heap.size) = true := fun p hp => decide_eq_true (hW.lt p hp)
  refine ⟨ds, gs, pa ++ pv, [], pa, pv, hW, hres _ _ _, hargs _ hin, hvars _ hin, World.keptBut_mono (fun p hp => ⟨hp, .inr (List.mem_append.1 hp)⟩) (hb.frame (· ∈ pa ++ pv)), fun _ => ?_⟩
  obtain ⟨_, _, _, _, _, hz, hn⟩ := hW
  refine ⟨hok, _, _, ([] ++ pa) ++ pv, ⟨[] ++ pa, pv, trodAll_append (hargs _ fun _ _ => rfl) (hres _ _ _), hvars _ fun _ _ => rfl, rfl, fun b off hp => ?_, fun ha => hn ha⟩, fun p hp _ => hp⟩
  have hp' : MemPlace.cell b off ∈ pa ++ pv := hp
  rw [hb.frozen (of_decide_eq_true (hin _ hp'))]
  exact hz b off hp'
end Go.TH
namespace Go.TH
open Go Go.RowKit Go.WideShapes Go.ChangeShapes
section
variable {H : Type} {enc : TypeId × Value → H} {P : Program} {w : World} {base : Nat} {spare : Nat → Bool} {held : Bool}
theorem mapM_get {α β : Type} {f : α → Option β} : ∀ {l : List α} {r : List β}, l.mapM f = some r → r.length = l.length ∧ ∀ (i : Nat) (x : α), l[i]? = some x → r[i]? = f x
  | [], r, h => by simp at h; subst h; exact ⟨rfl, fun i x hx => by simp at hx⟩
  | a :: l, r, h => by
    rw [List.mapM_cons] at h
    cases ha : f a with
    | none => simp [ha] at h
    | some b =>
      cases hl : l.mapM f with
      | none => simp [ha, hl] at h
      | some r' =>
        simp [ha, hl] at h
        subst h
        obtain ⟨h1, h2⟩ := mapM_get hl
        refine ⟨by simp [h1], fun i x hx => ?_⟩
        cases i with
        | zero => simp at hx; subst hx; simp [ha]
        | succ i => simp at hx ⊢; exact h2 i x hx
theorem cells_get {a : Addr} {n : Nat} {cs : List Value} (h : w.cells? base a n = some cs) : cs.length = n ∧ ∀ j, j < n → w.cell? (a.add j) = cs[j]? := by
  unfold World.cells? at h
  split at h
  · obtain ⟨h1, h2⟩ := mapM_get h
    refine ⟨by simpa using h1, fun j hj => ?_⟩
    exact (h2 j j (by simp [hj])).symm
  cases h
theorem cell_in {p : Addr} {v : Value} (h : w.cell? p = some v) : p.block < w.heap.size ∧ p.spot = none := by
  unfold World.cell? at h
  cases hb : w.heap[p.block]? with
  | none => simp [hb] at h
  | some o =>
    refine ⟨(Array.getElem?_eq_some_iff.1 hb).1, ?_⟩
    rw [hb] at h
    cases o <;> simp at h
    cases hs : p.spot with
    | none => rfl
    | some x => simp [hs] at h
theorem choose_list {α : Type} {n : Nat} {p : Nat → α → Prop} (h : ∀ i, i < n → ∃ x, p i x) : ∃ l : List α, l.length = n ∧ ∀ (i : Nat) (x : α), l[i]? = some x → p i x := by
  induction n with
  | zero => exact ⟨[], rfl, fun i x hx => by simp at hx⟩
  | succ n ih =>
    obtain ⟨l, hl, hp⟩ := ih fun i hi => h i (by omega)
    obtain ⟨x, hx⟩ := h n (by omega)
    refine ⟨l ++ [x], by simp [hl], fun i y hy => ?_⟩
    rcases Nat.lt_or_ge i n with hi | hi
    · rw [List.getElem?_append_left (by omega)] at hy; exact hp i y hy
    have hlt := (List.getElem?_eq_some_iff.1 hy).1
    simp [hl] at hlt
    obtain rfl : i = n := by omega
    rw [List.getElem?_append_right (by omega)] at hy
    simp [hl] at hy; subst hy; exact hx
/-- a slice whose elements read as data, each by its type: a list -/
theorem open_rd {α : Type} {en : α → List Value} {sz T e fuel : Nat} {cs : List Value} {x : DataW H × List MemPlace} {Q : α → Prop} (ht : P.underlying T = some (.slice e)) (hc : P.cellsOf e = sz) (hsz : 0 < sz)
    (hx : ∀ n c y, c.length = sz → DataW.trod enc P w base spare held n e c = some y → ∃ z : α, c = en z ∧ Q z) (h : DataW.trod enc P w base spare held fuel T cs = some x) :
    ∃ v xs, cs = [v] ∧ RdF en sz w.heap.size w v xs ∧ ∀ z ∈ xs, Q z := by
  rcases Deep.open_slice ht h with ⟨rfl, _⟩ | ⟨a, len, cap, m, n, D, Pl, rfl, hb, hl, hm, hme, _, hel⟩
  · exact ⟨_, [], rfl, ⟨⟨by simp, none, 0, rfl, fun h => by simp at h⟩, fun h => by simp at h, fun i x h => by simp at h⟩, by simp⟩
  have hlm : len ≤ m := by rw [hme]; split <;> omega
  have hpt : ∀ i, i < len → ∃ z : α, (∀ (j : Nat) (u : Value), (en z)[j]? = some u → w.cell? ((a.add (i * sz)).add j) = some u) ∧ Q z ∧ (en z).length = sz := by
    intro i hi
    obtain ⟨c, h1, h2⟩ := hel i (by omega)
    rw [hc] at h1
    obtain ⟨h3, h4⟩ := cells_get h1
    obtain ⟨z, rfl, hz⟩ := hx n c _ h3 h2
    refine ⟨z, fun j u hu => ?_, hz, h3⟩
    have hj := (List.getElem?_eq_some_iff.1 hu).1
    rw [h4 j (by omega)]; exact hu
  obtain ⟨xs, hxl, hxp⟩ := choose_list hpt
  have h0 : 0 < len → a.block < w.heap.size ∧ a.spot = none := fun hp => by
    obtain ⟨z, h1, h2⟩ : ∃ z, xs[0]? = some z ∧ True := by
      obtain ⟨z, hz⟩ : ∃ z, xs[0]? = some z := ⟨xs[0]'(by omega), by simp⟩
      exact ⟨z, hz, trivial⟩
    obtain ⟨g1, _, g3⟩ := hxp 0 z h1
    have := cell_in (g1 0 ((en z)[0]'(by omega)) (by simp))
    simpa [Addr.add] using this
  simp only [maxLen] at hm
  refine ⟨_, xs, rfl, ⟨⟨by omega, some a, cap, by rw [hxl], fun hp => ?_⟩, fun hp => (h0 (by omega)).1, fun i z hz j u hu => (hxp i z hz).1 j u hu⟩, fun z hz => ?_⟩
  · have := (h0 (by omega)).2
    exact ⟨a.block, a.off, by cases a; simp_all⟩
  obtain ⟨i, hi⟩ := List.mem_iff_getElem?.1 hz
  exact (hxp i z hi).2.1
/-- a slice of slices -/
theorem open_rdr {α : Type} {en : α → List Value} {sz T T2 e fuel : Nat} {cs : List Value} {x : DataW H × List MemPlace} {Q : α → Prop} (ht1 : P.underlying T = some (.slice T2)) (hc1 : P.cellsOf T2 = 1) (ht : P.underlying T2 = some (.slice e)) (hc : P.cellsOf e = sz) (hsz : 0 < sz)
    (hx : ∀ n c y, c.length = sz → DataW.trod enc P w base spare held n e c = some y → ∃ z : α, c = en z ∧ Q z) (h : DataW.trod enc P w base spare held fuel T cs = some x) :
    ∃ v rv xss, cs = [v] ∧ RdR en sz w.heap.size w v rv xss ∧ ∀ r ∈ xss, ∀ z ∈ r, Q z := by
  obtain ⟨v, rv, rfl, hv, hq⟩ := open_rd (en := encV) (Q := fun u => ∃ xs : List α, RdF en sz w.heap.size w u xs ∧ ∀ z ∈ xs, Q z) ht1 hc1 (by omega) (fun n c y hl hy => by
    obtain ⟨u, xs, rfl, h1, h2⟩ := open_rd ht hc hsz hx hy
    exact ⟨u, rfl, xs, h1, h2⟩) h
  obtain ⟨xss, hl, hp⟩ := choose_list (n := rv.length) (p := fun i xs => RdF en sz w.heap.size w (rv.getD i undef) xs ∧ ∀ z ∈ xs, Q z) fun i hi => by
    have hm : rv.getD i undef ∈ rv := by rw [List.getD_eq_getElem?_getD, List.getElem?_eq_getElem hi]; exact List.getElem_mem hi
    exact hq _ hm
  refine ⟨v, rv, xss, rfl, ⟨hv, hl.symm, fun i hi => ?_⟩, fun r hr => ?_⟩
  · have := (hp i (xss.getD i []) (by simp [hi])).1
    exact this
  obtain ⟨i, hi⟩ := List.mem_iff_getElem?.1 hr
  exact (hp i r hi).2
/-- an argument reads behind a call as it read before -/
theorem trod_stay {W W' : World} {t : TypeId} {v : Value} {d : DataW H} {ps : List MemPlace} (hl : laidOutB P = true) (hr : P.readableRec t = true) (hrow : t < P.types.size) (h : DataW.Trod enc P W 0 (fun _ => true) true t v d ps) (hb : Below W.heap.size W W') (hlt : ∀ x ∈ ps, x.block < W.heap.size) (sp : Nat → Bool) (hsp : ∀ x ∈ ps, sp x.block = true) : DataW.Trod enc P W' 0 sp true t v d ps :=
  WideElems.Trod_stays hl hr hrow h (fun x hx => hb.same (hlt x hx)) hsp
end
end Go.TH
