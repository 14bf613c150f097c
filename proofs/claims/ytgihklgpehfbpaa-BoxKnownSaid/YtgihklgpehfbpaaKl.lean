/-
  What is proved here: literals of structs, arrays and slices; tests of bools and structs; min, max and copy. Conditions: none; each rule states its own.
-/
import Derived.Test.YtgihklgpehfbpaaKk
import Derived.Great.BuildSlice
import Derived.Laws.IdiomCopy
namespace Go.TH
open Go

/-- a value's cells, as a list -/
def vcl : Value → List Value
  | .agg vs => vs.toList
  | v => [v]
theorem vcl_eq (v : Value) : v.cells.toList = vcl v := by cases v <;> rfl
/-- 'fill', by lists -/
def fillL (place : Nat → Option (Nat × Nat)) (cells : List Value) : List (Nat × Value) → Option (List Value)
  | [] => some cells
  | (i, v) :: rest => match place i with
    | none => none
    | some (off, size) => bif Nat.beq (vcl v).length size && Nat.ble (off + (vcl v).length) cells.length then fillL place (wrl cells off (vcl v)) rest else none
theorem foldl_wrl : ∀ (vs : List Value) (cs : Array Value) (off k : Nat), (vs.zipIdx k).foldl (fun cs (x : Value × Nat) => cs.setIfInBounds (off + x.2) x.1) cs = (wrl cs.toList (off + k) vs).toArray
  | [], cs, off, k => by simp [wrl]
  | v :: r, cs, off, k => by
    simp only [List.zipIdx_cons, List.foldl_cons, wrl]
    rw [foldl_wrl r _ off (k + 1)]
    simp [Nat.add_assoc]
theorem fillL_eq (place : Nat → Option (Nat × Nat)) : ∀ (parts : List (Nat × Value)) (cells : List Value) (cs : List Value), fillL place cells parts = some cs → Instr.fill place cells.toArray parts = some cs.toArray
  | [], cells, cs, h => by simp [fillL] at h; subst h; rfl
  | (i, v) :: rest, cells, cs, h => by
    simp only [fillL] at h
    simp only [Instr.fill]
    cases hp : place i with
    | none => simp [hp] at h
    | some q =>
      obtain ⟨off, size⟩ := q
      simp only [hp] at h ⊢
      have hvl : v.cells.size = (vcl v).length := by rw [← vcl_eq]; simp
      cases hb : (Nat.beq (vcl v).length size && Nat.ble (off + (vcl v).length) cells.length) with
      | false => simp [hb] at h
      | true =>
        rw [hb] at h
        simp only [cond_true] at h
        simp only [Bool.and_eq_true] at hb
        have e1 := Nat.eq_of_beq_eq_true hb.1
        have e2 := Nat.ble_eq.mp hb.2
        rw [if_neg (by rw [hvl]; simp; omega)]
        have := fillL_eq place rest _ cs h
        rw [← this]
        congr 1
        rw [← Array.foldl_toList]
        have hz : v.cells.zipIdx.toList = (vcl v).zipIdx 0 := by rw [Array.toList_zipIdx, vcl_eq]
        rw [hz]
        have := foldl_wrl (vcl v) cells.toArray off 0
        simpa using this

section
variable {P : Program} {C : Cx P} {E : Env} {H : List HP}

/-- evaluated parts -/
def evp (E : Env) : List (Nat × Operand) → Option (List (Nat × Value))
  | [] => some []
  | (i, x) :: r => match ev E x, evp E r with
    | some v, some vs => some ((i, v) :: vs)
    | _, _ => none
theorem evp_map {N : Nat} {a : Act} (hf : Fr N E a) : ∀ {xs : List (Nat × Operand)} {vs : List (Nat × Value)}, evp E xs = some vs → xs.map (fun (i, x) => (i, a.eval x)) = vs
  | [], vs, h => by simp [evp] at h; simp [h]
  | (i, x) :: r, vs, h => by
    simp only [evp] at h
    cases hx : ev E x with
    | none => simp [hx] at h
    | some v =>
      cases hr : evp E r with
      | none => simp [hx, hr] at h
      | some us =>
        simp [hx, hr] at h
        subst h
        simp [hf.eval hx, evp_map hf hr]

/-- where the parts of a struct or an array lie -/
def TTab.pl? (t : TTab P) (T : Nat) : Option (Nat → Option (Nat × Nat)) :=
  match (t.get T).kind with
  | .st fs => bif fs.all (fun f => t.some? f.2) then some fun i => (lget' fs i).map fun f => (f.1, (t.get f.2).n) else none
  | .ar _ _ sz => some fun i => some (i * sz, sz)
  | _ => none
where
  lget' : List (Nat × Nat) → Nat → Option (Nat × Nat)
  | [], _ => none
  | f :: _, 0 => some f
  | _ :: r, n + 1 => lget' r n
theorem pl_lget : ∀ (fs : List (Nat × Nat)) (i : Nat), TTab.pl?.lget' fs i = fs[i]?
  | [], _ => by simp [TTab.pl?.lget']
  | _ :: _, 0 => by simp [TTab.pl?.lget']
  | _ :: r, n + 1 => by simp [TTab.pl?.lget', pl_lget r n]
theorem some?_size {t : TTab P} {T : Nat} (h : t.some? T = true) : szv P T = some (t.get T).n := by
  refine tiChk_size (t.chk T) fun e => ?_
  simp [TTab.some?, e] at h
theorem built_of {t : TTab P} {T : Nat} {pl : Nat → Option (Nat × Nat)} {z : Value} {parts : List (Nat × Value)} {cs : List Value} (hp : t.pl? T = some pl) (hz : t.z? T = some z) (hf : fillL pl (vcl z) parts = some cs) : P.built T parts = some cs.toArray := by
  have hc := t.chk T
  have hk := tiChk_kind hc
  have hzv := (ZT.of hz).zero
  unfold zv at hzv
  unfold TTab.pl? at hp
  unfold Program.built
  cases hi : P.info? T with
  | none => simp [hi] at hzv
  | some i =>
    simp only [hi, Option.bind_some] at hzv
    have hz' : z.cells = (vcl z).toArray := by apply Array.ext'; simp [vcl_eq]
    cases hkd : (t.get T).kind <;> simp only [hkd] at hp hk <;> try (cases hp; done)
    case st fs =>
      cases hall : fs.all (fun f => t.some? f.2) with
      | false => simp [hall] at hp
      | true =>
        rw [hall] at hp
        simp only [cond_true, Option.some.injEq] at hp
        simp only [kindChk] at hk
        split at hk
        · rename_i fs' hu
          simp only [Bool.and_eq_true, decide_eq_true_eq] at hk
          obtain ⟨hk1, _⟩ := hk
          rw [hu]
          have hm : fs'.toList.mapM (fun f => (P.info? f.type).map fun i => (f.offset, i.size)) = some (fs.map fun f => (f.1, (t.get f.2).n)) := by
            rw [← hk1] at hall ⊢
            clear hk1 hp hkd hu
            generalize fs'.toList = l at *
            induction l with
            | nil => rfl
            | cons f l ih =>
              simp only [List.map_cons, List.all_cons, Bool.and_eq_true] at hall
              have h1 := some?_size hall.1
              unfold szv at h1
              cases hq : P.info? f.type with
              | none => simp [hq] at h1
              | some q =>
                simp [hq] at h1
                simp only [List.mapM_cons, hq, Option.map_some, ih hall.2]
                simp [h1]
          simp only [hzv, hm]
          have e : (fun i => ((fs.map fun f => (f.1, (t.get f.2).n)).toArray[i]? : Option (Nat × Nat))) = pl := by
            rw [← hp]
            funext i
            rw [pl_lget]
            simp
          rw [e, hz']
          exact fillL_eq pl parts _ cs hf
        · cases hk
    case ar len e' sz =>
      simp only [Option.some.injEq] at hp
      simp only [kindChk] at hk
      split at hk
      · rename_i len' e'' hu
        simp only [Bool.and_eq_true] at hk
        rw [hu]
        have h2 := Nat.eq_of_beq_eq_true hk.1.2
        subst h2
        have h3 := oeq_eq hk.2
        unfold szv at h3
        cases hq : P.info? e'' with
        | none => simp [hq] at h3
        | some q =>
          simp [hq] at h3
          simp only [hzv, hq, h3]
          rw [hp, hz']
          exact fillL_eq pl parts _ cs hf
      · cases hk

section rules
variable {ops : Array Oper} {K : KP} {rest : List Oper} {d : Nat} {ty : TypeId} {pos : String} {af : Array Edge} {x y z : Operand} {T T' : TypeId}

theorem WO.build {parts : List (Nat × Operand)} {vs : List (Nat × Value)} {pl : Nat → Option (Nat × Nat)} {zv : Value} {cs : List Value} (hp : C.tt.pl? T = some pl) (hz : C.tt.z? T = some zv) (he : evp E parts = some vs) (hf : fillL pl (vcl zv) vs = some cs) (hN : Nat.blt d C.N = true)
    (h : WO C ops rest K ((d, .agg cs.toArray) :: E) H) : WO C ops (⟨some d, .build T parts.toArray, ty, pos, af, none⟩ :: rest) K E H :=
  WO.pure _ (by simp) (fun L a w hfr hi => by
    have hb := built_of hp hz hf
    have e1 := evp_map hfr he
    have := run_build (P := P) w T vs.toArray cs.toArray (by simpa using hb)
    simp only [execOp, Sem.run_bind]
    have e2 : (parts.toArray.map fun (x : Nat × Operand) => (x.1, a.eval x.2)) = vs.toArray := by rw [← e1]; simp
    simp only [e2, this]; simp) hN h
theorem WO.buildSl {e sz by' len : Nat} {parts : List (Nat × Operand)} {vs : List (Nat × Value)} {zv : Value} {cs : List Value} (hT : C.tt.sl? T = some (e, sz, by')) (hz : C.tt.z? e = some zv) (hzs : Nat.beq (vcl zv).length sz = true) (he : evp E parts = some vs)
    (hf : fillL (fun i => some (i * sz, sz)) ((List.replicate len (vcl zv)).flatten) vs = some cs) (hsm : Nat.ble (len * sz) 16777216 = true) (hpos : Nat.blt 0 (len * sz) = true) (hlen : Nat.beq cs.length (len * sz) = true) (hN : Nat.blt d C.N = true)
    (h : ∀ b, WO C ops rest K ((d, .slice (some ⟨b, 0, none⟩) len len) :: E) (OwC e sz (.slice (some ⟨b, 0, none⟩) len len) len cs :: H)) : WO C ops (⟨some d, .buildSlice T len parts.toArray, ty, pos, af, none⟩ :: rest) K E H := by
  refine WO.step rfl rfl hN (XO.run (by simp) fun L a w hfr hi => ?_)
  obtain ⟨i, hi1, hi2, hi3, hi4⟩ := sl_info hT hz
  subst hi2
  have hzs' := Nat.eq_of_beq_eq_true hzs
  have hsm' := Nat.ble_eq.mp hsm
  have hpos' := Nat.blt_eq.mp hpos
  have hlen' := Nat.eq_of_beq_eq_true hlen
  have ez : ((Array.range (len * i.size)).map (zv.cells[· % zv.cells.size]!)) = ((List.replicate len (vcl zv)).flatten).toArray := by
    have hzc : zv.cells = (vcl zv).toArray := by apply Array.ext'; simp [vcl_eq]
    rw [hzc]
    generalize vcl zv = zs at hzs'
    apply Array.ext'
    rw [Array.toList_map, Array.toList_range]
    simp only [List.size_toArray]
    rw [hzs']
    clear hf hsm hpos hlen h hlen' hsm'
    have hp0 : 0 < i.size := Nat.pos_of_mul_pos_left hpos'
    clear hpos'
    induction len with
    | zero => simp
    | succ n ih =>
      rw [List.replicate_succ', List.flatten_append, ← ih, Nat.add_mul, Nat.one_mul, List.range_add, List.map_append]
      congr 1
      simp only [List.map_map, List.flatten_cons, List.flatten_nil, List.append_nil]
      apply List.ext_getElem
      · simp [hzs']
      · intro j h1 h2
        simp only [List.length_map, List.length_range] at h1
        have e1 : (n * i.size + j) % i.size = j := by rw [Nat.add_comm, Nat.add_mul_mod_self_right, Nat.mod_eq_of_lt h1]
        simp [e1, hzs', h1]
  have e1 := evp_map hfr he
  have e2 : (parts.toArray.map fun (x : Nat × Operand) => (x.1, a.eval x.2)) = vs.toArray := by rw [← e1]; simp
  have hr := run_buildSlice (P := P) w T e len vs.toArray cs.toArray i zv (SlT.of hT).u hi1 hi4 (by omega) (by omega) (by rw [ez]; exact fillL_eq _ vs _ cs hf)
  refine ⟨.slice (some ⟨w.heap.size, 0, none⟩) len len, w.alloc (.cells cs.toArray e), OwC e i.size (.slice (some ⟨w.heap.size, 0, none⟩) len len) len cs :: H, .inl ?_, h _, ?_⟩
  · simp only [execOp, Sem.run_bind]
    simp only [e2, hr]; rfl
  · have h2 := hi.alloc' (.cells cs.toArray e)
    refine OwC.shut hlen' (Nat.le_refl _) ?_ hlen' (by rw [← hlen', List.take_length]) h2
    have h0 : 0 < i.size := Nat.pos_of_mul_pos_left hpos'
    have : len ≤ len * i.size := Nat.le_mul_of_pos_right len h0
    simp only [maxLen]; omega

/-! ### Tests of bools and of structs -/
theorem WO.eqB {bop : BinOp} {a b r : Bool} (hx : ev E x = some (.bool a)) (hy : ev E y = some (.bool b)) (hT : P.underlying T = some .bool) (hr : (match bop with | .eql => some (a == b) | .neq => some (!(a == b)) | _ => none) = some r) (hN : Nat.blt d C.N = true)
    (h : WO C ops rest K ((d, .bool r) :: E) H) : WO C ops (⟨some d, .binOp bop T x y T', ty, pos, af, none⟩ :: rest) K E H :=
  WO.pure _ (by simp) (fun L c w hf _ => by
    cases bop <;> simp only [Option.some.injEq, reduceCtorEq] at hr <;> subst hr <;> simp only [execOp, hf.eval hx, hf.eval hy] <;> simp [eqGuard, run_eql_bool w T a b hT, run_neq_bool w T a b hT]) hN h
/-- how the values of a type are compared -/
def EqT (P : Program) (bop : BinOp) (T : TypeId) (u v r : Value) : Prop := ∀ (x y : Operand) (w : World), (do eqGuard bop T x y u v; binOp bop T u v : Sem Value).run P w = .ok r w
theorem WO.eqT {bop : BinOp} {u v r : Value} (hx : ev E x = some u) (hy : ev E y = some v) (hq : EqT P bop T u v r) (hN : Nat.blt d C.N = true)
    (h : WO C ops rest K ((d, r) :: E) H) : WO C ops (⟨some d, .binOp bop T x y T', ty, pos, af, none⟩ :: rest) K E H :=
  WO.pure _ (by simp) (fun L c w hf _ => by
    have := hq x y w
    simp only [Sem.run_bind] at this
    simp only [execOp, hf.eval hx, hf.eval hy, Sem.run_bind, this]; simp) hN h
/-! ### min, max -/
theorem WO.max2 {k k' : IntKind} {a b : Int} {ts : Array TypeId} (hx : ev E x = some (.int k a)) (hy : ev E y = some (.int k' b)) (hN : Nat.blt d C.N = true)
    (h : WO C ops rest K ((d, .int k (max a b)) :: E) H) : WO C ops (⟨some d, .call ⟨.builtin .max, #[x, y], ts⟩, ty, pos, af, none⟩ :: rest) K E H :=
  WO.pure _ (by simp) (fun L c w hf _ => by
    simp [execOp, resolve, hf.eval hx, hf.eval hy, invoke, builtin, run_max_int2]
    split <;> omega) hN h
theorem WO.min2 {k k' : IntKind} {a b : Int} {ts : Array TypeId} (hx : ev E x = some (.int k a)) (hy : ev E y = some (.int k' b)) (hN : Nat.blt d C.N = true)
    (h : WO C ops rest K ((d, .int k (min a b)) :: E) H) : WO C ops (⟨some d, .call ⟨.builtin .min, #[x, y], ts⟩, ty, pos, af, none⟩ :: rest) K E H :=
  WO.pure _ (by simp) (fun L c w hf _ => by
    simp [execOp, resolve, hf.eval hx, hf.eval hy, invoke, builtin, run_min_int2]
    split <;> omega) hN h
end rules
end
end Go.TH
