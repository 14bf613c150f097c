/-
  What is proved here: how the arguments of the laws read. Conditions: none.
  What is proved here: what the numbers of a spectrum are (no program in sight). Conditions: none; each theorem states its own.
  What is proved here: the law WaveSpectrum, as a contract. Conditions: none; each contract states its own.
-/
import Derived.Test.YtingkbglkaojdaaM2
import Derived.Test.YtingkbglkaojdaaM3
import Derived.Deep.Strs
import Derived.OpenShut
import Derived.Test.YtingkbglkaojdaaM5
set_option linter.unusedVariables false
set_option linter.unusedSimpArgs false
namespace Go.Proofs.Ytingkbglkaojdaa
open Go Go.TH Go.ChangeShapes Go.WideShapes Go.ChangeAt Go.RowKit
set_option maxRecDepth 100000
section
variable {H : Type} {enc : TypeId × Value → H} {w : World}
theorem cells3i : Try.prog.cellsOf 3 = 1 := by kernel_rfl
theorem cells22 : Try.prog.cellsOf 22 = 1 := by kernel_rfl
theorem cells45 : Try.prog.cellsOf 45 = 2 := by kernel_rfl
theorem wf64 {z : Int} (h : (Lit.int .i64 z).wf = true) : in64 z := by
  simp [Lit.wf, IntKind.min, IntKind.max, IntKind.signed, IntKind.bits] at h
  unfold in64; omega
theorem rd_int3 {n : Nat} {c : List Value} {y : DataW H × List MemPlace} (h : DataW.trod enc Try.prog w 0 (fun _ => true) true n 3 c = some y) : ∃ z : Int, c = encI z ∧ in64 z := by
  obtain ⟨z, rfl, _, hw⟩ := DataW.trod_int Try.underlying3 h
  exact ⟨z, rfl, wf64 hw⟩
theorem open_bits {base : Nat} {v : Value} {d : DataW H} {ps : List MemPlace} (hv : Value.okWide Try.prog w .any base 22 v) (h : DataW.Trod enc Try.prog w 0 (fun _ => true) true 22 v d ps) :
    ∃ xs : List Int, RdF encI 1 w.heap.size w v xs ∧ HasCap v xs.length := by
  obtain ⟨a0, len, cap, rfl⟩ := okWide_slice Try.underlying22 hv
  obtain ⟨fuel, hf⟩ := h
  obtain ⟨o, xs, ho, hr, hq⟩ := open_rd (en := encI) (Q := in64) Try.underlying22 cells3i (by omega) (fun n c y hl hy => rd_int3 hy) hf
  simp [Value.cells] at ho
  subst ho
  have hlc : len ≤ cap := by
    rcases Deep.open_slice Try.underlying22 hf with ⟨e, _⟩ | ⟨a, l', c', m, n, D, Pl, e, _, hl, _⟩
    · simp [Value.cells] at e; omega
    · simp [Value.cells] at e; omega
  obtain ⟨_, a', c', e, _⟩ := hr.sl
  refine ⟨xs, hr, a0, cap, ?_, ?_⟩
  · injection e with e1 e2 e3; rw [e2]
  · injection e with e1 e2 e3; omega
theorem open_proof {base : Nat} {v : Value} {d : DataW H} {ps : List MemPlace} (hv : Value.okWide Try.prog w .any base 45 v) (h : DataW.Trod enc Try.prog w 0 (fun _ => true) true 45 v d ps) :
    ∃ (u : Value) (taps : List Int) (n : Int), v = proofV u n ∧ RdF encI 1 w.heap.size w u taps := by
  unfold Value.okWide at hv
  rw [Try.underlying45] at hv
  obtain ⟨cs, rfl, hs, _⟩ := hv
  obtain ⟨fuel, hf⟩ := h
  obtain ⟨y0, y1, n, _, hl, h0, h1⟩ := trod_struct2 Try.underlying45 hf
  rw [cells45] at hl
  rw [cells22] at h0
  rw [cells3i] at h1
  obtain ⟨l, hcs⟩ : ∃ l, cs = List.toArray l := ⟨cs.toList, by simp⟩
  subst hcs
  simp only [Value.cells] at hl h0 h1
  match l, hl with
  | [a, b], _ =>
    simp at h0 h1
    obtain ⟨o, xs, ho, hr, hq⟩ := open_rd (en := encI) (Q := in64) Try.underlying22 cells3i (by omega) (fun n c y hl hy => rd_int3 hy) h0
    simp at ho
    subst ho
    obtain ⟨z, hz, _⟩ := rd_int3 h1
    simp [encI] at hz
    subst hz
    exact ⟨a, xs, z, rfl, hr⟩
theorem open_kind {k : IntKind} {T base : Nat} (hT : Try.prog.underlying T = some (.int k)) {v : Value} {d : DataW H} {ps : List MemPlace} (hv : Value.okWide Try.prog w .any base T v) (h : DataW.Trod enc Try.prog w 0 (fun _ => true) true T v d ps) : ∃ z : Int, v = .int k z ∧ k.min ≤ z ∧ z ≤ k.max := by
  obtain ⟨z, rfl, _, _, hw⟩ := open_int hT hv h
  simp [Lit.wf] at hw
  exact ⟨z, rfl, by omega, by omega⟩
theorem open_u8 {base : Nat} {v : Value} {d : DataW H} {ps : List MemPlace} (hv : Value.okWide Try.prog w .any base 5 v) (h : DataW.Trod enc Try.prog w 0 (fun _ => true) true 5 v d ps) : ∃ z : Int, v = .int .u8 z ∧ 0 ≤ z ∧ z ≤ 255 := by
  obtain ⟨z, rfl, h1, h2⟩ := open_kind Try.underlying5 hv h
  simp [IntKind.min, IntKind.max, IntKind.signed, IntKind.bits] at h1 h2
  exact ⟨z, rfl, by omega, by omega⟩
theorem open_i64' {base : Nat} {v : Value} {d : DataW H} {ps : List MemPlace} (hv : Value.okWide Try.prog w .any base 3 v) (h : DataW.Trod enc Try.prog w 0 (fun _ => true) true 3 v d ps) : ∃ z : Int, v = .int .i64 z ∧ in64 z := by
  obtain ⟨z, rfl, h1, h2⟩ := open_kind Try.underlying3 hv h
  simp [IntKind.min, IntKind.max, IntKind.signed, IntKind.bits] at h1 h2
  exact ⟨z, rfl, by unfold in64; omega⟩
end
end Go.Proofs.Ytingkbglkaojdaa
namespace Go.Proofs.Ytingkbglkaojdaa
open Go Go.TH Go.TH.Wv
set_option maxRecDepth 10000
set_option maxHeartbeats 1000000
/-- a sum over all places does not depend on where it begins -/
theorem sm_rot1 (f : Nat → Int) : ∀ n, sm n (fun i => f ((i + 1) % n)) = sm n f
  | 0 => rfl
  | m + 1 => by
    rw [sm_front m f]
    show sm m (fun i => f ((i + 1) % (m + 1))) + f ((m + 1) % (m + 1)) = _
    rw [Nat.mod_self, Int.add_comm]
    congr 1
    exact sm_congr fun i hi => by rw [Nat.mod_eq_of_lt (by omega)]
theorem sm_rot (f : Nat → Int) (n : Nat) : ∀ t, sm n (fun i => f ((i + t) % n)) = sm n f
  | 0 => sm_congr fun i hi => by rw [Nat.add_zero, Nat.mod_eq_of_lt hi]
  | t + 1 => by
    rw [← sm_rot f n t, ← sm_rot1 (fun i => f ((i + t) % n)) n]
    refine sm_congr fun i _ => ?_
    rw [Nat.mod_add_mod, show i + 1 + t = i + (t + 1) by omega]
/-- 1 for 0, and -1 for 1 -/
def sg (l : List Int) (i : Nat) : Int := 1 - 2 * bt l i
theorem sg_mul {l : List Int} (h : OkBs l) (i j : Nat) : sg l i * sg l j = 1 - 2 * ((bt l i + bt l j) % 2) := by
  unfold sg
  rcases bt_ok h i with a | a <;> rcases bt_ok h j with b | b <;> rw [a, b] <;> decide
theorem sp_sg {l : List Int} (h : OkBs l) (k : Nat) : sp l k = sm l.length fun i => sg l i * sg l ((i + k) % l.length) := by
  unfold sp
  have e : (sm l.length fun i => sg l i * sg l ((i + k) % l.length)) + sm l.length (dx l k) = sm l.length fun _ => 1 := by
    rw [← sm_add]
    exact sm_congr fun i _ => by rw [sg_mul h]; unfold dx; omega
  have e1 : ∀ n : Nat, (sm n fun _ => 1) = (n : Int) := fun n => by
    induction n with
    | zero => rfl
    | succ n ih => show sm n (fun _ => 1) + 1 = _; rw [ih]; omega
  rw [e1] at e
  omega
theorem sg_self {l : List Int} (h : OkBs l) (i : Nat) : sg l i * sg l i = 1 := by
  unfold sg
  rcases bt_ok h i with a | a <;> rw [a] <;> decide
theorem sp_zero {l : List Int} (h : OkBs l) : sp l 0 = (l.length : Int) := by
  unfold sp
  rw [sm_zero fun i hi => ?_, Int.sub_zero]
  unfold dx
  rw [Nat.add_zero, Nat.mod_eq_of_lt hi]
  omega
theorem sp_back {l : List Int} (h : OkBs l) {k : Nat} (hk : k ≤ l.length) : sp l (l.length - k) = sp l k := by
  rw [sp_sg h, sp_sg h, ← sm_rot (fun i => sg l i * sg l ((i + (l.length - k)) % l.length)) l.length k]
  refine sm_congr fun i hi => ?_
  show sg l ((i + k) % l.length) * sg l (((i + k) % l.length + (l.length - k)) % l.length) = _
  rw [Nat.mod_add_mod, show i + k + (l.length - k) = i + l.length by omega, Nat.add_mod_right, Nat.mod_eq_of_lt hi, Int.mul_comm]
theorem sp_range (l : List Int) (k : Nat) : sp l k ≤ (l.length : Int) ∧ -(l.length : Int) ≤ sp l k := by
  have := smdx_le l k l.length
  unfold sp
  omega
theorem sp_even (l : List Int) (k : Nat) : ((l.length : Int) - sp l k) % 2 = 0 := by
  have h : ∀ n : Nat, sm n (dx l k) % 2 = 0 := fun n => by
    induction n with
    | zero => rfl
    | succ n ih => show (sm n (dx l k) + dx l k n) % 2 = 0; unfold dx at ih ⊢; omega
  have := h l.length
  unfold sp
  omega
theorem sp_all {l : List Int} (h : OkBs l) : sm l.length (sp l) = sm l.length (sg l) * sm l.length (sg l) := by
  have e1 : sm l.length (sp l) = sm l.length fun k => sm l.length fun i => sg l i * sg l ((i + k) % l.length) := sm_congr fun k _ => sp_sg h k
  rw [e1, sm_swap]
  have e2 : (sm l.length fun i => sm l.length fun k => sg l i * sg l ((i + k) % l.length)) = sm l.length fun i => sg l i * sm l.length (sg l) := sm_congr fun i _ => by
    rw [sm_mul]
    congr 1
    have := sm_rot (sg l) l.length i
    rw [← this]
    exact sm_congr fun k _ => by rw [Nat.add_comm]
  rw [e2, sm_mul']
theorem sg_range (l : List Int) (h : OkBs l) : ∀ n : Nat, -(n : Int) ≤ sm n (sg l) ∧ sm n (sg l) ≤ (n : Int)
  | 0 => by show -((0 : Nat) : Int) ≤ 0 ∧ (0 : Int) ≤ ((0 : Nat) : Int); omega
  | n + 1 => by
    have h1 := sg_range l h n
    have h2 := bt_ok h n
    show -((n + 1 : Nat) : Int) ≤ sm n (sg l) + sg l n ∧ sm n (sg l) + sg l n ≤ ((n + 1 : Nat) : Int)
    unfold sg at h1 ⊢
    omega
theorem sps_range (l : List Int) : ∀ n : Nat, -((n : Int) * (l.length : Int)) ≤ sm n (sp l) ∧ sm n (sp l) ≤ (n : Int) * (l.length : Int)
  | 0 => by rw [show ((0 : Nat) : Int) * (l.length : Int) = 0 by omega]; exact ⟨by show -(0 : Int) ≤ 0; decide, by show (0 : Int) ≤ 0; decide⟩
  | n + 1 => by
    have h1 := sps_range l n
    have h2 := sp_range l n
    have e : ((n + 1 : Nat) : Int) * (l.length : Int) = (n : Int) * (l.length : Int) + (l.length : Int) := by rw [Int.natCast_add, Int.add_mul]; simp
    rw [e]
    show -((n : Int) * (l.length : Int) + (l.length : Int)) ≤ sm n (sp l) + sp l n ∧ sm n (sp l) + sp l n ≤ _
    omega
/-! ### lists that are turned, read from their end, changed -/
def turnB (l : List Int) (t i : Nat) : List Int := (List.range i).map fun j => bt l ((j + t) % l.length)
def revB (l : List Int) (i : Nat) : List Int := (List.range i).map fun j => bt l (l.length - 1 - j)
def negB (l : List Int) (i : Nat) : List Int := (List.range i).map fun j => 1 - bt l j
theorem turnB_len (l : List Int) (t i : Nat) : (turnB l t i).length = i := by unfold turnB; simp
theorem revB_len (l : List Int) (i : Nat) : (revB l i).length = i := by unfold revB; simp
theorem negB_len (l : List Int) (i : Nat) : (negB l i).length = i := by unfold negB; simp
theorem turnB_succ (l : List Int) (t i : Nat) : turnB l t (i + 1) = turnB l t i ++ [bt l ((i + t) % l.length)] := by unfold turnB; rw [List.range_succ, List.map_append]; rfl
theorem revB_succ (l : List Int) (i : Nat) : revB l (i + 1) = revB l i ++ [bt l (l.length - 1 - i)] := by unfold revB; rw [List.range_succ, List.map_append]; rfl
theorem negB_succ (l : List Int) (i : Nat) : negB l (i + 1) = negB l i ++ [1 - bt l i] := by unfold negB; rw [List.range_succ, List.map_append]; rfl
theorem turnB_ok {l : List Int} (h : OkBs l) (t i : Nat) : OkBs (turnB l t i) := fun x hx => by
  unfold turnB at hx
  obtain ⟨j, _, rfl⟩ := List.mem_map.1 hx
  exact bt_ok h _
theorem revB_ok {l : List Int} (h : OkBs l) (i : Nat) : OkBs (revB l i) := fun x hx => by
  unfold revB at hx
  obtain ⟨j, _, rfl⟩ := List.mem_map.1 hx
  exact bt_ok h _
theorem negB_ok {l : List Int} (h : OkBs l) (i : Nat) : OkBs (negB l i) := fun x hx => by
  unfold negB at hx
  obtain ⟨j, _, rfl⟩ := List.mem_map.1 hx
  have := bt_ok h j
  show _ = 0 ∨ _ = 1
  omega
theorem sg_turn {l : List Int} {t i : Nat} (h : i < l.length) : sg (turnB l t l.length) i = sg l ((i + t) % l.length) := by
  unfold sg; rw [show bt (turnB l t l.length) i = bt l ((i + t) % l.length) from mapR_get 0 h]
theorem sg_rev {l : List Int} {i : Nat} (h : i < l.length) : sg (revB l l.length) i = sg l (l.length - 1 - i) := by
  unfold sg; rw [show bt (revB l l.length) i = bt l (l.length - 1 - i) from mapR_get 0 h]
theorem sg_neg {l : List Int} {i : Nat} (h : i < l.length) : sg (negB l l.length) i = -sg l i := by
  unfold sg; rw [show bt (negB l l.length) i = 1 - bt l i from mapR_get 0 h]; omega
theorem sp_turn {l : List Int} (h : OkBs l) (t k : Nat) : sp (turnB l t l.length) k = sp l k := by
  rw [sp_sg h, sp_sg (turnB_ok h t _), turnB_len, ← sm_rot (fun i => sg l i * sg l ((i + k) % l.length)) l.length t]
  refine sm_congr fun i hi => ?_
  have h0 : 0 < l.length := by omega
  rw [sg_turn hi, sg_turn (Nat.mod_lt _ h0)]
  show _ = sg l ((i + t) % l.length) * sg l (((i + t) % l.length + k) % l.length)
  rw [Nat.mod_add_mod, Nat.mod_add_mod, show i + k + t = i + t + k by omega]
theorem rev_ix {n i k : Nat} (hi : i < n) (hk : k < n) : n - 1 - ((n - 1 - i + k) % n) = (i + (n - k)) % n := by
  rcases Nat.lt_or_ge (n - 1 - i + k) n with g | g
  · rw [Nat.mod_eq_of_lt g]
    rw [show i + (n - k) = (i - k) + n by omega, Nat.add_mod_right, Nat.mod_eq_of_lt (by omega)]
    omega
  · rw [Nat.mod_eq_sub_mod g, Nat.mod_eq_of_lt (by omega), Nat.mod_eq_of_lt (by omega)]
    omega
theorem sp_rev {l : List Int} (h : OkBs l) {k : Nat} (hk : k < l.length) : sp (revB l l.length) k = sp l k := by
  rw [← sp_back h (Nat.le_of_lt hk), sp_sg h, sp_sg (revB_ok h _), revB_len, sm_rev]
  refine sm_congr fun i hi => ?_
  show sg (revB l l.length) (l.length - 1 - i) * sg (revB l l.length) ((l.length - 1 - i + k) % l.length) = _
  rw [sg_rev (by omega), sg_rev (Nat.mod_lt _ (by omega)), rev_ix hi hk, show l.length - 1 - (l.length - 1 - i) = i by omega]
theorem sp_neg {l : List Int} (h : OkBs l) (k : Nat) : sp (negB l l.length) k = sp l k := by
  rw [sp_sg h, sp_sg (negB_ok h _), negB_len]
  refine sm_congr fun i hi => ?_
  rw [sg_neg hi, sg_neg (Nat.mod_lt _ (by omega)), Int.neg_mul_neg]
theorem spec_same {l x : List Int} (h : chkB l = 0) (h0 : 0 < l.length) (hl : x.length = l.length) (hx : OkBs x) (e : ∀ k, k < l.length → sp x k = sp l k) : chkB x = 0 ∧ specE x = 0 ∧ specR x = specR l := by
  have h1 := chkB0.1 h
  have hc : chkB x = 0 := chkB0.2 ⟨by omega, hx⟩
  have e1 : specE x = 0 := specE_0 (by omega) (by omega)
  have e2 : specE l = 0 := specE_0 (by omega) (by omega)
  refine ⟨hc, e1, ?_⟩
  unfold specR
  rw [if_pos e1, if_pos e2, hl]
  exact List.map_congr_left fun k hk => e k (List.mem_range.1 hk)
theorem specR_get {l : List Int} (h : chkB l = 0) {k : Nat} (hk : k < l.length) : (specR l).length = l.length ∧ sp l k = (specR l).getD k 0 := by
  unfold specR
  rw [if_pos (specE_0 (by omega) (by omega)), specL_len]
  exact ⟨rfl, (mapR_get 0 hk).symm⟩
theorem sq_le {a b : Int} (h1 : -b ≤ a) (h2 : a ≤ b) : 0 ≤ a * a ∧ a * a ≤ b * b := by
  have h3 : 0 ≤ (b - a) * (b + a) := Int.mul_nonneg (by omega) (by omega)
  have h4 : (b - a) * (b + a) = b * b - a * a := by grind
  have h5 : 0 ≤ a * a := by
    rcases Int.le_total 0 a with g | g
    · exact Int.mul_nonneg g g
    · have := Int.mul_nonneg (show 0 ≤ -a by omega) (show 0 ≤ -a by omega)
      rwa [Int.neg_mul_neg] at this
  omega
end Go.Proofs.Ytingkbglkaojdaa
namespace Go.Proofs.Ytingkbglkaojdaa
open Go Go.TH Go.TH.Wv
attribute [local irreducible] W WO pt
set_option maxRecDepth 10000
set_option maxHeartbeats 2000000
theorem spec_turn {l : List Int} (h : chkB l = 0) (h0 : 0 < l.length) (t : Nat) : specE (turnB l t l.length) = 0 ∧ specR (turnB l t l.length) = specR l :=
  (spec_same h h0 (turnB_len l t _) (turnB_ok (chkB0.1 h).2 t _) fun k _ => sp_turn (chkB0.1 h).2 t k).2
theorem spec_rev {l : List Int} (h : chkB l = 0) (h0 : 0 < l.length) : specE (revB l l.length) = 0 ∧ specR (revB l l.length) = specR l :=
  (spec_same h h0 (revB_len l _) (revB_ok (chkB0.1 h).2 _) fun k hk => sp_rev (chkB0.1 h).2 hk).2
theorem spec_neg {l : List Int} (h : chkB l = 0) (h0 : 0 < l.length) : specE (negB l l.length) = 0 ∧ specR (negB l l.length) = specR l :=
  (spec_same h h0 (negB_len l _) (negB_ok (chkB0.1 h).2 _) fun k _ => sp_neg (chkB0.1 h).2 k).2
theorem law_WaveSpectrum (w : World) (v : Value) (l : List Int) (t : Nat) (hR : RdF encI 1 w.heap.size w v l) (hv : HasCap v l.length) (ht : t ≤ 255) : Ret Try.prog 8 [v, .int .u8 (t : Int)].toArray w (.bool true) := by
  refine Ret.of mixed tyTab Try.func8 rfl rfl ?_
  replace hR : RdF encI 1 (fnCx mixed tyTab Try.f8.ntmps w).B (fnCx mixed tyTab Try.f8.ntmps w).w0 v l := hR
  refine W.sreg ?_
  refine WO.p rfl rfl ?_
  refine WO.nil ?_
  refine W.seq ?_
  refine W.sreg ?_
  refine WO.p rfl rfl ?_
  refine WO.callR (r := .bool (bl (chkB l = 0))) rfl Try.call28 (fun L w hi => l_fine w v l (hR.later hi)) rfl ?_
  refine WO.p rfl rfl (WO.p rfl rfl ?_)
  refine WO.guard_nbl rfl rfl (fun c1 => ?_) (fun c1 => ?_)
  · first
    | (exfalso; omega)
    | (refine WO.no rfl rfl (WO.no rfl rfl (WO.no rfl rfl (WO.p rfl rfl ?_)))
       refine WO.nil ?_
       refine W.cond_t rfl ?_
       refine W.sreg ?_
       refine WO.callR rfl Try.call15 (fun L w hi => l_Works w) rfl ?_
       refine WO.p rfl rfl ?_
       refine WO.nil ?_
       refine W.ret ?_
       first | exact fin.ret (Res.one rfl (RV.tmp rfl)) rfl | (exfalso; omega))
  · first
    | (exfalso; omega)
    | (refine WO.pg rfl rfl rfl (WO.go' rfl ?_)
       refine' WO.len (n := _) rfl rfl ?hs rfl ?_
       case hs => (first | exact hR.sl)
       refine WO.pg rfl rfl rfl (WO.p rfl rfl ?_)
       refine WO.nil ?_
       refine W.cond_bl rfl (fun c2 => ?_) (fun c2 => ?_)
       · first
         | (exfalso; omega)
         | (refine W.sreg ?_
            refine WO.callR rfl Try.call15 (fun L w hi => l_Works w) rfl ?_
            refine WO.p rfl rfl ?_
            refine WO.nil ?_
            refine W.ret ?_
            first | exact fin.ret (Res.one rfl (RV.tmp rfl)) rfl | (exfalso; omega))
       · first
         | (exfalso; omega)
         | (refine W.skip ?_
            have hok : chkB l = 0 := by omega
            have h1 := chkB0.1 hok
            have h0 : 0 < l.length := by omega
            have hE : specE l = 0 := specE_0 (by omega) (by omega)
            have hz := sp_zero h1.2
            refine W.sreg ?_
            refine WO.p rfl rfl ?_
            refine' WO.len (n := _) rfl rfl ?hs rfl ?_
            case hs => (first | exact hR.sl)
            refine WO.p rfl rfl ?_
            refine WO.nil ?_
            refine W.sreg ?_
            refine WO.p rfl rfl ?_
            refine WO.call (Post := fun r Hq => ∃ y : Value, r = .tuple #[y, .int .i64 0] ∧ Hq = [OwE encI 3 1 y (specR l)]) rfl Try.call25 (fun L w hi => by have h := c_Spectrum w v l (hR.later hi) hv; rw [hE] at h; exact h) rfl ?_
            rintro _ _ ⟨r1, rfl, rfl⟩
            refine WO.p rfl rfl (WO.p rfl rfl (WO.p rfl rfl (WO.p rfl rfl (WO.p rfl rfl ?_))))
            refine WO.nil ?_
            refine W.seq ?_
            refine W.fact (OwE.sl (enc := encI) (e := 3) (sz := 1) (v := r1) (xs := specR l) (by repeat (first | exact Pick.head | apply Pick.tail))) ?_
            intro hs1
            rw [(specR_get hok h0).1] at hs1
            refine W.sreg ?_
            refine WO.p rfl rfl (WO.p rfl rfl (WO.p rfl rfl ?_))
            refine WO.guard_bl rfl rfl (fun c3 => ?_) (fun c3 => ?_)
            · first
              | (exfalso; omega)
              | (refine WO.no rfl rfl (WO.no rfl rfl (WO.no rfl rfl (WO.no rfl rfl (WO.p rfl rfl (WO.p rfl rfl (WO.no rfl rfl (WO.no rfl rfl (WO.no rfl rfl (WO.no rfl rfl (WO.no rfl rfl (WO.p rfl rfl ?_)))))))))))
                 refine WO.nil ?_
                 refine W.cond_t rfl ?_
                 refine W.sreg ?_
                 refine WO.p rfl rfl ?_
                 refine WO.nil ?_
                 refine W.ret ?_
                 first | exact fin.ret (Res.one rfl (RV.tmp rfl)) rfl | (exfalso; omega))
            · first
              | (exfalso; omega)
              | (refine WO.pg rfl rfl rfl (WO.go' rfl ?_)
                 refine' WO.len (n := _) rfl rfl ?hs rfl ?_
                 case hs => (first | exact hs1)
                 refine WO.pg rfl rfl rfl (WO.pg rfl rfl rfl (WO.p rfl rfl (WO.p rfl rfl ?_)))
                 refine WO.guard_bl rfl rfl (fun c4 => ?_) (fun c4 => ?_)
                 · first
                   | (exfalso; omega)
                   | (refine WO.no rfl rfl (WO.no rfl rfl (WO.no rfl rfl (WO.no rfl rfl (WO.no rfl rfl (WO.p rfl rfl ?_)))))
                      refine WO.nil ?_
                      refine W.cond_t rfl ?_
                      refine W.sreg ?_
                      refine WO.p rfl rfl ?_
                      refine WO.nil ?_
                      refine W.ret ?_
                      first | exact fin.ret (Res.one rfl (RV.tmp rfl)) rfl | (exfalso; omega))
                 · first
                   | (exfalso; omega)
                   | (refine WO.pg rfl rfl rfl (WO.go' rfl ?_)
                      refine' WO.indexAddr (n := _) (i := 0) rfl rfl rfl ?hs ?h1 rfl ?_
                      case hs => (first | exact hs1)
                      case h1 => (first | omega | (simp; omega))
                      refine WO.go' rfl ?_
                      refine' WO.load (v := _) rfl rfl ?hc rfl ?_
                      case hc => (first | (refine cellI2 (e := 3) (xs := specR l) (i := 0) (j := 0) (z := sp l 0) ?_ (by rw [(specR_get hok h0).1]; exact h0) (specR_get hok h0).2 rfl; exact (by repeat (first | exact Sub.nil | refine Sub.cons (by repeat (first | exact Pick.head | apply Pick.tail)) ?_))))
                      refine WO.pg rfl rfl rfl (WO.pg rfl rfl rfl (WO.p rfl rfl ?_))
                      refine WO.nil ?_
                      refine W.cond_bl rfl (fun c5 => ?_) (fun c5 => ?_)
                      · first
                        | (exfalso; omega)
                        | (refine W.sreg ?_
                           refine WO.p rfl rfl ?_
                           refine WO.nil ?_
                           refine W.ret ?_
                           first | exact fin.ret (Res.one rfl (RV.tmp rfl)) rfl | (exfalso; omega))
                      · first
                        | (exfalso; omega)
                        | (refine W.skip ?_
                           refine W.sreg ?_
                           refine WO.p rfl rfl (WO.p rfl rfl (WO.p rfl rfl ?_))
                           refine WO.nil ?_
                           refine W.sreg ?_
                           refine WO.p rfl rfl (WO.p rfl rfl ?_)
                           refine WO.nil ?_
                           refine W.seq ?_
                           refine W.sreg ?_
                           refine WO.p rfl rfl ?_
                           refine WO.nil ?_
                           refine W.block ?_
                           refine W.chg (owNil (enc := encI) (e := 3) (sz := 1)) ?_
                           refine W.chg (owNil (enc := encI) (e := 3) (sz := 1)) ?_
                           refine W.chg (owNil (enc := encI) (e := 3) (sz := 1)) ?_
                           refine W.loop4 (fun (i : Nat) (av : Value) (bv : Value) (cv : Value) => i ≤ l.length)
                             (fun (i : Nat) (av : Value) (bv : Value) (cv : Value) => [(13, .int .i64 (i : Int)), (12, .int .i64 (sm i (sp l))), (11, .int .i64 (sm i (sg l))), (10, cv), (9, bv), (8, av), (6, r1), (5, .int .i64 (l.length : Int)), (1, .int .u8 (t : Int)), (0, v)])
                             (fun (i : Nat) (av : Value) (bv : Value) (cv : Value) => [OwE encI 3 1 r1 (specR l), OwE encI 3 1 av (turnB l t i), OwE encI 3 1 bv (revB l i), OwE encI 3 1 cv (negB l i)])
                             (fun (i : Nat) (av : Value) (bv : Value) (cv : Value) => l.length - i) 0 (.slice none 0 0) (.slice none 0 0) (.slice none 0 0)
                             (by omega) ⟨rfl, rfl, rfl, rfl, rfl, rfl, rfl, rfl, rfl, rfl, trivial⟩ (by repeat (first | exact Sub.nil | refine Sub.cons (by repeat (first | exact Pick.head | apply Pick.tail)) ?_)) ?_
                           rintro i av bv cv hi0
                           have hsg := sg_range l h1.2 i
                           have hsp := sps_range l i
                           have hpr : (i : Int) * (l.length : Int) ≤ 128 * 128 := Int.mul_le_mul (by omega) (by omega) (by omega) (by omega)
                           refine W.seq ?_
                           refine W.sreg ?_
                           refine WO.p rfl rfl (WO.p rfl rfl (WO.p rfl rfl ?_))
                           refine WO.nil ?_
                           refine W.cond_bl rfl (fun c6 => ?_) (fun c6 => ?_)
                           · first
                             | (exfalso; omega)
                             | (refine W.skip ?_
                                refine W.seq ?_
                                refine W.block ?_
                                have hin : i < l.length := by omega
                                have hmod : ((i : Int) + (t : Int)).tmod (l.length : Int) = (((i + t) % l.length : Nat) : Int) := by rw [Int.tmod_eq_emod_of_nonneg (by omega)]; simp
                                have hlt := Nat.mod_lt (i + t) h0
                                have hbit := bt_ok h1.2 i
                                unfold bt at hbit
                                have hspi := sp_range l i
                                have hbk := sp_back h1.2 (Nat.le_of_lt hin)
                                have hev : ((l.length : Int) - sp l i).tmod 2 = 0 := by rw [Int.tmod_eq_emod_of_nonneg (by omega)]; exact sp_even l i
                                refine W.sreg ?_
                                refine WO.p rfl rfl (WO.p rfl rfl (WO.p rfl rfl (WO.p rfl rfl (WO.conv64 rfl rfl rfl (by (first | (unfold in64; omega) | (unfold in64; omega))) rfl (WO.ar rfl rfl rfl (by (first | (unfold in64; omega) | (unfold in64; omega))) rfl (WO.p rfl rfl (WO.rem rfl rfl (by first | omega | assumption) rfl ?_)))))))
                                refine' WO.indexAddrZ (n := _) rfl rfl rfl ?hs ?h00 ?h1 rfl ?_
                                case hs => (first | exact hR.sl)
                                case h00 => omega
                                case h1 => (first | omega | (simp; omega))
                                refine' WO.load (v := _) rfl rfl ?hc rfl ?_
                                case hc => (first | (refine hR.cell0 (i := (((i : Int) + (t : Int)).tmod (l.length : Int)).toNat) ?_ 0 ?_ <;> first | rfl | omega))
                                refine' WO.buildSl (cs := _) rfl rfl rfl rfl ?hf rfl rfl ?hl rfl (fun v1 => ?_)
                                case hf => (conv => lhs; simp [-List.getD_eq_getElem?_getD, fillL, vcl, wrl, TTab.pl?.lget']) <;> rfl
                                case hl => rfl
                                refine' WO.appendE (enc := encI) (m := 1) (xs := turnB l t i) (ys := [l.getD (((i : Int) + (t : Int)).tmod (l.length : Int)).toNat 0]) encI_ok rfl rfl rfl rfl rfl (by repeat (first | exact Pick.head | apply Pick.tail)) (isSl_lit (by omega) (fun _ => ⟨_, _, rfl⟩)) (by omega) rfl (OwC.cells (by repeat (first | exact Pick.head | apply Pick.tail))) (by rw [turnB_len]; omega) (by rw [turnB_len]; omega) rfl (fun g c => ?_)
                                rw [show l.getD (((i : Int) + (t : Int)).tmod (l.length : Int)).toNat 0 = bt l ((i + t) % l.length) by rw [hmod]; rfl, ← turnB_succ]
                                refine WO.p rfl rfl ?_
                                refine WO.nil ?_
                                refine W.sreg ?_
                                refine WO.p rfl rfl (WO.p rfl rfl (WO.p rfl rfl (WO.ar rfl rfl rfl (by (first | (unfold in64; omega) | (unfold in64; omega))) rfl (WO.p rfl rfl (WO.ar rfl rfl rfl (by (first | (unfold in64; omega) | (unfold in64; omega))) rfl ?_)))))
                                refine' WO.indexAddrZ (n := _) rfl rfl rfl ?hs ?h00 ?h1 rfl ?_
                                case hs => (first | exact hR.sl)
                                case h00 => omega
                                case h1 => (first | omega | (simp; omega))
                                refine' WO.load (v := _) rfl rfl ?hc rfl ?_
                                case hc => (first | (refine hR.cell0 (i := ((l.length : Int) - 1 - (i : Int)).toNat) ?_ 0 ?_ <;> first | rfl | omega))
                                refine' WO.buildSl (cs := _) rfl rfl rfl rfl ?hf rfl rfl ?hl rfl (fun v2 => ?_)
                                case hf => (conv => lhs; simp [-List.getD_eq_getElem?_getD, fillL, vcl, wrl, TTab.pl?.lget']) <;> rfl
                                case hl => rfl
                                refine' WO.appendE (enc := encI) (m := 1) (xs := revB l i) (ys := [l.getD (l.length - 1 - i) 0]) encI_ok rfl rfl rfl rfl rfl (by repeat (first | exact Pick.head | apply Pick.tail)) (isSl_lit (by omega) (fun _ => ⟨_, _, rfl⟩)) (by omega) rfl (OwC.cells (by repeat (first | exact Pick.head | apply Pick.tail))) (by rw [revB_len]; omega) (by rw [revB_len]; omega) rfl (fun g c => ?_)
                                rw [show l.getD (l.length - 1 - i) 0 = bt l (l.length - 1 - i) from rfl, ← revB_succ]
                                refine WO.p rfl rfl ?_
                                refine WO.nil ?_
                                refine W.sreg ?_
                                refine WO.p rfl rfl (WO.p rfl rfl (WO.p rfl rfl ?_))
                                refine' WO.indexAddr (n := _) (i := _) rfl rfl rfl ?hs ?h1 rfl ?_
                                case hs => (first | exact hR.sl)
                                case h1 => (first | omega | (simp; omega))
                                refine' WO.load (v := _) rfl rfl ?hc rfl ?_
                                case hc => (first | (refine hR.cell0 (i := i) ?_ 0 ?_ <;> first | rfl | omega))
                                refine WO.ar rfl rfl rfl (by (first | (unfold in64; omega) | (unfold in64; omega))) rfl ?_
                                refine' WO.buildSl (cs := _) rfl rfl rfl rfl ?hf rfl rfl ?hl rfl (fun v3 => ?_)
                                case hf => (conv => lhs; simp [-List.getD_eq_getElem?_getD, fillL, vcl, wrl, TTab.pl?.lget']) <;> rfl
                                case hl => rfl
                                refine' WO.appendE (enc := encI) (m := 1) (xs := negB l i) (ys := [1 - l.getD i 0]) encI_ok rfl rfl rfl rfl rfl (by repeat (first | exact Pick.head | apply Pick.tail)) (isSl_lit (by omega) (fun _ => ⟨_, _, rfl⟩)) (by omega) rfl (OwC.cells (by repeat (first | exact Pick.head | apply Pick.tail))) (by rw [negB_len]; omega) (by rw [negB_len]; omega) rfl (fun g c => ?_)
                                rw [show 1 - l.getD i 0 = 1 - bt l i from rfl, ← negB_succ]
                                refine WO.p rfl rfl ?_
                                refine WO.nil ?_
                                refine W.sreg ?_
                                refine WO.p rfl rfl (WO.p rfl rfl (WO.p rfl rfl ?_))
                                refine' WO.indexAddr (n := _) (i := _) rfl rfl rfl ?hs ?h1 rfl ?_
                                case hs => (first | exact hR.sl)
                                case h1 => (first | omega | (simp; omega))
                                refine' WO.load (v := _) rfl rfl ?hc rfl ?_
                                case hc => (first | (refine hR.cell0 (i := i) ?_ 0 ?_ <;> first | rfl | omega))
                                refine WO.ar rfl rfl rfl (by (first | (unfold in64; omega) | (unfold in64; omega))) rfl (WO.ar rfl rfl rfl (by (first | (unfold in64; omega) | (unfold in64; omega))) rfl (WO.ar rfl rfl rfl (by (first | (unfold in64; omega) | (unfold in64; omega))) rfl (WO.p rfl rfl ?_)))
                                refine WO.nil ?_
                                refine W.sreg ?_
                                refine WO.p rfl rfl (WO.p rfl rfl (WO.p rfl rfl ?_))
                                refine' WO.indexAddr (n := _) (i := _) rfl rfl rfl ?hs ?h1 rfl ?_
                                case hs => (first | exact hs1)
                                case h1 => (first | omega | (simp; omega))
                                refine' WO.load (v := _) rfl rfl ?hc rfl ?_
                                case hc => (first | (refine cellI2 (e := 3) (xs := specR l) (i := i) (j := i) (z := sp l i) ?_ (by rw [(specR_get hok hin).1]; exact hin) (specR_get hok hin).2 rfl; exact (by repeat (first | exact Sub.nil | refine Sub.cons (by repeat (first | exact Pick.head | apply Pick.tail)) ?_))))
                                refine WO.ar rfl rfl rfl (by (first | (unfold in64; omega) | (unfold in64; omega))) rfl (WO.p rfl rfl ?_)
                                refine WO.nil ?_
                                refine W.seq ?_
                                refine W.drawD 38 [.r 0 [], .r 1 [], .r 2 [], .r 3 [], .r 4 [], .r 5 [], .b 6 [], .r 7 [], .r 8 [], .r 9 [], .r 10 [], .r 11 [], .b 12 [], .r 13 [], .r 14 [], .r 15 [], .r 16 [], .r 17 [], .r 18 [], .b 19 [], .r 20 [], .r 21 [], .r 22 [], .r 23 [], .r 24 [], .r 25 [], .r 26 [], .b 27 [], .r 28 [], .r 29 [], .r 30 [], .r 31 [], .r 32 [], .r 33 [], .r 34 [], .r 35 [], .r 36 [], .b 37 []] [] (A0 := []) (Sub.refl _) (by kernel_rfl) ?_ ?_
                                · exact (ALok.r (ALok.r (ALok.r (ALok.r (ALok.r (ALok.r (ALok.b (ALok.r (ALok.r (ALok.r (ALok.r (ALok.r (ALok.b (ALok.r (ALok.r (ALok.r (ALok.r (ALok.r (ALok.r (ALok.b (ALok.r (ALok.r (ALok.r (ALok.r (ALok.r (ALok.r (ALok.r (ALok.b (ALok.r (ALok.r (ALok.r (ALok.r (ALok.r (ALok.r (ALok.r (ALok.r (ALok.r (ALok.b ALok.nil))))))))))))))))))))))))))))))))))))))
                                refine' DT.r rfl rfl rfl ?hq ?_
                                case hq =>
                                  refine WO.p rfl rfl ?_
                                  exact WO.nil ⟨rfl, rfl⟩
                                refine' DT.r rfl rfl rfl ?hq ?_
                                case hq =>
                                  refine WO.p rfl rfl ?_
                                  exact WO.nil ⟨rfl, rfl⟩
                                refine' DT.rB rfl rfl rfl ?hq (fun c7 => ?_) (fun c7 => ?_)
                                case hq =>
                                  refine WO.p rfl rfl ?_
                                  exact WO.nil ⟨rfl, rfl⟩
                                · first
                                  | (exfalso; omega)
                                  | (refine' DT.r rfl rfl rfl ?hq ?_
                                     case hq =>
                                       refine WO.pg rfl rfl rfl ?_
                                       exact WO.nil ⟨rfl, rfl⟩
                                     refine' DT.r rfl rfl rfl ?hq ?_
                                     case hq =>
                                       refine WO.pg rfl rfl rfl ?_
                                       exact WO.nil ⟨rfl, rfl⟩
                                     refine' DT.r rfl rfl rfl ?hq ?_
                                     case hq =>
                                       refine WO.go' rfl ?_
                                       refine' WO.indexAddr (n := _) (i := _) rfl rfl rfl ?hs ?h1 rfl ?_
                                       case hs => (first | exact hs1)
                                       case h1 => (first | omega | (simp; omega))
                                       exact WO.nil ⟨rfl, rfl⟩
                                     refine' DT.b rfl rfl rfl ?hq ?_
                                     case hq =>
                                       refine WO.go' rfl ?_
                                       refine' WO.load (v := _) rfl rfl ?hc rfl ?_
                                       case hc => (first | (refine cellI2 (e := 3) (xs := specR l) (i := i) (j := i) (z := sp l i) ?_ (by rw [(specR_get hok hin).1]; exact hin) (specR_get hok hin).2 rfl; exact (by repeat (first | exact Sub.nil | refine Sub.cons (by repeat (first | exact Pick.head | apply Pick.tail)) ?_))))
                                       exact WO.nil ⟨rfl, rfl⟩
                                     refine' DT.r rfl rfl rfl ?hq ?_
                                     case hq =>
                                       refine WO.pg rfl rfl rfl ?_
                                       exact WO.nil ⟨rfl, rfl⟩
                                     refine' DT.r rfl rfl rfl ?hq ?_
                                     case hq =>
                                       refine WO.pg rfl rfl rfl ?_
                                       exact WO.nil ⟨rfl, rfl⟩
                                     refine' DT.r rfl rfl rfl ?hq ?_
                                     case hq =>
                                       refine WO.pg rfl rfl rfl ?_
                                       exact WO.nil ⟨rfl, rfl⟩
                                     refine' DT.r rfl rfl rfl ?hq ?_
                                     case hq =>
                                       refine WO.go' rfl (WO.ar rfl rfl rfl (by (first | (unfold in64; omega) | (unfold in64; omega))) rfl ?_)
                                       exact WO.nil ⟨rfl, rfl⟩
                                     refine' DT.r rfl rfl rfl ?hq ?_
                                     case hq =>
                                       refine WO.go' rfl ?_
                                       refine' WO.indexAddrZ (n := _) rfl rfl rfl ?hs ?h00 ?h1 rfl ?_
                                       case hs => (first | exact hs1)
                                       case h00 => omega
                                       case h1 => (first | omega | (simp; omega))
                                       exact WO.nil ⟨rfl, rfl⟩
                                     refine' DT.b rfl rfl rfl ?hq ?_
                                     case hq =>
                                       refine WO.go' rfl ?_
                                       refine' WO.load (v := _) rfl rfl ?hc rfl ?_
                                       case hc => (first | (refine cellI2 (e := 3) (xs := specR l) (i := l.length - i) (j := ((l.length : Int) - (i : Int)).toNat) (z := sp l (l.length - i)) ?_ (by rw [(specR_get hok h0).1]; omega) (specR_get hok (by omega)).2 (by omega); exact (by repeat (first | exact Sub.nil | refine Sub.cons (by repeat (first | exact Pick.head | apply Pick.tail)) ?_))))
                                       exact WO.nil ⟨rfl, rfl⟩
                                     refine' DT.r rfl rfl rfl ?hq ?_
                                     case hq =>
                                       refine WO.pg rfl rfl rfl ?_
                                       exact WO.nil ⟨rfl, rfl⟩
                                     refine' DT.r rfl rfl rfl ?hq ?_
                                     case hq =>
                                       refine WO.p rfl rfl ?_
                                       exact WO.nil ⟨rfl, rfl⟩
                                     refine' DT.rB rfl rfl rfl ?hq (fun c8 => ?_) (fun c8 => ?_)
                                     case hq =>
                                       refine WO.p rfl rfl ?_
                                       exact WO.nil ⟨rfl, rfl⟩
                                     · first
                                       | (exfalso; omega)
                                       | (refine' DT.r rfl rfl rfl ?hq ?_
                                          case hq =>
                                            refine WO.no rfl rfl ?_
                                            exact WO.nil ⟨rfl, rfl⟩
                                          refine' DT.r rfl rfl rfl ?hq ?_
                                          case hq =>
                                            refine WO.no rfl rfl ?_
                                            exact WO.nil ⟨rfl, rfl⟩
                                          refine' DT.r rfl rfl rfl ?hq ?_
                                          case hq =>
                                            refine WO.no rfl rfl ?_
                                            exact WO.nil ⟨rfl, rfl⟩
                                          refine' DT.b rfl rfl rfl ?hq ?_
                                          case hq =>
                                            refine WO.no rfl rfl ?_
                                            exact WO.nil ⟨rfl, rfl⟩
                                          refine' DT.r rfl rfl rfl ?hq ?_
                                          case hq =>
                                            refine WO.no rfl rfl ?_
                                            exact WO.nil ⟨rfl, rfl⟩
                                          refine' DT.r rfl rfl rfl ?hq ?_
                                          case hq =>
                                            refine WO.no rfl rfl ?_
                                            exact WO.nil ⟨rfl, rfl⟩
                                          refine' DT.r rfl rfl rfl ?hq ?_
                                          case hq =>
                                            refine WO.p rfl rfl ?_
                                            exact WO.nil ⟨rfl, rfl⟩
                                          refine' DT.r rfl rfl rfl ?hq ?_
                                          case hq =>
                                            refine WO.p rfl rfl ?_
                                            exact WO.nil ⟨rfl, rfl⟩
                                          refine' DT.r rfl rfl rfl ?hq ?_
                                          case hq =>
                                            refine WO.no rfl rfl ?_
                                            exact WO.nil ⟨rfl, rfl⟩
                                          refine' DT.r rfl rfl rfl ?hq ?_
                                          case hq =>
                                            refine WO.no rfl rfl ?_
                                            exact WO.nil ⟨rfl, rfl⟩
                                          refine' DT.r rfl rfl rfl ?hq ?_
                                          case hq =>
                                            refine WO.no rfl rfl ?_
                                            exact WO.nil ⟨rfl, rfl⟩
                                          refine' DT.b rfl rfl rfl ?hq ?_
                                          case hq =>
                                            refine WO.no rfl rfl ?_
                                            exact WO.nil ⟨rfl, rfl⟩
                                          refine' DT.r rfl rfl rfl ?hq ?_
                                          case hq =>
                                            refine WO.no rfl rfl ?_
                                            exact WO.nil ⟨rfl, rfl⟩
                                          refine' DT.r rfl rfl rfl ?hq ?_
                                          case hq =>
                                            refine WO.no rfl rfl ?_
                                            exact WO.nil ⟨rfl, rfl⟩
                                          refine' DT.r rfl rfl rfl ?hq ?_
                                          case hq =>
                                            refine WO.no rfl rfl ?_
                                            exact WO.nil ⟨rfl, rfl⟩
                                          refine' DT.r rfl rfl rfl ?hq ?_
                                          case hq =>
                                            refine WO.p rfl rfl ?_
                                            exact WO.nil ⟨rfl, rfl⟩
                                          refine' DT.r rfl rfl rfl ?hq ?_
                                          case hq =>
                                            refine WO.p rfl rfl ?_
                                            exact WO.nil ⟨rfl, rfl⟩
                                          refine' DT.r rfl rfl rfl ?hq ?_
                                          case hq =>
                                            refine WO.no rfl rfl ?_
                                            exact WO.nil ⟨rfl, rfl⟩
                                          refine' DT.r rfl rfl rfl ?hq ?_
                                          case hq =>
                                            refine WO.no rfl rfl ?_
                                            exact WO.nil ⟨rfl, rfl⟩
                                          refine' DT.r rfl rfl rfl ?hq ?_
                                          case hq =>
                                            refine WO.no rfl rfl ?_
                                            exact WO.nil ⟨rfl, rfl⟩
                                          refine' DT.r rfl rfl rfl ?hq ?_
                                          case hq =>
                                            refine WO.no rfl rfl ?_
                                            exact WO.nil ⟨rfl, rfl⟩
                                          refine' DT.b rfl rfl rfl ?hq ?_
                                          case hq =>
                                            refine WO.no rfl rfl ?_
                                            exact WO.nil ⟨rfl, rfl⟩
                                          refine DT.nil [_, _, _, _, _, _, _] rfl ?_
                                          refine WO.no rfl rfl (WO.no rfl rfl (WO.no rfl rfl (WO.p rfl rfl ?_)))
                                          refine WO.nil ?_
                                          refine W.cond_t rfl ?_
                                          refine W.sreg ?_
                                          refine WO.p rfl rfl ?_
                                          refine WO.nil ?_
                                          refine W.ret ?_
                                          first | exact fin.ret (Res.one rfl (RV.tmp rfl)) rfl | (exfalso; omega))
                                     · first
                                       | (exfalso; omega)
                                       | (refine' DT.r rfl rfl rfl ?hq ?_
                                          case hq =>
                                            refine WO.pg rfl rfl rfl ?_
                                            exact WO.nil ⟨rfl, rfl⟩
                                          refine' DT.r rfl rfl rfl ?hq ?_
                                          case hq =>
                                            refine WO.pg rfl rfl rfl ?_
                                            exact WO.nil ⟨rfl, rfl⟩
                                          refine' DT.r rfl rfl rfl ?hq ?_
                                          case hq =>
                                            refine WO.go' rfl ?_
                                            refine' WO.indexAddr (n := _) (i := _) rfl rfl rfl ?hs ?h1 rfl ?_
                                            case hs => (first | exact hs1)
                                            case h1 => (first | omega | (simp; omega))
                                            exact WO.nil ⟨rfl, rfl⟩
                                          refine' DT.b rfl rfl rfl ?hq ?_
                                          case hq =>
                                            refine WO.go' rfl ?_
                                            refine' WO.load (v := _) rfl rfl ?hc rfl ?_
                                            case hc => (first | (refine cellI2 (e := 3) (xs := specR l) (i := i) (j := i) (z := sp l i) ?_ (by rw [(specR_get hok hin).1]; exact hin) (specR_get hok hin).2 rfl; exact (by repeat (first | exact Sub.nil | refine Sub.cons (by repeat (first | exact Pick.head | apply Pick.tail)) ?_))))
                                            exact WO.nil ⟨rfl, rfl⟩
                                          refine' DT.r rfl rfl rfl ?hq ?_
                                          case hq =>
                                            refine WO.pg rfl rfl rfl ?_
                                            exact WO.nil ⟨rfl, rfl⟩
                                          refine' DT.r rfl rfl rfl ?hq ?_
                                          case hq =>
                                            refine WO.pg rfl rfl rfl ?_
                                            exact WO.nil ⟨rfl, rfl⟩
                                          refine' DT.r rfl rfl rfl ?hq ?_
                                          case hq =>
                                            refine WO.p rfl rfl ?_
                                            exact WO.nil ⟨rfl, rfl⟩
                                          refine' DT.rB rfl rfl rfl ?hq (fun c9 => ?_) (fun c9 => ?_)
                                          case hq =>
                                            refine WO.p rfl rfl ?_
                                            exact WO.nil ⟨rfl, rfl⟩
                                          · first
                                            | (exfalso; omega)
                                            | (refine' DT.r rfl rfl rfl ?hq ?_
                                               case hq =>
                                                 refine WO.no rfl rfl ?_
                                                 exact WO.nil ⟨rfl, rfl⟩
                                               refine' DT.r rfl rfl rfl ?hq ?_
                                               case hq =>
                                                 refine WO.no rfl rfl ?_
                                                 exact WO.nil ⟨rfl, rfl⟩
                                               refine' DT.r rfl rfl rfl ?hq ?_
                                               case hq =>
                                                 refine WO.no rfl rfl ?_
                                                 exact WO.nil ⟨rfl, rfl⟩
                                               refine' DT.b rfl rfl rfl ?hq ?_
                                               case hq =>
                                                 refine WO.no rfl rfl ?_
                                                 exact WO.nil ⟨rfl, rfl⟩
                                               refine' DT.r rfl rfl rfl ?hq ?_
                                               case hq =>
                                                 refine WO.no rfl rfl ?_
                                                 exact WO.nil ⟨rfl, rfl⟩
                                               refine' DT.r rfl rfl rfl ?hq ?_
                                               case hq =>
                                                 refine WO.no rfl rfl ?_
                                                 exact WO.nil ⟨rfl, rfl⟩
                                               refine' DT.r rfl rfl rfl ?hq ?_
                                               case hq =>
                                                 refine WO.no rfl rfl ?_
                                                 exact WO.nil ⟨rfl, rfl⟩
                                               refine' DT.r rfl rfl rfl ?hq ?_
                                               case hq =>
                                                 refine WO.p rfl rfl ?_
                                                 exact WO.nil ⟨rfl, rfl⟩
                                               refine' DT.r rfl rfl rfl ?hq ?_
                                               case hq =>
                                                 refine WO.p rfl rfl ?_
                                                 exact WO.nil ⟨rfl, rfl⟩
                                               refine' DT.r rfl rfl rfl ?hq ?_
                                               case hq =>
                                                 refine WO.no rfl rfl ?_
                                                 exact WO.nil ⟨rfl, rfl⟩
                                               refine' DT.r rfl rfl rfl ?hq ?_
                                               case hq =>
                                                 refine WO.no rfl rfl ?_
                                                 exact WO.nil ⟨rfl, rfl⟩
                                               refine' DT.r rfl rfl rfl ?hq ?_
                                               case hq =>
                                                 refine WO.no rfl rfl ?_
                                                 exact WO.nil ⟨rfl, rfl⟩
                                               refine' DT.r rfl rfl rfl ?hq ?_
                                               case hq =>
                                                 refine WO.no rfl rfl ?_
                                                 exact WO.nil ⟨rfl, rfl⟩
                                               refine' DT.b rfl rfl rfl ?hq ?_
                                               case hq =>
                                                 refine WO.no rfl rfl ?_
                                                 exact WO.nil ⟨rfl, rfl⟩
                                               refine DT.nil [_, _, _, _, _, _, _] rfl ?_
                                               refine WO.no rfl rfl (WO.no rfl rfl (WO.no rfl rfl (WO.p rfl rfl ?_)))
                                               refine WO.nil ?_
                                               refine W.cond_t rfl ?_
                                               refine W.sreg ?_
                                               refine WO.p rfl rfl ?_
                                               refine WO.nil ?_
                                               refine W.ret ?_
                                               first | exact fin.ret (Res.one rfl (RV.tmp rfl)) rfl | (exfalso; omega))
                                          · first
                                            | (exfalso; omega)
                                            | (refine' DT.r rfl rfl rfl ?hq ?_
                                               case hq =>
                                                 refine WO.pg rfl rfl rfl ?_
                                                 exact WO.nil ⟨rfl, rfl⟩
                                               refine' DT.r rfl rfl rfl ?hq ?_
                                               case hq =>
                                                 refine WO.pg rfl rfl rfl ?_
                                                 exact WO.nil ⟨rfl, rfl⟩
                                               refine' DT.r rfl rfl rfl ?hq ?_
                                               case hq =>
                                                 refine WO.go' rfl ?_
                                                 refine' WO.indexAddr (n := _) (i := _) rfl rfl rfl ?hs ?h1 rfl ?_
                                                 case hs => (first | exact hs1)
                                                 case h1 => (first | omega | (simp; omega))
                                                 exact WO.nil ⟨rfl, rfl⟩
                                               refine' DT.b rfl rfl rfl ?hq ?_
                                               case hq =>
                                                 refine WO.go' rfl ?_
                                                 refine' WO.load (v := _) rfl rfl ?hc rfl ?_
                                                 case hc => (first | (refine cellI2 (e := 3) (xs := specR l) (i := i) (j := i) (z := sp l i) ?_ (by rw [(specR_get hok hin).1]; exact hin) (specR_get hok hin).2 rfl; exact (by repeat (first | exact Sub.nil | refine Sub.cons (by repeat (first | exact Pick.head | apply Pick.tail)) ?_))))
                                                 exact WO.nil ⟨rfl, rfl⟩
                                               refine' DT.r rfl rfl rfl ?hq ?_
                                               case hq =>
                                                 refine WO.pg rfl rfl rfl ?_
                                                 exact WO.nil ⟨rfl, rfl⟩
                                               refine' DT.r rfl rfl rfl ?hq ?_
                                               case hq =>
                                                 refine WO.go' rfl (WO.neg rfl (by (first | (unfold in64; omega) | (unfold in64; omega))) rfl ?_)
                                                 exact WO.nil ⟨rfl, rfl⟩
                                               refine' DT.r rfl rfl rfl ?hq ?_
                                               case hq =>
                                                 refine WO.pg rfl rfl rfl ?_
                                                 exact WO.nil ⟨rfl, rfl⟩
                                               refine' DT.r rfl rfl rfl ?hq ?_
                                               case hq =>
                                                 refine WO.p rfl rfl ?_
                                                 exact WO.nil ⟨rfl, rfl⟩
                                               refine' DT.rB rfl rfl rfl ?hq (fun c10 => ?_) (fun c10 => ?_)
                                               case hq =>
                                                 refine WO.p rfl rfl ?_
                                                 exact WO.nil ⟨rfl, rfl⟩
                                               · first
                                                 | (exfalso; omega)
                                                 | (refine' DT.r rfl rfl rfl ?hq ?_
                                                    case hq =>
                                                      refine WO.no rfl rfl ?_
                                                      exact WO.nil ⟨rfl, rfl⟩
                                                    refine' DT.r rfl rfl rfl ?hq ?_
                                                    case hq =>
                                                      refine WO.no rfl rfl ?_
                                                      exact WO.nil ⟨rfl, rfl⟩
                                                    refine' DT.r rfl rfl rfl ?hq ?_
                                                    case hq =>
                                                      refine WO.no rfl rfl ?_
                                                      exact WO.nil ⟨rfl, rfl⟩
                                                    refine' DT.r rfl rfl rfl ?hq ?_
                                                    case hq =>
                                                      refine WO.no rfl rfl ?_
                                                      exact WO.nil ⟨rfl, rfl⟩
                                                    refine' DT.b rfl rfl rfl ?hq ?_
                                                    case hq =>
                                                      refine WO.no rfl rfl ?_
                                                      exact WO.nil ⟨rfl, rfl⟩
                                                    refine DT.nil [_, _, _, _, _, _, _] rfl ?_
                                                    refine WO.no rfl rfl (WO.no rfl rfl (WO.no rfl rfl (WO.p rfl rfl ?_)))
                                                    refine WO.nil ?_
                                                    refine W.cond_t rfl ?_
                                                    refine W.sreg ?_
                                                    refine WO.p rfl rfl ?_
                                                    refine WO.nil ?_
                                                    refine W.ret ?_
                                                    first | exact fin.ret (Res.one rfl (RV.tmp rfl)) rfl | (exfalso; omega))
                                               · first
                                                 | (exfalso; omega)
                                                 | (refine' DT.r rfl rfl rfl ?hq ?_
                                                    case hq =>
                                                      refine WO.pg rfl rfl rfl ?_
                                                      exact WO.nil ⟨rfl, rfl⟩
                                                    refine' DT.r rfl rfl rfl ?hq ?_
                                                    case hq =>
                                                      refine WO.pg rfl rfl rfl ?_
                                                      exact WO.nil ⟨rfl, rfl⟩
                                                    refine' DT.r rfl rfl rfl ?hq ?_
                                                    case hq =>
                                                      refine WO.pg rfl rfl rfl ?_
                                                      exact WO.nil ⟨rfl, rfl⟩
                                                    refine' DT.r rfl rfl rfl ?hq ?_
                                                    case hq =>
                                                      refine WO.go' rfl ?_
                                                      refine' WO.indexAddr (n := _) (i := _) rfl rfl rfl ?hs ?h1 rfl ?_
                                                      case hs => (first | exact hs1)
                                                      case h1 => (first | omega | (simp; omega))
                                                      exact WO.nil ⟨rfl, rfl⟩
                                                    refine' DT.b rfl rfl rfl ?hq ?_
                                                    case hq =>
                                                      refine WO.go' rfl ?_
                                                      refine' WO.load (v := _) rfl rfl ?hc rfl ?_
                                                      case hc => (first | (refine cellI2 (e := 3) (xs := specR l) (i := i) (j := i) (z := sp l i) ?_ (by rw [(specR_get hok hin).1]; exact hin) (specR_get hok hin).2 rfl; exact (by repeat (first | exact Sub.nil | refine Sub.cons (by repeat (first | exact Pick.head | apply Pick.tail)) ?_))))
                                                      exact WO.nil ⟨rfl, rfl⟩
                                                    refine DT.nil [_, _, _, _, _, _, _] rfl ?_
                                                    refine WO.go' rfl (WO.ar rfl rfl rfl (by (first | (unfold in64; omega) | (unfold in64; omega))) rfl (WO.go' rfl (WO.rem rfl rfl (by first | omega | assumption) rfl (WO.pg rfl rfl rfl (WO.p rfl rfl ?_)))))
                                                    refine WO.nil ?_
                                                    refine W.cond_bl rfl (fun c11 => ?_) (fun c11 => ?_)
                                                    · first
                                                      | (exfalso; omega)
                                                      | (refine W.sreg ?_
                                                         refine WO.p rfl rfl ?_
                                                         refine WO.nil ?_
                                                         refine W.ret ?_
                                                         first | exact fin.ret (Res.one rfl (RV.tmp rfl)) rfl | (exfalso; omega))
                                                    · first
                                                      | (exfalso; omega)
                                                      | (refine W.skip ?_
                                                         refine W.region ?_
                                                         refine WO.p rfl rfl (WO.ar rfl rfl rfl (by (first | (unfold in64; omega) | (unfold in64; omega))) rfl (WO.p rfl rfl ?_))
                                                         refine WO.nil ?_
                                                         refine' ⟨i + 1, _, _, _, ?hp, ?hmu, ⟨rfl, rfl, rfl, rfl, rfl, rfl, rfl, rfl, rfl, rfl, trivial⟩, ?hS⟩
                                                         case hS => repeat (first | exact Sub.nil | refine Sub.cons (by repeat (first | exact Pick.head | apply Pick.tail)) ?_)
                                                         case hp => omega
                                                         case hmu => omega)))))
                                · first
                                  | (exfalso; omega)
                                  | (refine' DT.r rfl rfl rfl ?hq ?_
                                     case hq =>
                                       refine WO.no rfl rfl ?_
                                       exact WO.nil ⟨rfl, rfl⟩
                                     refine' DT.r rfl rfl rfl ?hq ?_
                                     case hq =>
                                       refine WO.no rfl rfl ?_
                                       exact WO.nil ⟨rfl, rfl⟩
                                     refine' DT.r rfl rfl rfl ?hq ?_
                                     case hq =>
                                       refine WO.no rfl rfl ?_
                                       exact WO.nil ⟨rfl, rfl⟩
                                     refine' DT.b rfl rfl rfl ?hq ?_
                                     case hq =>
                                       refine WO.no rfl rfl ?_
                                       exact WO.nil ⟨rfl, rfl⟩
                                     refine' DT.r rfl rfl rfl ?hq ?_
                                     case hq =>
                                       refine WO.no rfl rfl ?_
                                       exact WO.nil ⟨rfl, rfl⟩
                                     refine' DT.r rfl rfl rfl ?hq ?_
                                     case hq =>
                                       refine WO.no rfl rfl ?_
                                       exact WO.nil ⟨rfl, rfl⟩
                                     refine' DT.r rfl rfl rfl ?hq ?_
                                     case hq =>
                                       refine WO.no rfl rfl ?_
                                       exact WO.nil ⟨rfl, rfl⟩
                                     refine' DT.r rfl rfl rfl ?hq ?_
                                     case hq =>
                                       refine WO.no rfl rfl ?_
                                       exact WO.nil ⟨rfl, rfl⟩
                                     refine' DT.r rfl rfl rfl ?hq ?_
                                     case hq =>
                                       refine WO.no rfl rfl ?_
                                       exact WO.nil ⟨rfl, rfl⟩
                                     refine' DT.b rfl rfl rfl ?hq ?_
                                     case hq =>
                                       refine WO.no rfl rfl ?_
                                       exact WO.nil ⟨rfl, rfl⟩
                                     refine' DT.r rfl rfl rfl ?hq ?_
                                     case hq =>
                                       refine WO.no rfl rfl ?_
                                       exact WO.nil ⟨rfl, rfl⟩
                                     refine' DT.r rfl rfl rfl ?hq ?_
                                     case hq =>
                                       refine WO.p rfl rfl ?_
                                       exact WO.nil ⟨rfl, rfl⟩
                                     refine' DT.r rfl rfl rfl ?hq ?_
                                     case hq =>
                                       refine WO.p rfl rfl ?_
                                       exact WO.nil ⟨rfl, rfl⟩
                                     refine' DT.r rfl rfl rfl ?hq ?_
                                     case hq =>
                                       refine WO.pg rfl rfl rfl ?_
                                       exact WO.nil ⟨rfl, rfl⟩
                                     refine' DT.r rfl rfl rfl ?hq ?_
                                     case hq =>
                                       refine WO.pg rfl rfl rfl ?_
                                       exact WO.nil ⟨rfl, rfl⟩
                                     refine' DT.r rfl rfl rfl ?hq ?_
                                     case hq =>
                                       refine WO.go' rfl ?_
                                       refine' WO.indexAddr (n := _) (i := _) rfl rfl rfl ?hs ?h1 rfl ?_
                                       case hs => (first | exact hs1)
                                       case h1 => (first | omega | (simp; omega))
                                       exact WO.nil ⟨rfl, rfl⟩
                                     refine' DT.b rfl rfl rfl ?hq ?_
                                     case hq =>
                                       refine WO.go' rfl ?_
                                       refine' WO.load (v := _) rfl rfl ?hc rfl ?_
                                       case hc => (first | (refine cellI2 (e := 3) (xs := specR l) (i := i) (j := i) (z := sp l i) ?_ (by rw [(specR_get hok hin).1]; exact hin) (specR_get hok hin).2 rfl; exact (by repeat (first | exact Sub.nil | refine Sub.cons (by repeat (first | exact Pick.head | apply Pick.tail)) ?_))))
                                       exact WO.nil ⟨rfl, rfl⟩
                                     refine' DT.r rfl rfl rfl ?hq ?_
                                     case hq =>
                                       refine WO.pg rfl rfl rfl ?_
                                       exact WO.nil ⟨rfl, rfl⟩
                                     refine' DT.r rfl rfl rfl ?hq ?_
                                     case hq =>
                                       refine WO.pg rfl rfl rfl ?_
                                       exact WO.nil ⟨rfl, rfl⟩
                                     refine' DT.r rfl rfl rfl ?hq ?_
                                     case hq =>
                                       refine WO.p rfl rfl ?_
                                       exact WO.nil ⟨rfl, rfl⟩
                                     refine' DT.rB rfl rfl rfl ?hq (fun c12 => ?_) (fun c12 => ?_)
                                     case hq =>
                                       refine WO.p rfl rfl ?_
                                       exact WO.nil ⟨rfl, rfl⟩
                                     · first
                                       | (exfalso; omega)
                                       | (refine' DT.r rfl rfl rfl ?hq ?_
                                          case hq =>
                                            refine WO.no rfl rfl ?_
                                            exact WO.nil ⟨rfl, rfl⟩
                                          refine' DT.r rfl rfl rfl ?hq ?_
                                          case hq =>
                                            refine WO.no rfl rfl ?_
                                            exact WO.nil ⟨rfl, rfl⟩
                                          refine' DT.r rfl rfl rfl ?hq ?_
                                          case hq =>
                                            refine WO.no rfl rfl ?_
                                            exact WO.nil ⟨rfl, rfl⟩
                                          refine' DT.b rfl rfl rfl ?hq ?_
                                          case hq =>
                                            refine WO.no rfl rfl ?_
                                            exact WO.nil ⟨rfl, rfl⟩
                                          refine' DT.r rfl rfl rfl ?hq ?_
                                          case hq =>
                                            refine WO.no rfl rfl ?_
                                            exact WO.nil ⟨rfl, rfl⟩
                                          refine' DT.r rfl rfl rfl ?hq ?_
                                          case hq =>
                                            refine WO.no rfl rfl ?_
                                            exact WO.nil ⟨rfl, rfl⟩
                                          refine' DT.r rfl rfl rfl ?hq ?_
                                          case hq =>
                                            refine WO.no rfl rfl ?_
                                            exact WO.nil ⟨rfl, rfl⟩
                                          refine' DT.r rfl rfl rfl ?hq ?_
                                          case hq =>
                                            refine WO.p rfl rfl ?_
                                            exact WO.nil ⟨rfl, rfl⟩
                                          refine' DT.r rfl rfl rfl ?hq ?_
                                          case hq =>
                                            refine WO.p rfl rfl ?_
                                            exact WO.nil ⟨rfl, rfl⟩
                                          refine' DT.r rfl rfl rfl ?hq ?_
                                          case hq =>
                                            refine WO.no rfl rfl ?_
                                            exact WO.nil ⟨rfl, rfl⟩
                                          refine' DT.r rfl rfl rfl ?hq ?_
                                          case hq =>
                                            refine WO.no rfl rfl ?_
                                            exact WO.nil ⟨rfl, rfl⟩
                                          refine' DT.r rfl rfl rfl ?hq ?_
                                          case hq =>
                                            refine WO.no rfl rfl ?_
                                            exact WO.nil ⟨rfl, rfl⟩
                                          refine' DT.r rfl rfl rfl ?hq ?_
                                          case hq =>
                                            refine WO.no rfl rfl ?_
                                            exact WO.nil ⟨rfl, rfl⟩
                                          refine' DT.b rfl rfl rfl ?hq ?_
                                          case hq =>
                                            refine WO.no rfl rfl ?_
                                            exact WO.nil ⟨rfl, rfl⟩
                                          refine DT.nil [_, _, _, _, _, _, _] rfl ?_
                                          refine WO.no rfl rfl (WO.no rfl rfl (WO.no rfl rfl (WO.p rfl rfl ?_)))
                                          refine WO.nil ?_
                                          refine W.cond_t rfl ?_
                                          refine W.sreg ?_
                                          refine WO.p rfl rfl ?_
                                          refine WO.nil ?_
                                          refine W.ret ?_
                                          first | exact fin.ret (Res.one rfl (RV.tmp rfl)) rfl | (exfalso; omega))
                                     · first
                                       | (exfalso; omega)
                                       | (refine' DT.r rfl rfl rfl ?hq ?_
                                          case hq =>
                                            refine WO.pg rfl rfl rfl ?_
                                            exact WO.nil ⟨rfl, rfl⟩
                                          refine' DT.r rfl rfl rfl ?hq ?_
                                          case hq =>
                                            refine WO.pg rfl rfl rfl ?_
                                            exact WO.nil ⟨rfl, rfl⟩
                                          refine' DT.r rfl rfl rfl ?hq ?_
                                          case hq =>
                                            refine WO.go' rfl ?_
                                            refine' WO.indexAddr (n := _) (i := _) rfl rfl rfl ?hs ?h1 rfl ?_
                                            case hs => (first | exact hs1)
                                            case h1 => (first | omega | (simp; omega))
                                            exact WO.nil ⟨rfl, rfl⟩
                                          refine' DT.b rfl rfl rfl ?hq ?_
                                          case hq =>
                                            refine WO.go' rfl ?_
                                            refine' WO.load (v := _) rfl rfl ?hc rfl ?_
                                            case hc => (first | (refine cellI2 (e := 3) (xs := specR l) (i := i) (j := i) (z := sp l i) ?_ (by rw [(specR_get hok hin).1]; exact hin) (specR_get hok hin).2 rfl; exact (by repeat (first | exact Sub.nil | refine Sub.cons (by repeat (first | exact Pick.head | apply Pick.tail)) ?_))))
                                            exact WO.nil ⟨rfl, rfl⟩
                                          refine' DT.r rfl rfl rfl ?hq ?_
                                          case hq =>
                                            refine WO.pg rfl rfl rfl ?_
                                            exact WO.nil ⟨rfl, rfl⟩
                                          refine' DT.r rfl rfl rfl ?hq ?_
                                          case hq =>
                                            refine WO.go' rfl (WO.neg rfl (by (first | (unfold in64; omega) | (unfold in64; omega))) rfl ?_)
                                            exact WO.nil ⟨rfl, rfl⟩
                                          refine' DT.r rfl rfl rfl ?hq ?_
                                          case hq =>
                                            refine WO.pg rfl rfl rfl ?_
                                            exact WO.nil ⟨rfl, rfl⟩
                                          refine' DT.r rfl rfl rfl ?hq ?_
                                          case hq =>
                                            refine WO.p rfl rfl ?_
                                            exact WO.nil ⟨rfl, rfl⟩
                                          refine' DT.rB rfl rfl rfl ?hq (fun c13 => ?_) (fun c13 => ?_)
                                          case hq =>
                                            refine WO.p rfl rfl ?_
                                            exact WO.nil ⟨rfl, rfl⟩
                                          · first
                                            | (exfalso; omega)
                                            | (refine' DT.r rfl rfl rfl ?hq ?_
                                               case hq =>
                                                 refine WO.no rfl rfl ?_
                                                 exact WO.nil ⟨rfl, rfl⟩
                                               refine' DT.r rfl rfl rfl ?hq ?_
                                               case hq =>
                                                 refine WO.no rfl rfl ?_
                                                 exact WO.nil ⟨rfl, rfl⟩
                                               refine' DT.r rfl rfl rfl ?hq ?_
                                               case hq =>
                                                 refine WO.no rfl rfl ?_
                                                 exact WO.nil ⟨rfl, rfl⟩
                                               refine' DT.r rfl rfl rfl ?hq ?_
                                               case hq =>
                                                 refine WO.no rfl rfl ?_
                                                 exact WO.nil ⟨rfl, rfl⟩
                                               refine' DT.b rfl rfl rfl ?hq ?_
                                               case hq =>
                                                 refine WO.no rfl rfl ?_
                                                 exact WO.nil ⟨rfl, rfl⟩
                                               refine DT.nil [_, _, _, _, _, _, _] rfl ?_
                                               refine WO.no rfl rfl (WO.no rfl rfl (WO.no rfl rfl (WO.p rfl rfl ?_)))
                                               refine WO.nil ?_
                                               refine W.cond_t rfl ?_
                                               refine W.sreg ?_
                                               refine WO.p rfl rfl ?_
                                               refine WO.nil ?_
                                               refine W.ret ?_
                                               first | exact fin.ret (Res.one rfl (RV.tmp rfl)) rfl | (exfalso; omega))
                                          · first
                                            | (exfalso; omega)
                                            | (refine' DT.r rfl rfl rfl ?hq ?_
                                               case hq =>
                                                 refine WO.pg rfl rfl rfl ?_
                                                 exact WO.nil ⟨rfl, rfl⟩
                                               refine' DT.r rfl rfl rfl ?hq ?_
                                               case hq =>
                                                 refine WO.pg rfl rfl rfl ?_
                                                 exact WO.nil ⟨rfl, rfl⟩
                                               refine' DT.r rfl rfl rfl ?hq ?_
                                               case hq =>
                                                 refine WO.pg rfl rfl rfl ?_
                                                 exact WO.nil ⟨rfl, rfl⟩
                                               refine' DT.r rfl rfl rfl ?hq ?_
                                               case hq =>
                                                 refine WO.go' rfl ?_
                                                 refine' WO.indexAddr (n := _) (i := _) rfl rfl rfl ?hs ?h1 rfl ?_
                                                 case hs => (first | exact hs1)
                                                 case h1 => (first | omega | (simp; omega))
                                                 exact WO.nil ⟨rfl, rfl⟩
                                               refine' DT.b rfl rfl rfl ?hq ?_
                                               case hq =>
                                                 refine WO.go' rfl ?_
                                                 refine' WO.load (v := _) rfl rfl ?hc rfl ?_
                                                 case hc => (first | (refine cellI2 (e := 3) (xs := specR l) (i := i) (j := i) (z := sp l i) ?_ (by rw [(specR_get hok hin).1]; exact hin) (specR_get hok hin).2 rfl; exact (by repeat (first | exact Sub.nil | refine Sub.cons (by repeat (first | exact Pick.head | apply Pick.tail)) ?_))))
                                                 exact WO.nil ⟨rfl, rfl⟩
                                               refine DT.nil [_, _, _, _, _, _, _] rfl ?_
                                               refine WO.go' rfl (WO.ar rfl rfl rfl (by (first | (unfold in64; omega) | (unfold in64; omega))) rfl (WO.go' rfl (WO.rem rfl rfl (by first | omega | assumption) rfl (WO.pg rfl rfl rfl (WO.p rfl rfl ?_)))))
                                               refine WO.nil ?_
                                               refine W.cond_bl rfl (fun c14 => ?_) (fun c14 => ?_)
                                               · first
                                                 | (exfalso; omega)
                                                 | (refine W.sreg ?_
                                                    refine WO.p rfl rfl ?_
                                                    refine WO.nil ?_
                                                    refine W.ret ?_
                                                    first | exact fin.ret (Res.one rfl (RV.tmp rfl)) rfl | (exfalso; omega))
                                               · first
                                                 | (exfalso; omega)
                                                 | (refine W.skip ?_
                                                    refine W.region ?_
                                                    refine WO.p rfl rfl (WO.ar rfl rfl rfl (by (first | (unfold in64; omega) | (unfold in64; omega))) rfl (WO.p rfl rfl ?_))
                                                    refine WO.nil ?_
                                                    refine' ⟨i + 1, _, _, _, ?hp, ?hmu, ⟨rfl, rfl, rfl, rfl, rfl, rfl, rfl, rfl, rfl, rfl, trivial⟩, ?hS⟩
                                                    case hS => repeat (first | exact Sub.nil | refine Sub.cons (by repeat (first | exact Pick.head | apply Pick.tail)) ?_)
                                                    case hp => omega
                                                    case hmu => omega)))))
                           · first
                             | (exfalso; omega)
                             | (refine W.exit (blk_same ?_)
                                refine W.seq ?_
                                obtain rfl : i = l.length := by omega
                                have hall := sp_all h1.2
                                refine W.sreg ?_
                                refine WO.p rfl rfl (WO.p rfl rfl (WO.p rfl rfl (WO.ar rfl rfl rfl (by (first | (have q := sq_le hsg.1 hsg.2; have q2 : (l.length : Int) * (l.length : Int) ≤ 128 * 128 := Int.mul_le_mul (by omega) (by omega) (by omega) (by omega); unfold in64; omega))) rfl (WO.p rfl rfl ?_))))
                                refine WO.nil ?_
                                refine W.cond_bl rfl (fun c15 => ?_) (fun c15 => ?_)
                                · first
                                  | (exfalso; omega)
                                  | (refine W.sreg ?_
                                     refine WO.p rfl rfl ?_
                                     refine WO.nil ?_
                                     refine W.ret ?_
                                     first | exact fin.ret (Res.one rfl (RV.tmp rfl)) rfl | (exfalso; omega))
                                · first
                                  | (exfalso; omega)
                                  | (refine W.skip ?_
                                     refine W.fact (p := HasCap av (turnB l t l.length).length) (fun L w hi => HasCap.of_ow (enc := encI) (e := 3) (sz := 1) (by repeat (first | exact Pick.head | apply Pick.tail)) hi) ?_
                                     rintro ⟨a1, a2, rfl, ha3⟩
                                     refine W.fact (p := HasCap bv (revB l l.length).length) (fun L w hi => HasCap.of_ow (enc := encI) (e := 3) (sz := 1) (by repeat (first | exact Pick.head | apply Pick.tail)) hi) ?_
                                     rintro ⟨b1, b2, rfl, hb3⟩
                                     refine W.fact (p := HasCap cv (negB l l.length).length) (fun L w hi => HasCap.of_ow (enc := encI) (e := 3) (sz := 1) (by repeat (first | exact Pick.head | apply Pick.tail)) hi) ?_
                                     rintro ⟨c1, c2, rfl, hc3⟩
                                     refine W.sreg ?_
                                     refine WO.p rfl rfl (WO.p rfl rfl (WO.p rfl rfl ?_))
                                     refine' WO.buildSl (cs := _) rfl rfl rfl rfl ?hf rfl rfl ?hl rfl (fun v4 => ?_)
                                     case hf => (conv => lhs; simp [-List.getD_eq_getElem?_getD, fillL, vcl, wrl, TTab.pl?.lget']) <;> rfl
                                     case hl => rfl
                                     refine WO.p rfl rfl ?_
                                     refine WO.nil ?_
                                     refine W.seq ?_
                                     refine W.sreg ?_
                                     refine WO.p rfl rfl ?_
                                     refine WO.nil ?_
                                     refine W.block ?_
                                     refine W.loop2 (fun (k : Nat) (lb : Nat) => k ≤ 3)
                                       (fun (k : Nat) (lb : Nat) => [(15, .int .i64 (k : Int)), (14, .slice (some ⟨lb, 0, none⟩) 3 3), (6, r1)])
                                       (fun (k : Nat) (lb : Nat) => [OwE encI 3 1 r1 (specR l), OwE encI 3 1 (.slice a1 (turnB l t l.length).length a2) (turnB l t l.length), OwE encI 3 1 (.slice b1 (revB l l.length).length b2) (revB l l.length), OwE encI 3 1 (.slice c1 (negB l l.length).length c2) (negB l l.length), OwC 22 1 (.slice (some ⟨lb, 0, none⟩) 3 3) 3 [.slice a1 (turnB l t l.length).length a2, .slice b1 (revB l l.length).length b2, .slice c1 (negB l l.length).length c2]])
                                       (fun (k : Nat) (lb : Nat) => 3 - k) 0 _
                                       (by omega) ⟨rfl, rfl, rfl, trivial⟩ (by repeat (first | exact Sub.nil | refine Sub.cons (by repeat (first | exact Pick.head | apply Pick.tail)) ?_)) ?_
                                     rintro k lb hk0
                                     refine W.seq ?_
                                     refine W.sreg ?_
                                     refine WO.p rfl rfl (WO.p rfl rfl ?_)
                                     refine WO.nil ?_
                                     refine W.cond_bl rfl (fun c16 => ?_) (fun c16 => ?_)
                                     · first
                                       | (exfalso; omega)
                                       | (refine W.skip ?_
                                          refine W.seq ?_
                                          refine W.block ?_
                                          refine W.sreg ?_
                                          refine WO.p rfl rfl (WO.p rfl rfl ?_)
                                          refine' WO.indexAddr (n := _) (i := _) rfl rfl rfl ?hs ?h1 rfl ?_
                                          case hs => (first | exact isSl_lit (n := 3) (by omega) (fun _ => ⟨_, _, rfl⟩))
                                          case h1 => (first | omega | (simp; omega))
                                          refine' WO.load (v := _) rfl rfl ?hc rfl ?_
                                          case hc => (first | (refine OwC.cell1s (e := 22) (n := 3) (cs := [.slice a1 (turnB l t l.length).length a2, .slice b1 (revB l l.length).length b2, .slice c1 (negB l l.length).length c2]) ?_ (show k < 3 by omega); exact (by repeat (first | exact Sub.nil | refine Sub.cons (by repeat (first | exact Pick.head | apply Pick.tail)) ?_))))
                                          refine WO.call (Post := fun r Hq => ∃ y : Value, r = .tuple #[y, .int .i64 0] ∧ Hq = [OwE encI 3 1 y (specR l)]) rfl Try.call25 (fun L w hi => by
                                          rcases (show k = 0 ∨ k = 1 ∨ k = 2 by omega) with rfl | rfl | rfl
                                          · have h := c_Spectrum w (.slice a1 (turnB l t l.length).length a2) (turnB l t l.length) (RdF.of_ow (e := 3) encI_ok (by repeat (first | exact Pick.head | apply Pick.tail)) hi) ⟨_, _, rfl, ha3⟩; rw [(spec_turn hok h0 t).1, (spec_turn hok h0 t).2] at h; exact h
                                          · have h := c_Spectrum w (.slice b1 (revB l l.length).length b2) (revB l l.length) (RdF.of_ow (e := 3) encI_ok (by repeat (first | exact Pick.head | apply Pick.tail)) hi) ⟨_, _, rfl, hb3⟩; rw [(spec_rev hok h0).1, (spec_rev hok h0).2] at h; exact h
                                          · have h := c_Spectrum w (.slice c1 (negB l l.length).length c2) (negB l l.length) (RdF.of_ow (e := 3) encI_ok (by repeat (first | exact Pick.head | apply Pick.tail)) hi) ⟨_, _, rfl, hc3⟩; rw [(spec_neg hok h0).1, (spec_neg hok h0).2] at h; exact h) rfl ?_
                                          rintro _ _ ⟨y1, rfl, rfl⟩
                                          refine WO.p rfl rfl (WO.p rfl rfl (WO.p rfl rfl (WO.p rfl rfl (WO.p rfl rfl ?_))))
                                          refine WO.nil ?_
                                          refine W.sreg ?_
                                          refine WO.p rfl rfl (WO.p rfl rfl (WO.p rfl rfl ?_))
                                          refine WO.guard_bl rfl rfl (fun c17 => ?_) (fun c17 => ?_)
                                          · first
                                            | (exfalso; omega)
                                            | (refine WO.no rfl rfl (WO.no rfl rfl (WO.no rfl rfl (WO.no rfl rfl (WO.p rfl rfl ?_))))
                                               refine WO.nil ?_
                                               refine W.cond_t rfl ?_
                                               refine W.sreg ?_
                                               refine WO.p rfl rfl ?_
                                               refine WO.nil ?_
                                               refine W.ret ?_
                                               first | exact fin.ret (Res.one rfl (RV.tmp rfl)) rfl | (exfalso; omega))
                                          · first
                                            | (exfalso; omega)
                                            | (refine WO.pg rfl rfl rfl (WO.pg rfl rfl rfl (WO.go' rfl ?_))
                                               refine WO.callR (r := .bool true) rfl Try.call19 (fun L w hi => ints_t (l_ints w r1 y1 (specR l) (specR l) (RdF.of_ow (e := 3) encI_ok (by repeat (first | exact Pick.head | apply Pick.tail)) hi) (RdF.of_ow (e := 3) encI_ok (by repeat (first | exact Pick.head | apply Pick.tail)) hi)) rfl) rfl ?_
                                               refine WO.pg rfl rfl rfl (WO.p rfl rfl ?_)
                                               refine WO.nil ?_
                                               refine W.cond_f rfl ?_
                                               refine W.skip ?_
                                               refine W.region ?_
                                               refine WO.p rfl rfl (WO.ar rfl rfl rfl (by (first | (unfold in64; omega) | (unfold in64; omega))) rfl (WO.p rfl rfl ?_))
                                               refine WO.nil ?_
                                               refine' ⟨k + 1, _, ?hp, ?hmu, ⟨rfl, rfl, rfl, trivial⟩, ?hS⟩
                                               case hS => repeat (first | exact Sub.nil | refine Sub.cons (by repeat (first | exact Pick.head | apply Pick.tail)) ?_)
                                               case hp => omega
                                               case hmu => omega))
                                     · first
                                       | (exfalso; omega)
                                       | (refine W.exit (blk_same ?_)
                                          refine W.sreg ?_
                                          refine WO.callR rfl Try.call15 (fun L w hi => l_Works w) rfl ?_
                                          refine WO.p rfl rfl ?_
                                          refine WO.nil ?_
                                          refine W.ret ?_
                                          first | exact fin.ret (Res.one rfl (RV.tmp rfl)) rfl | (exfalso; omega)))))))))
end Go.Proofs.Ytingkbglkaojdaa
