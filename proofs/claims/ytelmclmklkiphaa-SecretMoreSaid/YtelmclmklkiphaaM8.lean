/-
  What is proved here: slices of slices; books with one row more. Conditions: none; each contract states its own.
  What is proved here: which of the rows asked for become known. Conditions: none; each contract states its own.
  What is proved here: which of the rows asked for become known, by the document's answer. Conditions: none; each contract states its own.
  What is proved here: which of the rows asked for become known, by the document's answer. Conditions: none; each contract states its own.
  What is proved here: how the arguments of the laws read. Conditions: none.
-/
import Derived.Test.YtelmclmklkiphaaM4
import Derived.Test.YtelmclmklkiphaaM3
import Derived.Test.YtelmclmklkiphaaM7
import Derived.Deep.Strs
import Derived.OpenShut
set_option linter.unusedVariables false
set_option linter.unusedSimpArgs false
namespace Go.Proofs.Ytelmclmklkiphaa
open Go Go.TH
attribute [local irreducible] W WO pt
set_option maxRecDepth 10000
set_option maxHeartbeats 1000000
section
variable {P : Program} {C : Cx P} {E : Env} {H : List HP}
variable {ops : Array Oper} {K : KP} {rest : List Oper} {d : Nat} {ty : TypeId} {pos : String} {af : Array Edge} {x y z : Operand} {T : TypeId}
/-- x[:n:n] -/
theorem WO.slice3 {e sz by' n l c : Nat} {k k' : IntKind} {a : Option Addr} (hT : C.tt.sl? T = some (e, sz, by')) (hx : ev E x = some (.slice a l c)) (hy : ev E y = some (.int k (n : Int))) (hz : ev E z = some (.int k' (n : Int))) (hn : n ≤ c) (hN : Nat.blt d C.N = true)
    (h : WO C ops rest K ((d, .slice a n n) :: E) H) : WO C ops (⟨some d, .slice T x none (some y) (some z), ty, pos, af, none⟩ :: rest) K E H :=
  WO.pure _ (by simp) (fun L ac w hf hi => by
    have hn' : (n : Int) ≤ (c : Int) := by omega
    have e0 : a.map (fun p => p.add 0) = a := by cases a <;> simp [Addr.add]
    simp [execOp, hf.eval hx, hf.eval hy, hf.eval hz, Instr.sliceAt, Instr.slice, run_underlying (SlT.of hT).u, Instr.sliceBounds, run_sliceBound, hn', Go.TH.run_sizeOf (SlT.of hT).size, e0]) hN h
/-- x[:n] -/
theorem WO.sliceTo {e sz by' n l c : Nat} {k : IntKind} {a : Option Addr} (hT : C.tt.sl? T = some (e, sz, by')) (hx : ev E x = some (.slice a l c)) (hy : ev E y = some (.int k (n : Int))) (hn : n ≤ c) (hN : Nat.blt d C.N = true)
    (h : WO C ops rest K ((d, .slice a n c) :: E) H) : WO C ops (⟨some d, .slice T x none (some y) none, ty, pos, af, none⟩ :: rest) K E H :=
  WO.pure _ (by simp) (fun L ac w hf hi => by
    have hn' : (n : Int) ≤ (c : Int) := by omega
    have e0 : a.map (fun p => p.add 0) = a := by cases a <;> simp [Addr.add]
    simp [execOp, hf.eval hx, hf.eval hy, Instr.sliceAt, Instr.slice, run_underlying (SlT.of hT).u, Instr.sliceBounds, run_sliceBound, hn', Go.TH.run_sizeOf (SlT.of hT).size, e0]) hN h
/-- x[n:] -/
theorem WO.sliceFrom {e sz by' n l c : Nat} {k : IntKind} {a : Option Addr} (hT : C.tt.sl? T = some (e, sz, by')) (hx : ev E x = some (.slice a l c)) (hy : ev E y = some (.int k (n : Int))) (hn : n ≤ l) (hN : Nat.blt d C.N = true)
    (h : WO C ops rest K ((d, .slice (if c = n then a else a.map (·.add (n * sz))) (l - n) (c - n)) :: E) H) : WO C ops (⟨some d, .slice T x (some y) none none, ty, pos, af, none⟩ :: rest) K E H :=
  WO.pure _ (by simp) (fun L ac w hf hi => by
    have hn' : (n : Int) ≤ (l : Int) := by omega
    simp [execOp, hf.eval hx, hf.eval hy, Instr.sliceAt, Instr.slice, run_underlying (SlT.of hT).u, Instr.sliceBounds, run_sliceBound, hn', Go.TH.run_sizeOf (SlT.of hT).size]) hN h
/-- what is full grows, be it nothing at all -/
theorem WO.appendFullO {e sz by' n m : Nat} {a : Option Addr} {u zv : Value} {cs news : List Value} (hT : C.tt.sl? T = some (e, sz, by')) (hz : C.tt.z? e = some zv) (hzs : Nat.beq zv.cells.size sz = true)
    (hx : ev E x = some (.slice a n n)) (hy : ev E y = some u) (ha : a = none → n = 0) (hc0 : ∀ a', a = some a' → Cells C H a' cs) (hcl : cs.length = n * sz) (hS : IsSl u m) (hm : 0 < m) (hc : Cells C H (base u) news) (hl : news.length = m * sz) (h1 : ∀ u ∈ news, u.oneCell' = true)
    (hb : (n + m) * by' ≤ 140737488355328) (h63 : n + m ≤ 9223372036854775807) (hN : Nat.blt d C.N = true)
    (h : ∀ g c, n + m ≤ c → WO C ops rest K ((d, .slice (some ⟨g, 0, none⟩) (n + m) c) :: E) (OwC e sz (.slice (some ⟨g, 0, none⟩) (n + m) c) (n + m) (cs ++ news) :: H)) : WO C ops (⟨some d, .call ⟨.builtin .append, #[x, y], #[T, T]⟩, ty, pos, af, none⟩ :: rest) K E H := by
  have hcap : ∀ g c, WO C ops rest K ((d, .slice (some ⟨g, 0, none⟩) (n + m) c) :: E) (OwC e sz (.slice (some ⟨g, 0, none⟩) (n + m) c) (n + m) (cs ++ news) :: H) := fun g c => by
    by_cases q : n + m ≤ c
    · exact h g c q
    refine WO.fact (p := False) (fun L w hi => ?_) False.elim
    obtain ⟨_, hcase⟩ := OwC.open (hi.pickL (Pick.head (A := OwC e sz (.slice (some ⟨g, 0, none⟩) (n + m) c) (n + m) (cs ++ news))))
    rcases hcase with ⟨q2, _⟩ | ⟨g', cap, cur, q2, q3, _⟩
    · omega
    injection q2 with _ _ q2; omega
  cases a with
  | some a => exact WO.appendFull hT hz hzs hx hy (hc0 a rfl) hcl hS hm hc hl hb h63 hN hcap
  | none =>
    obtain rfl := ha rfl
    obtain rfl : cs = [] := List.eq_nil_of_length_eq_zero (by simpa using hcl)
    have := WO.append (C := C) (ops := ops) (rest := rest) (K := K) (E := E) (H := OwC e sz (.slice none 0 0) 0 [] :: H) (d := d) (ty := ty) (pos := pos) (af := af) (x := x) (y := y) (n := 0) (cs := []) hT hz hzs hx hy Pick.head hS hm (fun j v hv L w hi => hc j v hv (L ++ [OwC e sz (.slice none 0 0) 0 []]) w (by simpa using hi)) hl h1 (by simpa using hb) (by simpa using h63) hN (fun g c => hcap g c)
    exact WO.chg (owcNil (e := e) (sz := sz)) this
end
end Go.Proofs.Ytelmclmklkiphaa
namespace Go.Proofs.Ytelmclmklkiphaa
open Go Go.TH
attribute [local irreducible] W WO pt
set_option maxRecDepth 10000
set_option maxHeartbeats 1000000
theorem flatV : ∀ (rv : List Value), rv.flatMap encV = rv
  | [] => rfl
  | v :: r => by rw [List.flatMap_cons, flatV r]; rfl
theorem encV_ok : ∀ {C : Cx Try.prog} {H : List HP} {v : Value} {rv : List Value}, RdF encV 1 C.B C.w0 v rv → Cells C H (base v) rv := fun {C H v rv} h j u hu => by
  have hj := (List.getElem?_eq_some_iff.1 hu).1
  have := h.cellNat (H := H) (i := j) (x := u) hu (j := 0) (u := u) rfl
  simpa [Addr.add_add] using this
theorem rows_oc {B : Nat} {w : World} {v : Value} {rv : List Value} {rows : List (List Int)} (h : RdR encI 1 B w v rv rows) : ∀ u ∈ rv, u.oneCell' = true := fun u hu => by
  obtain ⟨i, hi, rfl⟩ := List.getElem_of_mem hu
  have := (h.row i (by rw [← h.len]; exact hi)).sl.oc
  rwa [List.getD_eq_getElem?_getD, List.getElem?_eq_getElem hi] at this
/-- a slice that has room for what it holds -/
structure CapV (v : Value) (n : Nat) : Prop where
  ex : ∃ (a : Option Addr) (c : Nat), v = .slice a n c ∧ n ≤ c ∧ (a = none → c = 0)
/-- a book with one row more reads as one -/
theorem rdr_more {C : Cx Try.prog} {H H1 L : List HP} {w : World} {n : Nat} {v v' u : Value} {rv : List Value} {rows : List (List Int)} {r : List Int} (hB : RdR encI 1 C.B C.w0 v rv rows) (hR : RdF encI 1 C.B C.w0 u r) (p : Pick (OwC 25 1 v' n (rv ++ [u])) H H1) (hi : TH.Inv C.w0 C.M (L ++ H) w) : RdR encI 1 w.heap.size w v' (rv ++ [u]) (rows ++ [r]) := by
  have hl := hB.len
  refine RdR.of_lit p hi (by simp [hl]) fun i h => ?_
  rw [List.length_append] at h
  simp only [List.length_singleton] at h
  by_cases g : i < rows.length
  · rw [List.getD_eq_getElem?_getD, List.getElem?_append_left (by omega), List.getD_eq_getElem?_getD, List.getElem?_append_left g, ← List.getD_eq_getElem?_getD, ← List.getD_eq_getElem?_getD]
    exact (hB.row i g).later hi
  obtain rfl : i = rows.length := by omega
  rw [List.getD_eq_getElem?_getD, List.getElem?_append_right (by omega), List.getD_eq_getElem?_getD, List.getElem?_append_right (Nat.le_refl _)]
  simp only [hl, Nat.sub_self]
  exact hR.later hi
/-- the first error of the rows asked for -/
def fbad (n : Int) (asks : List (List Int)) : Int := match asks.find? fun q => decide (chkR n q ≠ 0) with
  | some q => chkR n q
  | none => 0
/-- the one row makes another one known -/
def Gain (n : Nat) (rows : List (List Int)) (r q : List Int) : Prop := ¬ CanA n rows q ∧ CanA n (rows ++ [r]) q
instance (n : Nat) (rows : List (List Int)) (r q : List Int) : Decidable (Gain n rows r q) := by unfold Gain; infer_instance
def mayE (n : Int) (rows : List (List Int)) (r : List Int) (asks : List (List Int)) : Int :=
  if chkBR n rows r ≠ 0 then chkBR n rows r else if 8 ≤ rows.length then 10 else if 4096 < asks.length then 6 else if fbad n asks ≠ 0 then fbad n asks else if ∃ q ∈ asks, Gain n.toNat rows r q then 21 else 0
section
variable {n : Int} {rows asks : List (List Int)} {r : List Int}
theorem fbad_at {i : Nat} (hi : i < asks.length) (h0 : ∀ q ∈ asks.take i, chkR n q = 0) (h : chkR n (asks.getD i []) ≠ 0) : fbad n asks = chkR n (asks.getD i []) := by
  have e : asks.find? (fun q => decide (chkR n q ≠ 0)) = some (asks.getD i []) := by
    rw [List.find?_eq_some_iff_getElem]
    refine ⟨by simpa using h, i, hi, ?_, fun j hj => ?_⟩
    · rw [List.getD_eq_getElem?_getD, List.getElem?_eq_getElem hi]; rfl
    have : asks[j] ∈ asks.take i := List.mem_take_iff_getElem.2 ⟨j, by omega, rfl⟩
    simp [h0 _ this]
  unfold fbad; rw [e]
theorem fbad_none (h0 : ∀ q ∈ asks, chkR n q = 0) : fbad n asks = 0 := by
  have e : asks.find? (fun q => decide (chkR n q ≠ 0)) = none := by
    rw [List.find?_eq_none]
    intro q hq
    simp [h0 q hq]
  unfold fbad; rw [e]
theorem may_1 (h : chkBR n rows r ≠ 0) : mayE n rows r asks = chkBR n rows r := if_pos h
theorem may_10 (h : chkBR n rows r = 0) (h1 : 8 ≤ rows.length) : mayE n rows r asks = 10 := by unfold mayE; rw [if_neg (by omega), if_pos h1]
theorem may_6 (h : chkBR n rows r = 0) (h1 : ¬ 8 ≤ rows.length) (h2 : 4096 < asks.length) : mayE n rows r asks = 6 := by unfold mayE; rw [if_neg (by omega), if_neg h1, if_pos h2]
theorem may_b (h : chkBR n rows r = 0) (h1 : ¬ 8 ≤ rows.length) (h2 : ¬ 4096 < asks.length) {i : Nat} (hi : i < asks.length) (h0 : ∀ q ∈ asks.take i, chkR n q = 0) (h3 : chkR n (asks.getD i []) ≠ 0) : mayE n rows r asks = chkR n (asks.getD i []) := by
  have := fbad_at hi h0 h3
  unfold mayE; rw [if_neg (by omega), if_neg h1, if_neg h2, if_pos (by omega), this]
theorem may_21 (h : chkBR n rows r = 0) (h1 : ¬ 8 ≤ rows.length) (h2 : ¬ 4096 < asks.length) (h0 : ∀ q ∈ asks, chkR n q = 0) {i : Nat} (hi : i < asks.length) (h3 : Gain n.toNat rows r (asks.getD i [])) : mayE n rows r asks = 21 := by
  unfold mayE
  rw [if_neg (by omega), if_neg h1, if_neg h2, if_neg (fun g => g (fbad_none h0)), if_pos ⟨_, getD_mem hi [], h3⟩]
theorem may_0 (h : chkBR n rows r = 0) (h1 : ¬ 8 ≤ rows.length) (h2 : ¬ 4096 < asks.length) (h0 : ∀ q ∈ asks, chkR n q = 0) (h3 : ∀ q ∈ asks, ¬ Gain n.toNat rows r q) : mayE n rows r asks = 0 := by
  unfold mayE
  rw [if_neg (by omega), if_neg h1, if_neg h2, if_neg (fun g => g (fbad_none h0)), if_neg (fun ⟨q, hq, g⟩ => h3 q hq g)]
end
theorem c_May (w : World) (n : Int) (v u o : Value) (rv qv : List Value) (rows asks : List (List Int)) (r : List Int) (hB : RdR encI 1 w.heap.size w v rv rows) (hR : RdF encI 1 w.heap.size w u r) (hQ : RdR encI 1 w.heap.size w o qv asks) (hc : CapV v rows.length) : Ret Try.prog 18 [bookV n v, u, o].toArray w (.int .i64 (mayE n rows r asks)) := by
  obtain ⟨va, vc, rfl, hcl, hcn⟩ := hc
  obtain ⟨ua, uc, rfl⟩ : ∃ a c, u = .slice a r.length c := by obtain ⟨_, a, c, e, _⟩ := hR.sl; exact ⟨a, c, e⟩
  refine Ret.of mixed tyTab Try.func18 rfl rfl ?_
  replace hB : RdR encI 1 (fnCx mixed tyTab Try.f18.ntmps w).B (fnCx mixed tyTab Try.f18.ntmps w).w0 (.slice va rows.length vc) rv rows := hB
  replace hR : RdF encI 1 (fnCx mixed tyTab Try.f18.ntmps w).B (fnCx mixed tyTab Try.f18.ntmps w).w0 (.slice ua r.length uc) r := hR
  replace hQ : RdR encI 1 (fnCx mixed tyTab Try.f18.ntmps w).B (fnCx mixed tyTab Try.f18.ntmps w).w0 o qv asks := hQ
  have hou := hR.sl.oc
  have hln := hB.len
  have hqle := hQ.sl.le
  refine W.sreg ?_
  refine WO.boxA rfl rfl (fun b1 hb1 => ?_)
  refine WO.p rfl rfl ?_
  refine WO.nil ?_
  refine W.seq ?_
  refine W.sreg ?_
  refine WO.loadA rfl rfl (Cells.own Pick.head) rfl rfl (WO.p rfl rfl ?_)
  refine WO.callR rfl Try.call28 (fun L w' hi => c_checkRow w' n _ _ rv rows r (hB.later hi) (hR.later hi)) rfl ?_
  refine WO.p rfl rfl ?_
  refine WO.nil ?_
  refine W.sreg ?_
  refine WO.p rfl rfl (WO.p rfl rfl ?_)
  refine WO.nil ?_
  refine W.cond_bl rfl (fun c1 => ?_) (fun c1 => ?_)
  · first
    | (exfalso; omega)
    | (refine W.sreg ?_
       refine WO.p rfl rfl (WO.p rfl rfl ?_)
       refine WO.nil ?_
       refine W.ret ?_
       refine fin.ret (Res.one rfl (RV.tmp rfl)) (congrArg (Value.int .i64) ?_)
       first | exact (may_1 (by omega)).symm | exact (may_10 (by omega) (by omega)).symm | exact (may_6 (by omega) (by omega) (by omega)).symm | exact (may_b (by omega) (by omega) (by omega) (by omega) hal (by omega)).symm | exact (may_21 (i := i) (by omega) (by omega) (by omega) hal' (by omega) (by rw [Int.toNat_natCast]; exact hga)).symm | exact (may_0 (by omega) (by omega) (by omega) hal' (by rw [Int.toNat_natCast]; rw [show i = asks.length by omega, List.take_length] at hng; exact hng)).symm)
  first
  | (exfalso; omega)
  | (refine W.skip ?_
     refine W.seq ?_
     refine W.block ?_
     obtain ⟨hok0, hrl, hrw⟩ := chkBR0.1 (show chkBR n rows r = 0 by omega)
     have h8 := hok0.1
     have hn5 := hok0.2.1
     refine W.sreg ?_
     refine WO.fieldL rfl rfl rfl (WO.load rfl rfl (Cell.own Pick.head rfl) rfl ?_)
     refine' WO.len (n := _) rfl rfl ?hs rfl ?_
     case hs => (first | exact hB.sl | exact hQ.sl)
     refine WO.p rfl rfl (WO.p rfl rfl ?_)
     refine WO.nil ?_
     refine W.cond_bl rfl (fun c2 => ?_) (fun c2 => ?_)
     · first
       | (exfalso; omega)
       | (refine W.sreg ?_
          refine WO.p rfl rfl ?_
          refine WO.nil ?_
          refine W.ret ?_
          refine fin.ret (Res.one rfl (RV.tmp rfl)) (congrArg (Value.int .i64) ?_)
          first | exact (may_1 (by omega)).symm | exact (may_10 (by omega) (by omega)).symm | exact (may_6 (by omega) (by omega) (by omega)).symm | exact (may_b (by omega) (by omega) (by omega) (by omega) hal (by omega)).symm | exact (may_21 (i := i) (by omega) (by omega) (by omega) hal' (by omega) (by rw [Int.toNat_natCast]; exact hga)).symm | exact (may_0 (by omega) (by omega) (by omega) hal' (by rw [Int.toNat_natCast]; rw [show i = asks.length by omega, List.take_length] at hng; exact hng)).symm)
     first
     | (exfalso; omega)
     | (refine W.sreg ?_
        refine WO.p rfl rfl ?_
        refine' WO.len (n := _) rfl rfl ?hs rfl ?_
        case hs => (first | exact hB.sl | exact hQ.sl)
        refine WO.p rfl rfl (WO.p rfl rfl ?_)
        refine WO.nil ?_
        refine W.cond_bl rfl (fun c3 => ?_) (fun c3 => ?_)
        · first
          | (exfalso; omega)
          | (refine W.sreg ?_
             refine WO.p rfl rfl ?_
             refine WO.nil ?_
             refine W.ret ?_
             refine fin.ret (Res.one rfl (RV.tmp rfl)) (congrArg (Value.int .i64) ?_)
             first | exact (may_1 (by omega)).symm | exact (may_10 (by omega) (by omega)).symm | exact (may_6 (by omega) (by omega) (by omega)).symm | exact (may_b (by omega) (by omega) (by omega) (by omega) hal (by omega)).symm | exact (may_21 (i := i) (by omega) (by omega) (by omega) hal' (by omega) (by rw [Int.toNat_natCast]; exact hga)).symm | exact (may_0 (by omega) (by omega) (by omega) hal' (by rw [Int.toNat_natCast]; rw [show i = asks.length by omega, List.take_length] at hng; exact hng)).symm)
        first
        | (exfalso; omega)
        | (refine W.skip ?_
           refine W.seq ?_
           refine W.sreg ?_
           refine WO.p rfl rfl ?_
           refine' WO.len (n := _) rfl rfl ?hs rfl ?_
           case hs => (first | exact hB.sl | exact hQ.sl)
           refine WO.p rfl rfl ?_
           refine WO.nil ?_
           refine W.block ?_
           refine W.loop (fun (i : Nat) => i ≤ asks.length ∧ ∀ q ∈ asks.take i, chkR n q = 0)
             (fun (i : Nat) => [(1, .slice ua r.length uc), (2, o), (3, .pointer (some ⟨b1, 0, none⟩)), (34, o), (35, .int .i64 (asks.length : Int)), (36, .int .i64 (i : Int))])
             (fun (i : Nat) => [pt b1 (.cells #[.int .i64 n, .slice va rows.length vc] 24 (0, 0))])
             (fun (i : Nat) => asks.length - i) 0
             (by exact ⟨by omega, fun q hq => by simp at hq⟩) ⟨rfl, rfl, rfl, rfl, rfl, rfl, trivial⟩ (by repeat (first | exact Sub.nil | refine Sub.cons (by repeat (first | exact Pick.head | apply Pick.tail)) ?_)) ?_
           rintro i ⟨hi, hal⟩
           refine W.sreg ?_
           refine WO.p rfl rfl ?_
           refine WO.nil ?_
           refine W.seq ?_
           refine W.cond_bl rfl (fun c4 => ?_) (fun c4 => ?_)
           · first
             | (exfalso; omega)
             | (refine W.skip ?_
                refine W.seq ?_
                refine W.block ?_
                refine W.sreg ?_
                refine' WO.indexAddr (n := _) (i := _) rfl rfl rfl ?hs ?h1 rfl ?_
                case hs => (first | exact hB.sl | exact hQ.sl)
                case h1 => (first | omega | (simp; omega))
                refine' WO.load (v := _) rfl rfl ?hc rfl ?_
                case hc => (first | (refine hQ.cellV (i := i) ?_; omega))
                refine WO.p rfl rfl ?_
                refine WO.nil ?_
                refine W.sreg ?_
                refine WO.loadA rfl rfl (Cells.own Pick.head) rfl rfl (WO.p rfl rfl ?_)
                refine WO.callR rfl Try.call43 (fun L w' hi' => c_isRow w' n _ (qv.getD i undef) (asks.getD i []) rfl ((hQ.row i (by omega)).later hi')) rfl ?_
                refine WO.p rfl rfl ?_
                refine WO.nil ?_
                refine W.sreg ?_
                refine WO.p rfl rfl (WO.p rfl rfl ?_)
                refine WO.nil ?_
                refine W.cond_bl rfl (fun c5 => ?_) (fun c5 => ?_)
                · first
                  | (exfalso; omega)
                  | (refine W.sreg ?_
                     refine WO.p rfl rfl (WO.p rfl rfl ?_)
                     refine WO.nil ?_
                     refine W.ret ?_
                     refine fin.ret (Res.one rfl (RV.tmp rfl)) (congrArg (Value.int .i64) ?_)
                     first | exact (may_1 (by omega)).symm | exact (may_10 (by omega) (by omega)).symm | exact (may_6 (by omega) (by omega) (by omega)).symm | exact (may_b (by omega) (by omega) (by omega) (by omega) hal (by omega)).symm | exact (may_21 (i := i) (by omega) (by omega) (by omega) hal' (by omega) (by rw [Int.toNat_natCast]; exact hga)).symm | exact (may_0 (by omega) (by omega) (by omega) hal' (by rw [Int.toNat_natCast]; rw [show i = asks.length by omega, List.take_length] at hng; exact hng)).symm)
                first
                | (exfalso; omega)
                | (refine W.skip ?_
                   refine W.region ?_
                   refine WO.ar rfl rfl rfl (by (first | (unfold in64; omega) | (unfold in64; omega))) rfl (WO.p rfl rfl ?_)
                   refine WO.nil ?_
                   refine' ⟨i + 1, ?hp, ?hmu, ⟨rfl, rfl, rfl, rfl, rfl, rfl, trivial⟩, ?hS⟩
                   case hS => repeat (first | exact Sub.nil | refine Sub.cons (by repeat (first | exact Pick.head | apply Pick.tail)) ?_)
                   case hp => exact ⟨by omega, all_succ (by omega) [] hal (by omega)⟩
                   case hmu => omega))
           first
           | (exfalso; omega)
           | (refine W.exit (blk_same ?_)
              refine W.seq ?_
              obtain rfl : i = asks.length := by omega
              have hal' : ∀ q ∈ asks, chkR n q = 0 := by rw [List.take_length] at hal; exact hal
              obtain ⟨N, rfl⟩ : ∃ N : Nat, n = N := ⟨n.toNat, by omega⟩
              have hok : OkB N rows := hok0
              have hmr := rk_more hok (by omega) hrl hrw
              have hok2 := hmr.1
              have h82 := hok2.1
              refine W.drawD 16 [.r 0 [], .b 1 [], .r 2 [], .b 3 [], .r 4 [], .b 5 [], .r 6 [], .r 7 [], .b 8 [], .r 9 [], .r 10 [], .r 11 [], .c 12 [], .c 13 [], .r 14 [], .a 15 11 (.cells #[.int .i64 0, .slice none 0 0] 24 (0, 0))] [] (A0 := []) (Sub.refl _) (by kernel_rfl) ?_ ?_
              · exact (ALok.r (ALok.b (ALok.r (ALok.b (ALok.r (ALok.b (ALok.r (ALok.r (ALok.b (ALok.r (ALok.r (ALok.r (ALok.c (ALok.c (ALok.r (ALok.cons rfl rfl rfl rfl rfl ALok.nil))))))))))))))))
              refine' DT.r rfl rfl rfl ?hq ?_
              case hq =>
                refine WO.field0 rfl rfl rfl ?_
                exact WO.nil ⟨rfl, rfl⟩
              refine' DT.b rfl rfl rfl ?hq ?_
              case hq =>
                refine WO.load rfl rfl (Cell.own Pick.head rfl) rfl ?_
                exact WO.nil ⟨rfl, rfl⟩
              refine' DT.r rfl rfl rfl ?hq ?_
              case hq =>
                refine WO.fieldL rfl rfl rfl ?_
                exact WO.nil ⟨rfl, rfl⟩
              refine' DT.b rfl rfl rfl ?hq ?_
              case hq =>
                refine WO.load rfl rfl (Cell.own Pick.head rfl) rfl ?_
                exact WO.nil ⟨rfl, rfl⟩
              refine' DT.r rfl rfl rfl ?hq ?_
              case hq =>
                refine WO.fieldL rfl rfl rfl ?_
                exact WO.nil ⟨rfl, rfl⟩
              refine' DT.b rfl rfl rfl ?hq ?_
              case hq =>
                refine WO.load rfl rfl (Cell.own Pick.head rfl) rfl ?_
                exact WO.nil ⟨rfl, rfl⟩
              refine' DT.r rfl rfl rfl ?hq ?_
              case hq =>
                refine' WO.len (n := _) rfl rfl ?hs rfl ?_
                case hs => (first | exact hB.sl | exact hQ.sl)
                exact WO.nil ⟨rfl, rfl⟩
              refine' DT.r rfl rfl rfl ?hq ?_
              case hq =>
                refine WO.fieldL rfl rfl rfl ?_
                exact WO.nil ⟨rfl, rfl⟩
              refine' DT.b rfl rfl rfl ?hq ?_
              case hq =>
                refine WO.load rfl rfl (Cell.own Pick.head rfl) rfl ?_
                exact WO.nil ⟨rfl, rfl⟩
              refine' DT.r rfl rfl rfl ?hq ?_
              case hq =>
                refine' WO.len (n := _) rfl rfl ?hs rfl ?_
                case hs => (first | exact hB.sl | exact hQ.sl)
                exact WO.nil ⟨rfl, rfl⟩
              refine' DT.r rfl rfl rfl ?hq ?_
              case hq =>
                refine WO.slice3 (n := rows.length) rfl rfl rfl rfl hcl rfl ?_
                exact WO.nil ⟨rfl, rfl⟩
              refine' DT.r rfl rfl rfl ?hq ?_
              case hq =>
                refine WO.p rfl rfl ?_
                exact WO.nil ⟨rfl, rfl⟩
              refine DT.c [_] rfl rfl rfl rfl ?_
              refine' WO.buildSl (cs := _) rfl rfl rfl rfl ?hf rfl rfl ?hl rfl (fun v2 => ?_)
              case hf => (conv => lhs; simp [-List.getD_eq_getElem?_getD, fillL, vcl, wrl, TTab.pl?.lget']) <;> rfl
              case hl => rfl
              refine WO.nil ⟨_, [_], rfl, rfl, (Keep.r (Keep.r (Keep.r (Keep.b (Keep.r (Keep.r (Keep.b (Keep.r (Keep.b (Keep.r (Keep.b (Keep.r Keep.nil)))))))))))), ?_⟩
              refine DT.c [_, _] rfl rfl rfl rfl ?_
              refine WO.appendFullO (n := rows.length) (m := 1) (a := va) (cs := rv) (news := [.slice ua r.length uc]) rfl rfl rfl rfl rfl (fun e => by have := hcn e; omega) (fun a' ha => by subst ha; exact encV_ok hB.out) (by rw [hln]; omega) (isSl_lit (by omega) (fun _ => ⟨_, _, rfl⟩)) (by omega) (OwC.cells .head) rfl (by simp [hou]) (by omega) (by omega) rfl (fun g cg hcg => ?_)
              refine WO.nil ⟨_, [_, _], rfl, rfl, (Keep.c (Keep.r (Keep.r (Keep.r (Keep.b (Keep.r (Keep.r (Keep.b (Keep.r (Keep.b (Keep.r (Keep.b (Keep.r Keep.nil))))))))))))), ?_⟩
              refine' DT.r rfl rfl rfl ?hq ?_
              case hq =>
                refine' WO.build (cs := _) rfl rfl rfl ?hf rfl ?_
                case hf => (conv => lhs; simp [-List.getD_eq_getElem?_getD, fillL, vcl, wrl, TTab.pl?.lget']) <;> rfl
                exact WO.nil ⟨rfl, rfl⟩
              refine DT.a (fun b3 => ?_)
              refine DT.nil [_, _, _, _] rfl ?_
              refine WO.storeA rfl rfl rfl rfl Pick.head rfl rfl ?_
              refine WO.nil ?_
              refine W.seq ?_
              refine W.drawD 10 [.b 0 [], .r 1 [], .b 2 [], .r 3 [], .c 4 [], .c 5 [], .r 6 [], .r 7 [], .r 8 [], .r 9 []] [] (A0 := []) (Sub.refl _) (by kernel_rfl) ?_ ?_
              · exact (ALok.b (ALok.r (ALok.b (ALok.r (ALok.c (ALok.c (ALok.r (ALok.r (ALok.r (ALok.r ALok.nil))))))))))
              refine' DT.b rfl rfl rfl ?hq ?_
              case hq =>
                refine WO.loadA rfl rfl (Cells.own (Pick.tail (Pick.tail (Pick.tail (Pick.head))))) rfl rfl ?_
                exact WO.nil ⟨rfl, rfl⟩
              refine' DT.r rfl rfl rfl ?hq ?_
              case hq =>
                refine WO.fieldL rfl rfl rfl ?_
                exact WO.nil ⟨rfl, rfl⟩
              refine' DT.b rfl rfl rfl ?hq ?_
              case hq =>
                refine WO.load rfl rfl (Cell.own (Pick.tail (Pick.tail (Pick.tail (Pick.head)))) rfl) rfl ?_
                exact WO.nil ⟨rfl, rfl⟩
              refine' DT.r rfl rfl rfl ?hq ?_
              case hq =>
                refine' WO.len (n := _) rfl rfl ?hs rfl ?_
                case hs => (first | exact hB.sl | exact hQ.sl)
                exact WO.nil ⟨rfl, rfl⟩
              refine DT.c [_, _, _, _] rfl rfl rfl rfl ?_
              refine WO.makeI (n := rows.length) rfl rfl rfl rfl (by omega) (by omega) rfl (fun zb => ?_)
              refine WO.nil ⟨_, [_], rfl, rfl, (Keep.r (Keep.b (Keep.r (Keep.b Keep.nil)))), ?_⟩
              refine DT.c [_, _, _, _, _] rfl rfl rfl rfl ?_
              refine WO.call rfl Try.call37 (fun L w' hi' => c_newTableN w' N _ _ rv rows (hB.later hi') (RdF.of_ow (e := 2) encI_ok (by repeat (first | exact Pick.head | apply Pick.tail)) hi') hok) rfl ?_
              rintro _ _ ⟨t1, m, rfl, rfl⟩
              refine WO.nil ⟨_, [_, _, _], rfl, rfl, (Keep.c (Keep.r (Keep.b (Keep.r (Keep.b Keep.nil))))), ?_⟩
              refine' DT.r rfl rfl rfl ?hq ?_
              case hq =>
                refine WO.p rfl rfl ?_
                exact WO.nil ⟨rfl, rfl⟩
              refine' DT.r rfl rfl rfl ?hq ?_
              case hq =>
                refine WO.p rfl rfl ?_
                exact WO.nil ⟨rfl, rfl⟩
              refine' DT.r rfl rfl rfl ?hq ?_
              case hq =>
                refine WO.p rfl rfl ?_
                exact WO.nil ⟨rfl, rfl⟩
              refine' DT.r rfl rfl rfl ?hq ?_
              case hq =>
                refine WO.p rfl rfl ?_
                exact WO.nil ⟨rfl, rfl⟩
              refine DT.nil [_, _, _, _, _, _, _] rfl ?_
              refine WO.p rfl rfl ?_
              refine WO.nil ?_
              refine W.seq ?_
              rw [show rows.length + 1 = (rows ++ [r]).length by simp]
              refine W.drawD 10 [.b 0 [], .r 1 [], .b 2 [], .r 3 [], .c 4 [], .c 5 [], .r 6 [], .r 7 [], .r 8 [], .r 9 []] [] (A0 := []) (Sub.refl _) (by kernel_rfl) ?_ ?_
              · exact (ALok.b (ALok.r (ALok.b (ALok.r (ALok.c (ALok.c (ALok.r (ALok.r (ALok.r (ALok.r ALok.nil))))))))))
              refine' DT.b rfl rfl rfl ?hq ?_
              case hq =>
                refine WO.loadA rfl rfl (Cells.own (Pick.tail (Pick.tail (Pick.tail (Pick.head))))) rfl rfl ?_
                exact WO.nil ⟨rfl, rfl⟩
              refine' DT.r rfl rfl rfl ?hq ?_
              case hq =>
                refine WO.fieldL rfl rfl rfl ?_
                exact WO.nil ⟨rfl, rfl⟩
              refine' DT.b rfl rfl rfl ?hq ?_
              case hq =>
                refine WO.load rfl rfl (Cell.own (Pick.tail (Pick.tail (Pick.tail (Pick.head)))) rfl) rfl ?_
                exact WO.nil ⟨rfl, rfl⟩
              refine' DT.r rfl rfl rfl ?hq ?_
              case hq =>
                refine' WO.len (n := _) rfl rfl ?hs rfl ?_
                case hs => (first | exact isSl_lit (n := (rows ++ [r]).length) (by rw [List.length_append]; simp only [List.length_singleton]; omega) (fun _ => ⟨_, _, rfl⟩))
                exact WO.nil ⟨rfl, rfl⟩
              refine DT.c [_, _, _, _, _, _, _] rfl rfl rfl rfl ?_
              refine WO.makeI (n := (rows ++ [r]).length) rfl rfl rfl rfl (by omega) (by omega) rfl (fun zb2 => ?_)
              refine WO.nil ⟨_, [_], rfl, rfl, (Keep.r (Keep.b (Keep.r (Keep.b Keep.nil)))), ?_⟩
              refine DT.c [_, _, _, _, _, _, _, _] rfl rfl rfl rfl ?_
              refine WO.call rfl Try.call37 (fun L w' hi' => c_newTableN w' N _ _ (rv ++ [.slice ua r.length uc]) (rows ++ [r]) (rdr_more hB hR (by repeat (first | exact Pick.head | apply Pick.tail)) hi') (RdF.of_ow (e := 2) encI_ok (by repeat (first | exact Pick.head | apply Pick.tail)) hi') hok2) rfl ?_
              rintro _ _ ⟨t2, m2, rfl, rfl⟩
              refine WO.nil ⟨_, [_, _, _], rfl, rfl, (Keep.c (Keep.r (Keep.b (Keep.r (Keep.b Keep.nil))))), ?_⟩
              refine' DT.r rfl rfl rfl ?hq ?_
              case hq =>
                refine WO.p rfl rfl ?_
                exact WO.nil ⟨rfl, rfl⟩
              refine' DT.r rfl rfl rfl ?hq ?_
              case hq =>
                refine WO.p rfl rfl ?_
                exact WO.nil ⟨rfl, rfl⟩
              refine' DT.r rfl rfl rfl ?hq ?_
              case hq =>
                refine WO.p rfl rfl ?_
                exact WO.nil ⟨rfl, rfl⟩
              refine' DT.r rfl rfl rfl ?hq ?_
              case hq =>
                refine WO.p rfl rfl ?_
                exact WO.nil ⟨rfl, rfl⟩
              refine DT.nil [_, _, _, _, _, _, _, _, _, _] rfl ?_
              refine WO.p rfl rfl ?_
              refine WO.nil ?_
              refine W.seq ?_
              refine W.sreg ?_
              refine WO.p rfl rfl ?_
              refine' WO.len (n := _) rfl rfl ?hs rfl ?_
              case hs => (first | exact hB.sl | exact hQ.sl)
              refine WO.p rfl rfl ?_
              refine WO.nil ?_
              refine W.block ?_
              refine W.loop (fun (i : Nat) => i ≤ asks.length ∧ ∀ q ∈ asks.take i, ¬ Gain N rows r q)
                (fun (i : Nat) => [(12, .pointer (some ⟨t1, 0, none⟩)), (14, .pointer (some ⟨t2, 0, none⟩)), (80, o), (81, .int .i64 (asks.length : Int)), (82, .int .i64 (i : Int))])
                (fun (i : Nat) => [pt t1 (.cells #[.int .i64 (N : Int), .map (some m)] 80 (0, 0)), MapP m (mkF N rows), pt t2 (.cells #[.int .i64 (N : Int), .map (some m2)] 80 (0, 0)), MapP m2 (mkF N (rows ++ [r]))])
                (fun (i : Nat) => asks.length - i) 0
                (by exact ⟨by omega, fun q hq => by simp at hq⟩) ⟨rfl, rfl, rfl, rfl, rfl, trivial⟩ (by repeat (first | exact Sub.nil | refine Sub.cons (by repeat (first | exact Pick.head | apply Pick.tail)) ?_)) ?_
              rintro i ⟨hi, hng⟩
              refine W.sreg ?_
              refine WO.p rfl rfl ?_
              refine WO.nil ?_
              refine W.seq ?_
              refine W.cond_bl rfl (fun c5 => ?_) (fun c5 => ?_)
              · first
                | (exfalso; omega)
                | (refine W.skip ?_
                   refine W.seq ?_
                   refine W.block ?_
                   obtain ⟨hql, hqw⟩ := chkR0.1 (hal' _ (getD_mem (show i < asks.length by omega) []))
                   have hbd := askZ_bd hok hql hqw
                   have hbd2 := askZ_bd hok2 hql hqw
                   have hcan := askZ_can hok hql hqw
                   have hcan2 := askZ_can hok2 hql hqw
                   refine W.sreg ?_
                   refine' WO.indexAddr (n := _) (i := _) rfl rfl rfl ?hs ?h1 rfl ?_
                   case hs => (first | exact hB.sl | exact hQ.sl)
                   case h1 => (first | omega | (simp; omega))
                   refine' WO.load (v := _) rfl rfl ?hc rfl ?_
                   case hc => (first | (refine hQ.cellV (i := i) ?_; omega))
                   refine WO.p rfl rfl ?_
                   refine WO.nil ?_
                   refine W.sreg ?_
                   refine WO.p rfl rfl ?_
                   refine WO.callR (r := madeV (askX (asks.getD i []))) rfl Try.call39 (fun L w' hi' => c_asked w' _ (asks.getD i []) ((hQ.row i (by omega)).later hi') (by omega) (by omega)) rfl ?_
                   refine WO.alloc rfl rfl rfl (fun b4 hb4 => ?_)
                   refine WO.storeA rfl rfl rfl rfl Pick.head rfl rfl ?_
                   refine WO.nil ?_
                   refine W.sreg ?_
                   refine WO.p rfl rfl (WO.loadA rfl rfl (Cells.own Pick.head) rfl rfl ?_)
                   refine WO.callR (r := madeV (askZ N rows (asks.getD i []))) rfl Try.call38 (fun L w' hi' => c_less w' ⟨t1, 0, none⟩ N m (mkF N rows) (askX (asks.getD i [])) (RdC.own (by repeat (first | exact Pick.head | apply Pick.tail)) hi') (RdM.own (by repeat (first | exact Pick.head | apply Pick.tail)) hi') (by omega) hbd.1 hbd.2) rfl ?_
                   refine WO.fieldN rfl rfl rfl rfl rfl ?_
                   refine WO.fieldN rfl rfl rfl rfl rfl ?_
                   refine' WO.build (cs := _) rfl rfl rfl ?hf rfl ?_
                   case hf => (conv => lhs; simp [-List.getD_eq_getElem?_getD, fillL, vcl, wrl, TTab.pl?.lget']) <;> rfl
                   refine WO.eqT rfl rfl (neq57 (askZ N rows (asks.getD i []))) rfl ?_
                   refine WO.p rfl rfl ?_
                   refine WO.guard_bl rfl rfl (fun c6 => ?_) (fun c6 => ?_)
                   · first
                     | (exfalso; omega)
                     | (refine WO.pg rfl rfl rfl (WO.go' rfl (WO.loadA rfl rfl (Cells.own Pick.head) rfl rfl (WO.go' rfl ?_)))
                        refine WO.callR (r := madeV (askZ N (rows ++ [r]) (asks.getD i []))) rfl Try.call38 (fun L w' hi' => c_less w' ⟨t2, 0, none⟩ N m2 (mkF N (rows ++ [r])) (askX (asks.getD i [])) (RdC.own (by repeat (first | exact Pick.head | apply Pick.tail)) hi') (RdM.own (by repeat (first | exact Pick.head | apply Pick.tail)) hi') (by omega) hbd2.1 hbd2.2) rfl ?_
                        refine WO.go' rfl ?_
                        refine WO.fieldN rfl rfl rfl rfl rfl ?_
                        refine WO.go' rfl ?_
                        refine WO.fieldN rfl rfl rfl rfl rfl ?_
                        refine WO.go' rfl ?_
                        refine' WO.build (cs := _) rfl rfl rfl ?hf rfl ?_
                        case hf => (conv => lhs; simp [-List.getD_eq_getElem?_getD, fillL, vcl, wrl, TTab.pl?.lget']) <;> rfl
                        refine WO.go' rfl ?_
                        refine WO.eqT rfl rfl (eq57 (askZ N (rows ++ [r]) (asks.getD i []))) rfl ?_
                        refine WO.p rfl rfl ?_
                        refine WO.nil ?_
                        refine W.cond_bl rfl (fun c7 => ?_) (fun c7 => ?_)
                        · first
                          | (exfalso; omega)
                          | (have hga : Gain N rows r (asks.getD i []) := ⟨fun g => absurd (hcan.2 g) (by assumption), hcan2.1 (by assumption)⟩
                             refine W.sreg ?_
                             refine WO.p rfl rfl ?_
                             refine WO.nil ?_
                             refine W.ret ?_
                             refine fin.ret (Res.one rfl (RV.tmp rfl)) (congrArg (Value.int .i64) ?_)
                             first | exact (may_1 (by omega)).symm | exact (may_10 (by omega) (by omega)).symm | exact (may_6 (by omega) (by omega) (by omega)).symm | exact (may_b (by omega) (by omega) (by omega) (by omega) hal (by omega)).symm | exact (may_21 (i := i) (by omega) (by omega) (by omega) hal' (by omega) (by rw [Int.toNat_natCast]; exact hga)).symm | exact (may_0 (by omega) (by omega) (by omega) hal' (by rw [Int.toNat_natCast]; rw [show i = asks.length by omega, List.take_length] at hng; exact hng)).symm)
                        first
                        | (exfalso; omega)
                        | (refine W.skip ?_
                           have hnn : ¬ Gain N rows r (asks.getD i []) := fun g => by have h1 : ¬ zr5 (askZ N rows (asks.getD i [])) := (fun z => g.1 (hcan.1 z)); have h2 := hcan2.2 g.2; first | exact absurd h2 (by assumption) | exact absurd h1 (by assumption)
                           refine W.region ?_
                           refine WO.ar rfl rfl rfl (by (first | (unfold in64; omega) | (unfold in64; omega))) rfl (WO.p rfl rfl ?_)
                           refine WO.nil ?_
                           refine' ⟨i + 1, ?hp, ?hmu, ⟨rfl, rfl, rfl, rfl, rfl, trivial⟩, ?hS⟩
                           case hS => repeat (first | exact Sub.nil | refine Sub.cons (by repeat (first | exact Pick.head | apply Pick.tail)) ?_)
                           case hp => exact ⟨by omega, all_succ (by omega) [] hng hnn⟩
                           case hmu => omega))
                   first
                   | (exfalso; omega)
                   | (refine WO.no rfl rfl (WO.no rfl rfl (WO.no rfl rfl (WO.no rfl rfl (WO.no rfl rfl (WO.no rfl rfl (WO.no rfl rfl (WO.p rfl rfl ?_)))))))
                      refine WO.nil ?_
                      refine W.cond_f rfl ?_
                      refine W.skip ?_
                      have hnn : ¬ Gain N rows r (asks.getD i []) := fun g => by have h1 : ¬ zr5 (askZ N rows (asks.getD i [])) := (fun z => g.1 (hcan.1 z)); have h2 := hcan2.2 g.2; first | exact absurd h2 (by assumption) | exact absurd h1 (by assumption)
                      refine W.region ?_
                      refine WO.ar rfl rfl rfl (by (first | (unfold in64; omega) | (unfold in64; omega))) rfl (WO.p rfl rfl ?_)
                      refine WO.nil ?_
                      refine' ⟨i + 1, ?hp, ?hmu, ⟨rfl, rfl, rfl, rfl, rfl, trivial⟩, ?hS⟩
                      case hS => repeat (first | exact Sub.nil | refine Sub.cons (by repeat (first | exact Pick.head | apply Pick.tail)) ?_)
                      case hp => exact ⟨by omega, all_succ (by omega) [] hng hnn⟩
                      case hmu => omega))
              first
              | (exfalso; omega)
              | (refine W.exit (blk_same ?_)
                 refine W.sreg ?_
                 refine WO.p rfl rfl ?_
                 refine WO.nil ?_
                 refine W.ret ?_
                 refine fin.ret (Res.one rfl (RV.tmp rfl)) (congrArg (Value.int .i64) ?_)
                 first | exact (may_1 (by omega)).symm | exact (may_10 (by omega) (by omega)).symm | exact (may_6 (by omega) (by omega) (by omega)).symm | exact (may_b (by omega) (by omega) (by omega) (by omega) hal (by omega)).symm | exact (may_21 (i := i) (by omega) (by omega) (by omega) hal' (by omega) (by rw [Int.toNat_natCast]; exact hga)).symm | exact (may_0 (by omega) (by omega) (by omega) hal' (by rw [Int.toNat_natCast]; rw [show i = asks.length by omega, List.take_length] at hng; exact hng)).symm)))))
end Go.Proofs.Ytelmclmklkiphaa
namespace Go.Proofs.Ytelmclmklkiphaa
open Go Go.TH
attribute [local irreducible] W WO pt
set_option maxRecDepth 10000
set_option maxHeartbeats 1000000
theorem OwC.capF {C : Cx Try.prog} {H H' : List HP} {e sz n c : Nat} {a : Addr} {cs : List Value} (p : Pick (OwC e sz (.slice (some a) n c) n cs) H H') : ∀ (L : List HP) w, TH.Inv C.w0 C.M (L ++ H) w → n ≤ c := fun L w hi => by
  obtain ⟨_, hcase⟩ := OwC.open (hi.pickL p)
  rcases hcase with ⟨q, _⟩ | ⟨g', cap, cur, q, q3, _⟩
  · cases q
  injection q with _ _ q; omega
theorem law_with (w : World) (n : Int) (v u : Value) (rv : List Value) (rows : List (List Int)) (r : List Int) (hB : RdR encI 1 w.heap.size w v rv rows) (hR : RdF encI 1 w.heap.size w u r) (h8 : rows.length ≤ 1000) :
    Ct Try.prog 21 [bookV n v, u].toArray w fun a w' => ∃ Hq, (∃ x : Nat × Nat, (a = bookV n (.slice (some ⟨x.1, 0, none⟩) (rows ++ [r]).length x.2) ∧ (rows ++ [r]).length ≤ x.2) ∧ Hq = [OwC 25 1 (.slice (some ⟨x.1, 0, none⟩) (rows ++ [r]).length x.2) (rows ++ [r]).length (rv ++ [u])]) ∧ TH.Inv w [] Hq w' := by
  obtain ⟨ua, uc, rfl⟩ : ∃ a c, u = .slice a r.length c := by obtain ⟨_, a, c, e, _⟩ := hR.sl; exact ⟨a, c, e⟩
  refine Ct.ofI (vs := [bookV n v, .slice ua r.length uc]) (X := Nat × Nat) (p := fun x a => a = bookV n (.slice (some ⟨x.1, 0, none⟩) (rows ++ [r]).length x.2) ∧ (rows ++ [r]).length ≤ x.2) (Hx := fun x => [OwC 25 1 (.slice (some ⟨x.1, 0, none⟩) (rows ++ [r]).length x.2) (rows ++ [r]).length (rv ++ [.slice ua r.length uc])]) mixed tyTab Try.func21 rfl rfl ?_
  replace hB : RdR encI 1 (fnCx mixed tyTab Try.f21.ntmps w).B (fnCx mixed tyTab Try.f21.ntmps w).w0 v rv rows := hB
  replace hR : RdF encI 1 (fnCx mixed tyTab Try.f21.ntmps w).B (fnCx mixed tyTab Try.f21.ntmps w).w0 (.slice ua r.length uc) r := hR
  have hou := hR.sl.oc
  have hov := hB.sl.oc
  have hln := hB.len
  refine W.sreg ?_
  refine WO.boxA rfl rfl (fun b1 hb1 => ?_)
  refine WO.alloc rfl rfl rfl (fun b2 hb2 => ?_)
  refine WO.nil ?_
  refine W.seq ?_
  refine DB.W.drawB 9 [.r 0 [], .b 1 [], .r 3 [], .b 4 [], .r 6 []] [.a 2 7 (fun b => OwC 25 1 (.slice (some ⟨b, 0, none⟩) 0 0) 0 []) (fun b => .slice (some ⟨b, 0, none⟩) 0 0), .c 5 [], .a 7 12 (fun b => OwC 25 1 (.slice (some ⟨b, 0, none⟩) 1 1) 1 [.slice ua r.length uc]) (fun b => .slice (some ⟨b, 0, none⟩) 1 1), .c 8 []] [] (A0 := []) (H0 := [_, _]) (.cons .head (.cons .head .nil)) (by kernel_rfl) ?_
  refine' DB.QB.r rfl rfl rfl ?hq ?_
  case hq =>
    refine WO.field0 rfl rfl rfl ?_
    exact WO.nil ⟨rfl, rfl⟩
  refine' DB.QB.b rfl rfl rfl ?hq ?_
  case hq =>
    refine WO.load rfl rfl (Cell.own (Pick.tail (Pick.head)) rfl) rfl ?_
    exact WO.nil ⟨rfl, rfl⟩
  refine' DB.QB.r rfl rfl rfl ?hq ?_
  case hq =>
    refine WO.fieldL rfl rfl rfl ?_
    exact WO.nil ⟨rfl, rfl⟩
  refine' DB.QB.b rfl rfl rfl ?hq ?_
  case hq =>
    refine WO.load rfl rfl (Cell.own (Pick.tail (Pick.head)) rfl) rfl ?_
    exact WO.nil ⟨rfl, rfl⟩
  refine' DB.QB.r rfl rfl rfl ?hq ?_
  case hq =>
    refine WO.p rfl rfl ?_
    exact WO.nil ⟨rfl, rfl⟩
  refine DB.QB.nil ?_ ?_
  · refine (DB.ALok.r (DB.ALok.b (DB.ALok.r (DB.ALok.b (DB.ALok.r (DB.ALok.n rfl rfl rfl ?_ (DB.ALok.c (DB.ALok.n rfl rfl rfl ?_ (DB.ALok.c DB.ALok.nil)))))))))
    · skip
      refine WO.buildSl0 rfl rfl (fun e0 => ?_)
      exact WO.nil ⟨_, rfl, rfl⟩
    skip
    refine' WO.buildSl (cs := _) rfl rfl rfl rfl ?hf rfl rfl ?hl rfl (fun v3 => ?_)
    case hf => (conv => lhs; simp [-List.getD_eq_getElem?_getD, fillL, vcl, wrl, TTab.pl?.lget']) <;> rfl
    case hl => rfl
    exact WO.nil ⟨_, rfl, rfl⟩
  refine DB.DT.a (fun v4 => ?_)
  refine DB.DT.c [_, _, _] rfl rfl rfl rfl ?_
  refine WO.appendN (n := 0) (m := rows.length) (news := rv) rfl rfl rfl rfl rfl (p := (by repeat (first | exact Pick.head | apply Pick.tail))) hB.sl (encV_ok hB.out) (by rw [hln]; omega) (rows_oc hB) (by omega) (by omega) rfl (fun v1 => ?_)
  rw [List.nil_append, Nat.zero_add rows.length]
  refine WO.nil ⟨_, [_], rfl, rfl, (DB.Keep.a (DB.Keep.r (DB.Keep.b (DB.Keep.r (DB.Keep.b (DB.Keep.r DB.Keep.nil)))))), ?_⟩
  refine DB.DT.a (fun v5 => ?_)
  refine DB.DT.c [_, _, _, _] rfl rfl rfl rfl ?_
  refine WO.append (n := rows.length) (m := 1) (news := [.slice ua r.length uc]) rfl rfl rfl rfl rfl (p := (by repeat (first | exact Pick.head | apply Pick.tail))) (isSl_lit (by omega) (fun _ => ⟨_, _, rfl⟩)) (by omega) (OwC.cells (e := 25) (sz := 1) (n := 1) (by repeat (first | exact Pick.head | apply Pick.tail))) rfl (by simp [hou]) (by omega) (by omega) rfl (fun g c => ?_)
  refine WO.fact (OwC.capF (e := 25) (sz := 1) (a := ⟨g, 0, none⟩) (n := rows.length + 1) (c := c) (by repeat (first | exact Pick.head | apply Pick.tail))) (fun hcg => ?_)
  refine WO.nil ⟨_, [_, _], rfl, rfl, (DB.Keep.a (DB.Keep.c (DB.Keep.a (DB.Keep.r (DB.Keep.b (DB.Keep.r (DB.Keep.b (DB.Keep.r DB.Keep.nil)))))))), ?_⟩
  refine DB.DT.nil [_, _, _, _] rfl ?_
  refine' WO.build (cs := _) rfl rfl rfl ?hf rfl ?_
  case hf => (conv => lhs; simp [-List.getD_eq_getElem?_getD, fillL, vcl, wrl, TTab.pl?.lget']) <;> rfl
  refine WO.storeA rfl rfl rfl rfl (Pick.tail (Pick.tail (Pick.head))) rfl rfl ?_
  refine WO.nil ?_
  refine W.ret ?_
  rw [show rows.length + 1 = (rows ++ [r]).length by simp] at hcg ⊢
  exact fin.ret (Res.one rfl (RV.cell rfl rfl rfl (Cells.own (by repeat (first | exact Pick.head | apply Pick.tail))))) ⟨(g, c), ⟨rfl, hcg⟩, fun h hs => Sub.sat (by repeat (first | exact Sub.nil | refine Sub.cons (by repeat (first | exact Pick.head | apply Pick.tail)) ?_)) hs⟩
end Go.Proofs.Ytelmclmklkiphaa
namespace Go.Proofs.Ytelmclmklkiphaa
open Go Go.TH
attribute [local irreducible] W WO pt
set_option maxRecDepth 10000
set_option maxHeartbeats 1000000
theorem ref_May (w : World) (n : Int) (v u o : Value) (rv qv : List Value) (rows asks : List (List Int)) (r : List Int) (hB : RdR encI 1 w.heap.size w v rv rows) (hR : RdF encI 1 w.heap.size w u r) (hQ : RdR encI 1 w.heap.size w o qv asks) : Ret Try.prog 19 [bookV n v, u, o].toArray w (.int .i64 (mayE n rows r asks)) := by
  obtain ⟨ua, uc, rfl⟩ : ∃ a c, u = .slice a r.length c := by obtain ⟨_, a, c, e, _⟩ := hR.sl; exact ⟨a, c, e⟩
  refine Ret.of mixed tyTab Try.func19 rfl rfl ?_
  replace hB : RdR encI 1 (fnCx mixed tyTab Try.f19.ntmps w).B (fnCx mixed tyTab Try.f19.ntmps w).w0 v rv rows := hB
  replace hR : RdF encI 1 (fnCx mixed tyTab Try.f19.ntmps w).B (fnCx mixed tyTab Try.f19.ntmps w).w0 (.slice ua r.length uc) r := hR
  replace hQ : RdR encI 1 (fnCx mixed tyTab Try.f19.ntmps w).B (fnCx mixed tyTab Try.f19.ntmps w).w0 o qv asks := hQ
  have hou := hR.sl.oc
  have hov := hB.sl.oc
  have hln := hB.len
  have hqle := hQ.sl.le
  refine W.sreg ?_
  refine WO.boxA rfl rfl (fun b1 hb1 => ?_)
  refine WO.p rfl rfl ?_
  refine WO.nil ?_
  refine W.seq ?_
  refine W.sreg ?_
  refine WO.loadA rfl rfl (Cells.own Pick.head) rfl rfl (WO.p rfl rfl ?_)
  refine WO.callR rfl Try.call30 (fun L w' hi => ref_both w' n v _ rv rows r (hB.later hi) (hR.later hi)) rfl ?_
  refine WO.p rfl rfl ?_
  refine WO.nil ?_
  refine W.cond_bl rfl (fun c1 => ?_) (fun c1 => ?_)
  · first
    | (exfalso; omega)
    | (refine W.sreg ?_
       refine WO.loadA rfl rfl (Cells.own Pick.head) rfl rfl (WO.p rfl rfl ?_)
       refine WO.callR rfl Try.call30 (fun L w' hi => ref_both w' n v _ rv rows r (hB.later hi) (hR.later hi)) rfl ?_
       refine WO.p rfl rfl ?_
       refine WO.nil ?_
       refine W.ret ?_
       refine fin.ret (Res.one rfl (RV.tmp rfl)) (congrArg (Value.int .i64) ?_)
       first | exact (may_1 (by omega)).symm | exact (may_10 (by omega) (by omega)).symm | exact (may_6 (by omega) (by omega) (by omega)).symm | exact (may_b (by omega) (by omega) (by omega) (by omega) hal (by omega)).symm | exact (may_21 (i := i) (by omega) (by omega) (by omega) hal' (by omega) (by rw [Int.toNat_natCast]; exact hga)).symm | exact (may_0 (by omega) (by omega) (by omega) hal' (by rw [Int.toNat_natCast]; rw [show i = asks.length by omega, List.take_length] at hng; exact hng)).symm)
  first
  | (exfalso; omega)
  | (refine W.skip ?_
     refine W.seq ?_
     obtain ⟨hok0, hrl, hrw⟩ := chkBR0.1 (show chkBR n rows r = 0 by omega)
     have h8 := hok0.1
     have hn5 := hok0.2.1
     refine W.sreg ?_
     refine WO.fieldL rfl rfl rfl (WO.load rfl rfl (Cell.own Pick.head rfl) rfl ?_)
     refine' WO.len (n := _) rfl rfl ?hs rfl ?_
     case hs => (first | exact hB.sl | exact hQ.sl)
     refine WO.p rfl rfl ?_
     refine WO.nil ?_
     refine W.cond_bl rfl (fun c2 => ?_) (fun c2 => ?_)
     · first
       | (exfalso; omega)
       | (refine W.sreg ?_
          refine WO.p rfl rfl ?_
          refine WO.nil ?_
          refine W.ret ?_
          refine fin.ret (Res.one rfl (RV.tmp rfl)) (congrArg (Value.int .i64) ?_)
          first | exact (may_1 (by omega)).symm | exact (may_10 (by omega) (by omega)).symm | exact (may_6 (by omega) (by omega) (by omega)).symm | exact (may_b (by omega) (by omega) (by omega) (by omega) hal (by omega)).symm | exact (may_21 (i := i) (by omega) (by omega) (by omega) hal' (by omega) (by rw [Int.toNat_natCast]; exact hga)).symm | exact (may_0 (by omega) (by omega) (by omega) hal' (by rw [Int.toNat_natCast]; rw [show i = asks.length by omega, List.take_length] at hng; exact hng)).symm)
     first
     | (exfalso; omega)
     | (refine W.skip ?_
        refine W.seq ?_
        refine W.sreg ?_
        refine WO.p rfl rfl ?_
        refine' WO.len (n := _) rfl rfl ?hs rfl ?_
        case hs => (first | exact hB.sl | exact hQ.sl)
        refine WO.p rfl rfl ?_
        refine WO.nil ?_
        refine W.cond_bl rfl (fun c3 => ?_) (fun c3 => ?_)
        · first
          | (exfalso; omega)
          | (refine W.sreg ?_
             refine WO.p rfl rfl ?_
             refine WO.nil ?_
             refine W.ret ?_
             refine fin.ret (Res.one rfl (RV.tmp rfl)) (congrArg (Value.int .i64) ?_)
             first | exact (may_1 (by omega)).symm | exact (may_10 (by omega) (by omega)).symm | exact (may_6 (by omega) (by omega) (by omega)).symm | exact (may_b (by omega) (by omega) (by omega) (by omega) hal (by omega)).symm | exact (may_21 (i := i) (by omega) (by omega) (by omega) hal' (by omega) (by rw [Int.toNat_natCast]; exact hga)).symm | exact (may_0 (by omega) (by omega) (by omega) hal' (by rw [Int.toNat_natCast]; rw [show i = asks.length by omega, List.take_length] at hng; exact hng)).symm)
        first
        | (exfalso; omega)
        | (refine W.skip ?_
           refine W.seq ?_
           refine W.sreg ?_
           refine WO.p rfl rfl ?_
           refine WO.nil ?_
           refine W.block ?_
           refine W.loop (fun (i : Nat) => i ≤ asks.length ∧ ∀ q ∈ asks.take i, chkR n q = 0)
             (fun (i : Nat) => [(1, .slice ua r.length uc), (2, o), (3, .pointer (some ⟨b1, 0, none⟩)), (7, .int .i64 (i : Int))])
             (fun (i : Nat) => [pt b1 (.cells #[.int .i64 n, v] 24 (0, 0))])
             (fun (i : Nat) => asks.length - i) 0
             (by exact ⟨by omega, fun q hq => by simp at hq⟩) ⟨rfl, rfl, rfl, rfl, trivial⟩ (by repeat (first | exact Sub.nil | refine Sub.cons (by repeat (first | exact Pick.head | apply Pick.tail)) ?_)) ?_
           rintro i ⟨hi, hal⟩
           refine W.seq ?_
           refine W.sreg ?_
           refine WO.p rfl rfl (WO.p rfl rfl ?_)
           refine' WO.len (n := _) rfl rfl ?hs rfl ?_
           case hs => (first | exact hB.sl | exact hQ.sl)
           refine WO.p rfl rfl ?_
           refine WO.nil ?_
           refine W.cond_bl rfl (fun c4 => ?_) (fun c4 => ?_)
           · first
             | (exfalso; omega)
             | (refine W.skip ?_
                refine W.seq ?_
                refine W.block ?_
                refine W.seq ?_
                refine W.drawD 5 [.b 0 [], .r 1 [], .r 2 [], .r 3 [], .b 4 []] [] (A0 := []) (Sub.refl _) (by kernel_rfl) ?_ ?_
                · exact (ALok.b (ALok.r (ALok.r (ALok.r (ALok.b ALok.nil)))))
                refine' DT.b rfl rfl rfl ?hq ?_
                case hq =>
                  refine WO.loadA rfl rfl (Cells.own Pick.head) rfl rfl ?_
                  exact WO.nil ⟨rfl, rfl⟩
                refine' DT.r rfl rfl rfl ?hq ?_
                case hq =>
                  refine WO.p rfl rfl ?_
                  exact WO.nil ⟨rfl, rfl⟩
                refine' DT.r rfl rfl rfl ?hq ?_
                case hq =>
                  refine WO.p rfl rfl ?_
                  exact WO.nil ⟨rfl, rfl⟩
                refine' DT.r rfl rfl rfl ?hq ?_
                case hq =>
                  refine' WO.indexAddr (n := _) (i := _) rfl rfl rfl ?hs ?h1 rfl ?_
                  case hs => (first | exact hB.sl | exact hQ.sl)
                  case h1 => (first | omega | (simp; omega))
                  exact WO.nil ⟨rfl, rfl⟩
                refine' DT.b rfl rfl rfl ?hq ?_
                case hq =>
                  refine' WO.load (v := _) rfl rfl ?hc rfl ?_
                  case hc => (first | (refine hQ.cellV (i := i) ?_; omega))
                  exact WO.nil ⟨rfl, rfl⟩
                refine DT.nil [_] rfl ?_
                refine WO.callR rfl Try.call44 (fun L w' hi' => ref_Row w' n v (qv.getD i undef) (asks.getD i []) hov ((hQ.row i (by omega)).later hi')) rfl ?_
                refine WO.p rfl rfl ?_
                refine WO.nil ?_
                refine W.cond_bl rfl (fun c5 => ?_) (fun c5 => ?_)
                · first
                  | (exfalso; omega)
                  | (refine W.seq ?_
                     refine W.drawD 5 [.b 0 [], .r 1 [], .r 2 [], .r 3 [], .b 4 []] [] (A0 := []) (Sub.refl _) (by kernel_rfl) ?_ ?_
                     · exact (ALok.b (ALok.r (ALok.r (ALok.r (ALok.b ALok.nil)))))
                     refine' DT.b rfl rfl rfl ?hq ?_
                     case hq =>
                       refine WO.loadA rfl rfl (Cells.own Pick.head) rfl rfl ?_
                       exact WO.nil ⟨rfl, rfl⟩
                     refine' DT.r rfl rfl rfl ?hq ?_
                     case hq =>
                       refine WO.p rfl rfl ?_
                       exact WO.nil ⟨rfl, rfl⟩
                     refine' DT.r rfl rfl rfl ?hq ?_
                     case hq =>
                       refine WO.p rfl rfl ?_
                       exact WO.nil ⟨rfl, rfl⟩
                     refine' DT.r rfl rfl rfl ?hq ?_
                     case hq =>
                       refine' WO.indexAddr (n := _) (i := _) rfl rfl rfl ?hs ?h1 rfl ?_
                       case hs => (first | exact hB.sl | exact hQ.sl)
                       case h1 => (first | omega | (simp; omega))
                       exact WO.nil ⟨rfl, rfl⟩
                     refine' DT.b rfl rfl rfl ?hq ?_
                     case hq =>
                       refine' WO.load (v := _) rfl rfl ?hc rfl ?_
                       case hc => (first | (refine hQ.cellV (i := i) ?_; omega))
                       exact WO.nil ⟨rfl, rfl⟩
                     refine DT.nil [_] rfl ?_
                     refine WO.callR rfl Try.call44 (fun L w' hi' => ref_Row w' n v (qv.getD i undef) (asks.getD i []) hov ((hQ.row i (by omega)).later hi')) rfl ?_
                     refine WO.p rfl rfl ?_
                     refine WO.nil ?_
                     refine W.ret ?_
                     refine fin.ret (Res.one rfl (RV.tmp rfl)) (congrArg (Value.int .i64) ?_)
                     first | exact (may_1 (by omega)).symm | exact (may_10 (by omega) (by omega)).symm | exact (may_6 (by omega) (by omega) (by omega)).symm | exact (may_b (by omega) (by omega) (by omega) (by omega) hal (by omega)).symm | exact (may_21 (i := i) (by omega) (by omega) (by omega) hal' (by omega) (by rw [Int.toNat_natCast]; exact hga)).symm | exact (may_0 (by omega) (by omega) (by omega) hal' (by rw [Int.toNat_natCast]; rw [show i = asks.length by omega, List.take_length] at hng; exact hng)).symm)
                first
                | (exfalso; omega)
                | (refine W.skip ?_
                   refine W.region ?_
                   refine WO.p rfl rfl (WO.ar rfl rfl rfl (by (first | (unfold in64; omega) | (unfold in64; omega))) rfl (WO.p rfl rfl ?_))
                   refine WO.nil ?_
                   refine' ⟨i + 1, ?hp, ?hmu, ⟨rfl, rfl, rfl, rfl, trivial⟩, ?hS⟩
                   case hS => repeat (first | exact Sub.nil | refine Sub.cons (by repeat (first | exact Pick.head | apply Pick.tail)) ?_)
                   case hp => exact ⟨by omega, all_succ (by omega) [] hal (by omega)⟩
                   case hmu => omega))
           first
           | (exfalso; omega)
           | (refine W.exit (blk_same ?_)
              refine W.seq ?_
              obtain rfl : i = asks.length := by omega
              have hal' : ∀ q ∈ asks, chkR n q = 0 := by rw [List.take_length] at hal; exact hal
              obtain ⟨N, rfl⟩ : ∃ N : Nat, n = N := ⟨n.toNat, by omega⟩
              have hok : OkB N rows := hok0
              have hmr := rk_more hok (by omega) hrl hrw
              have hok2 := hmr.1
              refine DB.W.drawB 11 [.r 0 [], .b 1 [], .r 3 [], .b 4 [], .r 6 []] [.a 2 45 (fun b => OwC 25 1 (.slice (some ⟨b, 0, none⟩) 0 0) 0 []) (fun b => .slice (some ⟨b, 0, none⟩) 0 0), .c 5 [], .a 7 50 (fun b => OwC 25 1 (.slice (some ⟨b, 0, none⟩) 1 1) 1 [.slice ua r.length uc]) (fun b => .slice (some ⟨b, 0, none⟩) 1 1), .c 8 [], .r 9 [], .a 10 8 (fun b => pt b (.cells #[.int .i64 0, .slice none 0 0] 24 (0, 0))) (fun b => .pointer (some ⟨b, 0, none⟩))] [] (A0 := []) (H0 := [_]) (.cons .head .nil) (by kernel_rfl) ?_
              refine' DB.QB.r rfl rfl rfl ?hq ?_
              case hq =>
                refine WO.field0 rfl rfl rfl ?_
                exact WO.nil ⟨rfl, rfl⟩
              refine' DB.QB.b rfl rfl rfl ?hq ?_
              case hq =>
                refine WO.load rfl rfl (Cell.own Pick.head rfl) rfl ?_
                exact WO.nil ⟨rfl, rfl⟩
              refine' DB.QB.r rfl rfl rfl ?hq ?_
              case hq =>
                refine WO.fieldL rfl rfl rfl ?_
                exact WO.nil ⟨rfl, rfl⟩
              refine' DB.QB.b rfl rfl rfl ?hq ?_
              case hq =>
                refine WO.load rfl rfl (Cell.own Pick.head rfl) rfl ?_
                exact WO.nil ⟨rfl, rfl⟩
              refine' DB.QB.r rfl rfl rfl ?hq ?_
              case hq =>
                refine WO.p rfl rfl ?_
                exact WO.nil ⟨rfl, rfl⟩
              refine DB.QB.nil ?_ ?_
              · refine (DB.ALok.r (DB.ALok.b (DB.ALok.r (DB.ALok.b (DB.ALok.r (DB.ALok.n rfl rfl rfl ?_ (DB.ALok.c (DB.ALok.n rfl rfl rfl ?_ (DB.ALok.c (DB.ALok.r (DB.ALok.n rfl rfl rfl ?_ DB.ALok.nil)))))))))))
                · skip
                  refine WO.buildSl0 rfl rfl (fun e0 => ?_)
                  exact WO.nil ⟨_, rfl, rfl⟩
                · skip
                  refine' WO.buildSl (cs := _) rfl rfl rfl rfl ?hf rfl rfl ?hl rfl (fun v2 => ?_)
                  case hf => (conv => lhs; simp [-List.getD_eq_getElem?_getD, fillL, vcl, wrl, TTab.pl?.lget']) <;> rfl
                  case hl => rfl
                  exact WO.nil ⟨_, rfl, rfl⟩
                skip
                refine WO.alloc rfl rfl rfl (fun b3 hb3 => ?_)
                exact WO.nil ⟨_, rfl, rfl⟩
              refine DB.DT.a (fun v4 => ?_)
              refine DB.DT.c [_, _] rfl rfl rfl rfl ?_
              refine WO.appendN (n := 0) (m := rows.length) (news := rv) rfl rfl rfl rfl rfl (p := (by repeat (first | exact Pick.head | apply Pick.tail))) hB.sl (encV_ok hB.out) (by rw [hln]; omega) (rows_oc hB) (by omega) (by omega) rfl (fun v1 => ?_)
              rw [List.nil_append, Nat.zero_add rows.length]
              refine WO.nil ⟨_, [_], rfl, rfl, (DB.Keep.a (DB.Keep.r (DB.Keep.b (DB.Keep.r (DB.Keep.b (DB.Keep.r DB.Keep.nil)))))), ?_⟩
              refine DB.DT.a (fun v5 => ?_)
              refine DB.DT.c [_, _, _] rfl rfl rfl rfl ?_
              refine WO.append (n := rows.length) (m := 1) (news := [.slice ua r.length uc]) rfl rfl rfl rfl rfl (p := (by repeat (first | exact Pick.head | apply Pick.tail))) (isSl_lit (by omega) (fun _ => ⟨_, _, rfl⟩)) (by omega) (OwC.cells (e := 25) (sz := 1) (n := 1) (by repeat (first | exact Pick.head | apply Pick.tail))) rfl (by simp [hou]) (by omega) (by omega) rfl (fun g c => ?_)
              refine WO.nil ⟨_, [_, _], rfl, rfl, (DB.Keep.a (DB.Keep.c (DB.Keep.a (DB.Keep.r (DB.Keep.b (DB.Keep.r (DB.Keep.b (DB.Keep.r DB.Keep.nil)))))))), ?_⟩
              refine' DB.DT.r rfl rfl rfl ?hq ?_
              case hq =>
                refine' WO.build (cs := _) rfl rfl rfl ?hf rfl ?_
                case hf => (conv => lhs; simp [-List.getD_eq_getElem?_getD, fillL, vcl, wrl, TTab.pl?.lget']) <;> rfl
                exact WO.nil ⟨rfl, rfl⟩
              refine DB.DT.a (fun b6 => ?_)
              refine DB.DT.nil [_, _, _, _] rfl ?_
              refine WO.storeA rfl rfl rfl rfl Pick.head rfl rfl ?_
              refine WO.nil ?_
              refine W.seq ?_
              rw [show rows.length + 1 = (rows ++ [r]).length by simp]
              refine W.sreg ?_
              refine WO.p rfl rfl ?_
              refine WO.nil ?_
              refine W.block ?_
              refine W.loop (fun (i : Nat) => i ≤ asks.length ∧ ∀ q ∈ asks.take i, ¬ Gain N rows r q)
                (fun (i : Nat) => [(2, o), (3, .pointer (some ⟨b1, 0, none⟩)), (8, .pointer (some ⟨b6, 0, none⟩)), (9, .int .i64 (i : Int))])
                (fun (i : Nat) => [pt b1 (.cells #[.int .i64 (N : Int), v] 24 (0, 0)), pt b6 (.cells #[.int .i64 (N : Int), .slice (some ⟨g, 0, none⟩) (rows ++ [r]).length c] 24 (0, 0)), OwC 25 1 (.slice (some ⟨g, 0, none⟩) (rows ++ [r]).length c) (rows ++ [r]).length (rv ++ [.slice ua r.length uc])])
                (fun (i : Nat) => asks.length - i) 0
                (by exact ⟨by omega, fun q hq => by simp at hq⟩) ⟨rfl, rfl, rfl, rfl, trivial⟩ (by repeat (first | exact Sub.nil | refine Sub.cons (by repeat (first | exact Pick.head | apply Pick.tail)) ?_)) ?_
              rintro i ⟨hi, hng⟩
              refine W.seq ?_
              refine W.sreg ?_
              refine WO.p rfl rfl (WO.p rfl rfl ?_)
              refine' WO.len (n := _) rfl rfl ?hs rfl ?_
              case hs => (first | exact hB.sl | exact hQ.sl)
              refine WO.p rfl rfl ?_
              refine WO.nil ?_
              refine W.cond_bl rfl (fun c5 => ?_) (fun c5 => ?_)
              · first
                | (exfalso; omega)
                | (refine W.skip ?_
                   refine W.seq ?_
                   refine W.block ?_
                   refine W.seq ?_
                   obtain ⟨hql, hqw⟩ := chkR0.1 (hal' _ (getD_mem (show i < asks.length by omega) []))
                   refine W.drawD 13 [.b 0 [], .r 1 [], .r 2 [], .r 3 [], .b 4 [], .b 5 [], .r 6 [], .r 7 [], .b 8 [], .r 9 [], .r 10 [], .r 11 [], .b 12 []] [] (A0 := []) (Sub.refl _) (by kernel_rfl) ?_ ?_
                   · exact (ALok.b (ALok.r (ALok.r (ALok.r (ALok.b (ALok.b (ALok.r (ALok.r (ALok.b (ALok.r (ALok.r (ALok.r (ALok.b ALok.nil)))))))))))))
                   refine' DT.b rfl rfl rfl ?hq ?_
                   case hq =>
                     refine WO.loadA rfl rfl (Cells.own Pick.head) rfl rfl ?_
                     exact WO.nil ⟨rfl, rfl⟩
                   refine' DT.r rfl rfl rfl ?hq ?_
                   case hq =>
                     refine WO.p rfl rfl ?_
                     exact WO.nil ⟨rfl, rfl⟩
                   refine' DT.r rfl rfl rfl ?hq ?_
                   case hq =>
                     refine WO.p rfl rfl ?_
                     exact WO.nil ⟨rfl, rfl⟩
                   refine' DT.r rfl rfl rfl ?hq ?_
                   case hq =>
                     refine' WO.indexAddr (n := _) (i := _) rfl rfl rfl ?hs ?h1 rfl ?_
                     case hs => (first | exact hB.sl | exact hQ.sl)
                     case h1 => (first | omega | (simp; omega))
                     exact WO.nil ⟨rfl, rfl⟩
                   refine' DT.b rfl rfl rfl ?hq ?_
                   case hq =>
                     refine' WO.load (v := _) rfl rfl ?hc rfl ?_
                     case hc => (first | (refine hQ.cellV (i := i) ?_; omega))
                     exact WO.nil ⟨rfl, rfl⟩
                   refine' DT.b rfl rfl rfl ?hq ?_
                   case hq =>
                     refine WO.callR (r := .bool (bl (CanA N rows (asks.getD i [])))) rfl Try.call42 (fun L w' hi' => ref_Can w' N v _ rv rows (asks.getD i []) (hB.later hi') ((hQ.row i (by omega)).later hi') hok hql hqw) rfl ?_
                     exact WO.nil ⟨rfl, rfl⟩
                   refine' DT.r rfl rfl rfl ?hq ?_
                   case hq =>
                     refine WO.p rfl rfl ?_
                     exact WO.nil ⟨rfl, rfl⟩
                   refine' DT.rNB rfl rfl rfl ?hq (fun c6 => ?_) (fun c6 => ?_)
                   case hq =>
                     refine WO.p rfl rfl ?_
                     exact WO.nil ⟨rfl, rfl⟩
                   · first
                     | (exfalso; omega)
                     | (refine' DT.b rfl rfl rfl ?hq ?_
                        case hq =>
                          refine WO.go' rfl (WO.loadA rfl rfl (Cells.own (Pick.tail (Pick.head))) rfl rfl ?_)
                          exact WO.nil ⟨rfl, rfl⟩
                        refine' DT.r rfl rfl rfl ?hq ?_
                        case hq =>
                          refine WO.pg rfl rfl rfl ?_
                          exact WO.nil ⟨rfl, rfl⟩
                        refine' DT.r rfl rfl rfl ?hq ?_
                        case hq =>
                          refine WO.pg rfl rfl rfl ?_
                          exact WO.nil ⟨rfl, rfl⟩
                        refine' DT.r rfl rfl rfl ?hq ?_
                        case hq =>
                          refine WO.go' rfl ?_
                          refine' WO.indexAddr (n := _) (i := _) rfl rfl rfl ?hs ?h1 rfl ?_
                          case hs => (first | exact hB.sl | exact hQ.sl)
                          case h1 => (first | omega | (simp; omega))
                          exact WO.nil ⟨rfl, rfl⟩
                        refine' DT.b rfl rfl rfl ?hq ?_
                        case hq =>
                          refine WO.go' rfl ?_
                          refine' WO.load (v := _) rfl rfl ?hc rfl ?_
                          case hc => (first | (refine hQ.cellV (i := i) ?_; omega))
                          exact WO.nil ⟨rfl, rfl⟩
                        refine DT.nil [_, _, _] rfl ?_
                        refine WO.go' rfl ?_
                        refine WO.callR (r := .bool (bl (CanA N (rows ++ [r]) (asks.getD i [])))) rfl Try.call42 (fun L w' hi' => ref_Can w' N _ _ (rv ++ [.slice ua r.length uc]) (rows ++ [r]) (asks.getD i []) (rdr_more hB hR (by repeat (first | exact Pick.head | apply Pick.tail)) hi') ((hQ.row i (by omega)).later hi') hok2 hql hqw) rfl ?_
                        refine WO.p rfl rfl ?_
                        refine WO.nil ?_
                        refine W.cond_bl rfl (fun c7 => ?_) (fun c7 => ?_)
                        · first
                          | (exfalso; omega)
                          | (have hga : Gain N rows r (asks.getD i []) := ⟨by assumption, by assumption⟩
                             refine W.sreg ?_
                             refine WO.p rfl rfl ?_
                             refine WO.nil ?_
                             refine W.ret ?_
                             refine fin.ret (Res.one rfl (RV.tmp rfl)) (congrArg (Value.int .i64) ?_)
                             first | exact (may_1 (by omega)).symm | exact (may_10 (by omega) (by omega)).symm | exact (may_6 (by omega) (by omega) (by omega)).symm | exact (may_b (by omega) (by omega) (by omega) (by omega) hal (by omega)).symm | exact (may_21 (i := i) (by omega) (by omega) (by omega) hal' (by omega) (by rw [Int.toNat_natCast]; exact hga)).symm | exact (may_0 (by omega) (by omega) (by omega) hal' (by rw [Int.toNat_natCast]; rw [show i = asks.length by omega, List.take_length] at hng; exact hng)).symm)
                        first
                        | (exfalso; omega)
                        | (refine W.skip ?_
                           have hnn : ¬ Gain N rows r (asks.getD i []) := fun g => by first | exact absurd g.2 (by assumption) | exact g.1 (by assumption)
                           refine W.region ?_
                           refine WO.p rfl rfl (WO.ar rfl rfl rfl (by (first | (unfold in64; omega) | (unfold in64; omega))) rfl (WO.p rfl rfl ?_))
                           refine WO.nil ?_
                           refine' ⟨i + 1, ?hp, ?hmu, ⟨rfl, rfl, rfl, rfl, trivial⟩, ?hS⟩
                           case hS => repeat (first | exact Sub.nil | refine Sub.cons (by repeat (first | exact Pick.head | apply Pick.tail)) ?_)
                           case hp => exact ⟨by omega, all_succ (by omega) [] hng hnn⟩
                           case hmu => omega))
                   first
                   | (exfalso; omega)
                   | (refine' DT.b rfl rfl rfl ?hq ?_
                      case hq =>
                        refine WO.no rfl rfl ?_
                        exact WO.nil ⟨rfl, rfl⟩
                      refine' DT.r rfl rfl rfl ?hq ?_
                      case hq =>
                        refine WO.no rfl rfl ?_
                        exact WO.nil ⟨rfl, rfl⟩
                      refine' DT.r rfl rfl rfl ?hq ?_
                      case hq =>
                        refine WO.no rfl rfl ?_
                        exact WO.nil ⟨rfl, rfl⟩
                      refine' DT.r rfl rfl rfl ?hq ?_
                      case hq =>
                        refine WO.no rfl rfl ?_
                        exact WO.nil ⟨rfl, rfl⟩
                      refine' DT.b rfl rfl rfl ?hq ?_
                      case hq =>
                        refine WO.no rfl rfl ?_
                        exact WO.nil ⟨rfl, rfl⟩
                      refine DT.nil [_, _, _] rfl ?_
                      refine WO.no rfl rfl (WO.p rfl rfl ?_)
                      refine WO.nil ?_
                      refine W.cond_f rfl ?_
                      refine W.skip ?_
                      have hnn : ¬ Gain N rows r (asks.getD i []) := fun g => by first | exact absurd g.2 (by assumption) | exact g.1 (by assumption)
                      refine W.region ?_
                      refine WO.p rfl rfl (WO.ar rfl rfl rfl (by (first | (unfold in64; omega) | (unfold in64; omega))) rfl (WO.p rfl rfl ?_))
                      refine WO.nil ?_
                      refine' ⟨i + 1, ?hp, ?hmu, ⟨rfl, rfl, rfl, rfl, trivial⟩, ?hS⟩
                      case hS => repeat (first | exact Sub.nil | refine Sub.cons (by repeat (first | exact Pick.head | apply Pick.tail)) ?_)
                      case hp => exact ⟨by omega, all_succ (by omega) [] hng hnn⟩
                      case hmu => omega))
              first
              | (exfalso; omega)
              | (refine W.exit (blk_same ?_)
                 refine W.sreg ?_
                 refine WO.p rfl rfl ?_
                 refine WO.nil ?_
                 refine W.ret ?_
                 refine fin.ret (Res.one rfl (RV.tmp rfl)) (congrArg (Value.int .i64) ?_)
                 first | exact (may_1 (by omega)).symm | exact (may_10 (by omega) (by omega)).symm | exact (may_6 (by omega) (by omega) (by omega)).symm | exact (may_b (by omega) (by omega) (by omega) (by omega) hal (by omega)).symm | exact (may_21 (i := i) (by omega) (by omega) (by omega) hal' (by omega) (by rw [Int.toNat_natCast]; exact hga)).symm | exact (may_0 (by omega) (by omega) (by omega) hal' (by rw [Int.toNat_natCast]; rw [show i = asks.length by omega, List.take_length] at hng; exact hng)).symm)))))
end Go.Proofs.Ytelmclmklkiphaa
namespace Go.Proofs.Ytelmclmklkiphaa
open Go Go.TH Go.ChangeShapes Go.WideShapes Go.ChangeAt Go.RowKit
set_option maxRecDepth 100000
section
variable {H : Type} {enc : TypeId × Value → H} {w : World}
theorem cells2 : Try.prog.cellsOf 2 = 1 := by kernel_rfl
theorem cells3 : Try.prog.cellsOf 3 = 1 := by kernel_rfl
theorem cells22 : Try.prog.cellsOf 22 = 1 := by kernel_rfl
theorem cells24 : Try.prog.cellsOf 24 = 2 := by kernel_rfl
theorem cells25 : Try.prog.cellsOf 25 = 1 := by kernel_rfl
theorem cells27 : Try.prog.cellsOf 27 = 2 := by kernel_rfl
theorem wf64 {z : Int} (h : (Lit.int .i64 z).wf = true) : in64 z := by
  simp [Lit.wf, IntKind.min, IntKind.max, IntKind.signed, IntKind.bits] at h
  unfold in64; omega
theorem rd_int {n : Nat} {c : List Value} {y : DataW H × List MemPlace} (h : DataW.trod enc Try.prog w 0 (fun _ => true) true n 2 c = some y) : ∃ z : Int, c = encI z ∧ in64 z := by
  obtain ⟨z, rfl, _, hw⟩ := DataW.trod_int Try.underlying2 h
  exact ⟨z, rfl, wf64 hw⟩
theorem rd_int3 {n : Nat} {c : List Value} {y : DataW H × List MemPlace} (h : DataW.trod enc Try.prog w 0 (fun _ => true) true n 3 c = some y) : ∃ z : Int, c = encI z ∧ in64 z := by
  obtain ⟨z, rfl, _, hw⟩ := DataW.trod_int Try.underlying3 h
  exact ⟨z, rfl, wf64 hw⟩
theorem open_book {base : Nat} {v : Value} {d : DataW H} {ps : List MemPlace} (hv : Value.okWide Try.prog w .any base 24 v) (h : DataW.Trod enc Try.prog w 0 (fun _ => true) true 24 v d ps) :
    ∃ (n : Int) (o : Value) (rv : List Value) (rows : List (List Int)), v = bookV n o ∧ RdR encI 1 w.heap.size w o rv rows ∧ CapV o rows.length := by
  unfold Value.okWide at hv
  rw [Try.underlying24] at hv
  obtain ⟨cs, rfl, hs, _⟩ := hv
  obtain ⟨fuel, hf⟩ := h
  obtain ⟨y0, y1, n, _, hl, h0, h1⟩ := trod_struct2 Try.underlying24 hf
  rw [cells24] at hl
  rw [cells3] at h0
  rw [cells22] at h1
  obtain ⟨l, hcs⟩ : ∃ l, cs = List.toArray l := ⟨cs.toList, by simp⟩
  subst hcs
  simp only [Value.cells] at hl h0 h1
  match l, hl with
  | [a, b], _ =>
    simp at h0 h1
    obtain ⟨u, hu, _⟩ := rd_int3 h0
    obtain ⟨o, rv, rows, ho, hr, _⟩ := open_rdr (en := encI) (Q := in64) Try.underlying22 cells25 Try.underlying25 cells2 (by omega) (fun n c y hl hy => rd_int hy) h1
    simp at ho
    simp [encI] at hu
    subst ho hu
    refine ⟨u, b, rv, rows, rfl, hr, ?_⟩
    obtain ⟨_, a0, c0, e0, _⟩ := hr.sl
    rcases Deep.open_slice Try.underlying22 h1 with ⟨e, _⟩ | ⟨a, len, cap, m, k, D, Pl, e, _, hc, _⟩
    · have e' : b = .slice none 0 0 := by simpa using e
      rw [e'] at e0
      injection e0 with q1 q2 q3
      exact ⟨⟨none, 0, by rw [e', ← q2], by omega, fun _ => rfl⟩⟩
    have e' : b = .slice (some a) len cap := by simpa using e
    rw [e'] at e0
    injection e0 with q1 q2 q3
    exact ⟨⟨some a, cap, by rw [e', q2], by omega, fun q => by cases q⟩⟩
theorem open_row {base : Nat} {v : Value} {d : DataW H} {ps : List MemPlace} (hv : Value.okWide Try.prog w .any base 25 v) (h : DataW.Trod enc Try.prog w 0 (fun _ => true) true 25 v d ps) :
    ∃ xs : List Int, RdF encI 1 w.heap.size w v xs ∧ ∀ x ∈ xs, in64 x := by
  obtain ⟨a0, len, cap, rfl⟩ := okWide_slice Try.underlying25 hv
  obtain ⟨fuel, hf⟩ := h
  obtain ⟨o, xs, ho, hr, hq⟩ := open_rd (en := encI) (Q := in64) Try.underlying25 cells2 (by omega) (fun n c y hl hy => rd_int hy) hf
  simp [Value.cells] at ho
  subst ho
  exact ⟨xs, hr, hq⟩
theorem open_rows {base : Nat} {v : Value} {d : DataW H} {ps : List MemPlace} (hv : Value.okWide Try.prog w .any base 22 v) (h : DataW.Trod enc Try.prog w 0 (fun _ => true) true 22 v d ps) :
    ∃ (rv : List Value) (ys : List (List Int)), RdR encI 1 w.heap.size w v rv ys ∧ ∀ r ∈ ys, ∀ x ∈ r, in64 x := by
  obtain ⟨a0, len, cap, rfl⟩ := okWide_slice Try.underlying22 hv
  obtain ⟨fuel, hf⟩ := h
  obtain ⟨o, rv, rows, ho, hr, hq⟩ := open_rdr (en := encI) (Q := in64) Try.underlying22 cells25 Try.underlying25 cells2 (by omega) (fun n c y hl hy => rd_int hy) hf
  simp [Value.cells] at ho
  subst ho
  exact ⟨rv, rows, hr, hq⟩
theorem open_proof {base : Nat} {v : Value} {d : DataW H} {ps : List MemPlace} (hv : Value.okWide Try.prog w .any base 27 v) (h : DataW.Trod enc Try.prog w 0 (fun _ => true) true 27 v d ps) :
    ∃ (o : Value) (q : List Int) (t : Int), v = .agg #[o, .int .i64 t] ∧ RdF encI 1 w.heap.size w o q := by
  unfold Value.okWide at hv
  rw [Try.underlying27] at hv
  obtain ⟨cs, rfl, hs, _⟩ := hv
  obtain ⟨fuel, hf⟩ := h
  obtain ⟨y0, y1, n, _, hl, h0, h1⟩ := trod_struct2 Try.underlying27 hf
  rw [cells27] at hl
  rw [cells25] at h0
  rw [cells2] at h1
  obtain ⟨l, hcs⟩ : ∃ l, cs = List.toArray l := ⟨cs.toList, by simp⟩
  subst hcs
  simp only [Value.cells] at hl h0 h1
  match l, hl with
  | [a, b], _ =>
    simp at h0 h1
    obtain ⟨u, hu, _⟩ := rd_int h1
    obtain ⟨o, xs, ho, hr, _⟩ := open_rd (en := encI) (Q := in64) Try.underlying25 cells2 (by omega) (fun n c y hl hy => rd_int hy) h0
    simp at ho
    simp [encI] at hu
    subst ho hu
    exact ⟨a, xs, u, rfl, hr⟩
theorem open_kind {k : IntKind} {T base : Nat} (hT : Try.prog.underlying T = some (.int k)) {v : Value} {d : DataW H} {ps : List MemPlace} (hv : Value.okWide Try.prog w .any base T v) (h : DataW.Trod enc Try.prog w 0 (fun _ => true) true T v d ps) : ∃ z : Int, v = .int k z ∧ k.min ≤ z ∧ z ≤ k.max := by
  obtain ⟨z, rfl, _, _, hw⟩ := open_int hT hv h
  simp [Lit.wf] at hw
  exact ⟨z, rfl, by omega, by omega⟩
theorem open_u8 {base : Nat} {v : Value} {d : DataW H} {ps : List MemPlace} (hv : Value.okWide Try.prog w .any base 5 v) (h : DataW.Trod enc Try.prog w 0 (fun _ => true) true 5 v d ps) : ∃ z : Nat, v = .int .u8 (z : Int) ∧ z ≤ 255 := by
  obtain ⟨z, rfl, h1, h2⟩ := open_kind Try.underlying5 hv h
  simp [IntKind.min, IntKind.max, IntKind.signed, IntKind.bits] at h1 h2
  exact ⟨z.toNat, by rw [Int.toNat_of_nonneg h1], by omega⟩
end
end Go.Proofs.Ytelmclmklkiphaa
