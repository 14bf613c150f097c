/-
  What is proved here: the weights of runs by each manner, not yet in least terms. Conditions: none; each contract states its own.
  What is proved here: the weights of runs by means of neighbours, and by the definition. Conditions: none; each contract states its own.
  What is proved here: the weights of runs, in least terms. Conditions: none; each contract states its own.
  What is proved here: how great the weights are (no program in sight). Conditions: none; each theorem states its own.
  What is proved here: the weights, and the widest run. Conditions: none; each contract states its own.
  What is proved here: the mean of some number of each run, and the functions that tell the number. Conditions: none; each contract states its own.
  What is proved here: the functions that tell the numbers of runs, and tides. Conditions: none; each contract states its own.
  What is proved here: tides, the mean's error in a tide, and the span. Conditions: none; each contract states its own.
  What is proved here: the mean's error in a tide, and the span, of a valid trial. Conditions: none; each contract states its own.
  What is proved here: some tide of a degree below the number of runs does not cancel (no program in sight). Conditions: none; each theorem states its own.
  What is proved here: the program's mean, span, error in a tide, degree that cancels and widest run. Conditions: none; each contract states its own.
  What is proved here: more rules of a small program logic: fields of values, conversions. Conditions: none; each rule states its own.
  What is proved here: the program's error in a tide, degree that cancels and widest run. Conditions: none; each contract states its own.
  What is proved here: the reference's tides, means and spans. Conditions: none; each contract states its own.
  What is proved here: slices of slices; what is made and copied, of elements of several cells. Conditions: none; each rule states its own.
  What is proved here: calls that are handed pieces; a range over a function that hands a piece with each value, and may be left. Conditions: none; each rule states its own.
  What is proved here: what is appended may be nothing. Conditions: none; each rule states its own.
  What is proved here: comparisons whose answer is known. Conditions: each rule states its own.
  What is proved here: trees keyed by numbers; values of an evaluator and how they stand for the model's values. Conditions: none; each lemma states its own.
  What is proved here: states of an evaluator, how they stand for worlds, and steps between them. Conditions: none; each lemma states its own.
-/
import Derived.Test.YtnehaifgcegemaaGreatM3
set_option linter.unusedVariables false
set_option linter.unusedSimpArgs false
namespace Go.Proofs.YtnehaifgcegemaaGreat.Tr
open Go Go.TH
attribute [local irreducible] W WO pt
set_option maxRecDepth 10000
set_option maxHeartbeats 1000000
/-- five numbers -/
def a5 (f : Nat → Int) : List Value := [.int .i64 (f 0), .int .i64 (f 1), .int .i64 (f 2), .int .i64 (f 3), .int .i64 (f 4)]
def up (f : Nat → Int) (i : Nat) (x : Int) : Nat → Int := fun j => if j = i then x else f j
/-- the first i of them -/
def wTo (g : Nat → Int) (i : Nat) : Nat → Int := fun j => if j < i then g j else 0
theorem up_wTo (g : Nat → Int) (i : Nat) : up (wTo g i) i (g i) = wTo g (i + 1) := by
  funext j
  show (if j = i then g i else if j < i then g j else 0) = if j < i + 1 then g j else 0
  by_cases e : j = i
  · rw [if_pos e, if_pos (by omega), e]
  · rw [if_neg e]
    by_cases h : j < i
    · rw [if_pos h, if_pos (by omega)]
    · rw [if_neg h, if_neg (by omega)]
theorem a5_set {f : Nat → Int} {i : Nat} {x : Int} (h : i < 5) : (a5 f).set (0 + i) (.int .i64 x) = a5 (up f i x) := by
  match i, h with
  | 0, _ => rfl
  | 1, _ => rfl
  | 2, _ => rfl
  | 3, _ => rfl
  | 4, _ => rfl
theorem a5_congr {f g : Nat → Int} (h : ∀ j, j < 5 → f j = g j) : a5 f = a5 g := by
  unfold a5
  rw [h 0 (by omega), h 1 (by omega), h 2 (by omega), h 3 (by omega), h 4 (by omega)]
theorem a5_get {f : Nat → Int} {i : Nat} (h : i < 5) : lget (a5 f) (0 + i) = some (.int .i64 (f i)) := by
  match i, h with
  | 0, _ => rfl
  | 1, _ => rfl
  | 2, _ => rfl
  | 3, _ => rfl
  | 4, _ => rfl
theorem a5_cell {P : Program} {C : Cx P} {H H' : List HP} {b i : Nat} {t : TypeId} {fr : Nat × Nat} {f : Nat → Int} (p : Pick (pt b (.cells (a5 f).toArray t fr)) H H') (h : i < 5) : Cell C H ⟨b, 0 + i, none⟩ (.int .i64 (f i)) := Cell.own p (a5_get h)
theorem a5_cellE {P : Program} {C : Cx P} {H H' : List HP} {b i : Nat} {t : TypeId} {fr : Nat × Nat} {f : Nat → Int} {x : Int} (p : Pick (pt b (.cells (a5 f).toArray t fr)) H H') (h : i < 5) (e : f i = x) : Cell C H ⟨b, 0 + i, none⟩ (.int .i64 x) := e ▸ a5_cell p h
theorem a5_cellS {P : Program} {C : Cx P} {H : List HP} {b i : Nat} {t : TypeId} {fr : Nat × Nat} {f : Nat → Int} {x : Int} (s : Sub H [pt b (.cells (a5 f).toArray t fr)]) (h : i < 5) (e : f i = x) : Cell C H ⟨b, 0 + i, none⟩ (.int .i64 x) := by
  cases s with
  | cons p _ => exact a5_cellE p h e
theorem a5_blt {f : Nat → Int} {i : Nat} (h : i < 5) : Nat.blt (0 + i) (a5 f).length = true := by rw [Nat.blt_eq, Nat.zero_add]; exact h
/-- what a pair of runs adds to the weight of a run -/
def exF (rs : List (Int × Int × Int)) (i : Nat) (w : Int) (q : Nat × Nat) : Int := if i ≠ q.1 ∧ i ≠ q.2 then w * (tm rs q.2 - tm rs q.1) else w
def exW (rs : List (Int × Int × Int)) (i : Nat) : Int := (pairsTo rs.length).foldl (exF rs i) 1
theorem foldl_take_some {α β : Type} (f : β → α → β) {l : List α} {i : Nat} {x : α} (h : l[i]? = some x) (b : β) : (l.take (i + 1)).foldl f b = f ((l.take i).foldl f b) x := by
  rw [List.take_add_one, h, List.foldl_append]; rfl
theorem exF_in {m : Int} {rs : List (Int × Int × Int)} (hv : VT m rs) {i : Nat} {w : Int} {q : Nat × Nat} (hq : q.1 < q.2 ∧ q.2 < rs.length) {B : Int} (h : 1 ≤ w ∧ w ≤ B) : 1 ≤ exF rs i w q ∧ exF rs i w q ≤ B * 60 := by
  have h1 := hv.lt hq.1 hq.2
  unfold exF
  split
  · constructor
    · have := Int.mul_le_mul h.1 h1.1 (by omega) (by omega); omega
    · exact Int.mul_le_mul h.2 h1.2 (by omega) (by omega)
  · omega
theorem exW_in {m : Int} {rs : List (Int × Int × Int)} (hv : VT m rs) (i : Nat) : ∀ q, q ≤ (pairsTo rs.length).length → 1 ≤ ((pairsTo rs.length).take q).foldl (exF rs i) 1 ∧ ((pairsTo rs.length).take q).foldl (exF rs i) 1 ≤ 60 ^ q
  | 0, _ => by simp
  | q + 1, h => by
    have ih := exW_in hv i q (by omega)
    obtain ⟨x, hx⟩ : ∃ x, (pairsTo rs.length)[q]? = some x := ⟨(pairsTo rs.length)[q], by simp [h]⟩
    rw [foldl_take_some _ hx, Int.pow_succ]
    exact exF_in hv (pairsTo_mem (List.mem_of_getElem? hx)) ih
theorem pairs_ten {n : Nat} (h : n ≤ 5) : (pairsTo n).length ≤ 10 := by
  match n, h with
  | 0, _ => decide
  | 1, _ => decide
  | 2, _ => decide
  | 3, _ => decide
  | 4, _ => decide
  | 5, _ => decide
theorem exW_B {m : Int} {rs : List (Int × Int × Int)} (hv : VT m rs) (i : Nat) {q : Nat} (hq : q ≤ (pairsTo rs.length).length) : 1 ≤ ((pairsTo rs.length).take q).foldl (exF rs i) 1 ∧ ((pairsTo rs.length).take q).foldl (exF rs i) 1 ≤ 604661760000000000 := by
  have h1 := exW_in hv i q hq
  have h2 : q ≤ 10 := Nat.le_trans hq (pairs_ten hv.n.2)
  have h3 := (by decide : ∀ q : Nat, q ≤ 10 → (60 : Int) ^ q ≤ 604661760000000000) q h2
  omega
theorem c_plain (w : World) (p : Addr) (m : Int) (o : Value) (rest : List Value) (rs : List (Int × Int × Int)) (hP : RdC w.heap.size w p (.int .i64 m :: o :: rest)) (hR : RdF encR 3 w.heap.size w o rs) (hn : rs.length ≤ 5) :
    Ret Tryz.prog 117 [.pointer (some p)].toArray w (.agg (a5 (wTo (fun _ => 1) rs.length)).toArray) := by
  refine Ret.of mixed tyTab Tryz.func117 rfl rfl ?_
  replace hR : RdF encR 3 (fnCx mixed tyTab Tryz.f117.ntmps w).B (fnCx mixed tyTab Tryz.f117.ntmps w).w0 o rs := hR
  replace hP : RdC (fnCx mixed tyTab Tryz.f117.ntmps w).B (fnCx mixed tyTab Tryz.f117.ntmps w).w0 p (.int .i64 m :: o :: rest) := hP
  refine W.sreg ?_
  refine WO.alloc rfl rfl rfl (fun b1 hb1 => ?_)
  refine WO.nil ?_
  refine W.sreg ?_
  refine WO.alloc rfl rfl rfl (fun b2 hb2 => ?_)
  refine WO.nil ?_
  refine W.seq ?_
  refine W.sreg ?_
  refine WO.p rfl rfl (WO.p rfl rfl (WO.field0 rfl rfl rfl (WO.field rfl rfl rfl ?_)))
  refine' WO.load (v := _) rfl rfl ?hc rfl ?_
  case hc => (first | (refine hP.cellAt ?_; rfl))
  refine' WO.len (n := _) rfl rfl ?hs rfl ?_
  case hs => (first | exact hR.sl)
  refine WO.p rfl rfl ?_
  refine WO.nil ?_
  refine W.block ?_
  refine W.loop (fun (i : Nat) => i ≤ rs.length)
    (fun (i : Nat) => [(11, .int .i64 (i : Int)), (10, .int .i64 (rs.length : Int)), (3, .pointer (some ⟨b2, 0, none⟩)), (2, .pointer (some ⟨b1, 0, none⟩))])
    (fun (i : Nat) => [pt b1 (.cells #[.int .i64 0, .int .i64 0, .int .i64 0, .int .i64 0, .int .i64 0] 185 (0, 0)), pt b2 (.cells (a5 (wTo (fun _ => 1) i)).toArray 185 (0, 0))])
    (fun (i : Nat) => rs.length - i) 0
    (by omega) ⟨rfl, rfl, rfl, rfl, trivial⟩ (by repeat (first | exact Sub.nil | refine Sub.cons (by repeat (first | exact Pick.head | apply Pick.tail)) ?_)) ?_
  rintro i hi
  refine W.sreg ?_
  refine WO.p rfl rfl ?_
  refine WO.nil ?_
  refine W.seq ?_
  refine W.cond_bl rfl (fun c1 => ?_) (fun c1 => ?_)
  · first
    | (exfalso; omega)
    | (refine W.skip ?_
       refine W.seq ?_
       refine W.block ?_
       refine W.sreg ?_
       refine WO.p rfl rfl (WO.p rfl rfl ?_)
       refine WO.nil ?_
       refine W.region ?_
       refine WO.p rfl rfl ?_
       refine WO.indexArrL (i := i) (o' := 0 + i) rfl rfl rfl (by omega) (by omega) rfl ?_
       refine WO.store1 rfl rfl rfl rfl (by repeat (first | exact Pick.head | apply Pick.tail)) (a5_blt (by omega)) ?_
       rw [a5_set (by omega), up_wTo (fun _ => 1) i]
       refine WO.nil ?_
       refine W.region ?_
       refine WO.ar rfl rfl rfl (by (first | (unfold in64; omega) | (unfold in64; omega))) rfl (WO.p rfl rfl ?_)
       refine WO.nil ?_
       refine' ⟨i + 1, ?hp, ?hmu, ⟨rfl, rfl, rfl, rfl, trivial⟩, ?hS⟩
       case hS => repeat (first | exact Sub.nil | refine Sub.cons (by repeat (first | exact Pick.head | apply Pick.tail)) ?_)
       case hp => omega
       case hmu => omega)
  · first
    | (exfalso; omega)
    | (refine W.exit (blk_same ?_)
       refine W.sreg ?_
       refine WO.loadA rfl rfl (Cells.own (Pick.tail (Pick.head))) rfl rfl (WO.storeA rfl rfl rfl rfl Pick.head rfl rfl ?_)
       refine WO.nil ?_
       refine W.ret ?_
       obtain rfl : i = rs.length := by omega
       exact fin.ret (Res.one rfl (RV.cell rfl rfl rfl (Cells.own Pick.head))) rfl)
theorem exF_q {rs : List (Int × Int × Int)} {i j k : Nat} {w : Int} : exF rs i w (j, k) = if (i : Int) ≠ (j : Int) ∧ (i : Int) ≠ (k : Int) then w * (tm rs k - tm rs j) else w := by
  unfold exF
  by_cases h : i ≠ j ∧ i ≠ k
  · rw [if_pos h, if_pos (by omega)]
  · rw [if_neg h, if_neg (by omega)]
theorem up_up (f : Nat → Int) (i : Nat) (x y : Int) : up (up f i x) i y = up f i y := by
  funext j
  unfold up
  by_cases h : j = i
  · rw [if_pos h, if_pos h]
  · rw [if_neg h, if_neg h, if_neg h]
theorem up_at (f : Nat → Int) (i : Nat) (x : Int) : up f i x i = x := by unfold up; rw [if_pos rfl]
theorem pairV_some {n q : Nat} {x : Value × Value} (h : ((pairsTo n).map pairV)[q]? = some x) : ∃ j k : Nat, (pairsTo n)[q]? = some (j, k) ∧ j < k ∧ k < n ∧ x = (.int .i64 (j : Int), .int .i64 (k : Int)) := by
  rw [List.getElem?_map] at h
  cases hq : (pairsTo n)[q]? with
  | none => rw [hq] at h; cases h
  | some y =>
    rw [hq] at h
    have := pairsTo_mem (List.mem_of_getElem? hq)
    exact ⟨y.1, y.2, rfl, this.1, this.2, (Option.some.inj h).symm⟩
theorem c_exact (w : World) (p : Addr) (m : Int) (o : Value) (rest : List Value) (rs : List (Int × Int × Int)) (hP : RdC w.heap.size w p (.int .i64 m :: o :: rest)) (hR : RdF encR 3 w.heap.size w o rs) (hv : VT m rs) :
    Ret Tryz.prog 116 [.pointer (some p)].toArray w (.agg (a5 (wTo (exW rs) rs.length)).toArray) := by
  refine Ret.of mixed tyTab Tryz.func116 rfl rfl ?_
  replace hR : RdF encR 3 (fnCx mixed tyTab Tryz.f116.ntmps w).B (fnCx mixed tyTab Tryz.f116.ntmps w).w0 o rs := hR
  replace hP : RdC (fnCx mixed tyTab Tryz.f116.ntmps w).B (fnCx mixed tyTab Tryz.f116.ntmps w).w0 p (.int .i64 m :: o :: rest) := hP
  have hn := hv.n
  refine W.sreg ?_
  refine WO.box1 rfl (by first | rfl | assumption) rfl (fun b1 hb1 => ?_)
  refine WO.alloc rfl rfl rfl (fun b2 hb2 => ?_)
  refine WO.nil ?_
  refine W.sreg ?_
  refine WO.alloc rfl rfl rfl (fun b3 hb3 => ?_)
  refine WO.nil ?_
  refine W.seq ?_
  refine W.sreg ?_
  refine WO.load rfl rfl (Cell.own (Pick.tail (Pick.tail (Pick.head))) rfl) rfl (WO.p rfl rfl (WO.field0 rfl rfl rfl (WO.field rfl rfl rfl ?_)))
  refine' WO.load (v := _) rfl rfl ?hc rfl ?_
  case hc => (first | (refine hP.cellAt ?_; rfl) | (refine hP2.cellAt ?_; rfl) | (refine hR2.cell0 ?_ r0 ?_ <;> first | rfl | omega))
  refine' WO.len (n := _) rfl rfl ?hs rfl ?_
  case hs => (first | exact hR.sl | exact hR2.sl)
  refine WO.p rfl rfl ?_
  refine WO.nil ?_
  refine W.block ?_
  refine W.loop (fun (i : Nat) => i ≤ rs.length)
    (fun (i : Nat) => [(13, .int .i64 (i : Int)), (12, .int .i64 (rs.length : Int)), (3, .pointer (some ⟨b3, 0, none⟩)), (2, .pointer (some ⟨b2, 0, none⟩)), (1, .pointer (some ⟨b1, 0, none⟩))])
    (fun (i : Nat) => [pt b1 (.cells #[.pointer (some p)] 99 (0, 0)), pt b2 (.cells #[.int .i64 0, .int .i64 0, .int .i64 0, .int .i64 0, .int .i64 0] 185 (0, 0)), pt b3 (.cells (a5 (wTo (exW rs) i)).toArray 185 (0, 0))])
    (fun (i : Nat) => rs.length - i) 0
    (by omega) ⟨rfl, rfl, rfl, rfl, rfl, trivial⟩ (by repeat (first | exact Sub.nil | refine Sub.cons (by repeat (first | exact Pick.head | apply Pick.tail)) ?_)) ?_
  rintro i hi
  refine W.sreg ?_
  refine WO.p rfl rfl ?_
  refine WO.nil ?_
  refine W.seq ?_
  refine W.cond_bl rfl (fun c1 => ?_) (fun c1 => ?_)
  · first
    | (exfalso; omega)
    | (refine W.skip ?_
       refine W.seq ?_
       refine W.block ?_
       refine W.sreg ?_
       refine WO.p rfl rfl ?_
       refine WO.alloc rfl rfl rfl (fun b4 hb4 => ?_)
       refine WO.store1 rfl rfl rfl (by first | rfl | assumption) Pick.head rfl ?_
       refine WO.nil ?_
       refine W.sreg ?_
       refine WO.load rfl rfl (Cell.own Pick.head rfl) rfl ?_
       refine WO.indexArrL (i := i) (o' := 0 + i) rfl rfl rfl (by omega) (by omega) rfl ?_
       refine WO.store1 rfl rfl rfl rfl (by repeat (first | exact Pick.head | apply Pick.tail)) (a5_blt (by omega)) ?_
       rw [a5_set (by omega)]
       refine WO.nil ?_
       refine W.sreg ?_
       refine WO.load rfl rfl (Cell.own (Pick.tail (Pick.tail (Pick.head))) rfl) rfl ?_
       refine WO.call (Post := fun v Hq => ∃ b1, v = .func (.func 318) #[] #[.pointer (some ⟨b1, 0, none⟩)] ∧ Hq = [pt b1 (.cells #[.pointer (some p)] 99 (0, 0))]) rfl Tryz.call220 (fun L w hi => c_pairs w _) rfl ?_
       rintro _ _ ⟨e1, rfl, rfl⟩
       refine WO.nil ?_
       refine W.block ?_
       refine W.rangeFunc2 [pt e1 (.cells #[.pointer (some p)] 99 (0, 0))] (fun q => [pt b1 (.cells #[.pointer (some p)] 99 (0, 0)), pt b2 (.cells #[.int .i64 0, .int .i64 0, .int .i64 0, .int .i64 0, .int .i64 0] 185 (0, 0)), pt b4 (.cells #[.int .i64 (i : Int)] 3 (0, 0)), pt b3 (.cells (a5 (up (wTo (exW rs) i) i (((pairsTo rs.length).take q).foldl (exF rs i) 1))).toArray 185 (0, 0))]) ((pairsTo rs.length).map pairV) rfl rfl rfl rfl Tryz.call318 (by repeat (first | exact Sub.nil | refine Sub.cons (by repeat (first | exact Pick.head | apply Pick.tail)) ?_)) ?_ ?_ ?_
       · intro l Hc hy w1 M' hB hk hM hi
         exact c_pairs1 _ _ p m o rest rs hP hR hn.2 l Hc hy e1 w1 M' hB hk hM hi
       · intro l w1 M hB hM hk q x hx
         obtain ⟨j, k, hq, hjk, hkn, rfl⟩ := pairV_some hx
         have hR2 : RdF encR 3 (rdCx (fnCx mixed tyTab Tryz.f116.ntmps w) l w1 M hB hM).B (rdCx (fnCx mixed tyTab Tryz.f116.ntmps w) l w1 M hB hM).w0 o rs := hR.agree hk
         have hP2 : RdC (rdCx (fnCx mixed tyTab Tryz.f116.ntmps w) l w1 M hB hM).B (rdCx (fnCx mixed tyTab Tryz.f116.ntmps w) l w1 M hB hM).w0 p (.int .i64 m :: o :: rest) := hP.agree hk
         have hB1 := exW_B hv i (q := q) (Nat.le_of_lt (List.getElem?_eq_some_iff.1 hq).1)
         have hB2 := exW_B hv i (q := q + 1) (List.getElem?_eq_some_iff.1 hq).1
         rw [foldl_take_some _ hq, exF_q] at hB2
         rw [foldl_take_some _ hq, exF_q]
         generalize hwq : ((pairsTo rs.length).take q).foldl (exF rs i) 1 = w2 at hB1 hB2
         have hru := hv.run hkn
         have hlt := hv.lt hjk hkn
         refine W.sreg ?_
         refine WO.p rfl rfl ?_
         refine WO.nil ?_
         refine W.region ?_
         refine WO.p rfl rfl ?_
         refine WO.nil ?_
         refine W.block ?_
         refine W.sreg ?_
         refine WO.load rfl rfl (Cell.own (Pick.tail (Pick.tail (Pick.head))) rfl) rfl (WO.p rfl rfl (WO.p rfl rfl (WO.p rfl rfl ?_)))
         refine WO.guard_bl rfl rfl (fun c2 => ?_) (fun c2 => ?_)
         · first
           | (exfalso; omega)
           | (refine WO.go' rfl (WO.load rfl rfl (Cell.own (Pick.tail (Pick.tail (Pick.head))) rfl) rfl (WO.pg rfl rfl rfl (WO.pg rfl rfl rfl (WO.p rfl rfl ?_))))
              refine WO.nil ?_
              refine W.cond_bl rfl (fun c3 => ?_) (fun c3 => ?_)
              · first
                | (exfalso; omega)
                | (rw [if_pos (by omega)] at hB2
                   unfold tm at hB2 hlt
                   refine W.drawD 22 [.b 0 [], .r 1 [], .b 2 [], .b 3 [], .r 4 [], .r 5 [], .r 6 [], .b 7 [], .r 8 [], .r 9 [], .r 10 [], .b 11 [], .b 12 [], .r 13 [], .r 14 [], .r 15 [], .b 16 [], .r 17 [], .r 18 [], .r 19 [], .b 20 [], .r 21 []] [] (A0 := []) (Sub.refl _) (by kernel_rfl) ?_ ?_
                   · exact (ALok.b (ALok.r (ALok.b (ALok.b (ALok.r (ALok.r (ALok.r (ALok.b (ALok.r (ALok.r (ALok.r (ALok.b (ALok.b (ALok.r (ALok.r (ALok.r (ALok.b (ALok.r (ALok.r (ALok.r (ALok.b (ALok.r ALok.nil))))))))))))))))))))))
                   refine' DT.b rfl rfl rfl ?hq ?_
                   case hq =>
                     refine WO.load rfl rfl (Cell.own (Pick.tail (Pick.tail (Pick.head))) rfl) rfl ?_
                     exact WO.nil ⟨rfl, rfl⟩
                   refine' DT.r rfl rfl rfl ?hq ?_
                   case hq =>
                     refine WO.indexArrL (i := i) (o' := 0 + i) rfl rfl rfl (by omega) (by omega) rfl ?_
                     exact WO.nil ⟨rfl, rfl⟩
                   refine' DT.b rfl rfl rfl ?hq ?_
                   case hq =>
                     refine' WO.load (v := _) rfl rfl ?hc rfl ?_
                     case hc => (first | (refine a5_cellS (t := 185) (fr := (0, 0)) (f := up (wTo (exW rs) i) i w2) ?_ ?_ (up_at _ _ _); (repeat (first | exact Sub.nil | refine Sub.cons (by repeat (first | exact Pick.head | apply Pick.tail)) ?_)); omega))
                     exact WO.nil ⟨rfl, rfl⟩
                   refine' DT.b rfl rfl rfl ?hq ?_
                   case hq =>
                     refine WO.load rfl rfl (Cell.own Pick.head rfl) rfl ?_
                     exact WO.nil ⟨rfl, rfl⟩
                   refine' DT.r rfl rfl rfl ?hq ?_
                   case hq =>
                     refine WO.p rfl rfl ?_
                     exact WO.nil ⟨rfl, rfl⟩
                   refine' DT.r rfl rfl rfl ?hq ?_
                   case hq =>
                     refine WO.field0 rfl rfl rfl ?_
                     exact WO.nil ⟨rfl, rfl⟩
                   refine' DT.r rfl rfl rfl ?hq ?_
                   case hq =>
                     refine WO.field rfl rfl rfl ?_
                     exact WO.nil ⟨rfl, rfl⟩
                   refine' DT.b rfl rfl rfl ?hq ?_
                   case hq =>
                     refine' WO.load (v := _) rfl rfl ?hc rfl ?_
                     case hc => (first | (refine hP.cellAt ?_; rfl) | (refine hP2.cellAt ?_; rfl) | (refine hR2.cell0 ?_ r0 ?_ <;> first | rfl | omega))
                     exact WO.nil ⟨rfl, rfl⟩
                   refine' DT.r rfl rfl rfl ?hq ?_
                   case hq =>
                     refine WO.p rfl rfl ?_
                     exact WO.nil ⟨rfl, rfl⟩
                   refine' DT.r rfl rfl rfl ?hq ?_
                   case hq =>
                     refine' WO.indexAddr (n := _) (i := _) rfl rfl rfl ?hs ?h1 rfl ?_
                     case hs => (first | exact hR.sl | exact hR2.sl)
                     case h1 => (first | omega | (simp; omega))
                     exact WO.nil ⟨rfl, rfl⟩
                   refine' DT.r rfl rfl rfl ?hq ?_
                   case hq =>
                     refine WO.field0 rfl rfl rfl ?_
                     exact WO.nil ⟨rfl, rfl⟩
                   refine' DT.b rfl rfl rfl ?hq ?_
                   case hq =>
                     refine' WO.load (v := _) rfl rfl ?hc rfl ?_
                     case hc => (first | (refine hP.cellAt ?_; rfl) | (refine hP2.cellAt ?_; rfl) | (refine hR2.cell0 ?_ r0 ?_ <;> first | rfl | omega))
                     exact WO.nil ⟨rfl, rfl⟩
                   refine' DT.b rfl rfl rfl ?hq ?_
                   case hq =>
                     refine WO.load rfl rfl (Cell.own Pick.head rfl) rfl ?_
                     exact WO.nil ⟨rfl, rfl⟩
                   refine' DT.r rfl rfl rfl ?hq ?_
                   case hq =>
                     refine WO.p rfl rfl ?_
                     exact WO.nil ⟨rfl, rfl⟩
                   refine' DT.r rfl rfl rfl ?hq ?_
                   case hq =>
                     refine WO.field0 rfl rfl rfl ?_
                     exact WO.nil ⟨rfl, rfl⟩
                   refine' DT.r rfl rfl rfl ?hq ?_
                   case hq =>
                     refine WO.field rfl rfl rfl ?_
                     exact WO.nil ⟨rfl, rfl⟩
                   refine' DT.b rfl rfl rfl ?hq ?_
                   case hq =>
                     refine' WO.load (v := _) rfl rfl ?hc rfl ?_
                     case hc => (first | (refine hP.cellAt ?_; rfl) | (refine hP2.cellAt ?_; rfl) | (refine hR2.cell0 ?_ r0 ?_ <;> first | rfl | omega))
                     exact WO.nil ⟨rfl, rfl⟩
                   refine' DT.r rfl rfl rfl ?hq ?_
                   case hq =>
                     refine WO.p rfl rfl ?_
                     exact WO.nil ⟨rfl, rfl⟩
                   refine' DT.r rfl rfl rfl ?hq ?_
                   case hq =>
                     refine' WO.indexAddr (n := _) (i := _) rfl rfl rfl ?hs ?h1 rfl ?_
                     case hs => (first | exact hR.sl | exact hR2.sl)
                     case h1 => (first | omega | (simp; omega))
                     exact WO.nil ⟨rfl, rfl⟩
                   refine' DT.r rfl rfl rfl ?hq ?_
                   case hq =>
                     refine WO.field0 rfl rfl rfl ?_
                     exact WO.nil ⟨rfl, rfl⟩
                   refine' DT.b rfl rfl rfl ?hq ?_
                   case hq =>
                     refine' WO.load (v := _) rfl rfl ?hc rfl ?_
                     case hc => (first | (refine hP.cellAt ?_; rfl) | (refine hP2.cellAt ?_; rfl) | (refine hR2.cell0 ?_ r0 ?_ <;> first | rfl | omega))
                     exact WO.nil ⟨rfl, rfl⟩
                   refine' DT.r rfl rfl rfl ?hq ?_
                   case hq =>
                     refine WO.ar rfl rfl rfl (by (first | (unfold in64; omega) | (unfold in64; omega))) rfl ?_
                     exact WO.nil ⟨rfl, rfl⟩
                   refine DT.nil [_, _, _, _] rfl ?_
                   refine WO.ar rfl rfl rfl (by (first | (unfold in64; omega) | (unfold in64; omega))) rfl ?_
                   refine WO.indexArrL (i := i) (o' := 0 + i) rfl rfl rfl (by omega) (by omega) rfl ?_
                   refine WO.store1 rfl rfl rfl rfl (by repeat (first | exact Pick.head | apply Pick.tail)) (a5_blt (by omega)) ?_
                   rw [a5_set (by omega), up_up]
                   refine WO.nil ?_
                   first | rw [if_pos (by omega)] | rw [if_neg (by omega)]
                   (repeat (first | exact Sub.nil | refine Sub.cons (by repeat (first | exact Pick.head | apply Pick.tail)) ?_)))
              · first
                | (exfalso; omega)
                | (refine W.skip ?_
                   first | rw [if_pos (by omega)] | rw [if_neg (by omega)]
                   (repeat (first | exact Sub.nil | refine Sub.cons (by repeat (first | exact Pick.head | apply Pick.tail)) ?_))))
         · first
           | (exfalso; omega)
           | (refine WO.no rfl rfl (WO.no rfl rfl (WO.no rfl rfl (WO.p rfl rfl ?_)))
              refine WO.nil ?_
              refine W.cond_f rfl ?_
              refine W.skip ?_
              first | rw [if_pos (by omega)] | rw [if_neg (by omega)]
              (repeat (first | exact Sub.nil | refine Sub.cons (by repeat (first | exact Pick.head | apply Pick.tail)) ?_)))
       rw [List.length_map, List.take_length, show (pairsTo rs.length).foldl (exF rs i) 1 = exW rs i from rfl, up_wTo]
       refine W.region ?_
       refine WO.ar rfl rfl rfl (by (first | (unfold in64; omega) | (unfold in64; omega))) rfl (WO.p rfl rfl ?_)
       refine WO.nil ?_
       refine' ⟨i + 1, ?hp, ?hmu, ⟨rfl, rfl, rfl, rfl, rfl, trivial⟩, ?hS⟩
       case hS => repeat (first | exact Sub.nil | refine Sub.cons (by repeat (first | exact Pick.head | apply Pick.tail)) ?_)
       case hp => omega
       case hmu => omega)
  · first
    | (exfalso; omega)
    | (refine W.exit (blk_same ?_)
       refine W.sreg ?_
       refine WO.loadA rfl rfl (Cells.own (Pick.tail (Pick.tail (Pick.head)))) rfl rfl (WO.storeA rfl rfl rfl rfl (Pick.tail (Pick.head)) rfl rfl ?_)
       refine WO.nil ?_
       refine W.ret ?_
       obtain rfl : i = rs.length := by omega
       exact fin.ret (Res.one rfl (RV.cell rfl rfl rfl (Cells.own Pick.head))) rfl)
end Go.Proofs.YtnehaifgcegemaaGreat.Tr
namespace Go.Proofs.YtnehaifgcegemaaGreat.Tr
open Go Go.TH
attribute [local irreducible] W WO pt
set_option maxRecDepth 10000
set_option maxHeartbeats 1000000
/-- how many ways there are to take i of n things -/
def pas : Nat → Nat → Int
  | 0, i => if i = 0 then 1 else 0
  | n + 1, i => pas n i + (if i = 0 then 0 else pas n (i - 1))
def midP (n i : Nat) : Nat → Int := fun j => if i < j then pas n j else pas (n - 1) j
theorem pas_in : ∀ n, n < 5 → ∀ i, i < 5 → 0 ≤ pas n i ∧ pas n i ≤ 6 := by decide
theorem pas_over : ∀ n, n < 5 → ∀ i, i < 5 → n < i → pas n i = 0 := by decide
theorem pas_first : ∀ n, n < 5 → pas n 0 = 1 := by decide
theorem pas_pos : ∀ n, n < 5 → ∀ i, i ≤ n → 1 ≤ pas n i := by decide
theorem midP_in {n i j : Nat} (hn : n < 5) (hj : j < 5) : 0 ≤ midP n i j ∧ midP n i j ≤ 6 := by
  unfold midP; split
  · exact pas_in n hn j hj
  · exact pas_in (n - 1) (by omega) j hj
theorem midP_start {n : Nat} (h1 : 1 ≤ n) (hn : n < 5) : a5 (pas (n - 1)) = a5 (midP n n) := a5_congr fun j hj => by
  unfold midP; split
  · rw [pas_over n hn j hj (by omega), pas_over (n - 1) (by omega) j hj (by omega)]
  · rfl
theorem midP_end {n : Nat} (hn : n < 5) : a5 (midP n 0) = a5 (pas n) := a5_congr fun j hj => by
  unfold midP; split
  · rfl
  · rw [show j = 0 by omega, pas_first n hn, pas_first (n - 1) (by omega)]
theorem midP_step {n i : Nat} (h1 : 1 ≤ n) (hi : 1 ≤ i) : a5 (up (midP n i) i (midP n i i + midP n i (i - 1))) = a5 (midP n (i - 1)) := a5_congr fun j hj => by
  unfold up
  by_cases e : j = i
  · subst e
    rw [if_pos rfl]
    unfold midP
    rw [if_neg (by omega), if_neg (by omega), if_pos (by omega)]
    obtain ⟨m, rfl⟩ : ∃ m, n = m + 1 := ⟨n - 1, by omega⟩
    rw [Nat.add_sub_cancel]
    show _ = pas m j + (if j = 0 then 0 else pas m (j - 1))
    rw [if_neg (by omega)]
  · rw [if_neg e]
    unfold midP
    by_cases h : i < j
    · rw [if_pos h, if_pos (by omega)]
    · rw [if_neg h, if_neg (by omega)]
theorem c_means (w : World) (p : Addr) (m : Int) (o : Value) (rest : List Value) (rs : List (Int × Int × Int)) (hP : RdC w.heap.size w p (.int .i64 m :: o :: rest)) (hR : RdF encR 3 w.heap.size w o rs) (hn : 1 ≤ rs.length ∧ rs.length ≤ 5) :
    Ret Tryz.prog 118 [.pointer (some p)].toArray w (.agg (a5 (pas (rs.length - 1))).toArray) := by
  refine Ret.of mixed tyTab Tryz.func118 rfl rfl ?_
  replace hR : RdF encR 3 (fnCx mixed tyTab Tryz.f118.ntmps w).B (fnCx mixed tyTab Tryz.f118.ntmps w).w0 o rs := hR
  replace hP : RdC (fnCx mixed tyTab Tryz.f118.ntmps w).B (fnCx mixed tyTab Tryz.f118.ntmps w).w0 p (.int .i64 m :: o :: rest) := hP
  refine W.sreg ?_
  refine WO.alloc rfl rfl rfl (fun b1 hb1 => ?_)
  refine WO.nil ?_
  refine W.sreg ?_
  refine' WO.build (cs := _) rfl rfl rfl ?hf rfl ?_
  case hf => (conv => lhs; simp [-List.getD_eq_getElem?_getD, fillL, vcl, wrl, TTab.pl?.lget']) <;> rfl
  refine WO.alloc rfl rfl rfl (fun b2 hb2 => ?_)
  refine WO.storeA rfl rfl rfl rfl Pick.head rfl rfl ?_
  refine WO.nil ?_
  refine W.seq ?_
  refine W.sreg ?_
  refine WO.p rfl rfl ?_
  refine WO.nil ?_
  refine W.block ?_
  refine W.loop (fun (n : Nat) => 1 ≤ n ∧ n ≤ rs.length)
    (fun (n : Nat) => [(4, .int .i64 (n : Int)), (3, .pointer (some ⟨b2, 0, none⟩)), (2, .pointer (some ⟨b1, 0, none⟩)), (0, .pointer (some p))])
    (fun (n : Nat) => [pt b1 (.cells #[.int .i64 0, .int .i64 0, .int .i64 0, .int .i64 0, .int .i64 0] 185 (0, 0)), pt b2 (.cells (a5 (pas (n - 1))).toArray 185 (0, 0))])
    (fun (n : Nat) => rs.length - n) 1
    (by omega) ⟨rfl, rfl, rfl, rfl, trivial⟩ (by repeat (first | exact Sub.nil | refine Sub.cons (by repeat (first | exact Pick.head | apply Pick.tail)) ?_)) ?_
  rintro n hn1
  refine W.seq ?_
  refine W.sreg ?_
  refine WO.p rfl rfl (WO.p rfl rfl (WO.p rfl rfl (WO.field0 rfl rfl rfl (WO.field rfl rfl rfl ?_))))
  refine' WO.load (v := _) rfl rfl ?hc rfl ?_
  case hc => (first | (refine hP.cellAt ?_; rfl))
  refine' WO.len (n := _) rfl rfl ?hs rfl ?_
  case hs => (first | exact hR.sl)
  refine WO.p rfl rfl ?_
  refine WO.nil ?_
  refine W.cond_bl rfl (fun c1 => ?_) (fun c1 => ?_)
  · first
    | (exfalso; omega)
    | (refine W.skip ?_
       refine W.seq ?_
       refine W.block ?_
       refine W.sreg ?_
       refine WO.p rfl rfl (WO.p rfl rfl ?_)
       refine WO.nil ?_
       refine W.block ?_
       rw [midP_start (n := n) (by omega) (by omega)]
       refine W.loop2 (fun (i : Nat) (z : Int) => i ≤ n ∧ z = (i : Int))
         (fun (i : Nat) (z : Int) => [(5, .int .i64 z), (4, .int .i64 (n : Int)), (3, .pointer (some ⟨b2, 0, none⟩)), (2, .pointer (some ⟨b1, 0, none⟩)), (0, .pointer (some p))])
         (fun (i : Nat) (z : Int) => [pt b1 (.cells #[.int .i64 0, .int .i64 0, .int .i64 0, .int .i64 0, .int .i64 0] 185 (0, 0)), pt b2 (.cells (a5 (midP n i)).toArray 185 (0, 0))])
         (fun (i : Nat) (z : Int) => i) n n
         (by omega) ⟨rfl, rfl, rfl, rfl, rfl, trivial⟩ (by repeat (first | exact Sub.nil | refine Sub.cons (by repeat (first | exact Pick.head | apply Pick.tail)) ?_)) ?_
       rintro i z hi1
       refine W.seq ?_
       refine W.sreg ?_
       refine WO.p rfl rfl (WO.p rfl rfl ?_)
       refine WO.nil ?_
       refine W.cond_bl rfl (fun c2 => ?_) (fun c2 => ?_)
       · first
         | (exfalso; omega)
         | (refine W.skip ?_
            refine W.seq ?_
            refine W.block ?_
            have hm1 := midP_in (n := n) (i := i) (j := i) (by omega) (by omega)
            have hm2 := midP_in (n := n) (i := i) (j := i - 1) (by omega) (by omega)
            refine W.drawD 7 [.r 0 [], .r 1 [], .b 2 [], .r 3 [], .r 4 [], .r 5 [], .b 6 []] [] (A0 := []) (Sub.refl _) (by kernel_rfl) ?_ ?_
            · exact (ALok.r (ALok.r (ALok.b (ALok.r (ALok.r (ALok.r (ALok.b ALok.nil)))))))
            refine' DT.r rfl rfl rfl ?hq ?_
            case hq =>
              refine WO.p rfl rfl ?_
              exact WO.nil ⟨rfl, rfl⟩
            refine' DT.r rfl rfl rfl ?hq ?_
            case hq =>
              refine WO.indexArrE (i := i) (o' := 0 + i) rfl rfl rfl (by omega) (by omega) (by omega) rfl ?_
              exact WO.nil ⟨rfl, rfl⟩
            refine' DT.b rfl rfl rfl ?hq ?_
            case hq =>
              refine' WO.load (v := _) rfl rfl ?hc rfl ?_
              case hc => (first | (refine a5_cellS (t := 185) (fr := (0, 0)) (f := midP n i) (i := i) (x := midP n i i) ?_ ?_ rfl; (repeat (first | exact Sub.nil | refine Sub.cons (by repeat (first | exact Pick.head | apply Pick.tail)) ?_)); omega))
              exact WO.nil ⟨rfl, rfl⟩
            refine' DT.r rfl rfl rfl ?hq ?_
            case hq =>
              refine WO.p rfl rfl ?_
              exact WO.nil ⟨rfl, rfl⟩
            refine' DT.r rfl rfl rfl ?hq ?_
            case hq =>
              refine WO.ar rfl rfl rfl (by (first | (unfold in64; omega) | (unfold in64; omega))) rfl ?_
              exact WO.nil ⟨rfl, rfl⟩
            refine' DT.r rfl rfl rfl ?hq ?_
            case hq =>
              refine WO.indexArrE (i := i - 1) (o' := 0 + (i - 1)) rfl rfl rfl (by omega) (by omega) (by omega) rfl ?_
              exact WO.nil ⟨rfl, rfl⟩
            refine' DT.b rfl rfl rfl ?hq ?_
            case hq =>
              refine' WO.load (v := _) rfl rfl ?hc rfl ?_
              case hc => (first | (refine a5_cellS (t := 185) (fr := (0, 0)) (f := midP n i) (i := i - 1) (x := midP n i (i - 1)) ?_ ?_ rfl; (repeat (first | exact Sub.nil | refine Sub.cons (by repeat (first | exact Pick.head | apply Pick.tail)) ?_)); omega))
              exact WO.nil ⟨rfl, rfl⟩
            refine DT.nil [_, _] rfl ?_
            refine WO.ar rfl rfl rfl (by (first | (unfold in64; omega) | (unfold in64; omega))) rfl ?_
            refine WO.indexArrE (i := i) (o' := 0 + i) rfl rfl rfl (by omega) (by omega) (by omega) rfl ?_
            refine WO.store1 rfl rfl rfl rfl (by repeat (first | exact Pick.head | apply Pick.tail)) (a5_blt (by omega)) ?_
            rw [a5_set (by omega), midP_step (n := n) (i := i) (by omega) (by omega)]
            refine WO.nil ?_
            refine W.region ?_
            refine WO.p rfl rfl (WO.ar rfl rfl rfl (by (first | (unfold in64; omega) | (unfold in64; omega))) rfl (WO.p rfl rfl ?_))
            refine WO.nil ?_
            refine' ⟨i - 1, _, ?hp, ?hmu, ⟨rfl, rfl, rfl, rfl, rfl, trivial⟩, ?hS⟩
            case hS => repeat (first | exact Sub.nil | refine Sub.cons (by repeat (first | exact Pick.head | apply Pick.tail)) ?_)
            case hp => omega
            case hmu => omega)
       · first
         | (exfalso; omega)
         | (refine W.exit (blk_same ?_)
            obtain rfl : i = 0 := by omega
            rw [midP_end (n := n) (by omega), show pas n = pas (n + 1 - 1) from rfl]
            refine W.region ?_
            refine WO.p rfl rfl (WO.ar rfl rfl rfl (by (first | (unfold in64; omega) | (unfold in64; omega))) rfl (WO.p rfl rfl ?_))
            refine WO.nil ?_
            refine' ⟨n + 1, ?hp, ?hmu, ⟨rfl, rfl, rfl, rfl, trivial⟩, ?hS⟩
            case hS => repeat (first | exact Sub.nil | refine Sub.cons (by repeat (first | exact Pick.head | apply Pick.tail)) ?_)
            case hp => omega
            case hmu => omega))
  · first
    | (exfalso; omega)
    | (refine W.exit (blk_same ?_)
       refine W.sreg ?_
       refine WO.loadA rfl rfl (Cells.own (Pick.tail (Pick.head))) rfl rfl (WO.storeA rfl rfl rfl rfl Pick.head rfl rfl ?_)
       refine WO.nil ?_
       refine W.ret ?_
       obtain rfl : n = rs.length := by omega
       exact fin.ret (Res.one rfl (RV.cell rfl rfl rfl (Cells.own Pick.head))) rfl)
/-- a number in proportion to the weight of a run -/
def raw (m : Int) (rs : List (Int × Int × Int)) (i : Nat) : Int := if m = 1 then 1 else if m = 2 then pas (rs.length - 1) i else exW rs i
end Go.Proofs.YtnehaifgcegemaaGreat.Tr
namespace Go.Proofs.YtnehaifgcegemaaGreat.Tr
open Go Go.TH
attribute [local irreducible] W WO pt
set_option maxRecDepth 10000
set_option maxHeartbeats 1000000
theorem gcd2_posL {a b : Int} (ha : 0 < a) (hb : 0 ≤ b) : 0 < gcd2 a b := by
  unfold gcd2
  have : 0 < Nat.gcd a.toNat b.toNat := Nat.gcd_pos_of_pos_left _ (by omega)
  omega
theorem gcdF_pos : ∀ (l : List Int) (d : Int), 0 < d → (∀ x ∈ l, 0 ≤ x) → 0 < l.foldl gcd2 d
  | [], _, h, _ => h
  | x :: l, d, h, hx => gcdF_pos l (gcd2 d x) (gcd2_posL h (hx x (by simp))) (fun y hy => hx y (by simp [hy]))
section
variable {m : Int} {rs : List (Int × Int × Int)}
theorem exW_all (hv : VT m rs) (i : Nat) : 1 ≤ exW rs i ∧ exW rs i ≤ 604661760000000000 := by
  have := exW_B hv i (q := (pairsTo rs.length).length) (Nat.le_refl _)
  rw [List.take_length] at this
  exact this
theorem raw_in (hv : VT m rs) {i : Nat} (hi : i < rs.length) : 1 ≤ raw m rs i ∧ raw m rs i ≤ 604661760000000000 := by
  have hn := hv.n
  unfold raw
  split
  · omega
  split
  · have h1 := pas_pos (rs.length - 1) (by omega) i (by omega)
    have h2 := pas_in (rs.length - 1) (by omega) i (by omega)
    omega
  · exact exW_all hv i
/-- the greatest common divisor of all of them -/
def gcdR (m : Int) (rs : List (Int × Int × Int)) : Int := gcdL ((List.range rs.length).map (raw m rs))
theorem raws_nn (hv : VT m rs) : ∀ x ∈ (List.range rs.length).map (raw m rs), 0 ≤ x := by
  intro x hx
  obtain ⟨i, hi, rfl⟩ := List.mem_map.1 hx
  have := raw_in hv (List.mem_range.1 hi)
  omega
theorem gcdR_pos (hv : VT m rs) : 0 < gcdR m rs := by
  have hn := hv.n
  have h0 := raw_in hv (i := 0) (by omega)
  have hnn := raws_nn hv
  unfold gcdR gcdL
  obtain ⟨k, hk⟩ : ∃ k, rs.length = k + 1 := ⟨rs.length - 1, by omega⟩
  rw [hk, List.range_succ_eq_map] at hnn ⊢
  simp only [List.map_cons, List.foldl]
  refine gcdF_pos _ _ (by rw [gcd2_0 (by omega)]; omega) (fun x hx => hnn x (by simp only [List.map_cons, List.mem_cons]; exact .inr hx))
/-- the weight of a run -/
def wts (m : Int) (rs : List (Int × Int × Int)) (i : Nat) : Int := (raw m rs i).tdiv (gcdR m rs)
theorem wts_in (hv : VT m rs) {i : Nat} (hi : i < rs.length) : 0 ≤ wts m rs i ∧ wts m rs i ≤ 604661760000000000 := by
  have h1 := raw_in hv hi
  have h2 := gcdR_pos hv
  unfold wts
  have h3 := Int.tdiv_nonneg (a := raw m rs i) (b := gcdR m rs) (by omega) (by omega)
  have h4 := Int.tdiv_le_self (a := raw m rs i) (gcdR m rs) (by omega)
  omega
/-- the sum of the first weights -/
def wsum (m : Int) (rs : List (Int × Int × Int)) : Nat → Int
  | 0 => 0
  | i + 1 => wsum m rs i + wts m rs i
theorem wsum_in (hv : VT m rs) : ∀ {i : Nat}, i ≤ rs.length → 0 ≤ wsum m rs i ∧ wsum m rs i ≤ 604661760000000000 * i
  | 0, _ => by simp [wsum]
  | i + 1, h => by
    have h1 := wsum_in hv (i := i) (by omega)
    have h2 := wts_in hv (i := i) (by omega)
    have e : wsum m rs (i + 1) = wsum m rs i + wts m rs i := rfl
    omega
/-- the weights while they are brought into least terms -/
def wMid (m : Int) (rs : List (Int × Int × Int)) (i : Nat) : Nat → Int := fun j => if j < rs.length then (if j < i then wts m rs j else raw m rs j) else 0
theorem wMid_0 : a5 (wTo (raw m rs) rs.length) = a5 (wMid m rs 0) := a5_congr fun j _ => by
  unfold wTo wMid
  split
  · rw [if_neg (by omega)]
  · rfl
theorem wMid_n : a5 (wMid m rs rs.length) = a5 (wTo (wts m rs) rs.length) := a5_congr fun j _ => by
  unfold wTo wMid
  split
  · rfl
  · rfl
theorem wMid_up {i : Nat} (hi : i < rs.length) : up (wMid m rs i) i (wts m rs i) = wMid m rs (i + 1) := by
  funext j
  unfold up wMid
  by_cases e : j = i
  · subst e; rw [if_pos rfl, if_pos hi, if_pos (by omega)]
  · rw [if_neg e]
    split
    · by_cases h : j < i
      · rw [if_pos h, if_pos (by omega)]
      · rw [if_neg h, if_neg (by omega)]
    · rfl
theorem wMid_at {i : Nat} (hi : i < rs.length) : wMid m rs i i = raw m rs i := by unfold wMid; rw [if_pos hi, if_neg (by omega)]
theorem wMid_at1 {i : Nat} (hi : i < rs.length) : wMid m rs (i + 1) i = wts m rs i := by unfold wMid; rw [if_pos hi, if_pos (by omega)]
end
theorem wMid_list {m : Int} {rs : List (Int × Int × Int)} : (List.range rs.length).map (wMid m rs 0) = (List.range rs.length).map (raw m rs) := by
  refine List.map_congr_left fun i hi => ?_
  have := List.mem_range.1 hi
  unfold wMid; rw [if_pos this, if_neg (by omega)]
/-- what lies in memory: a trial with its weights, and their sum -/
def sc (m : Int) (o : Value) (f : Nat → Int) (s : Int) : List Value := [.int .i64 m, o, .int .i64 (f 0), .int .i64 (f 1), .int .i64 (f 2), .int .i64 (f 3), .int .i64 (f 4), .int .i64 s]
theorem sc_set {m : Int} {o : Value} {f : Nat → Int} {s : Int} {i : Nat} {x : Int} (h : i < 5) : (sc m o f s).set (2 + i) (.int .i64 x) = sc m o (up f i x) s := by
  match i, h with
  | 0, _ => rfl
  | 1, _ => rfl
  | 2, _ => rfl
  | 3, _ => rfl
  | 4, _ => rfl
theorem sc_a5 {m : Int} {o : Value} {f g : Nat → Int} {s : Int} (h : a5 f = a5 g) : sc m o f s = sc m o g s := by
  unfold a5 at h
  simp only [List.cons.injEq, Value.int.injEq, true_and, and_true] at h
  unfold sc
  rw [h.1, h.2.1, h.2.2.1, h.2.2.2.1, h.2.2.2.2]
theorem sc_get {m : Int} {o : Value} {f : Nat → Int} {s : Int} {i : Nat} (h : i < 5) : lget (sc m o f s) (2 + i) = some (.int .i64 (f i)) := by
  match i, h with
  | 0, _ => rfl
  | 1, _ => rfl
  | 2, _ => rfl
  | 3, _ => rfl
  | 4, _ => rfl
theorem sc_blt {m : Int} {o : Value} {f : Nat → Int} {s : Int} {i : Nat} (h : i < 5) : Nat.blt (2 + i) (sc m o f s).length = true := by rw [Nat.blt_eq]; show 2 + i < 8; omega
theorem sc_cellS {P : Program} {C : Cx P} {H : List HP} {b i : Nat} {t : TypeId} {fr : Nat × Nat} {m : Int} {o : Value} {f : Nat → Int} {s x : Int} (h1 : Sub H [pt b (.cells (sc m o f s).toArray t fr)]) (h : i < 5) (e : f i = x) : Cell C H ⟨b, 2 + i, none⟩ (.int .i64 x) := by
  subst e
  cases h1 with
  | cons p _ => exact Cell.own p (sc_get h)
theorem sc_rd {P : Program} {C : Cx P} {H H' L : List HP} {b n : Nat} {t : TypeId} {fr : Nat × Nat} {m : Int} {o : Value} {f : Nat → Int} {s : Int} {w : World} (p : Pick (pt b (.cells (sc m o f s).toArray t fr)) H H') (hi : Inv C.w0 C.M (L ++ H) w) (hn : n ≤ 5) : RdF encI 1 w.heap.size w (.slice (some ⟨b, 2, none⟩) n 5) ((List.range n).map f) := by
  refine RdF.of_pt (fun a => ⟨_, rfl⟩) p hi (by simp) (by omega) fun i x hx => ⟨_, rfl, ?_⟩
  rw [List.getElem?_map] at hx
  cases h : (List.range n)[i]? with
  | none => rw [h] at hx; cases hx
  | some j =>
    rw [h] at hx
    obtain ⟨hlt, hj⟩ := List.getElem?_eq_some_iff.1 h
    rw [List.getElem_range] at hj
    rw [List.length_range] at hlt
    subst hj
    simp at hx
    subst hx
    exact sc_get (by omega)
/-- the function of a manner -/
def manF (m : Int) : Nat := if m = 0 then 116 else if m = 1 then 117 else 118
theorem manF_call {m : Int} : ∀ (args : Array Value) (w : World), (callFunc (manF m) args).run Tryz.prog w = .ok (.enter (manF m) args) w := by
  unfold manF
  split
  · exact Tryz.call116
  split
  · exact Tryz.call117
  · exact Tryz.call118
theorem c_man (w : World) (p : Addr) (m : Int) (o : Value) (rest : List Value) (rs : List (Int × Int × Int)) (hP : RdC w.heap.size w p (.int .i64 m :: o :: rest)) (hR : RdF encR 3 w.heap.size w o rs) (hv : VT m rs) :
    Ret Tryz.prog (manF m) [.pointer (some p)].toArray w (.agg (a5 (wMid m rs 0)).toArray) := by
  have hn := hv.n
  have hm := hv.m
  rw [← wMid_0]
  unfold manF
  split
  · rename_i h0
    have := c_exact w p m o rest rs hP hR hv
    rw [show a5 (wTo (exW rs) rs.length) = a5 (wTo (raw m rs) rs.length) from a5_congr fun j _ => by
      have e : raw m rs j = exW rs j := by unfold raw; rw [if_neg (by omega), if_neg (by omega)]
      unfold wTo; rw [e]] at this
    exact this
  split
  · rename_i h0 h1
    have := c_plain w p m o rest rs hP hR hn.2
    rw [show a5 (wTo (fun _ => 1) rs.length) = a5 (wTo (raw m rs) rs.length) from a5_congr fun j _ => by
      have e : raw m rs j = 1 := by unfold raw; rw [if_pos h1]
      unfold wTo; rw [e]] at this
    exact this
  · rename_i h0 h1
    have := c_means w p m o rest rs hP hR ⟨by omega, hn.2⟩
    rw [show a5 (pas (rs.length - 1)) = a5 (wTo (raw m rs) rs.length) from a5_congr fun j hj => by
      have e : raw m rs j = pas (rs.length - 1) j := by unfold raw; rw [if_neg h1, if_pos (by omega)]
      unfold wTo; rw [e]
      split
      · rfl
      · exact pas_over (rs.length - 1) (by omega) j hj (by omega)] at this
    exact this
theorem man_find {m : Int} (hm : 0 ≤ m ∧ m ≤ 2) {es : Array MapEntry} (h : es.toList = [⟨.int .i64 0, .func (.func 116) #[] #[], 0⟩, ⟨.int .i64 1, .func (.func 117) #[] #[], 1⟩, ⟨.int .i64 2, .func (.func 118) #[] #[], 2⟩]) :
    Instr.findNow (.int .i64) (.int .i64 m) es.toList 0 = some (some (m.toNat, .func (.func (manF m)) (([] : List Value).toArray) (([] : List Value).toArray))) := by
  rw [h]
  obtain rfl | rfl | rfl : m = 0 ∨ m = 1 ∨ m = 2 := by omega
  · rfl
  · rfl
  · rfl
theorem c_newScales (w : World) (m : Int) (o : Value) (rs : List (Int × Int × Int)) (hR : RdF encR 3 w.heap.size w o rs) :
    Ct Tryz.prog 44 [.agg #[.int .i64 m, o]].toArray w fun v w' => ∃ Hq, (∃ pv, v = .tuple #[pv, .int .i64 (chkT m rs)] ∧ Hq = [PtrP pv (chkT m rs) (sc m o (wTo (wts m rs) rs.length) (wsum m rs rs.length)) 187]) ∧ Inv w [] Hq w' := by
  refine Ct.ofI mixed tyTab Tryz.func44 rfl rfl ?_
  replace hR : RdF encR 3 (fnCx mixed tyTab Tryz.f44.ntmps w).B (fnCx mixed tyTab Tryz.f44.ntmps w).w0 o rs := hR
  have ho := hR.sl.oc
  obtain ⟨_, oa, oc, hoe, _⟩ := hR.sl
  subst hoe
  refine W.sreg ?_
  refine WO.boxA rfl rfl (fun b1 hb1 => ?_)
  refine WO.p rfl rfl (WO.p rfl rfl ?_)
  refine WO.nil ?_
  refine W.seq ?_
  refine W.sreg ?_
  refine WO.loadA rfl rfl (Cells.own Pick.head) rfl rfl ?_
  refine WO.callR (r := .int .i64 (chkT m rs)) rfl Tryz.call115 (fun L w hi => c_CheckTest w m _ rs (hR.later hi)) rfl ?_
  refine WO.p rfl rfl ?_
  refine WO.nil ?_
  refine W.sreg ?_
  refine WO.p rfl rfl (WO.p rfl rfl ?_)
  refine WO.nil ?_
  refine W.cond_bl rfl (fun c1 => ?_) (fun c1 => ?_)
  · first
    | (exfalso; omega)
    | (refine W.sreg ?_
       refine WO.p rfl rfl (WO.p rfl rfl (WO.p rfl rfl ?_))
       refine WO.nil ?_
       refine W.ret ?_
       refine fin.ret (Res.two rfl (RV.tmp rfl) (RV.tmp rfl)) ?_
       first | exact ⟨_, rfl, fun h hs => Sub.sat (.cons .head .nil) (PtrP.no (by assumption) h hs)⟩ | exact ⟨_, by rw [hv.to], fun h hs => Sub.sat (.cons .head .nil) (PtrP.yes .head h hs)⟩)
  · first
    | (exfalso; omega)
    | (refine W.skip ?_
       have hv : VT m rs := VT.of (by omega)
       have hn := hv.n
       have hm := hv.m
       have hgp := gcdR_pos hv
       refine W.sreg ?_
       refine WO.loadA rfl rfl (Cells.own Pick.head) rfl rfl ?_
       refine' WO.build (cs := _) rfl rfl rfl ?hf rfl ?_
       case hf => (conv => lhs; simp [-List.getD_eq_getElem?_getD, fillL, vcl, wrl, TTab.pl?.lget']) <;> rfl
       refine WO.boxA rfl rfl (fun b2 hb2 => ?_)
       refine WO.p rfl rfl ?_
       refine WO.nil ?_
       refine W.sreg ?_
       refine WO.makeMap rfl (fun b3 => ?_)
       refine WO.insertI Tryz.underlying190 Tryz.underlying3 rfl rfl rfl (by repeat (first | exact Pick.head | apply Pick.tail)) rfl ?_
       refine WO.insertI Tryz.underlying190 Tryz.underlying3 rfl rfl rfl (by repeat (first | exact Pick.head | apply Pick.tail)) rfl ?_
       refine WO.insertI Tryz.underlying190 Tryz.underlying3 rfl rfl rfl (by repeat (first | exact Pick.head | apply Pick.tail)) rfl ?_
       refine WO.p rfl rfl (WO.p rfl rfl ?_)
       refine WO.nil ?_
       refine W.sreg ?_
       refine WO.p rfl rfl (WO.p rfl rfl (WO.field0 rfl rfl rfl (WO.load rfl rfl (Cell.own (Pick.tail (Pick.tail (Pick.head))) rfl) rfl ?_)))
       refine WO.lookupI Tryz.underlying190 Tryz.underlying3 rfl rfl (by repeat (first | exact Pick.head | apply Pick.tail)) (man_find hm rfl) rfl ?_
       refine WO.p rfl rfl ?_
       refine WO.callCR (first := []) (captured := []) rfl rfl manF_call (fun L w hi => c_man w ⟨b2, 0, none⟩ m _ _ rs (RdC.own (b := b2) (by repeat (first | exact Pick.head | apply Pick.tail)) hi) (hR.later hi) hv) rfl ?_
       refine WO.p rfl rfl (WO.fieldL rfl rfl rfl (WO.storeP rfl rfl rfl rfl (Pick.tail (Pick.head)) (Nat.le_of_ble_eq_true rfl) rfl ?_))
       refine WO.nil ?_
       refine W.seq ?_
       refine W.drawD 6 [.r 0 [], .r 1 [], .r 2 [], .r 3 [], .b 4 [], .r 5 []] [] (A0 := []) (Sub.refl _) (by kernel_rfl) ?_ ?_
       · exact (ALok.r (ALok.r (ALok.r (ALok.r (ALok.b (ALok.r ALok.nil))))))
       refine' DT.r rfl rfl rfl ?hq ?_
       case hq =>
         refine WO.p rfl rfl ?_
         exact WO.nil ⟨rfl, rfl⟩
       refine' DT.r rfl rfl rfl ?hq ?_
       case hq =>
         refine WO.p rfl rfl ?_
         exact WO.nil ⟨rfl, rfl⟩
       refine' DT.r rfl rfl rfl ?hq ?_
       case hq =>
         refine WO.fieldL rfl rfl rfl ?_
         exact WO.nil ⟨rfl, rfl⟩
       refine' DT.r rfl rfl rfl ?hq ?_
       case hq =>
         refine WO.fieldL rfl rfl rfl ?_
         exact WO.nil ⟨rfl, rfl⟩
       refine' DT.b rfl rfl rfl ?hq ?_
       case hq =>
         refine WO.load rfl rfl (Cell.own (Pick.tail (Pick.tail (Pick.head))) rfl) rfl ?_
         exact WO.nil ⟨rfl, rfl⟩
       refine' DT.r rfl rfl rfl ?hq ?_
       case hq =>
         refine' WO.len (n := _) rfl rfl ?hs rfl ?_
         case hs => (first | exact hR.sl)
         exact WO.nil ⟨rfl, rfl⟩
       refine DT.nil [_, _, _] rfl ?_
       refine WO.sliceArrH rfl rfl rfl (by omega) rfl ?_
       refine WO.callR (r := .int .i64 (gcdR m rs)) rfl Tryz.call119 (fun L w hi => by have h := c_divisor w _ ((List.range rs.length).map (wMid m rs 0)) (sc_rd (b := b2) (t := 187) (fr := (0, 0)) (m := m) (o := .slice oa rs.length oc) (f := wMid m rs 0) (s := 0) (by repeat (first | exact Pick.head | apply Pick.tail)) hi hn.2) (by rw [wMid_list]; exact raws_nn hv); rw [wMid_list] at h; exact h) rfl ?_
       refine WO.p rfl rfl ?_
       refine WO.nil ?_
       refine W.seq ?_
       refine W.sreg ?_
       refine WO.fieldL rfl rfl rfl (WO.load rfl rfl (Cell.own (Pick.tail (Pick.tail (Pick.head))) rfl) rfl ?_)
       refine' WO.len (n := _) rfl rfl ?hs rfl ?_
       case hs => (first | exact hR.sl)
       refine WO.p rfl rfl ?_
       refine WO.nil ?_
       refine W.block ?_
       refine W.loop (fun (i : Nat) => i ≤ rs.length)
         (fun (i : Nat) => [(39, .int .i64 (i : Int)), (38, .int .i64 (rs.length : Int)), (7, .int .i64 (gcdR m rs)), (5, .pointer (some ⟨b2, 0, none⟩))])
         (fun (i : Nat) => [pt b2 (.cells (sc m (.slice oa rs.length oc) (wMid m rs i) (wsum m rs i)).toArray 187 (0, 0))])
         (fun (i : Nat) => rs.length - i) 0
         (by omega) ⟨rfl, rfl, rfl, rfl, trivial⟩ (by repeat (first | exact Sub.nil | refine Sub.cons (by repeat (first | exact Pick.head | apply Pick.tail)) ?_)) ?_
       rintro i hi
       refine W.sreg ?_
       refine WO.p rfl rfl ?_
       refine WO.nil ?_
       refine W.seq ?_
       refine W.cond_bl rfl (fun c2 => ?_) (fun c2 => ?_)
       · first
         | (exfalso; omega)
         | (refine W.skip ?_
            refine W.seq ?_
            refine W.block ?_
            refine W.sreg ?_
            refine WO.p rfl rfl (WO.p rfl rfl ?_)
            refine WO.nil ?_
            refine W.seq ?_
            have hwi := wts_in hv (i := i) (by omega)
            have hsi := wsum_in hv (i := i) (by omega)
            refine W.drawD 10 [.r 0 [], .r 1 [], .r 2 [], .r 3 [], .r 4 [], .b 5 [], .r 6 [], .r 7 [], .r 8 [], .r 9 []] [] (A0 := []) (Sub.refl _) (by kernel_rfl) ?_ ?_
            · exact (ALok.r (ALok.r (ALok.r (ALok.r (ALok.r (ALok.b (ALok.r (ALok.r (ALok.r (ALok.r ALok.nil))))))))))
            refine' DT.r rfl rfl rfl ?hq ?_
            case hq =>
              refine WO.p rfl rfl ?_
              exact WO.nil ⟨rfl, rfl⟩
            refine' DT.r rfl rfl rfl ?hq ?_
            case hq =>
              refine WO.p rfl rfl ?_
              exact WO.nil ⟨rfl, rfl⟩
            refine' DT.r rfl rfl rfl ?hq ?_
            case hq =>
              refine WO.p rfl rfl ?_
              exact WO.nil ⟨rfl, rfl⟩
            refine' DT.r rfl rfl rfl ?hq ?_
            case hq =>
              refine WO.fieldL rfl rfl rfl ?_
              exact WO.nil ⟨rfl, rfl⟩
            refine' DT.r rfl rfl rfl ?hq ?_
            case hq =>
              refine WO.indexArrL (i := i) (o' := 2 + i) rfl rfl rfl (by omega) (by omega) rfl ?_
              exact WO.nil ⟨rfl, rfl⟩
            refine' DT.b rfl rfl rfl ?hq ?_
            case hq =>
              refine' WO.load (v := _) rfl rfl ?hc rfl ?_
              case hc => (first | (refine sc_cellS (t := 187) (fr := (0, 0)) (m := m) (o := .slice oa rs.length oc) (f := wMid m rs i) (s := wsum m rs i) ?_ ?_ (wMid_at (by omega)); (repeat (first | exact Sub.nil | refine Sub.cons (by repeat (first | exact Pick.head | apply Pick.tail)) ?_)); omega))
              exact WO.nil ⟨rfl, rfl⟩
            refine' DT.r rfl rfl rfl ?hq ?_
            case hq =>
              refine WO.p rfl rfl ?_
              exact WO.nil ⟨rfl, rfl⟩
            refine' DT.r rfl rfl rfl ?hq ?_
            case hq =>
              refine WO.quo rfl rfl (by first | omega | assumption) (by (first | (unfold wts at hwi; unfold in64; omega))) rfl ?_
              exact WO.nil ⟨rfl, rfl⟩
            refine' DT.r rfl rfl rfl ?hq ?_
            case hq =>
              refine WO.p rfl rfl ?_
              exact WO.nil ⟨rfl, rfl⟩
            refine' DT.r rfl rfl rfl ?hq ?_
            case hq =>
              refine WO.fieldL rfl rfl rfl ?_
              exact WO.nil ⟨rfl, rfl⟩
            refine DT.nil [_] rfl ?_
            refine WO.indexArrL (i := i) (o' := 2 + i) rfl rfl rfl (by omega) (by omega) rfl ?_
            refine WO.store1 rfl rfl rfl rfl (by repeat (first | exact Pick.head | apply Pick.tail)) (sc_blt (by omega)) ?_
            rw [sc_set (by omega), show (raw m rs i).tdiv (gcdR m rs) = wts m rs i from rfl, wMid_up (by omega)]
            refine WO.nil ?_
            refine W.drawD 10 [.r 0 [], .r 1 [], .r 2 [], .b 3 [], .r 4 [], .r 5 [], .r 6 [], .r 7 [], .r 8 [], .b 9 []] [] (A0 := []) (Sub.refl _) (by kernel_rfl) ?_ ?_
            · exact (ALok.r (ALok.r (ALok.r (ALok.b (ALok.r (ALok.r (ALok.r (ALok.r (ALok.r (ALok.b ALok.nil))))))))))
            refine' DT.r rfl rfl rfl ?hq ?_
            case hq =>
              refine WO.p rfl rfl ?_
              exact WO.nil ⟨rfl, rfl⟩
            refine' DT.r rfl rfl rfl ?hq ?_
            case hq =>
              refine WO.p rfl rfl ?_
              exact WO.nil ⟨rfl, rfl⟩
            refine' DT.r rfl rfl rfl ?hq ?_
            case hq =>
              refine WO.fieldL rfl rfl rfl ?_
              exact WO.nil ⟨rfl, rfl⟩
            refine' DT.b rfl rfl rfl ?hq ?_
            case hq =>
              refine WO.load rfl rfl (Cell.own Pick.head rfl) rfl ?_
              exact WO.nil ⟨rfl, rfl⟩
            refine' DT.r rfl rfl rfl ?hq ?_
            case hq =>
              refine WO.p rfl rfl ?_
              exact WO.nil ⟨rfl, rfl⟩
            refine' DT.r rfl rfl rfl ?hq ?_
            case hq =>
              refine WO.p rfl rfl ?_
              exact WO.nil ⟨rfl, rfl⟩
            refine' DT.r rfl rfl rfl ?hq ?_
            case hq =>
              refine WO.p rfl rfl ?_
              exact WO.nil ⟨rfl, rfl⟩
            refine' DT.r rfl rfl rfl ?hq ?_
            case hq =>
              refine WO.fieldL rfl rfl rfl ?_
              exact WO.nil ⟨rfl, rfl⟩
            refine' DT.r rfl rfl rfl ?hq ?_
            case hq =>
              refine WO.indexArrL (i := i) (o' := 2 + i) rfl rfl rfl (by omega) (by omega) rfl ?_
              exact WO.nil ⟨rfl, rfl⟩
            refine' DT.b rfl rfl rfl ?hq ?_
            case hq =>
              refine' WO.load (v := _) rfl rfl ?hc rfl ?_
              case hc => (first | (refine sc_cellS (t := 187) (fr := (0, 0)) (m := m) (o := .slice oa rs.length oc) (f := wMid m rs (i + 1)) (s := wsum m rs i) ?_ ?_ (wMid_at1 (by omega)); (repeat (first | exact Sub.nil | refine Sub.cons (by repeat (first | exact Pick.head | apply Pick.tail)) ?_)); omega))
              exact WO.nil ⟨rfl, rfl⟩
            refine DT.nil [_] rfl ?_
            refine WO.ar rfl rfl rfl (by (first | (unfold in64; omega) | (unfold in64; omega))) rfl (WO.p rfl rfl (WO.fieldL rfl rfl rfl (WO.store1 rfl rfl rfl (by first | rfl | assumption) Pick.head rfl ?_)))
            refine WO.nil ?_
            refine W.region ?_
            refine WO.ar rfl rfl rfl (by (first | (unfold in64; omega) | (unfold in64; omega))) rfl (WO.p rfl rfl ?_)
            refine WO.nil ?_
            refine' ⟨i + 1, ?hp, ?hmu, ⟨rfl, rfl, rfl, rfl, trivial⟩, ?hS⟩
            case hS => repeat (first | exact Sub.nil | refine Sub.cons (by repeat (first | exact Pick.head | apply Pick.tail)) ?_)
            case hp => omega
            case hmu => omega)
       · first
         | (exfalso; omega)
         | (refine W.exit (blk_same ?_)
            obtain rfl : i = rs.length := by omega
            rw [sc_a5 wMid_n]
            refine W.sreg ?_
            refine WO.p rfl rfl (WO.p rfl rfl (WO.p rfl rfl ?_))
            refine WO.nil ?_
            refine W.ret ?_
            refine fin.ret (Res.two rfl (RV.tmp rfl) (RV.tmp rfl)) ?_
            first | exact ⟨_, rfl, fun h hs => Sub.sat (.cons .head .nil) (PtrP.no (by assumption) h hs)⟩ | exact ⟨_, by rw [hv.to], fun h hs => Sub.sat (.cons .head .nil) (PtrP.yes .head h hs)⟩))
end Go.Proofs.YtnehaifgcegemaaGreat.Tr
namespace Go.Proofs.YtnehaifgcegemaaGreat.Tr
open Go Go.TH
set_option maxRecDepth 10000
theorem sq (x z : Int) : 4*(x*z) ≤ (x+z)*(x+z) := by
  have : 0 ≤ (x-z)*(x-z) := by
    rcases Int.le_total 0 (x-z) with h | h
    · exact Int.mul_nonneg h h
    · have := Int.mul_nonneg (a := -(x-z)) (b := -(x-z)) (by omega) (by omega)
      rwa [Int.neg_mul_neg] at this
  grind
theorem xyz {x y z : Int} (hx : 1 ≤ x) (hy : 1 ≤ y) (hz : 1 ≤ z) (h : x + y + z ≤ 60) : y * (x * z) ≤ 8000 := by
  have h1 := sq x z
  have h2 : (x+z)*(x+z) ≤ (60-y)*(60-y) := Int.mul_le_mul (by omega) (by omega) (by omega) (by omega)
  have h3 : y * (4*(x*z)) ≤ y * ((60-y)*(60-y)) := Int.mul_le_mul_of_nonneg_left (by omega) (by omega)
  have h4 : ∀ n : Nat, n < 60 → ((n:Int) * ((60-(n:Int))*(60-(n:Int)))) ≤ 32000 := by decide
  have h5 := h4 y.toNat (by omega)
  rw [show (y.toNat : Int) = y by omega] at h5
  have h6 : y * (4*(x*z)) = 4 * (y*(x*z)) := by rw [Int.mul_left_comm]
  omega
theorem V4 {a b c d : Int} (h1 : 1 ≤ b - a) (h2 : 1 ≤ c - b) (h3 : 1 ≤ d - c) (h : d - a ≤ 60) : 1*(b-a)*(c-a)*(c-b)*(d-a)*(d-b)*(d-c) ≤ 1670880000 := by
  obtain ⟨x, hx⟩ : ∃ x, x = b - a := ⟨_, rfl⟩
  obtain ⟨y, hy⟩ : ∃ x, x = c - b := ⟨_, rfl⟩
  obtain ⟨z, hz⟩ : ∃ x, x = d - c := ⟨_, rfl⟩
  have e : 1*(b-a)*(c-a)*(c-b)*(d-a)*(d-b)*(d-c) = (y*(x*z)) * (((x+y)*(y+z)) * (x+y+z)) := by
    subst hx hy hz; grind
  rw [e]
  have k1 := xyz (x := x) (y := y) (z := z) (by omega) (by omega) (by omega) (by omega)
  have k2 := sq (x+y) (y+z)
  have k3 : (x+y+(y+z))*(x+y+(y+z)) ≤ 118 * 118 := Int.mul_le_mul (by omega) (by omega) (by omega) (by omega)
  have k4 : (x+y)*(y+z) ≤ 3481 := by omega
  have n0 : 0 ≤ (x+y)*(y+z) := Int.mul_nonneg (by omega) (by omega)
  have k5 : ((x+y)*(y+z)) * (x+y+z) ≤ 3481 * 60 := Int.mul_le_mul k4 (by omega) (by omega) (by omega)
  have n1 : 0 ≤ ((x+y)*(y+z)) * (x+y+z) := Int.mul_nonneg n0 (by omega)
  exact Int.mul_le_mul k1 k5 n1 (by omega)
theorem V3 {a b c : Int} (h1 : 1 ≤ b - a) (h2 : 1 ≤ c - b) (h : c - a ≤ 60) : 1*(b-a)*(c-a)*(c-b) ≤ 1670880000 := by
  have k1 : (b - a) * (c - a) ≤ 60 * 60 := Int.mul_le_mul (by omega) (by omega) (by omega) (by omega)
  have k0 : 0 ≤ (b - a) * (c - a) := Int.mul_nonneg (by omega) (by omega)
  have k2 : (b - a) * (c - a) * (c - b) ≤ 3600 * 60 := Int.mul_le_mul k1 (by omega) (by omega) (by omega)
  rw [Int.one_mul]
  omega
section
variable {m : Int} {rs : List (Int × Int × Int)}
theorem ex20 (h : rs.length = 2) : exW rs 0 = 1 := by unfold exW; rw [h]; rfl
theorem ex21 (h : rs.length = 2) : exW rs 1 = 1 := by unfold exW; rw [h]; rfl
theorem ex30 (h : rs.length = 3) : exW rs 0 = 1 * (tm rs 2 - tm rs 1) := by unfold exW; rw [h]; rfl
theorem ex31 (h : rs.length = 3) : exW rs 1 = 1 * (tm rs 2 - tm rs 0) := by unfold exW; rw [h]; rfl
theorem ex32 (h : rs.length = 3) : exW rs 2 = 1 * (tm rs 1 - tm rs 0) := by unfold exW; rw [h]; rfl
theorem ex40 (h : rs.length = 4) : exW rs 0 = 1 * (tm rs 2 - tm rs 1) * (tm rs 3 - tm rs 1) * (tm rs 3 - tm rs 2) := by unfold exW; rw [h]; rfl
theorem ex41 (h : rs.length = 4) : exW rs 1 = 1 * (tm rs 2 - tm rs 0) * (tm rs 3 - tm rs 0) * (tm rs 3 - tm rs 2) := by unfold exW; rw [h]; rfl
theorem ex42 (h : rs.length = 4) : exW rs 2 = 1 * (tm rs 1 - tm rs 0) * (tm rs 3 - tm rs 0) * (tm rs 3 - tm rs 1) := by unfold exW; rw [h]; rfl
theorem ex43 (h : rs.length = 4) : exW rs 3 = 1 * (tm rs 1 - tm rs 0) * (tm rs 2 - tm rs 0) * (tm rs 2 - tm rs 1) := by unfold exW; rw [h]; rfl
theorem ex50 (h : rs.length = 5) : exW rs 0 = 1 * (tm rs 2 - tm rs 1) * (tm rs 3 - tm rs 1) * (tm rs 3 - tm rs 2) * (tm rs 4 - tm rs 1) * (tm rs 4 - tm rs 2) * (tm rs 4 - tm rs 3) := by unfold exW; rw [h]; rfl
theorem ex51 (h : rs.length = 5) : exW rs 1 = 1 * (tm rs 2 - tm rs 0) * (tm rs 3 - tm rs 0) * (tm rs 3 - tm rs 2) * (tm rs 4 - tm rs 0) * (tm rs 4 - tm rs 2) * (tm rs 4 - tm rs 3) := by unfold exW; rw [h]; rfl
theorem ex52 (h : rs.length = 5) : exW rs 2 = 1 * (tm rs 1 - tm rs 0) * (tm rs 3 - tm rs 0) * (tm rs 3 - tm rs 1) * (tm rs 4 - tm rs 0) * (tm rs 4 - tm rs 1) * (tm rs 4 - tm rs 3) := by unfold exW; rw [h]; rfl
theorem ex53 (h : rs.length = 5) : exW rs 3 = 1 * (tm rs 1 - tm rs 0) * (tm rs 2 - tm rs 0) * (tm rs 2 - tm rs 1) * (tm rs 4 - tm rs 0) * (tm rs 4 - tm rs 1) * (tm rs 4 - tm rs 2) := by unfold exW; rw [h]; rfl
theorem ex54 (h : rs.length = 5) : exW rs 4 = 1 * (tm rs 1 - tm rs 0) * (tm rs 2 - tm rs 0) * (tm rs 2 - tm rs 1) * (tm rs 3 - tm rs 0) * (tm rs 3 - tm rs 1) * (tm rs 3 - tm rs 2) := by unfold exW; rw [h]; rfl
theorem exW_lt (hv : VT m rs) {i : Nat} (hi : i < rs.length) : exW rs i ≤ 1670880000 := by
  have hn := hv.n
  have hl := fun j k (hjk : j < k) (hk : k < rs.length) => hv.lt hjk hk
  obtain h | h | h | h : rs.length = 2 ∨ rs.length = 3 ∨ rs.length = 4 ∨ rs.length = 5 := by omega
  · obtain rfl | rfl : i = 0 ∨ i = 1 := by omega
    · rw [ex20 h]; omega
    · rw [ex21 h]; omega
  · obtain rfl | rfl | rfl : i = 0 ∨ i = 1 ∨ i = 2 := by omega
    · rw [ex30 h]; have := hl 1 2 (by omega) (by omega); omega
    · rw [ex31 h]; have := hl 0 2 (by omega) (by omega); omega
    · rw [ex32 h]; have := hl 0 1 (by omega) (by omega); omega
  · obtain rfl | rfl | rfl | rfl : i = 0 ∨ i = 1 ∨ i = 2 ∨ i = 3 := by omega
    · rw [ex40 h]; exact V3 (hl 1 2 (by omega) (by omega)).1 (hl 2 3 (by omega) (by omega)).1 (hl 1 3 (by omega) (by omega)).2
    · rw [ex41 h]; exact V3 (hl 0 2 (by omega) (by omega)).1 (hl 2 3 (by omega) (by omega)).1 (hl 0 3 (by omega) (by omega)).2
    · rw [ex42 h]; exact V3 (hl 0 1 (by omega) (by omega)).1 (hl 1 3 (by omega) (by omega)).1 (hl 0 3 (by omega) (by omega)).2
    · rw [ex43 h]; exact V3 (hl 0 1 (by omega) (by omega)).1 (hl 1 2 (by omega) (by omega)).1 (hl 0 2 (by omega) (by omega)).2
  · obtain rfl | rfl | rfl | rfl | rfl : i = 0 ∨ i = 1 ∨ i = 2 ∨ i = 3 ∨ i = 4 := by omega
    · rw [ex50 h]; exact V4 (hl 1 2 (by omega) (by omega)).1 (hl 2 3 (by omega) (by omega)).1 (hl 3 4 (by omega) (by omega)).1 (hl 1 4 (by omega) (by omega)).2
    · rw [ex51 h]; exact V4 (hl 0 2 (by omega) (by omega)).1 (hl 2 3 (by omega) (by omega)).1 (hl 3 4 (by omega) (by omega)).1 (hl 0 4 (by omega) (by omega)).2
    · rw [ex52 h]; exact V4 (hl 0 1 (by omega) (by omega)).1 (hl 1 3 (by omega) (by omega)).1 (hl 3 4 (by omega) (by omega)).1 (hl 0 4 (by omega) (by omega)).2
    · rw [ex53 h]; exact V4 (hl 0 1 (by omega) (by omega)).1 (hl 1 2 (by omega) (by omega)).1 (hl 2 4 (by omega) (by omega)).1 (hl 0 4 (by omega) (by omega)).2
    · rw [ex54 h]; exact V4 (hl 0 1 (by omega) (by omega)).1 (hl 1 2 (by omega) (by omega)).1 (hl 2 3 (by omega) (by omega)).1 (hl 0 3 (by omega) (by omega)).2
theorem raw_lt (hv : VT m rs) {i : Nat} (hi : i < rs.length) : 1 ≤ raw m rs i ∧ raw m rs i ≤ 1670880000 := by
  have hn := hv.n
  refine ⟨(raw_in hv hi).1, ?_⟩
  unfold raw
  split
  · omega
  split
  · have h2 := pas_in (rs.length - 1) (by omega) i (by omega)
    omega
  · exact exW_lt hv hi
theorem gcd2_dvdL (a b : Int) (ha : 0 ≤ a) : gcd2 a b ∣ a := by
  obtain ⟨n, rfl⟩ := Int.eq_ofNat_of_zero_le ha
  exact Int.natCast_dvd_natCast.2 (Nat.gcd_dvd_left n b.toNat)
theorem gcd2_dvdR (a b : Int) (hb : 0 ≤ b) : gcd2 a b ∣ b := by
  obtain ⟨n, rfl⟩ := Int.eq_ofNat_of_zero_le hb
  exact Int.natCast_dvd_natCast.2 (Nat.gcd_dvd_right a.toNat n)
theorem gcdF_dvd : ∀ (l : List Int) (d : Int), 0 ≤ d → (∀ x ∈ l, 0 ≤ x) → l.foldl gcd2 d ∣ d ∧ ∀ x ∈ l, l.foldl gcd2 d ∣ x
  | [], d, _, _ => ⟨Int.dvd_refl d, fun x hx => by simp at hx⟩
  | y :: l, d, hd, h => by
    have ih := gcdF_dvd l (gcd2 d y) (gcd2_nn d y) (fun x hx => h x (by simp [hx]))
    have h1 := gcd2_dvdL d y hd
    have h2 := gcd2_dvdR d y (h y (by simp))
    refine ⟨Int.dvd_trans ih.1 h1, fun x hx => ?_⟩
    rcases List.mem_cons.1 hx with rfl | hx
    · exact Int.dvd_trans ih.1 h2
    · exact ih.2 x hx
theorem gcdR_dvd (hv : VT m rs) {i : Nat} (hi : i < rs.length) : gcdR m rs ∣ raw m rs i :=
  (gcdF_dvd _ 0 (by omega) (raws_nn hv)).2 _ (List.mem_map.2 ⟨i, List.mem_range.2 hi, rfl⟩)
theorem wts_mul (hv : VT m rs) {i : Nat} (hi : i < rs.length) : wts m rs i * gcdR m rs = raw m rs i := by
  unfold wts
  exact Int.tdiv_mul_cancel (gcdR_dvd hv hi)
theorem wts_lt (hv : VT m rs) {i : Nat} (hi : i < rs.length) : 1 ≤ wts m rs i ∧ wts m rs i ≤ 1670880000 := by
  have h1 := raw_lt hv hi
  have h2 := gcdR_pos hv
  have h3 := wts_mul hv hi
  have h4 := (wts_in hv hi).1
  have h5 := Int.tdiv_le_self (a := raw m rs i) (gcdR m rs) (by omega)
  have h6 : wts m rs i ≤ raw m rs i := h5
  refine ⟨?_, by omega⟩
  rcases Int.lt_or_le 0 (wts m rs i) with h | h
  · omega
  · have e : wts m rs i = 0 := by omega
    rw [e, Int.zero_mul] at h3
    omega
theorem wsum_lt (hv : VT m rs) : ∀ {i : Nat}, i ≤ rs.length → (i : Int) ≤ wsum m rs i ∧ wsum m rs i ≤ 1670880000 * i
  | 0, _ => by simp [wsum]
  | i + 1, h => by
    have h1 := wsum_lt hv (i := i) (by omega)
    have h2 := wts_lt hv (i := i) (by omega)
    have e : wsum m rs (i + 1) = wsum m rs i + wts m rs i := rfl
    omega
end
end Go.Proofs.YtnehaifgcegemaaGreat.Tr
namespace Go.Proofs.YtnehaifgcegemaaGreat.Tr
open Go Go.TH
attribute [local irreducible] W WO pt
set_option maxRecDepth 10000
set_option maxHeartbeats 1000000
theorem foldl_snoc (f : Nat → Int) (n : Nat) : ((List.range (n + 1)).map f).foldl gcd2 0 = gcd2 (((List.range n).map f).foldl gcd2 0) (f n) := by
  rw [List.range_succ, List.map_append, List.foldl_append]; rfl
theorem isSl_lit {a0 : Option Addr} {n c : Nat} (h : n ≤ 9223372036854775807) (h2 : 0 < n → ∃ b o, a0 = some ⟨b, o, none⟩) : IsSl (.slice a0 n c) n := ⟨h, a0, c, rfl, h2⟩
end Go.Proofs.YtnehaifgcegemaaGreat.Tr
namespace Go.Proofs.YtnehaifgcegemaaGreat.Tr
open Go Go.TH
attribute [local irreducible] W WO pt
set_option maxRecDepth 10000
set_option maxHeartbeats 1000000
/-- a function value that answers T x at each x of S, and touches nothing, in whatever memory that is below block B as wr is -/
def FnV (B : Nat) (wr : World) (f : Nat) (cap : List Value) (S : Int → Prop) (T : Int → Int) : Prop :=
  ∀ w : World, B ≤ w.heap.size → (∀ k, k < B → w.heap[k]? = wr.heap[k]?) → ∀ x, S x → Ret Tryz.prog f (([.int .i64 x] : List Value) ++ cap).toArray w (.int .i64 (T x))
theorem FnV.at_ {C : Cx Tryz.prog} {H : List HP} {L : List HP} {w : World} {f : Nat} {cap : List Value} {S : Int → Prop} {T : Int → Int} (hB : C.B = C.w0.heap.size) (h : FnV C.w0.heap.size C.w0 f cap S T) (hi : Inv C.w0 C.M (L ++ H) w) {x : Int} (hx : S x) : Ret Tryz.prog f (([] : List Value) ++ [Value.int .i64 x] ++ cap).toArray w (.int .i64 (T x)) := by
  rw [List.nil_append]
  exact h w hi.size (by rw [← hB]; exact hi.keepB) x hx
/-- the weights' sum of what a function tells of each run -/
def msum (m : Int) (rs : List (Int × Int × Int)) (g : Int → Int) : Nat → Int
  | 0 => 0
  | i + 1 => msum m rs g i + wts m rs i * g (i : Int)
theorem abs_mul {w g W G : Int} (hw : 0 ≤ w ∧ w ≤ W) (hg : ab g ≤ G) : -(W * G) ≤ w * g ∧ w * g ≤ W * G := by
  have h0 : 0 ≤ ab g := ab_nn g
  have h1 : w * ab g ≤ W * G := Int.mul_le_mul hw.2 hg h0 (by omega)
  have h2 : w * g ≤ w * ab g := Int.mul_le_mul_of_nonneg_left (by unfold ab; omega) hw.1
  have h3 : w * (-g) ≤ w * ab g := Int.mul_le_mul_of_nonneg_left (by unfold ab; omega) hw.1
  rw [Int.mul_neg] at h3
  omega
section
variable {m : Int} {rs : List (Int × Int × Int)} {g : Int → Int}
theorem msum_in (hv : VT m rs) (hg : ∀ i : Nat, i < rs.length → ab (g i) ≤ 1000000000) : ∀ {i : Nat}, i ≤ rs.length → ab (msum m rs g i) ≤ 1670880000000000000 * i
  | 0, _ => by simp [msum, ab]
  | i + 1, h => by
    have h1 := msum_in hv hg (i := i) (by omega)
    have h2 := wts_lt hv (i := i) (by omega)
    have h3 := abs_mul (W := 1670880000) ⟨by omega, h2.2⟩ (hg i (by omega))
    have e : msum m rs g (i + 1) = msum m rs g i + wts m rs i * g (i : Int) := rfl
    unfold ab at *
    omega
end
theorem wTo_at {g : Nat → Int} {n i : Nat} (h : i < n) : wTo g n i = g i := by unfold wTo; rw [if_pos h]
theorem sc_cellP {C : Cx Tryz.prog} {H : List HP} {p : Addr} {i : Nat} {m : Int} {o : Value} {f : Nat → Int} {s x : Int} (hP : RdC C.B C.w0 p (sc m o f s)) (h : i < 5) (e : f i = x) : Cell C H ((prt p 2).add ((i : Int).toNat * 1)) (.int .i64 x) := by
  subst e
  have := hP.cellAt (H := H) (sc_get (m := m) (o := o) (f := f) (s := s) h)
  rw [prt_eq] at this ⊢
  rwa [Int.toNat_natCast, Nat.mul_one, Addr.add_add]
theorem c_mean (w : World) (p : Addr) (m : Int) (o : Value) (rs : List (Int × Int × Int)) (f : Nat) (cap : List Value) (T : Int → Int) (hP : RdC w.heap.size w p (sc m o (wTo (wts m rs) rs.length) (wsum m rs rs.length))) (hR : RdF encR 3 w.heap.size w o rs) (hv : VT m rs)
    (hF : FnV w.heap.size w f cap (fun x => 0 ≤ x ∧ x < rs.length) T) (hcall : ∀ (args : Array Value) (w : World), (callFunc f args).run Tryz.prog w = .ok (.enter f args) w) (hg : ∀ i : Nat, i < rs.length → ab (T i) ≤ 1000000000) :
    Ret Tryz.prog 122 [.pointer (some p), .func (.func f) (([] : List Value).toArray) cap.toArray].toArray w (.agg (encP (red (msum m rs T rs.length) (wsum m rs rs.length))).toArray) := by
  refine Ret.of mixed tyTab Tryz.func122 rfl rfl ?_
  replace hR : RdF encR 3 (fnCx mixed tyTab Tryz.f122.ntmps w).B (fnCx mixed tyTab Tryz.f122.ntmps w).w0 o rs := hR
  replace hP : RdC (fnCx mixed tyTab Tryz.f122.ntmps w).B (fnCx mixed tyTab Tryz.f122.ntmps w).w0 p (sc m o (wTo (wts m rs) rs.length) (wsum m rs rs.length)) := hP
  replace hF : FnV (fnCx mixed tyTab Tryz.f122.ntmps w).w0.heap.size (fnCx mixed tyTab Tryz.f122.ntmps w).w0 f cap (fun x => 0 ≤ x ∧ x < rs.length) T := hF
  have hn := hv.n
  have hws := wsum_lt hv (i := rs.length) (Nat.le_refl _)
  refine W.sreg ?_
  refine WO.alloc rfl rfl rfl (fun b1 hb1 => ?_)
  refine WO.nil ?_
  refine W.sreg ?_
  refine WO.p rfl rfl ?_
  refine WO.nil ?_
  refine W.seq ?_
  refine W.sreg ?_
  refine WO.p rfl rfl (WO.p rfl rfl (WO.field0 rfl rfl rfl (WO.field rfl rfl rfl ?_)))
  refine' WO.load (v := _) rfl rfl ?hc rfl ?_
  case hc => (first | (refine hP.cellAt ?_; rfl))
  refine' WO.len (n := _) rfl rfl ?hs rfl ?_
  case hs => (first | exact hR.sl)
  refine WO.p rfl rfl ?_
  refine WO.nil ?_
  refine W.block ?_
  refine W.loop2 (fun (i : Nat) (c : Int) => i ≤ rs.length ∧ c = msum m rs T i)
    (fun (i : Nat) (c : Int) => [(13, .int .i64 (i : Int)), (12, .int .i64 (rs.length : Int)), (5, .int .i64 c), (4, .pointer (some ⟨b1, 0, none⟩)), (0, .pointer (some p)), (1, .func (.func f) (([] : List Value).toArray) cap.toArray)])
    (fun (i : Nat) (c : Int) => [pt b1 (.cells #[.int .i64 0, .int .i64 0] 36 (0, 0))])
    (fun (i : Nat) (c : Int) => rs.length - i) 0 0
    (by exact ⟨by omega, rfl⟩) ⟨rfl, rfl, rfl, rfl, rfl, rfl, trivial⟩ (by repeat (first | exact Sub.nil | refine Sub.cons (by repeat (first | exact Pick.head | apply Pick.tail)) ?_)) ?_
  rintro i c ⟨hi, hc⟩
  have hmi := msum_in hv hg (i := i) hi
  have hmi1 : i < rs.length → ab (msum m rs T (i + 1)) ≤ 1670880000000000000 * ((i + 1 : Nat) : Int) := fun h => msum_in hv hg (i := i + 1) (by omega)
  unfold ab at hmi hmi1
  refine W.sreg ?_
  refine WO.p rfl rfl ?_
  refine WO.nil ?_
  refine W.seq ?_
  refine W.cond_bl rfl (fun c1 => ?_) (fun c1 => ?_)
  · first
    | (exfalso; omega)
    | (refine W.skip ?_
       refine W.seq ?_
       refine W.block ?_
       refine W.sreg ?_
       refine WO.p rfl rfl (WO.p rfl rfl ?_)
       refine WO.nil ?_
       have hwl := wts_lt hv (i := i) (by omega)
       have hmul := abs_mul (W := 1670880000) (w := wts m rs i) ⟨by omega, hwl.2⟩ (hg i (by omega))
       have hms : msum m rs T (i + 1) = msum m rs T i + wts m rs i * T (i : Int) := rfl
       have hmi2 := hmi1 (by omega)
       rw [hms] at hmi2
       clear hmi1
       refine W.drawD 11 [.r 0 [], .r 1 [], .r 2 [], .r 3 [], .r 4 [], .r 5 [], .b 6 [], .r 7 [], .r 8 [], .b 9 [], .r 10 []] [] (A0 := []) (Sub.refl _) (by kernel_rfl) ?_ ?_
       · exact (ALok.r (ALok.r (ALok.r (ALok.r (ALok.r (ALok.r (ALok.b (ALok.r (ALok.r (ALok.b (ALok.r ALok.nil)))))))))))
       refine' DT.r rfl rfl rfl ?hq ?_
       case hq =>
         refine WO.p rfl rfl ?_
         exact WO.nil ⟨rfl, rfl⟩
       refine' DT.r rfl rfl rfl ?hq ?_
       case hq =>
         refine WO.p rfl rfl ?_
         exact WO.nil ⟨rfl, rfl⟩
       refine' DT.r rfl rfl rfl ?hq ?_
       case hq =>
         refine WO.p rfl rfl ?_
         exact WO.nil ⟨rfl, rfl⟩
       refine' DT.r rfl rfl rfl ?hq ?_
       case hq =>
         refine WO.p rfl rfl ?_
         exact WO.nil ⟨rfl, rfl⟩
       refine' DT.r rfl rfl rfl ?hq ?_
       case hq =>
         refine WO.field rfl rfl rfl ?_
         exact WO.nil ⟨rfl, rfl⟩
       refine' DT.r rfl rfl rfl ?hq ?_
       case hq =>
         refine WO.indexArr rfl rfl rfl (by omega) (by omega) rfl ?_
         exact WO.nil ⟨rfl, rfl⟩
       refine' DT.b rfl rfl rfl ?hq ?_
       case hq =>
         refine' WO.load (v := _) rfl rfl ?hc rfl ?_
         case hc => (first | exact sc_cellP (i := i) (x := wts m rs i) hP (by omega) (wTo_at (by omega)))
         exact WO.nil ⟨rfl, rfl⟩
       refine' DT.r rfl rfl rfl ?hq ?_
       case hq =>
         refine WO.p rfl rfl ?_
         exact WO.nil ⟨rfl, rfl⟩
       refine' DT.r rfl rfl rfl ?hq ?_
       case hq =>
         refine WO.p rfl rfl ?_
         exact WO.nil ⟨rfl, rfl⟩
       refine' DT.b rfl rfl rfl ?hq ?_
       case hq =>
         refine WO.callCR (first := []) (captured := cap) rfl rfl hcall (fun L w hi => hF.at_ (x := (i : Int)) rfl hi ⟨by omega, by omega⟩) rfl ?_
         exact WO.nil ⟨rfl, rfl⟩
       refine' DT.r rfl rfl rfl ?hq ?_
       case hq =>
         refine WO.ar rfl rfl rfl (by (first | (unfold in64; omega) | (unfold in64; omega))) rfl ?_
         exact WO.nil ⟨rfl, rfl⟩
       refine DT.nil [_] rfl ?_
       refine WO.ar rfl rfl rfl (by (first | (unfold in64; omega) | (unfold in64; omega))) rfl (WO.p rfl rfl ?_)
       refine WO.nil ?_
       refine W.region ?_
       refine WO.ar rfl rfl rfl (by (first | (unfold in64; omega) | (unfold in64; omega))) rfl (WO.p rfl rfl ?_)
       refine WO.nil ?_
       refine' ⟨i + 1, _, ?hp, ?hmu, ⟨rfl, rfl, rfl, rfl, rfl, rfl, trivial⟩, ?hS⟩
       case hS => repeat (first | exact Sub.nil | refine Sub.cons (by repeat (first | exact Pick.head | apply Pick.tail)) ?_)
       case hp => exact ⟨by omega, by rw [hc]; rfl⟩
       case hmu => omega)
  · first
    | (exfalso; omega)
    | (refine W.exit (blk_same ?_)
       obtain rfl : i = rs.length := by omega
       subst hc
       refine W.sreg ?_
       refine WO.p rfl rfl (WO.p rfl rfl (WO.p rfl rfl (WO.field rfl rfl rfl ?_)))
       refine' WO.load (v := _) rfl rfl ?hc rfl ?_
       case hc => (first | (refine hP.cellAt ?_; rfl))
       refine WO.callR rfl Tryz.call221 (fun L w hi => c_fraction w _ _ (by unfold ab; omega) (by omega) (by unfold in64; omega)) rfl ?_
       refine WO.storeA rfl rfl rfl rfl Pick.head rfl rfl ?_
       refine WO.nil ?_
       refine W.ret ?_
       exact fin.ret (Res.one rfl (RV.cell rfl rfl rfl (Cells.own Pick.head))) rfl)
end Go.Proofs.YtnehaifgcegemaaGreat.Tr
namespace Go.TH
theorem Cap.agree {w w' : World} {p : Addr} {v : Value} (h : Cap w p v) (hB : w.heap.size ≤ w'.heap.size) (hk : ∀ k, k < w.heap.size → w'.heap[k]? = w.heap[k]?) : Cap w' p v :=
  ⟨Nat.lt_of_lt_of_le h.lt hB, by rw [cell_agree hk h.lt]; exact h.at_⟩
end Go.TH
namespace Go.Proofs.YtnehaifgcegemaaGreat.Tr
open Go Go.TH
attribute [local irreducible] W WO pt
set_option maxRecDepth 10000
set_option maxHeartbeats 1000000
/-- a power -/
def pw (t : Int) : Nat → Int
  | 0 => 1
  | d + 1 => pw t d * t
theorem pw_in {t : Int} (h : 0 ≤ t ∧ t ≤ 60) : ∀ d, 0 ≤ pw t d ∧ pw t d ≤ 60 ^ d
  | 0 => by simp [pw]
  | d + 1 => by
    have ih := pw_in h d
    have e : pw t (d + 1) = pw t d * t := rfl
    rw [e, Int.pow_succ]
    exact ⟨Int.mul_nonneg ih.1 h.1, Int.mul_le_mul ih.2 h.2 h.1 (by omega)⟩
theorem pw_B {t : Int} (h : 0 ≤ t ∧ t ≤ 60) {d : Nat} (hd : d ≤ 5) : 0 ≤ pw t d ∧ pw t d ≤ 777600000 := by
  have h1 := pw_in h d
  have h2 := (by decide : ∀ d : Nat, d ≤ 5 → (60 : Int) ^ d ≤ 777600000) d hd
  omega
end Go.Proofs.YtnehaifgcegemaaGreat.Tr
namespace Go.Proofs.YtnehaifgcegemaaGreat.Tr
open Go Go.TH
attribute [local irreducible] W WO pt
set_option maxRecDepth 10000
set_option maxHeartbeats 1000000
theorem c_Backward (w : World) (v : Value) (hv : v.oneCell' = true) : Ct Tryz.prog 48 [v].toArray w fun r w' => ∃ Hq, (∃ b1, r = .func (.func 124) #[] #[.pointer (some ⟨b1, 0, none⟩)] ∧
    Hq = [pt b1 (.cells #[v] 23 (0, 0))]) ∧ Inv w [] Hq w' := by
  refine Ct.of mixed tyTab Tryz.func48 rfl rfl ?_
  refine W.sreg ?_
  refine WO.box1 rfl (by first | rfl | assumption) rfl (fun b1 hb1 => ?_)
  refine WO.p rfl rfl ?_
  refine WO.nil ?_
  refine W.sreg ?_
  refine WO.p rfl rfl (WO.p rfl rfl ?_)
  refine WO.nil ?_
  refine W.ret ?_
  exact fin.ret (Res.one rfl (RV.tmp rfl)) ⟨b1, rfl, rfl⟩
/-- numbers with their indexes, the last one first -/
def backV (xs : List Int) : List (Value × Value) := (List.range xs.length).map fun (q : Nat) => (.int .i64 ((xs.length : Int) - 1 - q), .int .i64 (xs.getD ((xs.length : Int) - 1 - q).toNat 0))
theorem backV_get {xs : List Int} {q : Nat} {z : Int} (hz : z = (xs.length : Int) - 1 - q) (hq : q < xs.length) : (backV xs)[q]? = some (.int .i64 z, .int .i64 (xs.getD z.toNat 0)) := by
  unfold backV
  rw [List.getElem?_map, List.getElem?_range hq, hz]; rfl
theorem backV_len (xs : List Int) : (backV xs).length = xs.length := by unfold backV; simp
theorem c_Backward1 (B : Nat) (wr : World) (v : Value) (xs : List Int) (hR : RdF encI 1 B wr v xs) (hl : xs.length ≤ 1000000)
    (l : Nat) (Hc : Nat → List HP) (hy : ∀ k x, (backV xs)[k]? = some x → YieldOK Tryz.prog B wr l #[x.1, x.2] (Hc k) (Hc (k + 1))) (b1 : Nat) (w : World) (M' : List Nat) (hB : B ≤ w.heap.size) (hk : ∀ k, k < B → w.heap[k]? = wr.heap[k]?) (hM : ∀ b ∈ M', B ≤ b)
    (hi : Inv w M' ([pt b1 (.cells #[v] 23 (0, 0))] ++ Hc 0) w) :
    Ct Tryz.prog 124 ([.func (.yield l) #[] #[], .pointer (some ⟨b1, 0, none⟩)] : List Value).toArray w fun _ w' => Inv w M' ([pt b1 (.cells #[v] 23 (0, 0))] ++ Hc (backV xs).length) w' := by
  refine Iter.of mixed tyTab hB hM Tryz.func124 rfl rfl hi ?_
  replace hR : RdF encI 1 (itCx mixed tyTab Tryz.f124.ntmps w M' B hB hM).B (itCx mixed tyTab Tryz.f124.ntmps w M' B hB hM).w0 v xs := hR.agree hk
  refine W.sreg ?_
  refine WO.load rfl rfl (Cell.own Pick.head rfl) rfl ?_
  refine' WO.len (n := _) rfl rfl ?hs rfl ?_
  case hs => (first | exact hR.sl)
  refine WO.ar rfl rfl rfl (by (first | (unfold in64; omega) | (unfold in64; omega))) rfl (WO.p rfl rfl ?_)
  refine WO.nil ?_
  refine W.block ?_
  refine W.loop2 (fun (q : Nat) (z : Int) => q ≤ xs.length ∧ z = (xs.length : Int) - 1 - q)
    (fun (q : Nat) (z : Int) => [(3, .int .i64 z), (0, .func (.yield l) #[] #[]), (1, .pointer (some ⟨b1, 0, none⟩))])
    (fun (q : Nat) (z : Int) => [pt b1 (.cells #[v] 23 (0, 0)), sat (Hc q)])
    (fun (q : Nat) (z : Int) => xs.length - q) 0 ((xs.length : Int) - 1)
    (by omega) ⟨rfl, rfl, rfl, trivial⟩ (by repeat (first | exact Sub.nil | refine Sub.cons (by repeat (first | exact Pick.head | apply Pick.tail)) ?_)) ?_
  rintro q z ⟨hq, hz⟩
  refine W.seq ?_
  refine W.sreg ?_
  refine WO.p rfl rfl (WO.p rfl rfl ?_)
  refine WO.nil ?_
  refine W.cond_bl rfl (fun c1 => ?_) (fun c1 => ?_)
  · first
    | (exfalso; omega)
    | (refine W.skip ?_
       refine W.seq ?_
       refine W.block ?_
       refine W.sreg ?_
       refine WO.p rfl rfl (WO.p rfl rfl (WO.load rfl rfl (Cell.own Pick.head rfl) rfl (WO.p rfl rfl ?_)))
       refine' WO.indexAddrZ (n := _) rfl rfl rfl ?hs ?h00 ?h1 rfl ?_
       case hs => (first | exact hR.sl)
       case h00 => omega
       case h1 => (first | omega | (simp; omega))
       refine' WO.load (v := _) rfl rfl ?hc rfl ?_
       case hc => (first | (refine hR.cell0 ?_ 0 ?_ <;> first | rfl | omega))
       refine WO.yield rfl rfl (by repeat (first | exact Pick.head | apply Pick.tail)) ((hy _ _ (backV_get (q := q) hz (by omega))).one.agree hk) rfl ?_
       refine WO.p rfl rfl ?_
       refine WO.nil ?_
       refine W.cond_f rfl ?_
       refine W.skip ?_
       refine W.region ?_
       refine WO.p rfl rfl (WO.ar rfl rfl rfl (by (first | (unfold in64; omega) | (unfold in64; omega))) rfl (WO.p rfl rfl ?_))
       refine WO.nil ?_
       refine' ⟨q + 1, _, ?hp, ?hmu, ⟨rfl, rfl, rfl, trivial⟩, ?hS⟩
       case hS => repeat (first | exact Sub.nil | refine Sub.cons (by repeat (first | exact Pick.head | apply Pick.tail)) ?_)
       case hp => omega
       case hmu => omega)
  · first
    | (exfalso; omega)
    | (refine W.exit (blk_same ?_)
       obtain rfl : q = xs.length := by omega
       refine fin.normal (Res.none rfl) ?_
       rw [backV_len]
       exact .cons .head (.cons .head .nil))
/-- a tide's number at a minute, from the greatest power down -/
def hB (xs : List Int) (t : Int) : Nat → Int
  | 0 => 0
  | q + 1 => hB xs t q * t + xs.getD ((xs.length : Int) - 1 - q).toNat 0
def tideV (xs : List Int) (t : Int) : Int := hB xs t xs.length
/-- the numbers of a tide are small -/
def Tidal (xs : List Int) : Prop := xs.length ≤ 5 ∧ ∀ x ∈ xs, -20 ≤ x ∧ x ≤ 20
def tB : Nat → Int
  | 0 => 0
  | q + 1 => tB q * 60 + 20
theorem mul_ab {a t A : Int} (h : ab a ≤ A) (ht : 0 ≤ t ∧ t ≤ 60) : -(A * 60) ≤ a * t ∧ a * t ≤ A * 60 := by
  have := abs_mul (w := t) (g := a) (W := 60) (G := A) ⟨ht.1, ht.2⟩ h
  rw [Int.mul_comm t a, Int.mul_comm 60 A] at this
  exact this
theorem hB_in {xs : List Int} (h : Tidal xs) {t : Int} (ht : 0 ≤ t ∧ t ≤ 60) : ∀ {q : Nat}, q ≤ xs.length → ab (hB xs t q) ≤ tB q
  | 0, _ => by simp [hB, tB, ab]
  | q + 1, hq => by
    have ih := hB_in h ht (q := q) (by omega)
    have h1 := mul_ab ih ht
    have h2 := h.2 _ (getD_mem (l := xs) (i := ((xs.length : Int) - 1 - q).toNat) (by omega) 0)
    have e : hB xs t (q + 1) = hB xs t q * t + xs.getD ((xs.length : Int) - 1 - q).toNat 0 := rfl
    have e2 : tB (q + 1) = tB q * 60 + 20 := rfl
    rw [e, e2]
    unfold ab
    omega
theorem tB_B : ∀ q, q < 6 → 0 ≤ tB q ∧ tB q ≤ 263593220 := by decide
theorem hB_B {xs : List Int} (h : Tidal xs) {t : Int} (ht : 0 ≤ t ∧ t ≤ 60) {q : Nat} (hq : q ≤ xs.length) : -263593220 ≤ hB xs t q ∧ hB xs t q ≤ 263593220 := by
  have h1 := hB_in h ht hq
  have h2 := tB_B q (by have := h.1; omega)
  unfold ab at h1
  omega
theorem backV_some {xs : List Int} {q : Nat} {x : Value × Value} (h : (backV xs)[q]? = some x) : q < xs.length ∧ x = (.int .i64 ((xs.length : Int) - 1 - q), .int .i64 (xs.getD ((xs.length : Int) - 1 - q).toNat 0)) := by
  have hq : q < xs.length := by have := (List.getElem?_eq_some_iff.1 h).1; rwa [backV_len] at this
  rw [backV_get rfl hq] at h
  exact ⟨hq, (Option.some.inj h).symm⟩
theorem c_tide (w : World) (p : Addr) (v : Value) (xs : List Int) (t : Int) (hc : Cap w p v) (hR : RdF encI 1 w.heap.size w v xs) (hx : Tidal xs) (ht : 0 ≤ t ∧ t ≤ 60) : Ret Tryz.prog 47 [.int .i64 t, .pointer (some p)].toArray w (.int .i64 (tideV xs t)) := by
  refine Ret.of mixed tyTab Tryz.func47 rfl rfl ?_
  replace hR : RdF encI 1 (fnCx mixed tyTab Tryz.f47.ntmps w).B (fnCx mixed tyTab Tryz.f47.ntmps w).w0 v xs := hR
  replace hc : Cap (fnCx mixed tyTab Tryz.f47.ntmps w).w0 p v := hc
  have hl := hx.1
  refine W.sreg ?_
  refine WO.box1 rfl (by first | rfl | assumption) rfl (fun b1 hb1 => ?_)
  refine WO.p rfl rfl ?_
  refine WO.nil ?_
  refine W.sreg ?_
  refine WO.alloc rfl rfl rfl (fun b2 hb2 => ?_)
  refine WO.store1 rfl rfl rfl (by first | rfl | assumption) Pick.head rfl ?_
  refine WO.nil ?_
  refine W.seq ?_
  refine W.sreg ?_
  refine' WO.load (v := _) rfl rfl ?hc rfl ?_
  case hc => (first | (refine Cap.cell (v := v) rfl hc))
  refine WO.call (Post := fun r Hq => ∃ b1, r = .func (.func 124) #[] #[.pointer (some ⟨b1, 0, none⟩)] ∧ Hq = [pt b1 (.cells #[v] 23 (0, 0))]) rfl Tryz.call48 (fun L w hi => c_Backward w v hR.sl.oc) rfl ?_
  rintro _ _ ⟨e1, rfl, rfl⟩
  refine WO.nil ?_
  refine W.block ?_
  refine W.rangeFunc2 [pt e1 (.cells #[v] 23 (0, 0))] (fun q => [pt b1 (.cells #[.int .i64 t] 2 (0, 0)), pt b2 (.cells #[.int .i64 (hB xs t q)] 2 (0, 0))]) (backV xs) rfl rfl rfl rfl Tryz.call124 (by repeat (first | exact Sub.nil | refine Sub.cons (by repeat (first | exact Pick.head | apply Pick.tail)) ?_)) ?_ ?_ ?_
  · intro l Hc hy w1 M' hB hk hM hi
    exact c_Backward1 _ _ v xs hR (by omega) l Hc hy e1 w1 M' hB hk hM hi
  · intro l w1 M hB' hM hk q x hxq
    obtain ⟨hq, rfl⟩ := backV_some hxq
    have h1 := hB_B hx ht (q := q) (by omega)
    have h2 := hB_B hx ht (q := q + 1) (by omega)
    have h3 := mul_ab (a := Tr.hB xs t q) (A := 263593220) (by unfold ab; omega) ht
    have e : Tr.hB xs t (q + 1) = Tr.hB xs t q * t + xs.getD ((xs.length : Int) - 1 - q).toNat 0 := rfl
    rw [e] at h2
    refine W.region ?_
    refine WO.p rfl rfl ?_
    refine WO.nil ?_
    refine W.block ?_
    refine W.region ?_
    refine WO.load rfl rfl (Cell.own (Pick.tail (Pick.head)) rfl) rfl (WO.load rfl rfl (Cell.own Pick.head rfl) rfl (WO.ar rfl rfl rfl (by (first | (unfold in64; omega) | (unfold in64; omega))) rfl (WO.p rfl rfl (WO.ar rfl rfl rfl (by (first | (unfold in64; omega) | (unfold in64; omega))) rfl (WO.store1 rfl rfl rfl (by first | rfl | assumption) (Pick.tail (Pick.head)) rfl ?_)))))
    refine WO.nil ?_
    (repeat (first | exact Sub.nil | refine Sub.cons (by repeat (first | exact Pick.head | apply Pick.tail)) ?_))
  rw [backV_len]
  refine W.sreg ?_
  refine WO.load rfl rfl (Cell.own (Pick.tail (Pick.tail (Pick.head))) rfl) rfl (WO.p rfl rfl ?_)
  refine WO.nil ?_
  refine W.ret ?_
  exact fin.ret (Res.one rfl (RV.tmp rfl)) rfl
theorem fn_tide {w : World} {p : Addr} {v : Value} {xs : List Int} (hc : Cap w p v) (hR : RdF encI 1 w.heap.size w v xs) (hx : Tidal xs) : FnV w.heap.size w 47 [.pointer (some p)] (fun t => 0 ≤ t ∧ t ≤ 60) (fun t => tideV xs t) :=
  fun w' hB hk t ht => c_tide w' p v xs t (hc.agree hB hk) ((hR.agree hk).up hB) hx ht
end Go.Proofs.YtnehaifgcegemaaGreat.Tr
namespace Go.Proofs.YtnehaifgcegemaaGreat.Tr
open Go Go.TH
attribute [local irreducible] W WO pt
set_option maxRecDepth 10000
set_option maxHeartbeats 1000000
theorem FnV.later {C : Cx Tryz.prog} {H : List HP} {L : List HP} {w : World} {f : Nat} {cap : List Value} {S : Int → Prop} {T : Int → Int} (hB : C.B = C.w0.heap.size) (h : FnV C.w0.heap.size C.w0 f cap S T) (hi : Inv C.w0 C.M (L ++ H) w) : FnV w.heap.size w f cap S T := fun w' hB' hk x hx =>
  h w' (Nat.le_trans hi.size hB') (fun k hlt => by rw [hk k (Nat.lt_of_lt_of_le hlt hi.size)]; exact hi.keepB k (by rw [hB]; exact hlt)) x hx
/-- what a tide adds to a run, up or down the mile -/
def offT (rs : List (Int × Int × Int)) (T : Int → Int) (x : Int) : Int := if x.tmod 2 = 1 then -(T (tm rs x.toNat)) else T (tm rs x.toNat)
theorem c_off1 (w : World) (q1 q2 p : Addr) (m : Int) (o : Value) (rest : List Value) (rs : List (Int × Int × Int)) (f : Nat) (cap : List Value) (T : Int → Int) (x : Int) (hc1 : Cap w q1 (.func (.func f) (([] : List Value).toArray) cap.toArray)) (hc2 : Cap w q2 (.pointer (some p))) (hP : RdC w.heap.size w p (.int .i64 m :: o :: rest)) (hR : RdF encR 3 w.heap.size w o rs) (hv : VT m rs)
    (hF : FnV w.heap.size w f cap (fun t => 0 ≤ t ∧ t ≤ 60) T) (hcall : ∀ (args : Array Value) (w : World), (callFunc f args).run Tryz.prog w = .ok (.enter f args) w) (hT : ∀ i : Nat, i < rs.length → ab (T (tm rs i)) ≤ 1000000000) (hx : 0 ≤ x ∧ x < rs.length) :
    Ret Tryz.prog 123 [.int .i64 x, .pointer (some q1), .pointer (some q2)].toArray w (.int .i64 (offT rs T x)) := by
  refine Ret.of mixed tyTab Tryz.func123 rfl rfl ?_
  replace hR : RdF encR 3 (fnCx mixed tyTab Tryz.f123.ntmps w).B (fnCx mixed tyTab Tryz.f123.ntmps w).w0 o rs := hR
  replace hc1 : Cap (fnCx mixed tyTab Tryz.f123.ntmps w).w0 q1 (.func (.func f) (([] : List Value).toArray) cap.toArray) := hc1
  replace hc2 : Cap (fnCx mixed tyTab Tryz.f123.ntmps w).w0 q2 (.pointer (some p)) := hc2
  replace hP : RdC (fnCx mixed tyTab Tryz.f123.ntmps w).B (fnCx mixed tyTab Tryz.f123.ntmps w).w0 p (.int .i64 m :: o :: rest) := hP
  replace hF : FnV (fnCx mixed tyTab Tryz.f123.ntmps w).w0.heap.size (fnCx mixed tyTab Tryz.f123.ntmps w).w0 f cap (fun t => 0 ≤ t ∧ t ≤ 60) T := hF
  have hrun := hv.run (i := x.toNat) (by omega)
  have hTx := hT x.toNat (by omega)
  unfold ab at hTx
  refine W.sreg ?_
  refine WO.p rfl rfl ?_
  refine WO.nil ?_
  refine W.seq ?_
  refine W.drawD 10 [.b 0 [], .b 1 [], .r 2 [], .r 3 [], .r 4 [], .b 5 [], .r 6 [], .r 7 [], .r 8 [], .b 9 []] [] (A0 := []) (Sub.refl _) (by kernel_rfl) ?_ ?_
  · exact (ALok.b (ALok.b (ALok.r (ALok.r (ALok.r (ALok.b (ALok.r (ALok.r (ALok.r (ALok.b ALok.nil))))))))))
  refine' DT.b rfl rfl rfl ?hq ?_
  case hq =>
    refine' WO.load (v := _) rfl rfl ?hc rfl ?_
    case hc => (first | (refine Cap.cell (v := .func (.func f) (([] : List Value).toArray) cap.toArray) rfl hc1))
    exact WO.nil ⟨rfl, rfl⟩
  refine' DT.b rfl rfl rfl ?hq ?_
  case hq =>
    refine' WO.load (v := _) rfl rfl ?hc rfl ?_
    case hc => (first | (refine Cap.cell (v := .pointer (some p)) rfl hc2))
    exact WO.nil ⟨rfl, rfl⟩
  refine' DT.r rfl rfl rfl ?hq ?_
  case hq =>
    refine WO.p rfl rfl ?_
    exact WO.nil ⟨rfl, rfl⟩
  refine' DT.r rfl rfl rfl ?hq ?_
  case hq =>
    refine WO.field0 rfl rfl rfl ?_
    exact WO.nil ⟨rfl, rfl⟩
  refine' DT.r rfl rfl rfl ?hq ?_
  case hq =>
    refine WO.field rfl rfl rfl ?_
    exact WO.nil ⟨rfl, rfl⟩
  refine' DT.b rfl rfl rfl ?hq ?_
  case hq =>
    refine' WO.load (v := _) rfl rfl ?hc rfl ?_
    case hc => (first | (refine hP.cellAt ?_; rfl) | (refine hR.cell0 ?_ r0 ?_ <;> first | rfl | omega))
    exact WO.nil ⟨rfl, rfl⟩
  refine' DT.r rfl rfl rfl ?hq ?_
  case hq =>
    refine WO.p rfl rfl ?_
    exact WO.nil ⟨rfl, rfl⟩
  refine' DT.r rfl rfl rfl ?hq ?_
  case hq =>
    refine' WO.indexAddrZ (n := _) rfl rfl rfl ?hs ?h00 ?h1 rfl ?_
    case hs => (first | exact hR.sl)
    case h00 => omega
    case h1 => (first | omega | (simp; omega))
    exact WO.nil ⟨rfl, rfl⟩
  refine' DT.r rfl rfl rfl ?hq ?_
  case hq =>
    refine WO.field0 rfl rfl rfl ?_
    exact WO.nil ⟨rfl, rfl⟩
  refine' DT.b rfl rfl rfl ?hq ?_
  case hq =>
    refine' WO.load (v := _) rfl rfl ?hc rfl ?_
    case hc => (first | (refine hP.cellAt ?_; rfl) | (refine hR.cell0 ?_ r0 ?_ <;> first | rfl | omega))
    exact WO.nil ⟨rfl, rfl⟩
  refine DT.nil [] rfl ?_
  refine WO.callCR (first := []) (captured := cap) (r := .int .i64 (T (tm rs x.toNat))) rfl rfl hcall (fun L w hi => hF.at_ (x := tm rs x.toNat) rfl hi ⟨by omega, by omega⟩) rfl ?_
  refine WO.p rfl rfl ?_
  refine WO.nil ?_
  refine W.seq ?_
  refine W.sreg ?_
  refine WO.p rfl rfl (WO.rem rfl rfl (by first | omega | assumption) rfl (WO.p rfl rfl ?_))
  refine WO.nil ?_
  refine W.cond_bl rfl (fun c1 => ?_) (fun c1 => ?_)
  · first
    | (exfalso; omega)
    | (refine W.sreg ?_
       refine WO.p rfl rfl (WO.neg rfl (by (first | (unfold in64; omega) | (unfold in64; omega))) rfl (WO.p rfl rfl ?_))
       refine WO.nil ?_
       refine W.ret ?_
       refine fin.ret (Res.one rfl (RV.tmp rfl)) (congrArg (Value.int .i64) ?_)
       unfold offT
       first | rw [if_pos (by assumption)] | rw [if_neg (by assumption)])
  · first
    | (exfalso; omega)
    | (refine W.skip ?_
       refine W.sreg ?_
       refine WO.p rfl rfl (WO.p rfl rfl ?_)
       refine WO.nil ?_
       refine W.ret ?_
       refine fin.ret (Res.one rfl (RV.tmp rfl)) (congrArg (Value.int .i64) ?_)
       unfold offT
       first | rw [if_pos (by assumption)] | rw [if_neg (by assumption)])
theorem fn_off1 {w : World} {q1 q2 p : Addr} {m : Int} {o : Value} {rest : List Value} {rs : List (Int × Int × Int)} {f : Nat} {cap : List Value} {T : Int → Int} (hc1 : Cap w q1 (.func (.func f) (([] : List Value).toArray) cap.toArray)) (hc2 : Cap w q2 (.pointer (some p))) (hP : RdC w.heap.size w p (.int .i64 m :: o :: rest)) (hR : RdF encR 3 w.heap.size w o rs) (hv : VT m rs)
    (hF : FnV w.heap.size w f cap (fun t => 0 ≤ t ∧ t ≤ 60) T) (hcall : ∀ (args : Array Value) (w : World), (callFunc f args).run Tryz.prog w = .ok (.enter f args) w) (hT : ∀ i : Nat, i < rs.length → ab (T (tm rs i)) ≤ 1000000000) :
    FnV w.heap.size w 123 [.pointer (some q1), .pointer (some q2)] (fun x => 0 ≤ x ∧ x < rs.length) (offT rs T) := fun w' hB hk x hx =>
  c_off1 w' q1 q2 p m o rest rs f cap T x (hc1.agree hB hk) (hc2.agree hB hk) ((hP.agree hk).up hB) ((hR.agree hk).up hB) hv (fun w'' hB' hk' => hF w'' (Nat.le_trans hB hB') (fun k hlt => by rw [hk' k (Nat.lt_of_lt_of_le hlt hB), hk k hlt])) hcall hT hx
theorem offT_ab {rs : List (Int × Int × Int)} {T : Int → Int} (hT : ∀ i : Nat, i < rs.length → ab (T (tm rs i)) ≤ 1000000000) : ∀ i : Nat, i < rs.length → ab (offT rs T i) ≤ 1000000000 := by
  intro i hi
  have := hT i hi
  unfold offT
  rw [Int.toNat_natCast]
  split
  · unfold ab at *; omega
  · exact this
theorem c_off (w : World) (p : Addr) (m : Int) (o : Value) (rs : List (Int × Int × Int)) (f : Nat) (cap : List Value) (T : Int → Int) (hP : RdC w.heap.size w p (sc m o (wTo (wts m rs) rs.length) (wsum m rs rs.length))) (hR : RdF encR 3 w.heap.size w o rs) (hv : VT m rs)
    (hF : FnV w.heap.size w f cap (fun t => 0 ≤ t ∧ t ≤ 60) T) (hcall : ∀ (args : Array Value) (w : World), (callFunc f args).run Tryz.prog w = .ok (.enter f args) w) (hT : ∀ i : Nat, i < rs.length → ab (T (tm rs i)) ≤ 1000000000) :
    Ret Tryz.prog 46 [.pointer (some p), .func (.func f) (([] : List Value).toArray) cap.toArray].toArray w (.agg (encP (red (msum m rs (offT rs T) rs.length) (wsum m rs rs.length))).toArray) := by
  refine Ret.of mixed tyTab Tryz.func46 rfl rfl ?_
  replace hR : RdF encR 3 (fnCx mixed tyTab Tryz.f46.ntmps w).B (fnCx mixed tyTab Tryz.f46.ntmps w).w0 o rs := hR
  replace hP : RdC (fnCx mixed tyTab Tryz.f46.ntmps w).B (fnCx mixed tyTab Tryz.f46.ntmps w).w0 p (sc m o (wTo (wts m rs) rs.length) (wsum m rs rs.length)) := hP
  replace hF : FnV (fnCx mixed tyTab Tryz.f46.ntmps w).w0.heap.size (fnCx mixed tyTab Tryz.f46.ntmps w).w0 f cap (fun t => 0 ≤ t ∧ t ≤ 60) T := hF
  refine W.sreg ?_
  refine WO.box1 rfl (by first | rfl | assumption) rfl (fun b1 hb1 => ?_)
  refine WO.box1 rfl (by first | rfl | assumption) rfl (fun b2 hb2 => ?_)
  refine WO.alloc rfl rfl rfl (fun b3 hb3 => ?_)
  refine WO.nil ?_
  refine W.sreg ?_
  refine WO.load rfl rfl (Cell.own (Pick.tail (Pick.tail (Pick.head))) rfl) rfl (WO.p rfl rfl ?_)
  refine WO.callR rfl Tryz.call122 (fun L w hi => c_mean w p m o rs _ [.pointer (some ⟨b2, 0, none⟩), .pointer (some ⟨b1, 0, none⟩)] (offT rs T) (hP.later hi) (hR.later hi) hv (fn_off1 (Cap.of (by repeat (first | exact Pick.head | apply Pick.tail)) rfl hi) (Cap.of (by repeat (first | exact Pick.head | apply Pick.tail)) rfl hi) (hP.later hi) (hR.later hi) hv (hF.later rfl hi) hcall hT) Tryz.call123 (offT_ab hT)) rfl ?_
  refine WO.storeA rfl rfl rfl rfl Pick.head rfl rfl ?_
  refine WO.nil ?_
  refine W.ret ?_
  exact fin.ret (Res.one rfl (RV.cell rfl rfl rfl (Cells.own Pick.head))) rfl
/-- the mean of what a function tells of each run -/
def meanQ (m : Int) (rs : List (Int × Int × Int)) (g : Int → Int) : Int × Int := red (msum m rs g rs.length) (wsum m rs rs.length)
end Go.Proofs.YtnehaifgcegemaaGreat.Tr
namespace Go.Proofs.YtnehaifgcegemaaGreat.Tr
open Go Go.TH
set_option maxRecDepth 10000
theorem offT_0 (rs : List (Int × Int × Int)) (T : Int → Int) : offT rs T ((0 : Nat) : Int) = T (tm rs 0) := rfl
theorem offT_1 (rs : List (Int × Int × Int)) (T : Int → Int) : offT rs T ((1 : Nat) : Int) = -(T (tm rs 1)) := rfl
theorem offT_2 (rs : List (Int × Int × Int)) (T : Int → Int) : offT rs T ((2 : Nat) : Int) = T (tm rs 2) := rfl
section
variable (m : Int) (rs : List (Int × Int × Int)) (T : Int → Int)
theorem off_3 : msum m rs (offT rs T) 3 = wts m rs 0 * T (tm rs 0) - wts m rs 1 * T (tm rs 1) + wts m rs 2 * T (tm rs 2) := by
  show (((0 + wts m rs 0 * offT rs T ((0 : Nat) : Int)) + wts m rs 1 * offT rs T ((1 : Nat) : Int)) + wts m rs 2 * offT rs T ((2 : Nat) : Int)) = _
  rw [offT_0, offT_1, offT_2]
  simp only [Int.mul_neg]
  omega
end
section
variable {m : Int} {rs : List (Int × Int × Int)}
end
end Go.Proofs.YtnehaifgcegemaaGreat.Tr
namespace Go.Proofs.YtnehaifgcegemaaGreat.Tr
open Go Go.TH
attribute [local irreducible] W WO pt
set_option maxRecDepth 10000
set_option maxHeartbeats 1000000
/-- what newScales leaves -/
abbrev scP (pv : Value) (m : Int) (o : Value) (rs : List (Int × Int × Int)) : HP := PtrP pv (chkT m rs) (sc m o (wTo (wts m rs) rs.length) (wsum m rs rs.length)) 187
/-- are the numbers those of true runs? -/
def inTo (rs : List (Int × Int × Int)) (xs : List Int) (n : Nat) : Prop := ∀ i, i < n → (rs.getD i r0).2.1 ≤ xs.getD i 0 ∧ xs.getD i 0 ≤ (rs.getD i r0).2.2
instance (rs : List (Int × Int × Int)) (xs : List Int) (n : Nat) : Decidable (inTo rs xs n) := by unfold inTo; infer_instance
section
variable {m : Int} {rs : List (Int × Int × Int)} {xs : List Int}
end
end Go.Proofs.YtnehaifgcegemaaGreat.Tr
namespace Go.TH
open Go
section
variable {P : Program} {C : Cx P} {E : Env} {H : List HP}
variable {ops : Array Oper} {K : KP} {rest : List Oper} {d : Nat} {ty : TypeId} {pos : String} {af : Array Edge} {x y z : Operand} {T T' : TypeId}
end
end Go.TH
namespace Go.Proofs.YtnehaifgcegemaaGreat.Tr
open Go Go.TH
attribute [local irreducible] W WO pt
set_option maxRecDepth 10000
set_option maxHeartbeats 1000000
def allIn (xs : List Int) : Prop := ∀ x ∈ xs, -20 ≤ x ∧ x ≤ 20
instance (xs : List Int) : Decidable (allIn xs) := by unfold allIn; infer_instance
/-- what Off answers -/
def offE (m : Int) (rs : List (Int × Int × Int)) (xs : List Int) : Int := if chkT m rs ≠ 0 then chkT m rs else if 5 < xs.length then 6 else if allIn xs then 0 else 3
def offV (m : Int) (rs : List (Int × Int × Int)) (xs : List Int) : Int × Int := if offE m rs xs = 0 then meanQ m rs (offT rs (tideV xs)) else (0, 0)
def offR (m : Int) (rs : List (Int × Int × Int)) (xs : List Int) : Value := .tuple #[.agg (encP (offV m rs xs)).toArray, .int .i64 (offE m rs xs)]
section
variable {m : Int} {rs : List (Int × Int × Int)} {xs : List Int}
theorem offR_1 (h : chkT m rs ≠ 0) : .tuple #[.agg (encP (0, 0)).toArray, .int .i64 (chkT m rs)] = offR m rs xs := by
  have e : offE m rs xs = chkT m rs := by unfold offE; rw [if_pos h]
  unfold offR offV; rw [e, if_neg h]
theorem offR_6 (h : ¬ chkT m rs ≠ 0) (hl : 5 < xs.length) : .tuple #[.agg (encP (0, 0)).toArray, .int .i64 6] = offR m rs xs := by
  have e : offE m rs xs = 6 := by unfold offE; rw [if_neg h, if_pos hl]
  unfold offR offV; rw [e, if_neg (by omega)]
theorem offR_3 (h : ¬ chkT m rs ≠ 0) (hl : ¬ 5 < xs.length) (hb : ¬ allIn xs) : .tuple #[.agg (encP (0, 0)).toArray, .int .i64 3] = offR m rs xs := by
  have e : offE m rs xs = 3 := by unfold offE; rw [if_neg h, if_neg hl, if_neg hb]
  unfold offR offV; rw [e, if_neg (by omega)]
theorem offR_0 (h : ¬ chkT m rs ≠ 0) (hl : ¬ 5 < xs.length) (hb : allIn xs) : .tuple #[.agg (encP (meanQ m rs (offT rs (tideV xs)))).toArray, .int .i64 0] = offR m rs xs := by
  have e : offE m rs xs = 0 := by unfold offE; rw [if_neg h, if_neg hl, if_pos hb]
  unfold offR offV; rw [e, if_pos rfl]
theorem tide_ab (hv : VT m rs) (hx : Tidal xs) : ∀ i : Nat, i < rs.length → ab (tideV xs (tm rs i)) ≤ 1000000000 := fun i hi => by
  have h1 := hv.run hi
  have h2 := hB_B hx (t := tm rs i) ⟨h1.1, h1.2.1⟩ (Nat.le_refl _)
  unfold tideV ab; omega
theorem foldl_min_le : ∀ (l : List Int) (x : Int), l.foldl min x ≤ x ∧ ∀ y ∈ l, l.foldl min x ≤ y
  | [], x => ⟨Int.le_refl _, fun y hy => by simp at hy⟩
  | z :: l, x => by
    have ih := foldl_min_le l (min x z)
    refine ⟨by show l.foldl min (min x z) ≤ x; omega, fun y hy => ?_⟩
    show l.foldl min (min x z) ≤ y
    rcases List.mem_cons.1 hy with rfl | hy
    · omega
    · exact ih.2 y hy
theorem foldl_max_ge : ∀ (l : List Int) (x : Int), x ≤ l.foldl max x ∧ ∀ y ∈ l, y ≤ l.foldl max x
  | [], x => ⟨Int.le_refl _, fun y hy => by simp at hy⟩
  | z :: l, x => by
    have ih := foldl_max_ge l (max x z)
    refine ⟨by show x ≤ l.foldl max (max x z); omega, fun y hy => ?_⟩
    show y ≤ l.foldl max (max x z)
    rcases List.mem_cons.1 hy with rfl | hy
    · omega
    · exact ih.2 y hy
theorem foldl_min_in : ∀ (l : List Int) (x : Int), l.foldl min x = x ∨ l.foldl min x ∈ l
  | [], x => .inl rfl
  | z :: l, x => by
    show l.foldl min (min x z) = x ∨ l.foldl min (min x z) ∈ z :: l
    rcases foldl_min_in l (min x z) with h | h
    · rw [h]
      rcases Int.le_total x z with h2 | h2
      · left; omega
      · right; rw [show min x z = z by omega]; simp
    · right; simp [h]
theorem foldl_max_in : ∀ (l : List Int) (x : Int), l.foldl max x = x ∨ l.foldl max x ∈ l
  | [], x => .inl rfl
  | z :: l, x => by
    show l.foldl max (max x z) = x ∨ l.foldl max (max x z) ∈ z :: l
    rcases foldl_max_in l (max x z) with h | h
    · rw [h]
      rcases Int.le_total x z with h2 | h2
      · right; rw [show max x z = z by omega]; simp
      · left; omega
    · right; simp [h]
theorem btw_all {lo hi : Int} (h : 0 < xs.length) : btw lo hi xs = bl (∀ x ∈ xs, lo ≤ x ∧ x ≤ hi) := by
  unfold btw
  rw [bl_eq, bl_eq, bl_eq, ← Bool.decide_and, decide_eq_decide]
  match xs, h with
  | x :: r, _ =>
    have h1 := foldl_min_le r x
    have h2 := foldl_max_ge r x
    show (lo ≤ r.foldl min x ∧ r.foldl max x ≤ hi) ↔ _
    constructor
    · rintro ⟨a, b⟩ y hy
      rcases List.mem_cons.1 hy with rfl | hy
      · omega
      · have := h1.2 y hy; have := h2.2 y hy; omega
    · intro ha
      constructor
      · rcases foldl_min_in r x with e | e
        · rw [e]; exact (ha x (by simp)).1
        · exact (ha _ (by simp [e])).1
      · rcases foldl_max_in r x with e | e
        · rw [e]; exact (ha x (by simp)).2
        · exact (ha _ (by simp [e])).2
end
theorem c_Off (w : World) (m : Int) (o v : Value) (rs : List (Int × Int × Int)) (xs : List Int) (hR : RdF encR 3 w.heap.size w o rs) (hX : RdF encI 1 w.heap.size w v xs) : Ret Tryz.prog 12 [.agg #[.int .i64 m, o], v].toArray w (offR m rs xs) := by
  refine Ret.of mixed tyTab Tryz.func12 rfl rfl ?_
  replace hR : RdF encR 3 (fnCx mixed tyTab Tryz.f12.ntmps w).B (fnCx mixed tyTab Tryz.f12.ntmps w).w0 o rs := hR
  replace hX : RdF encI 1 (fnCx mixed tyTab Tryz.f12.ntmps w).B (fnCx mixed tyTab Tryz.f12.ntmps w).w0 v xs := hX
  have ho := hX.sl.oc
  refine W.sreg ?_
  refine WO.boxA rfl rfl (fun b1 hb1 => ?_)
  refine WO.box1 rfl (by first | rfl | assumption) rfl (fun b2 hb2 => ?_)
  refine WO.alloc rfl rfl rfl (fun b3 hb3 => ?_)
  refine WO.p rfl rfl ?_
  refine WO.nil ?_
  refine W.sreg ?_
  refine WO.loadA rfl rfl (Cells.own (Pick.tail (Pick.tail (Pick.head)))) rfl rfl ?_
  refine WO.call (Post := fun v Hq => ∃ pv, v = .tuple #[pv, .int .i64 (chkT m rs)] ∧ Hq = [scP pv m o rs]) rfl Tryz.call44 (fun L w hi => c_newScales w m o rs (hR.later hi)) rfl ?_
  rintro _ _ ⟨pv, rfl, rfl⟩
  refine WO.p rfl rfl (WO.p rfl rfl (WO.p rfl rfl (WO.p rfl rfl (WO.p rfl rfl ?_))))
  refine WO.nil ?_
  refine W.seq ?_
  refine W.block ?_
  refine W.sreg ?_
  refine WO.p rfl rfl (WO.p rfl rfl (WO.p rfl rfl ?_))
  refine WO.nil ?_
  refine W.cond_bl rfl (fun c1 => ?_) (fun c1 => ?_)
  · first
    | (exfalso; omega)
    | (refine W.sreg ?_
       refine' WO.build (cs := _) rfl rfl rfl ?hf rfl ?_
       case hf => (conv => lhs; simp [-List.getD_eq_getElem?_getD, fillL, vcl, wrl, TTab.pl?.lget']) <;> rfl
       refine WO.p rfl rfl (WO.storeA rfl rfl rfl rfl (Pick.tail (Pick.head)) rfl rfl (WO.p rfl rfl ?_))
       refine WO.nil ?_
       refine W.ret ?_
       refine fin.ret (Res.two rfl (RV.cell rfl rfl rfl (Cells.own Pick.head)) (RV.tmp rfl)) ?_
       first | exact offR_1 (by assumption) | exact offR_6 (by assumption) (by omega) | exact offR_3 (by assumption) (by omega) (by assumption) | exact offR_0 (by assumption) (by omega) hal)
  · first
    | (exfalso; omega)
    | (refine W.sreg ?_
       refine WO.load rfl rfl (Cell.own (Pick.tail (Pick.tail (Pick.head))) rfl) rfl ?_
       refine' WO.len (n := _) rfl rfl ?hs rfl ?_
       case hs => (first | exact hR.sl | exact hX.sl)
       refine WO.p rfl rfl (WO.p rfl rfl ?_)
       refine WO.nil ?_
       refine W.cond_bl rfl (fun c2 => ?_) (fun c2 => ?_)
       · first
         | (exfalso; omega)
         | (refine W.sreg ?_
            refine' WO.build (cs := _) rfl rfl rfl ?hf rfl ?_
            case hf => (conv => lhs; simp [-List.getD_eq_getElem?_getD, fillL, vcl, wrl, TTab.pl?.lget']) <;> rfl
            refine WO.storeA rfl rfl rfl rfl (Pick.tail (Pick.head)) rfl rfl (WO.p rfl rfl ?_)
            refine WO.nil ?_
            refine W.ret ?_
            refine fin.ret (Res.two rfl (RV.cell rfl rfl rfl (Cells.own Pick.head)) (RV.tmp rfl)) ?_
            first | exact offR_1 (by assumption) | exact offR_6 (by assumption) (by omega) | exact offR_3 (by assumption) (by omega) (by assumption) | exact offR_0 (by assumption) (by omega) hal)
       · first
         | (exfalso; omega)
         | (refine W.sreg ?_
            refine WO.load rfl rfl (Cell.own (Pick.tail (Pick.tail (Pick.head))) rfl) rfl ?_
            refine' WO.len (n := _) rfl rfl ?hs rfl ?_
            case hs => (first | exact hR.sl | exact hX.sl)
            refine WO.p rfl rfl (WO.p rfl rfl ?_)
            refine WO.guard_bl rfl rfl (fun c3 => ?_) (fun c3 => ?_)
            · first
              | (exfalso; omega)
              | (refine WO.go' rfl (WO.load rfl rfl (Cell.own (Pick.tail (Pick.tail (Pick.head))) rfl) rfl (WO.go' rfl ?_))
                 refine WO.callR (r := .bool (bl (allIn xs))) rfl Tryz.call45 (fun L w hi => by have h := c_within w (-20) 20 v xs (hX.later hi) (by omega); rw [btw_all (by omega)] at h; exact h) rfl ?_
                 refine WO.pg rfl rfl rfl (WO.p rfl rfl (WO.p rfl rfl ?_))
                 refine WO.nil ?_
                 refine W.cond_nbl rfl (fun c4 => ?_) (fun c4 => ?_)
                 · first
                   | (exfalso; omega)
                   | (refine W.sreg ?_
                      refine' WO.build (cs := _) rfl rfl rfl ?hf rfl ?_
                      case hf => (conv => lhs; simp [-List.getD_eq_getElem?_getD, fillL, vcl, wrl, TTab.pl?.lget']) <;> rfl
                      refine WO.storeA rfl rfl rfl rfl (Pick.tail (Pick.head)) rfl rfl (WO.p rfl rfl ?_)
                      refine WO.nil ?_
                      refine W.ret ?_
                      refine fin.ret (Res.two rfl (RV.cell rfl rfl rfl (Cells.own Pick.head)) (RV.tmp rfl)) ?_
                      first | exact offR_1 (by assumption) | exact offR_6 (by assumption) (by omega) | exact offR_3 (by assumption) (by omega) (by assumption) | exact offR_0 (by assumption) (by omega) hal)
                 · first
                   | (exfalso; omega)
                   | (refine W.skip ?_
                      have hv : VT m rs := VT.of (by omega)
                      have hal : allIn xs := by first | assumption | (have h0 : xs = [] := List.eq_nil_of_length_eq_zero (by omega); subst h0; intro x hx; simp at hx)
                      have htd : Tidal xs := ⟨by omega, hal⟩
                      refine W.chgE (PtrP.open (by repeat (first | exact Pick.head | apply Pick.tail)) hv.to) ?_
                      rintro pb rfl
                      refine W.sreg ?_
                      refine WO.p rfl rfl (WO.p rfl rfl ?_)
                      refine WO.callR rfl Tryz.call46 (fun L w hi => c_off w _ m o rs _ [.pointer (some ⟨b2, 0, none⟩)] (tideV xs) (RdC.own (b := pb) (by repeat (first | exact Pick.head | apply Pick.tail)) hi) (hR.later hi) hv (fn_tide (Cap.of (by repeat (first | exact Pick.head | apply Pick.tail)) rfl hi) (hX.later hi) htd) Tryz.call47 (tide_ab hv htd)) rfl ?_
                      refine WO.storeA rfl rfl rfl rfl (Pick.tail (Pick.head)) rfl rfl (WO.p rfl rfl ?_)
                      refine WO.nil ?_
                      refine W.ret ?_
                      refine fin.ret (Res.two rfl (RV.cell rfl rfl rfl (Cells.own Pick.head)) (RV.tmp rfl)) ?_
                      first | exact offR_1 (by assumption) | exact offR_6 (by assumption) (by omega) | exact offR_3 (by assumption) (by omega) (by assumption) | exact offR_0 (by assumption) (by omega) hal))
            · first
              | (exfalso; omega)
              | (refine WO.no rfl rfl (WO.no rfl rfl (WO.no rfl rfl (WO.p rfl rfl (WO.p rfl rfl ?_))))
                 refine WO.nil ?_
                 refine W.cond_f rfl ?_
                 refine W.skip ?_
                 have hv : VT m rs := VT.of (by omega)
                 have hal : allIn xs := by first | assumption | (have h0 : xs = [] := List.eq_nil_of_length_eq_zero (by omega); subst h0; intro x hx; simp at hx)
                 have htd : Tidal xs := ⟨by omega, hal⟩
                 refine W.chgE (PtrP.open (by repeat (first | exact Pick.head | apply Pick.tail)) hv.to) ?_
                 rintro pb rfl
                 refine W.sreg ?_
                 refine WO.p rfl rfl (WO.p rfl rfl ?_)
                 refine WO.callR rfl Tryz.call46 (fun L w hi => c_off w _ m o rs _ [.pointer (some ⟨b2, 0, none⟩)] (tideV xs) (RdC.own (b := pb) (by repeat (first | exact Pick.head | apply Pick.tail)) hi) (hR.later hi) hv (fn_tide (Cap.of (by repeat (first | exact Pick.head | apply Pick.tail)) rfl hi) (hX.later hi) htd) Tryz.call47 (tide_ab hv htd)) rfl ?_
                 refine WO.storeA rfl rfl rfl rfl (Pick.tail (Pick.head)) rfl rfl (WO.p rfl rfl ?_)
                 refine WO.nil ?_
                 refine W.ret ?_
                 refine fin.ret (Res.two rfl (RV.cell rfl rfl rfl (Cells.own Pick.head)) (RV.tmp rfl)) ?_
                 first | exact offR_1 (by assumption) | exact offR_6 (by assumption) (by omega) | exact offR_3 (by assumption) (by omega) (by assumption) | exact offR_0 (by assumption) (by omega) hal)))
theorem red_num {n d : Int} (hd : 0 < d) : (red n d).1 = 0 ↔ n = 0 := by
  have hg := gcd2_pos (ab_nn n) hd
  have hdv : gcd2 (ab n) d ∣ n := by
    have h1 := gcd2_dvdL (ab n) d (ab_nn n)
    unfold ab at h1 ⊢
    rcases Int.le_total 0 n with h | h
    · rwa [show max n (-n) = n by omega] at h1 ⊢
    · rw [show max n (-n) = -n by omega] at h1 ⊢
      exact Int.dvd_neg.1 h1
  constructor
  · intro h
    have h2 := Int.tdiv_mul_cancel hdv
    have h3 : n.tdiv (gcd2 (ab n) d) = 0 := h
    rw [h3, Int.zero_mul] at h2
    exact h2.symm
  · intro h; subst h; unfold red; simp
end Go.Proofs.YtnehaifgcegemaaGreat.Tr
namespace Go.Proofs.YtnehaifgcegemaaGreat.Tr
open Go Go.TH
attribute [local irreducible] W WO pt
set_option maxRecDepth 10000
set_option maxHeartbeats 1000000
/-- a polynomial's value -/
def evP (t : Int) : List Int → Int
  | [] => 0
  | a :: r => a + evP t r * t
theorem drop_getD {xs : List Int} {k : Nat} (h : k < xs.length) : xs.drop k = xs.getD k 0 :: xs.drop (k + 1) := by
  rw [List.drop_eq_getElem_cons h]; simp [h]
theorem hB_ev (xs : List Int) (t : Int) : ∀ q, q ≤ xs.length → hB xs t q = evP t (xs.drop (xs.length - q))
  | 0, _ => by rw [Nat.sub_zero, List.drop_length]; rfl
  | q + 1, h => by
    have ih := hB_ev xs t q (by omega)
    rw [drop_getD (k := xs.length - (q + 1)) (by omega)]
    show hB xs t q * t + xs.getD ((xs.length : Int) - 1 - q).toNat 0 = xs.getD (xs.length - (q + 1)) 0 + evP t (xs.drop (xs.length - (q + 1) + 1)) * t
    rw [ih, show xs.length - (q + 1) + 1 = xs.length - q by omega, show ((xs.length : Int) - 1 - q).toNat = xs.length - (q + 1) by omega]
    omega
theorem tideV_ev (xs : List Int) (t : Int) : tideV xs t = evP t xs := by
  unfold tideV; rw [hB_ev xs t _ (Nat.le_refl _), Nat.sub_self]; rfl
/-- a tide's number, from the least power up -/
def fS (xs : List Int) (t : Int) : Nat → Int
  | 0 => 0
  | k + 1 => fS xs t k + xs.getD k 0 * pw t k
theorem fS_ev (xs : List Int) (t : Int) : ∀ k, k ≤ xs.length → fS xs t k + pw t k * evP t (xs.drop k) = evP t xs
  | 0, _ => by show 0 + 1 * evP t xs = _; omega
  | k + 1, h => by
    have ih := fS_ev xs t k (by omega)
    rw [drop_getD (k := k) (by omega)] at ih
    have e1 : fS xs t (k + 1) = fS xs t k + xs.getD k 0 * pw t k := rfl
    have e2 : pw t (k + 1) = pw t k * t := rfl
    have e3 : evP t (xs.getD k 0 :: xs.drop (k + 1)) = xs.getD k 0 + evP t (xs.drop (k + 1)) * t := rfl
    rw [e3] at ih
    rw [e1, e2]
    grind
theorem fS_all (xs : List Int) (t : Int) : fS xs t xs.length = tideV xs t := by
  have := fS_ev xs t xs.length (Nat.le_refl _)
  rw [List.drop_length] at this
  rw [tideV_ev]
  have e : evP t ([] : List Int) = 0 := rfl
  rw [e, Int.mul_zero] at this
  omega
theorem pw4 {t : Int} (h : 0 ≤ t ∧ t ≤ 60) {d : Nat} (hd : d ≤ 4) : 0 ≤ pw t d ∧ pw t d ≤ 12960000 := by
  have h1 := pw_in h d
  have h2 := (by decide : ∀ d : Nat, d ≤ 4 → (60 : Int) ^ d ≤ 12960000) d hd
  omega
theorem mul20 {a p : Int} (ha : -20 ≤ a ∧ a ≤ 20) (hp : 0 ≤ p ∧ p ≤ 12960000) : -259200000 ≤ a * p ∧ a * p ≤ 259200000 := by
  have := abs_mul (w := p) (g := a) (W := 12960000) (G := 20) hp (by unfold ab; omega)
  rw [Int.mul_comm p a] at this
  omega
theorem fS_in {xs : List Int} (hx : Tidal xs) {t : Int} (ht : 0 ≤ t ∧ t ≤ 60) : ∀ {k : Nat}, k ≤ xs.length → -(259200000 * k) ≤ fS xs t k ∧ fS xs t k ≤ 259200000 * k
  | 0, _ => by simp [fS]
  | k + 1, h => by
    have ih := fS_in hx ht (k := k) (by omega)
    have h1 := mul20 (hx.2 _ (getD_mem (l := xs) (i := k) (by omega) 0)) (pw4 ht (d := k) (by have := hx.1; omega))
    have e1 : fS xs t (k + 1) = fS xs t k + xs.getD k 0 * pw t k := rfl
    rw [e1]; omega
theorem ref_Tide (w : World) (v : Value) (xs : List Int) (t : Int) (hX : RdF encI 1 w.heap.size w v xs) (hx : Tidal xs) (ht : 0 ≤ t ∧ t ≤ 60) : Ret Tryz.prog 9 [v, .int .i64 t].toArray w (.int .i64 (tideV xs t)) := by
  refine Ret.of mixed tyTab Tryz.func9 rfl rfl ?_
  replace hX : RdF encI 1 (fnCx mixed tyTab Tryz.f9.ntmps w).B (fnCx mixed tyTab Tryz.f9.ntmps w).w0 v xs := hX
  have hl := hx.1
  refine W.sreg ?_
  refine WO.p rfl rfl ?_
  refine WO.nil ?_
  refine W.sreg ?_
  refine WO.p rfl rfl (WO.p rfl rfl ?_)
  refine WO.nil ?_
  refine W.seq ?_
  refine W.sreg ?_
  refine WO.p rfl rfl ?_
  refine WO.nil ?_
  refine W.block ?_
  refine W.loop3 (fun (k : Nat) (s : Int) (p : Int) => k ≤ xs.length ∧ s = fS xs t k ∧ p = pw t k)
    (fun (k : Nat) (s : Int) (p : Int) => [(7, .int .i64 (k : Int)), (6, .int .i64 p), (5, .int .i64 s), (0, v), (1, .int .i64 t)])
    (fun (k : Nat) (s : Int) (p : Int) => [])
    (fun (k : Nat) (s : Int) (p : Int) => xs.length - k) 0 0 1
    (by exact ⟨by omega, rfl, rfl⟩) ⟨rfl, rfl, rfl, rfl, rfl, trivial⟩ (by repeat (first | exact Sub.nil | refine Sub.cons (by repeat (first | exact Pick.head | apply Pick.tail)) ?_)) ?_
  rintro k s p ⟨hk, hs, hp⟩
  have h1 := fS_in hx ht (k := k) hk
  have h2 : k < xs.length → -259200000 ≤ xs.getD k 0 * pw t k ∧ xs.getD k 0 * pw t k ≤ 259200000 := fun h => mul20 (hx.2 _ (getD_mem h 0)) (pw4 ht (by omega))
  have h3 := pw_B ht (d := k) (by omega)
  have h4 : k < xs.length → 0 ≤ pw t k * t ∧ pw t k * t ≤ 777600000 := fun h => pw_B ht (d := k + 1) (by omega)
  subst hs
  subst hp
  refine W.seq ?_
  refine W.sreg ?_
  refine WO.p rfl rfl (WO.p rfl rfl ?_)
  refine' WO.len (n := _) rfl rfl ?hs rfl ?_
  case hs => (first | exact hX.sl)
  refine WO.p rfl rfl ?_
  refine WO.nil ?_
  refine W.cond_bl rfl (fun c1 => ?_) (fun c1 => ?_)
  · first
    | (exfalso; omega)
    | (refine W.skip ?_
       refine W.seq ?_
       refine W.block ?_
       refine W.sreg ?_
       refine WO.p rfl rfl (WO.p rfl rfl (WO.p rfl rfl ?_))
       refine' WO.indexAddr (n := _) (i := _) rfl rfl rfl ?hs ?h1 rfl ?_
       case hs => (first | exact hX.sl)
       case h1 => (first | omega | (simp; omega))
       refine' WO.load (v := _) rfl rfl ?hc rfl ?_
       case hc => (first | (refine hX.cell0 ?_ 0 ?_ <;> first | rfl | omega))
       refine WO.p rfl rfl (WO.ar rfl rfl rfl (by (first | (unfold in64; omega) | (unfold in64; omega))) rfl (WO.ar rfl rfl rfl (by (first | (unfold in64; omega) | (unfold in64; omega))) rfl (WO.p rfl rfl ?_)))
       refine WO.nil ?_
       refine W.region ?_
       refine WO.p rfl rfl (WO.p rfl rfl (WO.ar rfl rfl rfl (by (first | (unfold in64; omega) | (unfold in64; omega))) rfl (WO.p rfl rfl ?_)))
       refine WO.nil ?_
       refine W.region ?_
       refine WO.p rfl rfl (WO.ar rfl rfl rfl (by (first | (unfold in64; omega) | (unfold in64; omega))) rfl (WO.p rfl rfl ?_))
       refine WO.nil ?_
       refine' ⟨k + 1, _, _, ?hp, ?hmu, ⟨rfl, rfl, rfl, rfl, rfl, trivial⟩, ?hS⟩
       case hS => repeat (first | exact Sub.nil | refine Sub.cons (by repeat (first | exact Pick.head | apply Pick.tail)) ?_)
       case hp => exact ⟨by omega, rfl, rfl⟩
       case hmu => omega)
  · first
    | (exfalso; omega)
    | (refine W.exit (blk_same ?_)
       refine W.sreg ?_
       refine WO.p rfl rfl (WO.p rfl rfl ?_)
       refine WO.nil ?_
       refine W.ret ?_
       obtain rfl : k = xs.length := by omega
       exact fin.ret (Res.one rfl (RV.tmp rfl)) (congrArg (Value.int .i64) (fS_all xs t)))
end Go.Proofs.YtnehaifgcegemaaGreat.Tr
namespace Go.TH
open Go
theorem addr_add_add (a : Addr) (m n : Nat) : (a.add m).add n = a.add (m + n) := by
  unfold Addr.add
  split <;> split <;> simp_all <;> (try omega)
section
variable {P : Program} {C : Cx P} {E : Env} {H : List HP}
variable {ops : Array Oper} {K : KP} {rest : List Oper} {d : Nat} {ty : TypeId} {pos : String} {af : Array Edge} {x y : Operand} {T : TypeId}
/-- a bound of a slice, if it is told -/
def bv : Option Value → Nat → Nat → Prop
  | none, dfl, n => n = dfl
  | some v, _, n => ∃ k, v = .int k (n : Int)
theorem run_bound {k : IntKind} {q y : Nat} {code : BoundsCode} {w : World} (hq : q ≤ y) : (Instr.sliceBound (.int k (q : Int)) y code).run P w = .ok q w := by
  have hq' : (q : Int) ≤ (y : Int) := by omega
  simp [Instr.sliceBound, asIntOf, hq', go_sem]
theorem run_bounds {n c lo hi mx : Nat} {L0 H0 M0 : Option Value} {w : World} (hl : bv L0 0 lo) (hh : bv H0 n hi) (hm : bv M0 c mx) (hmh : M0.isSome = true → H0.isSome = true) (h1 : lo ≤ hi) (h2 : hi ≤ mx) (h3 : mx ≤ c) :
    (Instr.sliceBounds true n c L0 H0 M0).run P w = .ok (lo, hi, mx) w := by
  cases L0 <;> cases H0 <;> cases M0 <;> simp only [bv] at hl hh hm <;> first
    | (have := hmh rfl; simp at this; done)
    | skip
  · subst hl; subst hh; subst hm; simp [Instr.sliceBounds]
  · obtain ⟨k, rfl⟩ := hh; subst hl; subst hm; simp [Instr.sliceBounds, run_bound h2]
  · obtain ⟨k, rfl⟩ := hh; obtain ⟨k2, rfl⟩ := hm; subst hl; simp [Instr.sliceBounds, run_bound h2, run_bound h3]
  · obtain ⟨k, rfl⟩ := hl; subst hh; subst hm; simp [Instr.sliceBounds, run_bound h1]
  · obtain ⟨k, rfl⟩ := hl; obtain ⟨k2, rfl⟩ := hh; subst hm; simp [Instr.sliceBounds, run_bound h1, run_bound h2]
  · obtain ⟨k, rfl⟩ := hl; obtain ⟨k2, rfl⟩ := hh; obtain ⟨k3, rfl⟩ := hm; simp [Instr.sliceBounds, run_bound h1, run_bound h2, run_bound h3]
def bnd (E : Env) : Option Operand → Nat → Nat → Prop
  | none, dfl, n => n = dfl
  | some x, _, n => ∃ k, ev E x = some (.int k (n : Int))
theorem bnd.no {n : Nat} : bnd E none n n := rfl
theorem bnd.at {x : Operand} {k : IntKind} {dfl n : Nat} (h : ev E x = some (.int k (n : Int))) : bnd E (some x) dfl n := ⟨k, h⟩
theorem bnd.bv {N : Nat} {ac : Act} (hf : Fr N E ac) {o : Option Operand} {dfl n : Nat} (h : bnd E o dfl n) : bv (o.map ac.eval) dfl n := by
  cases o with
  | none => exact h
  | some x => obtain ⟨k, hk⟩ := h; exact ⟨k, hf.eval hk⟩
def ofs (a : Option Addr) (o : Nat) : Option Addr := a.map (·.add o)
/-- what is read in a part of a slice -/
theorem RdF.sub {α : Type} {enc : α → List Value} {sz B : Nat} {w : World} {a : Option Addr} {n c lo hi mx : Nat} {xs : List α} (h : RdF enc sz B w (.slice a n c) xs) (h1 : lo ≤ hi) (h2 : hi ≤ mx) (h3 : hi ≤ n) :
    RdF enc sz B w (.slice (if mx = lo then a else ofs a (lo * sz)) (hi - lo) (mx - lo)) ((xs.drop lo).take (hi - lo)) := by
  obtain ⟨hle, a', c', he, hb⟩ := h.sl
  have e1 : a' = a := by injection he with e1 e2 e3; exact e1.symm
  have e2 : n = xs.length := by injection he
  subst e1; subst e2
  have hlen : ((xs.drop lo).take (hi - lo)).length = hi - lo := by rw [List.length_take, List.length_drop]; omega
  rcases Nat.lt_or_ge lo hi with g | g
  · obtain ⟨b, o, rfl⟩ := hb (by omega)
    rw [if_neg (by omega)]
    refine ⟨⟨by omega, _, _, by rw [hlen], fun _ => ?_⟩, fun _ => ?_, fun i x hx j u hu => ?_⟩
    · exact ⟨b, o + lo * sz, by simp [ofs, Addr.add]⟩
    · have := h.blk (by omega)
      simpa [base, ofs, addr_add_block] using this
    · have hi2 : i < hi - lo := by
        have := (List.getElem?_eq_some_iff.1 hx).1; omega
      rw [List.getElem?_take_of_lt hi2, List.getElem?_drop] at hx
      have := h.cell _ x hx j u hu
      have e : (base (.slice (ofs (some ⟨b, o, none⟩) (lo * sz)) (hi - lo) (mx - lo))).add (i * sz) = (base (.slice (some ⟨b, o, none⟩) xs.length c)).add ((lo + i) * sz) := by
        show (Addr.add (Addr.add ⟨b, o, none⟩ (lo * sz)) (i * sz)) = Addr.add ⟨b, o, none⟩ ((lo + i) * sz)
        rw [addr_add_add, Nat.add_mul]
      rw [e]; exact this
  · have e0 : hi - lo = 0 := by omega
    rw [e0]
    refine ⟨⟨by simp, _, _, rfl, fun h => by simp at h⟩, fun h => by simp at h, fun i x hx => by simp at hx⟩
/-! ### make -/
/-! ### copy -/
/-! ### a field of some cells, of a value -/
end
end Go.TH
namespace Go.TH
open Go
section
variable {P : Program}
/-- a contract of a function that is handed pieces -/
def CtH (P : Program) (f : FuncId) (vs : List Value) (w : World) (Hp : List HP) (B : Nat) (Post : Value → List HP → Prop) : Prop :=
  ∀ M, (∀ b ∈ M, B ≤ b) → Inv w M Hp w → Ct P f vs.toArray w fun v w' => ∃ Hq, Post v Hq ∧ Inv w M Hq w'
theorem CtH.of {f : FuncId} {fn : Func} {c : Code} {vs : List Value} {w : World} {B : Nat} {Hp : List HP} {Pst : Value → List HP → Prop} (hm : P.follows .mixedOrders = true) (tt : TTab P) (hB : B ≤ w.heap.size)
    (hf : P.funcs[f]? = some fn) (hb : fn.body = some c) (ha : Nat.ble vs.length fn.ntmps = true)
    (h : ∀ M (hM : ∀ b ∈ M, B ≤ b), W (itCx hm tt fn.ntmps w M B hB hM) c (fin (itCx hm tt fn.ntmps w M B hB hM) fn Pst) (enumE 0 vs) Hp) : CtH P f vs w Hp B Pst := fun M hM hi =>
  Ct.of_W (M := M) (Hp := Hp) (itCx hm tt fn.ntmps w M B hB hM) rfl rfl rfl hf hb rfl (by simpa [itCx] using Nat.ble_eq.mp ha) (fun t v hv => by
    have := lk_enumE vs 0 t v hv
    simpa using this.2) (h M hM) hi
theorem CtH.mono {f : FuncId} {vs : List Value} {w : World} {Hp Hp' : List HP} {B : Nat} {Post Post' : Value → List HP → Prop} (h : CtH P f vs w Hp B Post) (hp : ∀ h, sat Hp' h → sat Hp h) (hq : ∀ v Hq, Post v Hq → ∃ Hq', Post' v Hq' ∧ ∀ h, sat Hq h → sat Hq' h) : CtH P f vs w Hp' B Post' := fun M hM hi =>
  (h M hM (Inv.chg (L := []) hi hp)).mono fun _ _ ⟨Hq, p, hi'⟩ => by
    obtain ⟨Hq', p', hh⟩ := hq _ Hq p
    exact ⟨Hq', p', Inv.chg (L := []) hi' hh⟩
variable {C : Cx P} {E : Env} {H : List HP}
variable {ops : Array Oper} {K : KP} {rest : List Oper} {d : Nat} {ty : TypeId} {pos : String} {af : Array Edge} {x : Operand} {xs : List Operand} {ats : Array TypeId} {vs : List Value} {f : FuncId}
/-- a round: handed the pieces Hp it hands back whether it goes on, and leaves the pieces Hq -/
def YieldB (P : Program) (B : Nat) (wr : World) (l : Nat) (args : Array Value) (go : Bool) (Hp Hq : List HP) : Prop :=
  ∀ w M', B ≤ w.heap.size → (∀ k, k < B → w.heap[k]? = wr.heap[k]?) → (∀ b ∈ M', B ≤ b) → Inv w M' Hp w →
    ∃ f tmps assign body, (Instr.yield l args).run P w = .ok (.round l f tmps assign body) w ∧ RoundIn Fence.wide 0 P l f tmps assign body w (fun e w' => e = .returned (.bool go) ∧ Inv w M' Hq w')
theorem YieldB.one {B : Nat} {wr : World} {l : Nat} {args : Array Value} {go : Bool} {A : HP} {Hp Hq : List HP} (h : YieldB P B wr l args go (A :: Hp) Hq) : YieldB P B wr l args go [A, sat Hp] [sat Hq] := fun w M' h1 h2 h3 h4 => by
  have e : Inv w M' (A :: Hp) w := by
    have := Inv.chg (L := [A]) h4 (sat_many (Hs := Hp) (H := []))
    simpa using this
  obtain ⟨f, tmps, as9, body, hr, hd⟩ := h w M' h1 h2 h3 e
  refine ⟨f, tmps, as9, body, hr, RoundIn.mono hd ?_⟩
  rintro e w' ⟨rfl, hi⟩
  refine ⟨rfl, ?_⟩
  have := Inv.chg (L := []) (H := Hq ++ []) (by simpa using hi) (sat_one (Hs := Hq) (H := []))
  simpa using this
theorem YieldB.agree {B : Nat} {wr w0 : World} {l : Nat} {args : Array Value} {go : Bool} {Hp Hq : List HP} (h : YieldB P B wr l args go Hp Hq) (hk : ∀ k, k < B → w0.heap[k]? = wr.heap[k]?) : YieldB P B w0 l args go Hp Hq := fun w M' h1 h2 h3 h4 =>
  h w M' h1 (fun k hlt => by rw [h2 k hlt, hk k hlt]) h3 h4
/-- how a round that does not go on is left -/
inductive Jmp where
  | ret
  | exit (id : Nat)
def Jmp.ex : Jmp → Exit
  | .ret => .ret
  | .exit id => .exit id
def Jmp.code : Jmp → Code
  | .ret => .ret
  | .exit id => .exit id
theorem Jmp.round {F : Fence} {l : Nat} {R : Ending → World → Prop} (j : Jmp) {a : Act} {w : World} (h : ∃ v w', (Instr.endRound l (some j.code)).run P w = .ok v w' ∧ R (.returned v) w') : roundPost P l R j.ex a w := by
  cases j <;> exact h
theorem Jmp.run {F : Fence} {n : Nat} {Q : Exit → Act → World → Prop} (j : Jmp) {a : Act} {w : World} (h : Q j.ex a w) : (j.code).wpIn F n P Q a w := by
  cases j
  · exact wpIn_ret h
  · exact wpIn_exit h
/-- what is asked at a round's end -/
def endR (go : Bool) (j : Jmp) (H' : List HP) : Post := fun e _ H3 => e = (if go then .normal else j.ex) ∧ ∀ h, sat H3 h → sat H' h
theorem endR.go {go : Bool} {j : Jmp} {H' H3 : List HP} {E3 : Env} (h : go = true) (s : ∀ h, sat H3 h → sat H' h) : endR go j H' .normal E3 H3 := ⟨by rw [h]; rfl, s⟩
end
section
variable {P : Program} {C : Cx P} {E : Env} {H : List HP}
end
end Go.TH
namespace Go.TH
open Go
section
variable {P : Program} {C : Cx P} {E : Env} {H : List HP}
variable {ops : Array Oper} {K : KP} {rest : List Oper} {d : Nat} {ty : TypeId} {pos : String} {af : Array Edge} {x y z : Operand} {T : TypeId}
/-! ### maps whose keys are whole numbers -/
theorem CtH.ofI {X : Type} {p : X → Value → Prop} {Hx : X → List HP} {f : FuncId} {fn : Func} {c : Code} {vs : List Value} {w : World} {B : Nat} {Hp : List HP} (hm : P.follows .mixedOrders = true) (tt : TTab P) (hB : B ≤ w.heap.size)
    (hf : P.funcs[f]? = some fn) (hb : fn.body = some c) (ha : Nat.ble vs.length fn.ntmps = true)
    (h : ∀ M (hM : ∀ b ∈ M, B ≤ b), W (itCx hm tt fn.ntmps w M B hB hM) c (fin (itCx hm tt fn.ntmps w M B hB hM) fn (fun v H => ∃ x, p x v ∧ ∀ h, sat H h → sat (Hx x) h)) (enumE 0 vs) Hp) : CtH P f vs w Hp B (fun v Hq => ∃ x, p x v ∧ Hq = Hx x) := fun M hM hi =>
  (CtH.of hm tt hB hf hb ha h M hM hi).mono fun _ _ ⟨_, ⟨x, hp, hq⟩, hv⟩ => ⟨Hx x, ⟨x, hp, rfl⟩, Inv.chg (L := []) hv hq⟩
end
section
variable {P : Program} {α : Type} {enc : α → List Value} {e sz : Nat}
theorem RowsE.up : ∀ {rv : List Value} {xss : List (List α)} {h h1 h2 : Hp}, Split h h1 h2 → RowsE enc e sz rv xss h1 → RowsE enc e sz rv xss h
  | [], [], _, _, _, _, _ => trivial
  | _ :: _, _ :: _, _, _, _, s, ⟨_, _, t, x, r⟩ => by
    obtain ⟨r', t1, t2⟩ := split_assoc s.comm t.comm
    exact ⟨_, r', t1.comm, x, RowsE.up t2.comm r⟩
  | [], _ :: _, _, _, _, _, a => a.elim
  | _ :: _, [], _, _, _, _, a => a.elim
theorem RowsE.app : ∀ {rv rv' : List Value} {xss xss' : List (List α)} {h h1 h2 : Hp}, Split h h1 h2 → RowsE enc e sz rv xss h1 → RowsE enc e sz rv' xss' h2 → RowsE enc e sz (rv ++ rv') (xss ++ xss') h := by
  intro rv rv' xss xss' h h1 h2 s a b
  induction rv' generalizing rv xss xss' h h1 h2 with
  | nil =>
    have := RowsE.len b
    cases xss' with
    | nil =>
      rw [List.append_nil, List.append_nil]
      exact RowsE.up s a
    | cons _ _ => simp at this
  | cons r rv' ih =>
    cases xss' with
    | nil => have := RowsE.len b; simp at this
    | cons xs xss' =>
      obtain ⟨k1, k2, s2, hx, hr⟩ := b
      obtain ⟨r', t1, t2⟩ := split_assoc s s2
      have := RowsE.snoc t2 a hx
      have := ih t1 this hr
      simpa using this
theorem RowsE.oc : ∀ {rv : List Value} {xss : List (List α)} {h : Hp}, RowsE enc e sz rv xss h → ∀ u ∈ rv, u.oneCell' = true
  | [], [], _, _ => fun u hu => by simp at hu
  | r :: rv, xs :: xss, _, ⟨_, _, _, x, q⟩ => fun u hu => by
    rcases List.mem_cons.1 hu with rfl | hu
    · obtain ⟨_, hc⟩ := x
      rcases hc with ⟨rfl, _⟩ | ⟨g, cap, cur, rfl, _⟩ <;> rfl
    · exact RowsE.oc q u hu
  | [], _ :: _, _, h => h.elim
  | _ :: _, [], _, h => h.elim
end
end Go.TH
namespace Go.TH
open Go
section
variable {P : Program} {C : Cx P} {E : Env} {H : List HP} {ops : Array Oper} {K : KP} {rest : List Oper} {d : Nat} {ty : TypeId} {pos : String} {af : Array Edge} {x y : Operand} {T T' : TypeId} {k : IntKind} {a b : Int}
theorem WO.eqlT (hx : ev E x = some (.int k a)) (hy : ev E y = some (.int k b)) (hp : a = b) (hN : Nat.blt d C.N = true) (h : WO C ops rest K ((d, .bool true) :: E) H) : WO C ops (⟨some d, .binOp .eql T x y T', ty, pos, af, none⟩ :: rest) K E H :=
  WO.eql hx hy hN (by rw [bl_t.2 hp]; exact h)
theorem WO.neqF (hx : ev E x = some (.int k a)) (hy : ev E y = some (.int k b)) (hp : ¬ (a ≠ b)) (hN : Nat.blt d C.N = true) (h : WO C ops rest K ((d, .bool false) :: E) H) : WO C ops (⟨some d, .binOp .neq T x y T', ty, pos, af, none⟩ :: rest) K E H :=
  WO.neq hx hy hN (by rw [bl_f.2 hp]; exact h)
end
end Go.TH
namespace Go.TX
open Go Go.TH

/-! ## Trees keyed by numbers -/
/-- sixteen of a kind -/
structure N16 (α : Type) where
  (a0 a1 a2 a3 a4 a5 a6 a7 a8 a9 aa ab ac ad ae af : α)
def N16.all {α : Type} (x : α) : N16 α := ⟨x, x, x, x, x, x, x, x, x, x, x, x, x, x, x, x⟩
/-- how one of sixteen is read and set -/
structure Sel (α β : Type) where
  g : N16 α → α
  s : N16 α → α → (N16 α → β) → β

noncomputable def slt0 (α β : Type) : Sel α β := ⟨fun x => x.a0, fun x v k => N16.rec (motive := fun _ => α → (N16 α → β) → β) (fun a0 a1 a2 a3 a4 a5 a6 a7 a8 a9 aa ab ac ad ae af v k => k ⟨v, a1, a2, a3, a4, a5, a6, a7, a8, a9, aa, ab, ac, ad, ae, af⟩) x v k⟩
noncomputable def slt1 (α β : Type) : Sel α β := ⟨fun x => x.a1, fun x v k => N16.rec (motive := fun _ => α → (N16 α → β) → β) (fun a0 a1 a2 a3 a4 a5 a6 a7 a8 a9 aa ab ac ad ae af v k => k ⟨a0, v, a2, a3, a4, a5, a6, a7, a8, a9, aa, ab, ac, ad, ae, af⟩) x v k⟩
noncomputable def slt2 (α β : Type) : Sel α β := ⟨fun x => x.a2, fun x v k => N16.rec (motive := fun _ => α → (N16 α → β) → β) (fun a0 a1 a2 a3 a4 a5 a6 a7 a8 a9 aa ab ac ad ae af v k => k ⟨a0, a1, v, a3, a4, a5, a6, a7, a8, a9, aa, ab, ac, ad, ae, af⟩) x v k⟩
noncomputable def slt3 (α β : Type) : Sel α β := ⟨fun x => x.a3, fun x v k => N16.rec (motive := fun _ => α → (N16 α → β) → β) (fun a0 a1 a2 a3 a4 a5 a6 a7 a8 a9 aa ab ac ad ae af v k => k ⟨a0, a1, a2, v, a4, a5, a6, a7, a8, a9, aa, ab, ac, ad, ae, af⟩) x v k⟩
noncomputable def slt4 (α β : Type) : Sel α β := ⟨fun x => x.a4, fun x v k => N16.rec (motive := fun _ => α → (N16 α → β) → β) (fun a0 a1 a2 a3 a4 a5 a6 a7 a8 a9 aa ab ac ad ae af v k => k ⟨a0, a1, a2, a3, v, a5, a6, a7, a8, a9, aa, ab, ac, ad, ae, af⟩) x v k⟩
noncomputable def slt5 (α β : Type) : Sel α β := ⟨fun x => x.a5, fun x v k => N16.rec (motive := fun _ => α → (N16 α → β) → β) (fun a0 a1 a2 a3 a4 a5 a6 a7 a8 a9 aa ab ac ad ae af v k => k ⟨a0, a1, a2, a3, a4, v, a6, a7, a8, a9, aa, ab, ac, ad, ae, af⟩) x v k⟩
noncomputable def slt6 (α β : Type) : Sel α β := ⟨fun x => x.a6, fun x v k => N16.rec (motive := fun _ => α → (N16 α → β) → β) (fun a0 a1 a2 a3 a4 a5 a6 a7 a8 a9 aa ab ac ad ae af v k => k ⟨a0, a1, a2, a3, a4, a5, v, a7, a8, a9, aa, ab, ac, ad, ae, af⟩) x v k⟩
noncomputable def slt7 (α β : Type) : Sel α β := ⟨fun x => x.a7, fun x v k => N16.rec (motive := fun _ => α → (N16 α → β) → β) (fun a0 a1 a2 a3 a4 a5 a6 a7 a8 a9 aa ab ac ad ae af v k => k ⟨a0, a1, a2, a3, a4, a5, a6, v, a8, a9, aa, ab, ac, ad, ae, af⟩) x v k⟩
noncomputable def slt8 (α β : Type) : Sel α β := ⟨fun x => x.a8, fun x v k => N16.rec (motive := fun _ => α → (N16 α → β) → β) (fun a0 a1 a2 a3 a4 a5 a6 a7 a8 a9 aa ab ac ad ae af v k => k ⟨a0, a1, a2, a3, a4, a5, a6, a7, v, a9, aa, ab, ac, ad, ae, af⟩) x v k⟩
noncomputable def slt9 (α β : Type) : Sel α β := ⟨fun x => x.a9, fun x v k => N16.rec (motive := fun _ => α → (N16 α → β) → β) (fun a0 a1 a2 a3 a4 a5 a6 a7 a8 a9 aa ab ac ad ae af v k => k ⟨a0, a1, a2, a3, a4, a5, a6, a7, a8, v, aa, ab, ac, ad, ae, af⟩) x v k⟩
noncomputable def slta (α β : Type) : Sel α β := ⟨fun x => x.aa, fun x v k => N16.rec (motive := fun _ => α → (N16 α → β) → β) (fun a0 a1 a2 a3 a4 a5 a6 a7 a8 a9 aa ab ac ad ae af v k => k ⟨a0, a1, a2, a3, a4, a5, a6, a7, a8, a9, v, ab, ac, ad, ae, af⟩) x v k⟩
noncomputable def sltb (α β : Type) : Sel α β := ⟨fun x => x.ab, fun x v k => N16.rec (motive := fun _ => α → (N16 α → β) → β) (fun a0 a1 a2 a3 a4 a5 a6 a7 a8 a9 aa ab ac ad ae af v k => k ⟨a0, a1, a2, a3, a4, a5, a6, a7, a8, a9, aa, v, ac, ad, ae, af⟩) x v k⟩
noncomputable def sltc (α β : Type) : Sel α β := ⟨fun x => x.ac, fun x v k => N16.rec (motive := fun _ => α → (N16 α → β) → β) (fun a0 a1 a2 a3 a4 a5 a6 a7 a8 a9 aa ab ac ad ae af v k => k ⟨a0, a1, a2, a3, a4, a5, a6, a7, a8, a9, aa, ab, v, ad, ae, af⟩) x v k⟩
noncomputable def sltd (α β : Type) : Sel α β := ⟨fun x => x.ad, fun x v k => N16.rec (motive := fun _ => α → (N16 α → β) → β) (fun a0 a1 a2 a3 a4 a5 a6 a7 a8 a9 aa ab ac ad ae af v k => k ⟨a0, a1, a2, a3, a4, a5, a6, a7, a8, a9, aa, ab, ac, v, ae, af⟩) x v k⟩
noncomputable def slte (α β : Type) : Sel α β := ⟨fun x => x.ae, fun x v k => N16.rec (motive := fun _ => α → (N16 α → β) → β) (fun a0 a1 a2 a3 a4 a5 a6 a7 a8 a9 aa ab ac ad ae af v k => k ⟨a0, a1, a2, a3, a4, a5, a6, a7, a8, a9, aa, ab, ac, ad, v, af⟩) x v k⟩
noncomputable def sltf (α β : Type) : Sel α β := ⟨fun x => x.af, fun x v k => N16.rec (motive := fun _ => α → (N16 α → β) → β) (fun a0 a1 a2 a3 a4 a5 a6 a7 a8 a9 aa ab ac ad ae af v k => k ⟨a0, a1, a2, a3, a4, a5, a6, a7, a8, a9, aa, ab, ac, ad, ae, v⟩) x v k⟩
noncomputable def sel (α β : Type) (n : Nat) : Sel α β := Nat.rec (motive := fun _ => Sel α β) (slt0 α β) (fun n _ => Nat.rec (motive := fun _ => Sel α β) (slt1 α β) (fun n _ => Nat.rec (motive := fun _ => Sel α β) (slt2 α β) (fun n _ => Nat.rec (motive := fun _ => Sel α β) (slt3 α β) (fun n _ => Nat.rec (motive := fun _ => Sel α β) (slt4 α β) (fun n _ => Nat.rec (motive := fun _ => Sel α β) (slt5 α β) (fun n _ => Nat.rec (motive := fun _ => Sel α β) (slt6 α β) (fun n _ => Nat.rec (motive := fun _ => Sel α β) (slt7 α β) (fun n _ => Nat.rec (motive := fun _ => Sel α β) (slt8 α β) (fun n _ => Nat.rec (motive := fun _ => Sel α β) (slt9 α β) (fun n _ => Nat.rec (motive := fun _ => Sel α β) (slta α β) (fun n _ => Nat.rec (motive := fun _ => Sel α β) (sltb α β) (fun n _ => Nat.rec (motive := fun _ => Sel α β) (sltc α β) (fun n _ => Nat.rec (motive := fun _ => Sel α β) (sltd α β) (fun n _ => Nat.rec (motive := fun _ => Sel α β) (slte α β) (fun n _ => sltf α β) n) n) n) n) n) n) n) n) n) n) n) n) n) n) n
theorem sel_cases {p : Nat → Prop} (h0 : p 0) (h1 : p 1) (h2 : p 2) (h3 : p 3) (h4 : p 4) (h5 : p 5) (h6 : p 6) (h7 : p 7) (h8 : p 8) (h9 : p 9) (h10 : p 10) (h11 : p 11) (h12 : p 12) (h13 : p 13) (h14 : p 14) (h15 : p 15) : ∀ i, i < 16 → p i
  | 0, _ => h0
  | 1, _ => h1
  | 2, _ => h2
  | 3, _ => h3
  | 4, _ => h4
  | 5, _ => h5
  | 6, _ => h6
  | 7, _ => h7
  | 8, _ => h8
  | 9, _ => h9
  | 10, _ => h10
  | 11, _ => h11
  | 12, _ => h12
  | 13, _ => h13
  | 14, _ => h14
  | 15, _ => h15
  | n + 16, h => absurd h (by omega)
theorem sel_s {α β : Type} (x : N16 α) (v : α) (k : N16 α → β) : ∀ i, i < 16 → (sel α β i).s x v k = k ((sel α (N16 α) i).s x v id) := by
  refine sel_cases ?_ ?_ ?_ ?_ ?_ ?_ ?_ ?_ ?_ ?_ ?_ ?_ ?_ ?_ ?_ ?_ <;> rfl
theorem sel_gs {α : Type} (β : Type) (x : N16 α) (v : α) : ∀ i, i < 16 → ∀ j, j < 16 → (sel α β j).g ((sel α (N16 α) i).s x v id) = if j = i then v else (sel α β j).g x := by
  refine sel_cases ?_ ?_ ?_ ?_ ?_ ?_ ?_ ?_ ?_ ?_ ?_ ?_ ?_ ?_ ?_ ?_ <;> refine sel_cases ?_ ?_ ?_ ?_ ?_ ?_ ?_ ?_ ?_ ?_ ?_ ?_ ?_ ?_ ?_ ?_ <;> rfl
theorem sel_all {α : Type} (β : Type) (x : α) : ∀ i, i < 16 → (sel α β i).g (N16.all x) = x := by
  refine sel_cases ?_ ?_ ?_ ?_ ?_ ?_ ?_ ?_ ?_ ?_ ?_ ?_ ?_ ?_ ?_ ?_ <;> rfl
/-- a tree keyed by bits: for the keys that are far up -/
inductive Ob (α : Type) where
  | lf
  | nd (v : Option α) (l r : Ob α)
namespace Ob
variable {α : Type}
def get : Ob α → Nat → Option α
  | .lf, _ => none
  | .nd v l r, n => match n with
    | 0 => v
    | m + 1 => bif Nat.beq (m % 2) 0 then l.get (m / 2) else r.get (m / 2)
def one (x : Option α) : Nat → Nat → Ob α
  | 0, _ => .lf
  | f + 1, n => match n with
    | 0 => .nd x .lf .lf
    | m + 1 => bif Nat.beq (m % 2) 0 then .nd none (one x f (m / 2)) .lf else .nd none .lf (one x f (m / 2))
def set : Ob α → Nat → Option α → Ob α
  | .lf, n, x => one x (n + 1) n
  | .nd v l r, n, x => match n with
    | 0 => .nd x l r
    | m + 1 => bif Nat.beq (m % 2) 0 then .nd v (l.set (m / 2) x) r else .nd v l (r.set (m / 2) x)
theorem get_lf (n : Nat) : (lf : Ob α).get n = none := rfl
theorem get_one (x : Option α) : ∀ (f n k : Nat), n < f → (one x f n).get k = if k = n then x else none
  | 0, _, _, h => by omega
  | f + 1, n, k, h => by
    cases n with
    | zero => cases k <;> simp [one, get]
    | succ m =>
      simp only [one]
      have hm : m / 2 < f := by omega
      cases k with
      | zero => cases hb : Nat.beq (m % 2) 0 <;> simp [get]
      | succ j =>
        cases hb : Nat.beq (m % 2) 0 <;> cases hj : Nat.beq (j % 2) 0 <;> simp only [cond_true, cond_false, get, hj]
        · rw [get_one x f _ _ hm]
          have hb' : m % 2 ≠ 0 := fun e => by rw [e] at hb; cases hb
          have hj' : j % 2 ≠ 0 := fun e => by rw [e] at hj; cases hj
          by_cases e : j = m
          · subst e; simp
          · rw [if_neg (by omega), if_neg (by omega)]
        · rw [if_neg]
          intro e
          have : j = m := by omega
          subst this; rw [hb] at hj; cases hj
        · rw [if_neg]
          intro e
          have : j = m := by omega
          subst this; rw [hb] at hj; cases hj
        · rw [get_one x f _ _ hm]
          have hb' : m % 2 = 0 := Nat.eq_of_beq_eq_true hb
          have hj' : j % 2 = 0 := Nat.eq_of_beq_eq_true hj
          by_cases e : j = m
          · subst e; simp
          · rw [if_neg (by omega), if_neg (by omega)]
theorem get_set : ∀ (t : Ob α) (n k : Nat) (x : Option α), (t.set n x).get k = if k = n then x else t.get k
  | .lf, n, k, x => by rw [set, get_one x (n + 1) n k (by omega)]; simp [get]
  | .nd v l r, n, k, x => by
    cases n with
    | zero => cases k <;> simp [set, get]
    | succ m =>
      cases k with
      | zero => cases hb : Nat.beq (m % 2) 0 <;> simp [set, get, hb]
      | succ j =>
        simp only [set]
        cases hb : Nat.beq (m % 2) 0 <;> cases hj : Nat.beq (j % 2) 0 <;> simp only [cond_true, cond_false, get, hj]
        · rw [get_set r]
          have hb' : m % 2 ≠ 0 := fun e => by rw [e] at hb; cases hb
          have hj' : j % 2 ≠ 0 := fun e => by rw [e] at hj; cases hj
          by_cases e : j = m
          · subst e; simp
          · rw [if_neg (by omega), if_neg (by omega)]
        · rw [if_neg]
          intro e
          have : j = m := by omega
          subst this; rw [hb] at hj; cases hj
        · rw [if_neg]
          intro e
          have : j = m := by omega
          subst this; rw [hb] at hj; cases hj
        · rw [get_set l]
          have hb' : m % 2 = 0 := Nat.eq_of_beq_eq_true hb
          have hj' : j % 2 = 0 := Nat.eq_of_beq_eq_true hj
          by_cases e : j = m
          · subst e; simp
          · rw [if_neg (by omega), if_neg (by omega)]
end Ob
structure Tr (α : Type) where
  lo : N16 (N16 (Option α))
  hi : N16 (N16 (N16 (N16 (Option α))))
  up : Ob α
namespace Tr
variable {α β : Type}
def lf : Tr α := ⟨.all (.all none), .all (.all (.all (.all none))), .lf⟩
/-- how a key is read and set -/
structure Acc (α β : Type) where
  g : Tr α → Option α
  s : Tr α → Option α → (Tr α → β) → β
noncomputable def acLo (x : Sel (N16 (Option α)) β) (y : Sel (Option α) β) : Acc α β := Sel.rec (motive := fun _ => Acc α β) (fun gx sx => Sel.rec (motive := fun _ => Acc α β) (fun gy sy => ⟨fun t => gy (gx t.lo), fun t v k => Tr.rec (motive := fun _ => Option α → (Tr α → β) → β) (fun lo hi up v k => sy (gx lo) v fun q => sx lo q fun lo' => k ⟨lo', hi, up⟩) t v k⟩) y) x
noncomputable def acHi (x : Sel (N16 (N16 (N16 (Option α)))) β) (y : Sel (N16 (N16 (Option α))) β) (z : Sel (N16 (Option α)) β) (u : Sel (Option α) β) : Acc α β := Sel.rec (motive := fun _ => Acc α β) (fun gx sx => Sel.rec (motive := fun _ => Acc α β) (fun gy sy => Sel.rec (motive := fun _ => Acc α β) (fun gz sz => Sel.rec (motive := fun _ => Acc α β) (fun gu su => ⟨fun t => gu (gz (gy (gx t.hi))), fun t v k => Tr.rec (motive := fun _ => Option α → (Tr α → β) → β) (fun lo hi up v k => su (gz (gy (gx hi))) v fun q => sz (gy (gx hi)) q fun q => sy (gx hi) q fun q => sx hi q fun hi' => k ⟨lo, hi', up⟩) t v k⟩) u) z) y) x
noncomputable def acUp (n : Nat) : Acc α β := ⟨fun t => t.up.get n, fun t v k => k ⟨t.lo, t.hi, t.up.set n v⟩⟩
noncomputable def acc (n : Nat) : Acc α β := Bool.rec (motive := fun _ => Acc α β) (Bool.rec (motive := fun _ => Acc α β) (acUp n) (acHi (sel _ _ (Nat.div n 4096)) (sel _ _ (Nat.mod (Nat.div n 256) 16)) (sel _ _ (Nat.mod (Nat.div n 16) 16)) (sel _ _ (Nat.mod n 16))) (Nat.ble (Nat.succ n) 65536)) (acLo (sel _ _ (Nat.div n 16)) (sel _ _ (Nat.mod n 16))) (Nat.ble (Nat.succ n) 256)
noncomputable def get (t : Tr α) (n : Nat) : Option α := Acc.rec (motive := fun _ => Option α) (fun g _ => g t) (acc (α := α) (β := Unit) n)
noncomputable def setK (t : Tr α) (n : Nat) (x : Option α) (k : Tr α → β) : β := Acc.rec (motive := fun _ => β) (fun _ s => s t x k) (acc n)
noncomputable def set (t : Tr α) (n : Nat) (x : Option α) : Tr α := setK t n x id
theorem acc_lo {n : Nat} (h : n < 256) : (acc n : Acc α β) = acLo (sel _ _ (n / 16)) (sel _ _ (n % 16)) := by
  have : Nat.ble (Nat.succ n) 256 = true := Nat.ble_eq.mpr h
  rw [acc, this]; rfl
theorem acc_hi {n : Nat} (h : ¬ n < 256) (h' : n < 65536) : (acc n : Acc α β) = acHi (sel _ _ (n / 4096)) (sel _ _ (n / 256 % 16)) (sel _ _ (n / 16 % 16)) (sel _ _ (n % 16)) := by
  have e : Nat.ble (Nat.succ n) 256 = false := Bool.eq_false_iff.2 (fun q => h (by have := Nat.ble_eq.mp q; omega))
  have e' : Nat.ble (Nat.succ n) 65536 = true := Nat.ble_eq.mpr h'
  rw [acc, e, e']; rfl
theorem acc_up {n : Nat} (h : ¬ n < 65536) : (acc n : Acc α β) = acUp n := by
  have e : Nat.ble (Nat.succ n) 256 = false := Bool.eq_false_iff.2 (fun q => h (by have := Nat.ble_eq.mp q; omega))
  have e' : Nat.ble (Nat.succ n) 65536 = false := Bool.eq_false_iff.2 (fun q => h (by have := Nat.ble_eq.mp q; omega))
  rw [acc, e, e']
theorem get_loE (t : Tr α) {n : Nat} (h : n < 256) : t.get n = (sel _ Unit (n % 16)).g ((sel _ Unit (n / 16)).g t.lo) := by
  unfold get; rw [acc_lo h]
  generalize sel (N16 (Option α)) Unit (n / 16) = X; generalize sel (Option α) Unit (n % 16) = Y; rfl
theorem get_hiE (t : Tr α) {n : Nat} (h : ¬ n < 256) (h' : n < 65536) : t.get n = (sel _ Unit (n % 16)).g ((sel _ Unit (n / 16 % 16)).g ((sel _ Unit (n / 256 % 16)).g ((sel _ Unit (n / 4096)).g t.hi))) := by
  unfold get; rw [acc_hi h h']
  generalize sel (N16 (N16 (N16 (Option α)))) Unit (n / 4096) = X; generalize sel (N16 (N16 (Option α))) Unit (n / 256 % 16) = Y; generalize sel (N16 (Option α)) Unit (n / 16 % 16) = Z; generalize sel (Option α) Unit (n % 16) = U; rfl
theorem get_upE (t : Tr α) {n : Nat} (h : ¬ n < 65536) : t.get n = t.up.get n := by unfold get; rw [acc_up h]; rfl
theorem get_any (t : Tr α) (n : Nat) : t.get n = (acc (α := α) (β := β) n).g t := by
  have hg : ∀ {δ : Type} (i : Nat), i < 16 → (sel δ Unit i).g = (sel δ β i).g := by
    intro δ
    refine sel_cases ?_ ?_ ?_ ?_ ?_ ?_ ?_ ?_ ?_ ?_ ?_ ?_ ?_ ?_ ?_ ?_ <;> rfl
  by_cases h : n < 256
  · rw [get_loE t h, acc_lo h, hg _ (by omega), hg _ (by omega)]
    generalize sel (N16 (Option α)) β (n / 16) = X; generalize sel (Option α) β (n % 16) = Y; rfl
  · by_cases h' : n < 65536
    · rw [get_hiE t h h', acc_hi h h', hg _ (by omega), hg _ (by omega), hg _ (by omega), hg _ (by omega)]
      generalize sel (N16 (N16 (N16 (Option α)))) β (n / 4096) = X; generalize sel (N16 (N16 (Option α))) β (n / 256 % 16) = Y; generalize sel (N16 (Option α)) β (n / 16 % 16) = Z; generalize sel (Option α) β (n % 16) = U; rfl
    · rw [get_upE t h', acc_up h']; rfl
theorem setK_loE (t : Tr α) {n : Nat} (x : Option α) (k : Tr α → β) (h : n < 256) : t.setK n x k = k ⟨(sel _ (N16 (N16 (Option α))) (n / 16)).s t.lo ((sel _ (N16 (Option α)) (n % 16)).s ((sel _ Unit (n / 16)).g t.lo) x id) id, t.hi, t.up⟩ := by
  unfold setK
  rw [acc_lo h]
  have hg : (sel (N16 (Option α)) β (n / 16)).g = (sel (N16 (Option α)) Unit (n / 16)).g := by
    have hg : ∀ {δ : Type} (i : Nat), i < 16 → (sel δ β i).g = (sel δ Unit i).g := by
      intro δ
      refine sel_cases ?_ ?_ ?_ ?_ ?_ ?_ ?_ ?_ ?_ ?_ ?_ ?_ ?_ ?_ ?_ ?_ <;> rfl
    exact hg _ (by omega)
  have hX := fun x v k => @sel_s (N16 (Option α)) β x v k (n / 16) (by omega)
  have hY := fun x v k => @sel_s (Option α) β x v k (n % 16) (by omega)
  rw [← hg]
  generalize sel (N16 (Option α)) β (n / 16) = X at *
  generalize sel (Option α) β (n % 16) = Y at *
  show Y.s (X.g t.lo) x _ = _
  rw [hY, hX]
theorem setK_hiE (t : Tr α) {n : Nat} (x : Option α) (k : Tr α → β) (h : ¬ n < 256) (h' : n < 65536) : t.setK n x k = k ⟨t.lo, (sel _ (N16 (N16 (N16 (N16 (Option α))))) (n / 4096)).s t.hi ((sel _ (N16 (N16 (N16 (Option α)))) (n / 256 % 16)).s ((sel _ Unit (n / 4096)).g t.hi) ((sel _ (N16 (N16 (Option α))) (n / 16 % 16)).s ((sel _ Unit (n / 256 % 16)).g ((sel _ Unit (n / 4096)).g t.hi)) ((sel _ (N16 (Option α)) (n % 16)).s ((sel _ Unit (n / 16 % 16)).g ((sel _ Unit (n / 256 % 16)).g ((sel _ Unit (n / 4096)).g t.hi))) x id) id) id) id, t.up⟩ := by
  unfold setK
  rw [acc_hi h h']
  have hg : ∀ {δ : Type} (i : Nat), i < 16 → (sel δ β i).g = (sel δ Unit i).g := by
    intro δ
    refine sel_cases ?_ ?_ ?_ ?_ ?_ ?_ ?_ ?_ ?_ ?_ ?_ ?_ ?_ ?_ ?_ ?_ <;> rfl
  have hX := fun x v k => @sel_s (N16 (N16 (N16 (Option α)))) β x v k (n / 4096) (by omega)
  have hY := fun x v k => @sel_s (N16 (N16 (Option α))) β x v k (n / 256 % 16) (by omega)
  have hZ := fun x v k => @sel_s (N16 (Option α)) β x v k (n / 16 % 16) (by omega)
  have hU := fun x v k => @sel_s (Option α) β x v k (n % 16) (by omega)
  rw [← hg (n / 4096) (by omega), ← hg (n / 256 % 16) (by omega), ← hg (n / 16 % 16) (by omega)]
  generalize sel (N16 (N16 (N16 (Option α)))) β (n / 4096) = X at *
  generalize sel (N16 (N16 (Option α))) β (n / 256 % 16) = Y at *
  generalize sel (N16 (Option α)) β (n / 16 % 16) = Z at *
  generalize sel (Option α) β (n % 16) = U at *
  show U.s (Z.g (Y.g (X.g t.hi))) x _ = _
  rw [hU, hZ, hY, hX]
theorem setK_eq (t : Tr α) (n : Nat) (x : Option α) (k : Tr α → β) : t.setK n x k = k (t.set n x) := by
  unfold set
  by_cases h : n < 256
  · rw [setK_loE t x k h, setK_loE t x id h]; rfl
  · by_cases h' : n < 65536
    · rw [setK_hiE t x k h h', setK_hiE t x id h h']; rfl
    · unfold setK; rw [acc_up h', acc_up h']; rfl
theorem set_loE (t : Tr α) {n : Nat} (x : Option α) (h : n < 256) : t.set n x = ⟨(sel _ _ (n / 16)).s t.lo ((sel _ _ (n % 16)).s ((sel _ Unit (n / 16)).g t.lo) x id) id, t.hi, t.up⟩ := setK_loE t x id h
theorem set_hiE (t : Tr α) {n : Nat} (x : Option α) (h : ¬ n < 256) (h' : n < 65536) : t.set n x = ⟨t.lo, (sel _ _ (n / 4096)).s t.hi ((sel _ _ (n / 256 % 16)).s ((sel _ Unit (n / 4096)).g t.hi) ((sel _ _ (n / 16 % 16)).s ((sel _ Unit (n / 256 % 16)).g ((sel _ Unit (n / 4096)).g t.hi)) ((sel _ _ (n % 16)).s ((sel _ Unit (n / 16 % 16)).g ((sel _ Unit (n / 256 % 16)).g ((sel _ Unit (n / 4096)).g t.hi))) x id) id) id) id, t.up⟩ := setK_hiE t x id h h'
theorem set_upE (t : Tr α) {n : Nat} (x : Option α) (h : ¬ n < 65536) : t.set n x = ⟨t.lo, t.hi, t.up.set n x⟩ := by
  unfold set setK
  rw [acc_up h]; rfl
theorem get_lf (n : Nat) : (lf : Tr α).get n = none := by
  by_cases h : n < 256
  · rw [get_loE _ h]
    show (sel _ Unit (n % 16)).g ((sel _ Unit (n / 16)).g (.all (.all none))) = none
    rw [sel_all _ _ _ (by omega), sel_all _ _ _ (by omega)]
  · by_cases h' : n < 65536
    · rw [get_hiE _ h h']
      show (sel _ Unit (n % 16)).g ((sel _ Unit (n / 16 % 16)).g ((sel _ Unit (n / 256 % 16)).g ((sel _ Unit (n / 4096)).g (.all (.all (.all (.all none))))))) = none
      rw [sel_all _ _ _ (by omega), sel_all _ _ _ (by omega), sel_all _ _ _ (by omega), sel_all _ _ _ (by omega)]
    · rw [get_upE _ h']; rfl
theorem get_set (t : Tr α) (n k : Nat) (x : Option α) : (t.set n x).get k = if k = n then x else t.get k := by
  by_cases h : n < 256
  · rw [set_loE t x h]
    by_cases hk : k < 256
    · rw [get_loE _ hk, get_loE _ hk]
      simp only
      rw [sel_gs _ _ _ _ (by omega) _ (by omega)]
      by_cases e : k / 16 = n / 16
      · rw [if_pos e, sel_gs _ _ _ _ (by omega) _ (by omega), e]
        by_cases e2 : k % 16 = n % 16
        · rw [if_pos e2, if_pos (by omega)]
        · rw [if_neg e2, if_neg (by omega)]
      · rw [if_neg e, if_neg (by omega)]
    · rw [if_neg (by omega)]
      by_cases hk' : k < 65536
      · rw [get_hiE _ hk hk', get_hiE _ hk hk']
      · rw [get_upE _ hk', get_upE _ hk']
  · by_cases h' : n < 65536
    · rw [set_hiE t x h h']
      by_cases hk : k < 256
      · rw [get_loE _ hk, get_loE _ hk, if_neg (by omega)]
      · by_cases hk' : k < 65536
        · rw [get_hiE _ hk hk', get_hiE _ hk hk']
          simp only
          rw [sel_gs _ _ _ _ (by omega) _ (by omega)]
          by_cases e : k / 4096 = n / 4096
          · rw [if_pos e, sel_gs _ _ _ _ (by omega) _ (by omega), e]
            by_cases e1 : k / 256 % 16 = n / 256 % 16
            · rw [if_pos e1, sel_gs _ _ _ _ (by omega) _ (by omega), e1]
              by_cases e2 : k / 16 % 16 = n / 16 % 16
              · rw [if_pos e2, sel_gs _ _ _ _ (by omega) _ (by omega), e2]
                by_cases e3 : k % 16 = n % 16
                · rw [if_pos e3, if_pos (by omega)]
                · rw [if_neg e3, if_neg (by omega)]
              · rw [if_neg e2, if_neg (by omega)]
            · rw [if_neg e1, if_neg (by omega)]
          · rw [if_neg e, if_neg (by omega)]
        · rw [get_upE _ hk', get_upE _ hk', if_neg (by omega)]
    · rw [set_upE t x h']
      by_cases hk : k < 256
      · rw [get_loE _ hk, get_loE _ hk, if_neg (by omega)]
      · by_cases hk' : k < 65536
        · rw [get_hiE _ hk hk', get_hiE _ hk hk', if_neg (by omega)]
        · rw [get_upE _ hk', get_upE _ hk']
          exact Ob.get_set ..
end Tr

/-! ## Values -/
/-- how far a slice goes: a known capacity, or to its block's end (elements of sz cells) -/
inductive Cap where
  | kn (n : Nat)
  | rest (sz : Nat)
inductive SV where
  /-- a value without an address -/
  | raw (v : Value)
  | ptr (b o : Nat)
  | sl (b o n : Nat) (c : Cap)
  /-- an empty slice, wherever it lies -/
  | sl0
  | map (b : Nat)
  | fn (f : Nat) (first cap : List SV)
  | yield (b : Nat)
  | agg (l : List SV)
  | tup (l : List SV)
  /-- whatever it is -/
  | any

/-- where the blocks lie: the block, from which of its cells on, and how many cells from there on -/
abbrev Ren := Nat → Option (Nat × Nat × Nat)
def CapR (o s k : Nat) : Cap → Prop
  | .kn n => k = n
  | .rest sz => o + k * sz = s
mutual
def Rel (ρ : Ren) : SV → Value → Prop
  | .raw v, u => u = v
  | .ptr b o, u => ∃ x s, ρ b = some (x, s) ∧ u = .pointer (some ⟨x, s.1 + o, none⟩)
  | .sl b o n c, u => ∃ x s k, ρ b = some (x, s) ∧ CapR o s.2 k c ∧ u = .slice (some ⟨x, s.1 + o, none⟩) n k
  | .sl0, u => ∃ a k, u = .slice a 0 k
  | .map b, u => ∃ x s, ρ b = some (x, s) ∧ u = .map (some x)
  | .fn f l m, u => ∃ us vs, RelL ρ l us ∧ RelL ρ m vs ∧ u = .func (.func f) us.toArray vs.toArray
  | .yield b, u => ∃ x s, ρ b = some (x, s) ∧ u = .func (.yield x) #[] #[]
  | .agg l, u => ∃ us, RelL ρ l us ∧ u = .agg us.toArray
  | .tup l, u => ∃ us, RelL ρ l us ∧ u = .tuple us.toArray
  | .any, _ => True
def RelL (ρ : Ren) : List SV → List Value → Prop
  | [], us => us = []
  | s :: l, us => ∃ v r, us = v :: r ∧ Rel ρ s v ∧ RelL ρ l r
end

/-- what one knows stays -/
def Ren.Le (ρ ρ' : Ren) : Prop := ∀ b x, ρ b = some x → ρ' b = some x
mutual
theorem Rel.mono {ρ ρ' : Ren} (h : ρ.Le ρ') : ∀ {s : SV} {u : Value}, Rel ρ s u → Rel ρ' s u
  | .raw v, u, hr => by rw [Rel] at hr ⊢; exact hr
  | .ptr b o, u, hr => by rw [Rel] at hr ⊢; obtain ⟨x, s, h1, h2⟩ := hr; exact ⟨x, s, h _ _ h1, h2⟩
  | .sl b o n c, u, hr => by rw [Rel] at hr ⊢; obtain ⟨x, s, k, h1, h2⟩ := hr; exact ⟨x, s, k, h _ _ h1, h2⟩
  | .sl0, u, hr => by rw [Rel] at hr ⊢; exact hr
  | .map b, u, hr => by rw [Rel] at hr ⊢; obtain ⟨x, s, h1, h2⟩ := hr; exact ⟨x, s, h _ _ h1, h2⟩
  | .fn f l m, u, hr => by rw [Rel] at hr ⊢; obtain ⟨us, vs, h1, h2, h3⟩ := hr; exact ⟨us, vs, RelL.mono h h1, RelL.mono h h2, h3⟩
  | .yield b, u, hr => by rw [Rel] at hr ⊢; obtain ⟨x, s, h1, h2⟩ := hr; exact ⟨x, s, h _ _ h1, h2⟩
  | .agg l, u, hr => by rw [Rel] at hr ⊢; obtain ⟨us, h1, h2⟩ := hr; exact ⟨us, RelL.mono h h1, h2⟩
  | .tup l, u, hr => by rw [Rel] at hr ⊢; obtain ⟨us, h1, h2⟩ := hr; exact ⟨us, RelL.mono h h1, h2⟩
  | .any, _, _ => by rw [Rel]; exact True.intro
theorem RelL.mono {ρ ρ' : Ren} (h : ρ.Le ρ') : ∀ {l : List SV} {us : List Value}, RelL ρ l us → RelL ρ' l us
  | [], us, hr => by rw [RelL] at hr ⊢; exact hr
  | s :: l, us, hr => by rw [RelL] at hr ⊢; obtain ⟨v, r, h1, h2, h3⟩ := hr; exact ⟨v, r, h1, Rel.mono h h2, RelL.mono h h3⟩
end

theorem RelL.iff {ρ : Ren} : ∀ {l : List SV} {us : List Value}, RelL ρ l us ↔ l.length = us.length ∧ ∀ (i : Nat) (s : SV) (u : Value), l[i]? = some s → us[i]? = some u → Rel ρ s u
  | [], us => by
    rw [RelL]
    constructor
    · rintro rfl; exact ⟨rfl, by simp⟩
    · intro ⟨h, _⟩; exact List.eq_nil_of_length_eq_zero h.symm
  | s :: l, us => by
    rw [RelL]
    constructor
    · rintro ⟨v, r, rfl, h1, h2⟩
      obtain ⟨h3, h4⟩ := RelL.iff.1 h2
      refine ⟨by simp [h3], fun i a u => ?_⟩
      cases i with
      | zero => simp; rintro rfl rfl; exact h1
      | succ i => simp; exact h4 i a u
    · rintro ⟨h1, h2⟩
      cases us with
      | nil => simp at h1
      | cons v r =>
        exact ⟨v, r, rfl, h2 0 s v (by simp) (by simp), RelL.iff.2 ⟨by simpa using h1, fun i a u ha hu => h2 (i + 1) a u (by simpa using ha) (by simpa using hu)⟩⟩
theorem RelL.len {ρ : Ren} {l : List SV} {us : List Value} (h : RelL ρ l us) : us.length = l.length := (RelL.iff.1 h).1.symm
theorem RelL.at {ρ : Ren} {l : List SV} {us : List Value} (h : RelL ρ l us) {i : Nat} {s : SV} (hi : l[i]? = some s) : ∃ u, us[i]? = some u ∧ Rel ρ s u := by
  have hl := (List.getElem?_eq_some_iff.1 hi).1
  have hl' : i < us.length := by rw [h.len]; exact hl
  exact ⟨us[i], by simp [hl'], (RelL.iff.1 h).2 i s _ hi (by simp [hl'])⟩
theorem RelL.app {ρ : Ren} {l l' : List SV} {us us' : List Value} (h : RelL ρ l us) (h' : RelL ρ l' us') : RelL ρ (l ++ l') (us ++ us') := by
  rw [RelL.iff] at h h' ⊢
  refine ⟨by simp [h.1, h'.1], fun i s u hi hu => ?_⟩
  rw [List.getElem?_append] at hi hu
  rw [h.1] at hi
  split at hu
  · rename_i hl; rw [if_pos hl] at hi; exact h.2 _ _ _ hi hu
  · rename_i hl; rw [if_neg hl] at hi; exact h'.2 _ _ _ hi hu
theorem RelL.take {ρ : Ren} {l : List SV} {us : List Value} (h : RelL ρ l us) (n : Nat) : RelL ρ (l.take n) (us.take n) := by
  rw [RelL.iff] at h ⊢
  refine ⟨by simp [h.1], fun i s u hi hu => ?_⟩
  rw [List.getElem?_take] at hi hu
  split at hi
  · rename_i hl; rw [if_pos hl] at hu; exact h.2 _ _ _ hi hu
  · cases hi
theorem RelL.drop {ρ : Ren} {l : List SV} {us : List Value} (h : RelL ρ l us) (n : Nat) : RelL ρ (l.drop n) (us.drop n) := by
  rw [RelL.iff] at h ⊢
  refine ⟨by simp [h.1], fun i s u hi hu => ?_⟩
  rw [List.getElem?_drop] at hi hu
  exact h.2 _ _ _ hi hu
theorem RelL.set {ρ : Ren} {l : List SV} {us : List Value} (h : RelL ρ l us) (n : Nat) {s : SV} {u : Value} (hs : Rel ρ s u) : RelL ρ (l.set n s) (us.set n u) := by
  rw [RelL.iff] at h ⊢
  refine ⟨by simp [h.1], fun i a b hi hu => ?_⟩
  rw [List.getElem?_set] at hi hu
  rw [h.1] at hi
  split at hi
  · rename_i e; subst e
    rw [if_pos rfl] at hu
    split at hi
    · rename_i hl; rw [if_pos hl] at hu; cases hi; cases hu; exact hs
    · cases hi
  · rename_i e; rw [if_neg e] at hu; exact h.2 _ _ _ hi hu
theorem RelL.raws {ρ : Ren} : ∀ (us : List Value), RelL ρ (us.map .raw) us
  | [] => by rw [List.map_nil, RelL]
  | u :: us => by rw [List.map_cons, RelL]; exact ⟨u, us, rfl, by rw [Rel], RelL.raws us⟩
theorem RelL.cons {ρ : Ren} {s : SV} {u : Value} {l : List SV} {us : List Value} (h : Rel ρ s u) (h' : RelL ρ l us) : RelL ρ (s :: l) (u :: us) := by rw [RelL]; exact ⟨u, us, rfl, h, h'⟩
theorem RelL.nil {ρ : Ren} : RelL ρ [] [] := by rw [RelL]
end Go.TX
namespace Go.TX
open Go Go.TH

structure SLoop where
  state : LoopState
  pending : Option Code
  N : Nat
  tmps : Tr SV
  params : Array Tmp
  assign : Code
  body : Code
  defers : Nat
structure SEnt where
  key : SV
  val : SV
  born : Nat
inductive SO where
  /-- a row of cells; op: more may follow -/
  | cells (l : List SV) (e : TypeId) (op : Bool)
  | map (es : List SEnt) (clock : Nat)
  | loop (r : SLoop)
  | dfr (shut : Bool)
  /-- of a map: which entries have been handed out, by when they were born, the last first -/
  | iter (m : Option Nat) (since : Nat) (seen : List Nat) (last : Nat)
  /-- of a map: the entry that has been handed out last, the others are not told -/
  | itl (m since b last : Nat)
structure St where
  h : Tr SO
  nx : Nat
  base : Nat
  R : List Nat
  W : List Nat

def EnvR (ρ : Ren) (N : Nat) (env : Tr SV) (tmps : Array Value) : Prop := tmps.size = N ∧ ∀ t, Rel ρ ((env.get t).getD (.raw undef)) (tmps.getD t undef)
theorem EnvR.mono {ρ ρ' : Ren} (h : ρ.Le ρ') {N : Nat} {env : Tr SV} {tmps : Array Value} (e : EnvR ρ N env tmps) : EnvR ρ' N env tmps := ⟨e.1, fun t => (e.2 t).mono h⟩
def MRel (ρ : Ren) : List SEnt → List MapEntry → Prop
  | [], ms => ms = []
  | e :: es, ms => ∃ m r, ms = m :: r ∧ Rel ρ e.key m.key ∧ Rel ρ e.val m.val ∧ m.born = e.born ∧ MRel ρ es r
theorem MRel.mono {ρ ρ' : Ren} (h : ρ.Le ρ') : ∀ {es : List SEnt} {ms : List MapEntry}, MRel ρ es ms → MRel ρ' es ms
  | [], _, hm => hm
  | _ :: _, _, ⟨m, r, h1, h2, h3, h4, h5⟩ => ⟨m, r, h1, h2.mono h, h3.mono h, h4, h5.mono h⟩
def ORel (ρ : Ren) (s : Nat × Nat) : SO → Obj → Prop
  | .cells l e op, ob => ∃ pre us vs, ob = .cells (pre ++ (us ++ vs)).toArray e (0, 0) ∧ pre.length = s.1 ∧ RelL ρ l us ∧ (op = false → vs = []) ∧ us.length + vs.length = s.2
  | .map es c, ob => ∃ ms : List MapEntry, ob = .map ms.toArray c ∧ MRel ρ es ms
  | .loop r, ob => ∃ fn tmps dx sx, ob = .loop ⟨r.state, r.pending, fn, tmps, r.params, r.assign, r.body, dx⟩ ∧ EnvR ρ r.N r.tmps tmps ∧ ρ r.defers = some (dx, sx)
  | .dfr shut, ob => ob = .deferred (bif shut then none else some [])
  | .iter m since seen last, ob => s.1 = 0 ∧ ∃ mb, ob = .mapIter mb since seen.reverse.toArray last ∧ match m with
    | none => mb = none
    | some x => ∃ b z, ρ x = some (b, z) ∧ mb = some b
  | .itl m since b last, ob => s.1 = 0 ∧ ∃ (B : Nat) (z : Nat × Nat) (l : List Nat), ρ m = some (B, z) ∧ ob = .mapIter (some B) since (l ++ [b]).toArray last
theorem ORel.mono {ρ ρ' : Ren} (h : ρ.Le ρ') {s : Nat × Nat} : ∀ {o : SO} {ob : Obj}, ORel ρ s o ob → ORel ρ' s o ob
  | .cells _ _ _, _, ⟨pre, us, vs, h1, hz, h2, h3⟩ => ⟨pre, us, vs, h1, hz, h2.mono h, h3⟩
  | .map _ _, _, ⟨ms, h1, h2⟩ => ⟨ms, h1, h2.mono h⟩
  | .loop _, _, ⟨fn, tmps, dx, sx, h1, h2, h3⟩ => ⟨fn, tmps, dx, sx, h1, h2.mono h, h _ _ h3⟩
  | .dfr _, _, h1 => h1
  | .iter none _ _ _, _, h1 => h1
  | .iter (some _) _ _ _, _, ⟨h0, mb, h1, b, z, h2, h3⟩ => ⟨h0, mb, h1, b, z, h _ _ h2, h3⟩
  | .itl _ _ _ _, _, ⟨h0, B, z, l, h1, h2⟩ => ⟨h0, B, z, l, h _ _ h1, h2⟩

structure Sim (ρ : Ren) (D : Nat → Prop) (st : St) (w : World) : Prop where
  live : ∀ x o, D x → st.h.get x = some o → ∃ b s ob, ρ x = some (b, s) ∧ w.heap[b]? = some ob ∧ ORel ρ s o ob
  inj : ∀ x y b s s', D x → D y → st.h.get x ≠ none → st.h.get y ≠ none → ρ x = some (b, s) → ρ y = some (b, s') → x = y
  lt : ∀ x, st.h.get x ≠ none → x < st.nx
theorem Sim.sub {ρ : Ren} {D D' : Nat → Prop} {st : St} {w : World} (h : Sim ρ D st w) (hd : ∀ x, D' x → D x) : Sim ρ D' st w :=
  ⟨fun x o d g => h.live x o (hd x d) g, fun x y b s s' d d' => h.inj x y b s s' (hd x d) (hd y d'), h.lt⟩

structure Step (ρ ρ' : Ren) (D : Nat → Prop) (st st' : St) (w w' : World) : Prop where
  os : w'.os = w.os
  tape : w'.tape = w.tape
  output : w'.output = w.output
  size : w.heap.size ≤ w'.heap.size
  nx : st.nx ≤ st'.nx
  base : st'.base = st.base
  sR : ∀ x, x ∈ st.R → x ∈ st'.R
  sW : ∀ x, x ∈ st.W → x ∈ st'.W
  ext : ∀ x, x < st.nx ∨ st'.nx ≤ x → ρ' x = ρ x
  keep : ∀ b, b < w.heap.size → w'.heap[b]? = w.heap[b]? ∨ ∃ x s, ρ x = some (b, s) ∧ D x ∧ st.h.get x ≠ none ∧ (x ∈ st'.W ∨ st.base ≤ x)
  dead : ∀ x, x < st.nx → st.h.get x = none → st'.h.get x = none
  same : ∀ x, x < st.nx → (x ∈ st'.W ∨ st.base ≤ x) ∨ st'.h.get x = st.h.get x
  fresh : ∀ x b s, st.nx ≤ x → st'.h.get x ≠ none → ρ' x = some (b, s) → w.heap.size ≤ b ∨ ∃ z s', z < st.nx ∧ ρ z = some (b, s') ∧ D z ∧ st.h.get z ≠ none ∧ st'.h.get z = none ∧ (z ∈ st'.W ∨ st.base ≤ z)
  sim : Sim ρ' (fun x => D x ∨ st.nx ≤ x) st' w'

/-- what is free to be named -/
def Free (ρ : Ren) (a b : Nat) : Prop := ∀ x, a ≤ x → x < b → ρ x = none
theorem Step.le {ρ ρ' : Ren} {D : Nat → Prop} {st st' : St} {w w' : World} (h : Step ρ ρ' D st st' w w') (hf : Free ρ st.nx st'.nx) : ρ.Le ρ' := by
  intro x v hv
  by_cases hx : x < st.nx ∨ st'.nx ≤ x
  · rw [h.ext x hx]; exact hv
  · rw [hf x (by omega) (by omega)] at hv; cases hv
theorem Step.refl {ρ : Ren} {D : Nat → Prop} {st : St} {w : World} (h : Sim ρ D st w) : Step ρ ρ D st st w w :=
  ⟨rfl, rfl, rfl, Nat.le_refl _, Nat.le_refl _, rfl, fun _ h => h, fun _ h => h, fun _ _ => rfl, fun _ _ => .inl rfl, fun _ _ h => h, fun _ _ => .inr rfl,
   fun x _ _ hx hg _ => absurd (h.lt x hg) (by omega),
   ⟨fun x o d g => by
      rcases d with d | d
      · exact h.live x o d g
      · exact absurd (h.lt x (by rw [g]; simp)) (by omega),
    fun x y b s s' d d' gx gy => by
      have hx := h.lt x gx
      have hy := h.lt y gy
      exact h.inj x y b s s' (d.resolve_right (by omega)) (d'.resolve_right (by omega)) gx gy, h.lt⟩⟩
theorem Step.free {ρ ρ' : Ren} {D : Nat → Prop} {st st' : St} {w w' : World} (h : Step ρ ρ' D st st' w w') {n : Nat} (hf : Free ρ st.nx n) : Free ρ' st'.nx n := by
  intro x hx hn
  rw [h.ext x (.inr hx)]
  exact hf x (Nat.le_trans h.nx hx) hn
theorem Step.trans {ρ ρ1 ρ2 : Ren} {D : Nat → Prop} {st st1 st2 : St} {w w1 w2 : World} (h : Step ρ ρ1 D st st1 w w1) (h' : Step ρ1 ρ2 (fun x => D x ∨ st.nx ≤ x) st1 st2 w1 w2) : Step ρ ρ2 D st st2 w w2 := by
  have hb : st1.base = st.base := h.base
  refine ⟨h'.os.trans h.os, h'.tape.trans h.tape, h'.output.trans h.output, Nat.le_trans h.size h'.size, Nat.le_trans h.nx h'.nx, h'.base.trans h.base, fun x hx => h'.sR x (h.sR x hx), fun x hx => h'.sW x (h.sW x hx), ?_, ?_, ?_, ?_, ?_, ?_⟩
  · intro x hx
    rw [h'.ext x (by rcases hx with hx | hx; exact .inl (Nat.lt_of_lt_of_le hx h.nx); exact .inr hx)]
    exact h.ext x (by rcases hx with hx | hx; exact .inl hx; exact .inr (Nat.le_trans h'.nx hx))
  · intro b hb'
    rcases h'.keep b (Nat.lt_of_lt_of_le hb' h.size) with e | ⟨x, s, e1, e2, e3, e4⟩
    · rcases h.keep b hb' with e' | ⟨x, s, e1, e2, e3, e4⟩
      · exact .inl (e.trans e')
      · exact .inr ⟨x, s, e1, e2, e3, by rcases e4 with e4 | e4; exact .inl (h'.sW x e4); exact .inr e4⟩
    · by_cases hx : x < st.nx
      · refine .inr ⟨x, s, ?_, ?_, ?_, ?_⟩
        · rw [← h.ext x (.inl hx)]; exact e1
        · exact e2.resolve_right (by omega)
        · intro hn; exact e3 (h.dead x hx hn)
        · rcases e4 with e4 | e4
          · exact .inl e4
          · exact .inr (hb ▸ e4)
      · rcases h.fresh x b s (by omega) e3 e1 with e5 | ⟨z, s', _, e5, e6, e7, e8, e9⟩
        · omega
        · exact .inr ⟨z, s', e5, e6, e7, by rcases e9 with e9 | e9; exact .inl (h'.sW z e9); exact .inr e9⟩
  · intro x hx hn
    exact h'.dead x (Nat.lt_of_lt_of_le hx h.nx) (h.dead x hx hn)
  · intro x hx
    rcases h'.same x (Nat.lt_of_lt_of_le hx h.nx) with e | e
    · exact .inl (hb ▸ e)
    · rcases h.same x hx with e' | e'
      · exact .inl (by rcases e' with e' | e'; exact .inl (h'.sW x e'); exact .inr e')
      · exact .inr (e.trans e')
  · intro x b s hx hg hr
    by_cases hx1 : x < st1.nx
    · have hg1 : st1.h.get x ≠ none := fun hn => hg (h'.dead x hx1 hn)
      have hr1 : ρ1 x = some (b, s) := by rw [← h'.ext x (.inl hx1)]; exact hr
      rcases h.fresh x b s hx hg1 hr1 with e5 | ⟨z, s', e4, e5, e6, e7, e8, e9⟩
      · exact .inl e5
      · exact .inr ⟨z, s', e4, e5, e6, e7, h'.dead z (Nat.lt_of_lt_of_le e4 h.nx) e8, by rcases e9 with e9 | e9; exact .inl (h'.sW z e9); exact .inr e9⟩
    · rcases h'.fresh x b s (by omega) hg hr with e5 | ⟨z, s', e4, e5, e6, e7, e8, e9⟩
      · exact .inl (Nat.le_trans h.size e5)
      · by_cases hz : z < st.nx
        · refine .inr ⟨z, s', hz, ?_, e6.resolve_right (by omega), fun hn => e7 (h.dead z hz hn), e8, by rcases e9 with e9 | e9; exact .inl e9; exact .inr (hb ▸ e9)⟩
          rw [← h.ext z (.inl hz)]; exact e5
        · rcases h.fresh z b s' (by omega) e7 e5 with e10 | ⟨y, s2, f4, f5, f6, f7, f8, f9⟩
          · exact .inl e10
          · exact .inr ⟨y, s2, f4, f5, f6, f7, h'.dead y (Nat.lt_of_lt_of_le f4 h.nx) f8, by rcases f9 with f9 | f9; exact .inl (h'.sW y f9); exact .inr f9⟩
  · exact h'.sim.sub fun x d => by
      rcases d with d | d
      · exact .inl (.inl d)
      · exact .inl (.inr d)
end Go.TX
