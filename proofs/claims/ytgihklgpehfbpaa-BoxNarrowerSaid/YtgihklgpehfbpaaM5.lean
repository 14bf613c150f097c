/-
  What is proved here: the program's tests of hulls. Conditions: none; each contract states its own.
  What is proved here: the program's tests of hulls. Conditions: none; each contract states its own.
  What is proved here: the program's test of a true hull. Conditions: none; each contract states its own.
  What is proved here: the program's places: a function that yields. Conditions: none; each contract states its own.
  What is proved here: the program's terms, volume and value. Conditions: none; each contract states its own.
  What is proved here: the program's volume of a hull. Conditions: none; each contract states its own.
  What is proved here: the program's value of a hull. Conditions: none; each contract states its own.
  What is proved here: the program's choice of offsets, and its volumes. Conditions: none; each contract states its own.
  What is proved here: the program's plan, volume and value. Conditions: none; each contract states its own.
-/
import Derived.Test.YtgihklgpehfbpaaM4
import Derived.Test.YtgihklgpehfbpaaM2
namespace Go.Proofs.Ytgihklgpehfbpaa
open Go Go.TH
attribute [local irreducible] W WO pt
set_option maxRecDepth 10000
set_option maxHeartbeats 1000000
/-- the least, and the greatest, of some numbers -/
def minL : List Int → Int
  | [] => 0
  | x :: r => r.foldl min x
def maxL : List Int → Int
  | [] => 0
  | x :: r => r.foldl max x
theorem minL_succ {xs : List Int} {i : Nat} (h : i < xs.length) (h1 : 1 ≤ i) : minL (xs.take (i + 1)) = min (minL (xs.take i)) (xs.getD i 0) := by
  cases xs with
  | nil => simp at h
  | cons x r =>
    obtain ⟨j, rfl⟩ : ∃ j, i = j + 1 := ⟨i - 1, by omega⟩
    simp only [List.take_succ_cons, minL]
    rw [foldl_take _ (by simpa using h) 0]; simp
theorem maxL_succ {xs : List Int} {i : Nat} (h : i < xs.length) (h1 : 1 ≤ i) : maxL (xs.take (i + 1)) = max (maxL (xs.take i)) (xs.getD i 0) := by
  cases xs with
  | nil => simp at h
  | cons x r =>
    obtain ⟨j, rfl⟩ : ∃ j, i = j + 1 := ⟨i - 1, by omega⟩
    simp only [List.take_succ_cons, maxL]
    rw [foldl_take _ (by simpa using h) 0]; simp
theorem minL_one {xs : List Int} (h : 0 < xs.length) : minL (xs.take 1) = xs.getD 0 0 := by
  cases xs with
  | nil => simp at h
  | cons x r => simp [minL]
theorem maxL_one {xs : List Int} (h : 0 < xs.length) : maxL (xs.take 1) = xs.getD 0 0 := by
  cases xs with
  | nil => simp at h
  | cons x r => simp [maxL]
theorem c_Min (w : World) (o : Value) (xs : List Int) (hR : RdF encI 1 w.heap.size w o xs) (hn : 0 < xs.length) : Ret Try.prog 60 [o].toArray w (.int .i64 (minL xs)) := by
  refine Ret.of mixed tyTab Try.func60 rfl rfl ?_
  replace hR : RdF encI 1 (fnCx mixed tyTab Try.f60.ntmps w).B (fnCx mixed tyTab Try.f60.ntmps w).w0 o xs := hR
  have hle := hR.sl.le
  refine W.sreg ?_
  refine WO.p rfl rfl ?_
  refine WO.nil ?_
  refine W.seq ?_
  refine W.sreg ?_
  refine WO.p rfl rfl ?_
  refine' WO.len (n := _) rfl rfl ?hs rfl ?_
  case hs => (first | exact hR.sl)
  refine WO.p rfl rfl ?_
  refine WO.nil ?_
  refine W.cond_bl rfl (fun c1 => ?_) (fun c1 => ?_)
  · first
    | (exfalso; omega)
    | (refine W.region ?_
       omega
       omega
       refine WO.nil ?_
       refine W.sreg ?_
       refine WO.p rfl rfl ?_
       refine' WO.indexAddr (n := _) (i := 0) rfl rfl rfl ?hs ?h1 rfl ?_
       case hs => (first | exact hR.sl)
       case h1 => (first | omega | (simp; omega))
       refine' WO.load (v := _) rfl rfl ?hc rfl ?_
       case hc => (first | (refine hR.cell0 ?_ 0 ?_ <;> first | rfl | omega))
       refine WO.p rfl rfl ?_
       refine WO.nil ?_
       refine W.seq ?_
       refine W.sreg ?_
       refine WO.p rfl rfl ?_
       refine WO.nil ?_
       refine W.block ?_
       refine W.loop2 (fun (i : Nat) (m : Int) => 1 ≤ i ∧ i ≤ xs.length ∧ m = minL (xs.take i))
         (fun (i : Nat) (m : Int) => [(4, .int .i64 (i : Int)), (3, .int .i64 m), (0, o)])
         (fun (i : Nat) (m : Int) => [])
         (fun (i : Nat) (m : Int) => xs.length - i) 1 (xs.getD 0 0)
         (by exact ⟨by omega, by omega, (minL_one hn).symm⟩) ⟨rfl, rfl, rfl, trivial⟩ (by repeat (first | exact Sub.nil | refine Sub.cons (by repeat (first | exact Pick.head | apply Pick.tail)) ?_)) ?_
       rintro i m ⟨h1, hi, em⟩
       refine W.seq ?_
       refine W.sreg ?_
       refine WO.p rfl rfl (WO.p rfl rfl ?_)
       refine' WO.len (n := _) rfl rfl ?hs rfl ?_
       case hs => (first | exact hR.sl)
       refine WO.p rfl rfl ?_
       refine WO.nil ?_
       refine W.cond_bl rfl (fun c2 => ?_) (fun c2 => ?_)
       · first
         | (exfalso; omega)
         | (refine W.skip ?_
            refine W.seq ?_
            refine W.block ?_
            refine W.region ?_
            refine WO.p rfl rfl (WO.p rfl rfl (WO.p rfl rfl ?_))
            refine' WO.indexAddr (n := _) (i := _) rfl rfl rfl ?hs ?h1 rfl ?_
            case hs => (first | exact hR.sl)
            case h1 => (first | omega | (simp; omega))
            refine' WO.load (v := _) rfl rfl ?hc rfl ?_
            case hc => (first | (refine hR.cell0 ?_ 0 ?_ <;> first | rfl | omega))
            refine WO.min2 rfl rfl rfl ?_
            refine WO.p rfl rfl ?_
            refine WO.nil ?_
            refine W.region ?_
            refine WO.p rfl rfl (WO.ar rfl rfl rfl (by (first | (unfold in64; omega))) rfl (WO.p rfl rfl ?_))
            refine WO.nil ?_
            refine' ⟨i + 1, _, ?hp, ?hmu, ⟨rfl, rfl, rfl, trivial⟩, ?hS⟩
            case hS => repeat (first | exact Sub.nil | refine Sub.cons (by repeat (first | exact Pick.head | apply Pick.tail)) ?_)
            case hp => exact ⟨by omega, by omega, by rw [minL_succ (by omega) h1, em]⟩
            case hmu => omega)
       · first
         | (exfalso; omega)
         | (refine W.exit (blk_same ?_)
            refine W.sreg ?_
            refine WO.p rfl rfl (WO.p rfl rfl ?_)
            refine WO.nil ?_
            refine W.ret ?_
            obtain rfl : i = xs.length := by omega
            refine fin.ret (Res.one rfl (RV.tmp rfl)) ?_
            rw [em, List.take_length]))
  · first
    | (exfalso; omega)
    | (refine W.skip ?_
       refine W.sreg ?_
       refine WO.p rfl rfl ?_
       refine' WO.indexAddr (n := _) (i := 0) rfl rfl rfl ?hs ?h1 rfl ?_
       case hs => (first | exact hR.sl)
       case h1 => (first | omega | (simp; omega))
       refine' WO.load (v := _) rfl rfl ?hc rfl ?_
       case hc => (first | (refine hR.cell0 ?_ 0 ?_ <;> first | rfl | omega))
       refine WO.p rfl rfl ?_
       refine WO.nil ?_
       refine W.seq ?_
       refine W.sreg ?_
       refine WO.p rfl rfl ?_
       refine WO.nil ?_
       refine W.block ?_
       refine W.loop2 (fun (i : Nat) (m : Int) => 1 ≤ i ∧ i ≤ xs.length ∧ m = minL (xs.take i))
         (fun (i : Nat) (m : Int) => [(4, .int .i64 (i : Int)), (3, .int .i64 m), (0, o)])
         (fun (i : Nat) (m : Int) => [])
         (fun (i : Nat) (m : Int) => xs.length - i) 1 (xs.getD 0 0)
         (by exact ⟨by omega, by omega, (minL_one hn).symm⟩) ⟨rfl, rfl, rfl, trivial⟩ (by repeat (first | exact Sub.nil | refine Sub.cons (by repeat (first | exact Pick.head | apply Pick.tail)) ?_)) ?_
       rintro i m ⟨h1, hi, em⟩
       refine W.seq ?_
       refine W.sreg ?_
       refine WO.p rfl rfl (WO.p rfl rfl ?_)
       refine' WO.len (n := _) rfl rfl ?hs rfl ?_
       case hs => (first | exact hR.sl)
       refine WO.p rfl rfl ?_
       refine WO.nil ?_
       refine W.cond_bl rfl (fun c3 => ?_) (fun c3 => ?_)
       · first
         | (exfalso; omega)
         | (refine W.skip ?_
            refine W.seq ?_
            refine W.block ?_
            refine W.region ?_
            refine WO.p rfl rfl (WO.p rfl rfl (WO.p rfl rfl ?_))
            refine' WO.indexAddr (n := _) (i := _) rfl rfl rfl ?hs ?h1 rfl ?_
            case hs => (first | exact hR.sl)
            case h1 => (first | omega | (simp; omega))
            refine' WO.load (v := _) rfl rfl ?hc rfl ?_
            case hc => (first | (refine hR.cell0 ?_ 0 ?_ <;> first | rfl | omega))
            refine WO.min2 rfl rfl rfl ?_
            refine WO.p rfl rfl ?_
            refine WO.nil ?_
            refine W.region ?_
            refine WO.p rfl rfl (WO.ar rfl rfl rfl (by (first | (unfold in64; omega))) rfl (WO.p rfl rfl ?_))
            refine WO.nil ?_
            refine' ⟨i + 1, _, ?hp, ?hmu, ⟨rfl, rfl, rfl, trivial⟩, ?hS⟩
            case hS => repeat (first | exact Sub.nil | refine Sub.cons (by repeat (first | exact Pick.head | apply Pick.tail)) ?_)
            case hp => exact ⟨by omega, by omega, by rw [minL_succ (by omega) h1, em]⟩
            case hmu => omega)
       · first
         | (exfalso; omega)
         | (refine W.exit (blk_same ?_)
            refine W.sreg ?_
            refine WO.p rfl rfl (WO.p rfl rfl ?_)
            refine WO.nil ?_
            refine W.ret ?_
            obtain rfl : i = xs.length := by omega
            refine fin.ret (Res.one rfl (RV.tmp rfl)) ?_
            rw [em, List.take_length]))
theorem c_Max (w : World) (o : Value) (xs : List Int) (hR : RdF encI 1 w.heap.size w o xs) (hn : 0 < xs.length) : Ret Try.prog 61 [o].toArray w (.int .i64 (maxL xs)) := by
  refine Ret.of mixed tyTab Try.func61 rfl rfl ?_
  replace hR : RdF encI 1 (fnCx mixed tyTab Try.f61.ntmps w).B (fnCx mixed tyTab Try.f61.ntmps w).w0 o xs := hR
  have hle := hR.sl.le
  refine W.sreg ?_
  refine WO.p rfl rfl ?_
  refine WO.nil ?_
  refine W.seq ?_
  refine W.sreg ?_
  refine WO.p rfl rfl ?_
  refine' WO.len (n := _) rfl rfl ?hs rfl ?_
  case hs => (first | exact hR.sl)
  refine WO.p rfl rfl ?_
  refine WO.nil ?_
  refine W.cond_bl rfl (fun c1 => ?_) (fun c1 => ?_)
  · first
    | (exfalso; omega)
    | (refine W.region ?_
       omega
       omega
       refine WO.nil ?_
       refine W.sreg ?_
       refine WO.p rfl rfl ?_
       refine' WO.indexAddr (n := _) (i := 0) rfl rfl rfl ?hs ?h1 rfl ?_
       case hs => (first | exact hR.sl)
       case h1 => (first | omega | (simp; omega))
       refine' WO.load (v := _) rfl rfl ?hc rfl ?_
       case hc => (first | (refine hR.cell0 ?_ 0 ?_ <;> first | rfl | omega))
       refine WO.p rfl rfl ?_
       refine WO.nil ?_
       refine W.seq ?_
       refine W.sreg ?_
       refine WO.p rfl rfl ?_
       refine WO.nil ?_
       refine W.block ?_
       refine W.loop2 (fun (i : Nat) (m : Int) => 1 ≤ i ∧ i ≤ xs.length ∧ m = maxL (xs.take i))
         (fun (i : Nat) (m : Int) => [(4, .int .i64 (i : Int)), (3, .int .i64 m), (0, o)])
         (fun (i : Nat) (m : Int) => [])
         (fun (i : Nat) (m : Int) => xs.length - i) 1 (xs.getD 0 0)
         (by exact ⟨by omega, by omega, (maxL_one hn).symm⟩) ⟨rfl, rfl, rfl, trivial⟩ (by repeat (first | exact Sub.nil | refine Sub.cons (by repeat (first | exact Pick.head | apply Pick.tail)) ?_)) ?_
       rintro i m ⟨h1, hi, em⟩
       refine W.seq ?_
       refine W.sreg ?_
       refine WO.p rfl rfl (WO.p rfl rfl ?_)
       refine' WO.len (n := _) rfl rfl ?hs rfl ?_
       case hs => (first | exact hR.sl)
       refine WO.p rfl rfl ?_
       refine WO.nil ?_
       refine W.cond_bl rfl (fun c2 => ?_) (fun c2 => ?_)
       · first
         | (exfalso; omega)
         | (refine W.skip ?_
            refine W.seq ?_
            refine W.block ?_
            refine W.region ?_
            refine WO.p rfl rfl (WO.p rfl rfl (WO.p rfl rfl ?_))
            refine' WO.indexAddr (n := _) (i := _) rfl rfl rfl ?hs ?h1 rfl ?_
            case hs => (first | exact hR.sl)
            case h1 => (first | omega | (simp; omega))
            refine' WO.load (v := _) rfl rfl ?hc rfl ?_
            case hc => (first | (refine hR.cell0 ?_ 0 ?_ <;> first | rfl | omega))
            refine WO.max2 rfl rfl rfl ?_
            refine WO.p rfl rfl ?_
            refine WO.nil ?_
            refine W.region ?_
            refine WO.p rfl rfl (WO.ar rfl rfl rfl (by (first | (unfold in64; omega))) rfl (WO.p rfl rfl ?_))
            refine WO.nil ?_
            refine' ⟨i + 1, _, ?hp, ?hmu, ⟨rfl, rfl, rfl, trivial⟩, ?hS⟩
            case hS => repeat (first | exact Sub.nil | refine Sub.cons (by repeat (first | exact Pick.head | apply Pick.tail)) ?_)
            case hp => exact ⟨by omega, by omega, by rw [maxL_succ (by omega) h1, em]⟩
            case hmu => omega)
       · first
         | (exfalso; omega)
         | (refine W.exit (blk_same ?_)
            refine W.sreg ?_
            refine WO.p rfl rfl (WO.p rfl rfl ?_)
            refine WO.nil ?_
            refine W.ret ?_
            obtain rfl : i = xs.length := by omega
            refine fin.ret (Res.one rfl (RV.tmp rfl)) ?_
            rw [em, List.take_length]))
  · first
    | (exfalso; omega)
    | (refine W.skip ?_
       refine W.sreg ?_
       refine WO.p rfl rfl ?_
       refine' WO.indexAddr (n := _) (i := 0) rfl rfl rfl ?hs ?h1 rfl ?_
       case hs => (first | exact hR.sl)
       case h1 => (first | omega | (simp; omega))
       refine' WO.load (v := _) rfl rfl ?hc rfl ?_
       case hc => (first | (refine hR.cell0 ?_ 0 ?_ <;> first | rfl | omega))
       refine WO.p rfl rfl ?_
       refine WO.nil ?_
       refine W.seq ?_
       refine W.sreg ?_
       refine WO.p rfl rfl ?_
       refine WO.nil ?_
       refine W.block ?_
       refine W.loop2 (fun (i : Nat) (m : Int) => 1 ≤ i ∧ i ≤ xs.length ∧ m = maxL (xs.take i))
         (fun (i : Nat) (m : Int) => [(4, .int .i64 (i : Int)), (3, .int .i64 m), (0, o)])
         (fun (i : Nat) (m : Int) => [])
         (fun (i : Nat) (m : Int) => xs.length - i) 1 (xs.getD 0 0)
         (by exact ⟨by omega, by omega, (maxL_one hn).symm⟩) ⟨rfl, rfl, rfl, trivial⟩ (by repeat (first | exact Sub.nil | refine Sub.cons (by repeat (first | exact Pick.head | apply Pick.tail)) ?_)) ?_
       rintro i m ⟨h1, hi, em⟩
       refine W.seq ?_
       refine W.sreg ?_
       refine WO.p rfl rfl (WO.p rfl rfl ?_)
       refine' WO.len (n := _) rfl rfl ?hs rfl ?_
       case hs => (first | exact hR.sl)
       refine WO.p rfl rfl ?_
       refine WO.nil ?_
       refine W.cond_bl rfl (fun c3 => ?_) (fun c3 => ?_)
       · first
         | (exfalso; omega)
         | (refine W.skip ?_
            refine W.seq ?_
            refine W.block ?_
            refine W.region ?_
            refine WO.p rfl rfl (WO.p rfl rfl (WO.p rfl rfl ?_))
            refine' WO.indexAddr (n := _) (i := _) rfl rfl rfl ?hs ?h1 rfl ?_
            case hs => (first | exact hR.sl)
            case h1 => (first | omega | (simp; omega))
            refine' WO.load (v := _) rfl rfl ?hc rfl ?_
            case hc => (first | (refine hR.cell0 ?_ 0 ?_ <;> first | rfl | omega))
            refine WO.max2 rfl rfl rfl ?_
            refine WO.p rfl rfl ?_
            refine WO.nil ?_
            refine W.region ?_
            refine WO.p rfl rfl (WO.ar rfl rfl rfl (by (first | (unfold in64; omega))) rfl (WO.p rfl rfl ?_))
            refine WO.nil ?_
            refine' ⟨i + 1, _, ?hp, ?hmu, ⟨rfl, rfl, rfl, trivial⟩, ?hS⟩
            case hS => repeat (first | exact Sub.nil | refine Sub.cons (by repeat (first | exact Pick.head | apply Pick.tail)) ?_)
            case hp => exact ⟨by omega, by omega, by rw [maxL_succ (by omega) h1, em]⟩
            case hmu => omega)
       · first
         | (exfalso; omega)
         | (refine W.exit (blk_same ?_)
            refine W.sreg ?_
            refine WO.p rfl rfl (WO.p rfl rfl ?_)
            refine WO.nil ?_
            refine W.ret ?_
            obtain rfl : i = xs.length := by omega
            refine fin.ret (Res.one rfl (RV.tmp rfl)) ?_
            rw [em, List.take_length]))
/-- are all from one to another one? -/
def btw (lo hi : Int) (xs : List Int) : Bool := bl (lo ≤ minL xs) && bl (maxL xs ≤ hi)
theorem c_between (w : World) (lo hi : Int) (o : Value) (xs : List Int) (hR : RdF encI 1 w.heap.size w o xs) (hn : 0 < xs.length) : Ret Try.prog 46 [.int .i64 lo, .int .i64 hi, o].toArray w (.bool (btw lo hi xs)) := by
  refine Ret.of mixed tyTab Try.func46 rfl rfl ?_
  replace hR : RdF encI 1 (fnCx mixed tyTab Try.f46.ntmps w).B (fnCx mixed tyTab Try.f46.ntmps w).w0 o xs := hR
  refine W.sreg ?_
  refine WO.p rfl rfl ?_
  refine WO.nil ?_
  refine W.sreg ?_
  refine WO.p rfl rfl ?_
  refine WO.callR rfl Try.call60 (fun L w hi => c_Min w o xs (hR.later hi) hn) rfl ?_
  refine WO.p rfl rfl (WO.p rfl rfl (WO.p rfl rfl ?_))
  refine WO.guard_bl rfl rfl (fun c1 => ?_) (fun c1 => ?_)
  · first
    | (exfalso; omega)
    | (refine WO.pg rfl rfl rfl (WO.go' rfl ?_)
       refine WO.callR rfl Try.call61 (fun L w hi => c_Max w o xs (hR.later hi) hn) rfl ?_
       refine WO.pg rfl rfl rfl (WO.pg rfl rfl rfl (WO.p rfl rfl (WO.p rfl rfl ?_)))
       refine WO.nil ?_
       refine W.ret ?_
       refine fin.ret (Res.one rfl (RV.tmp rfl)) ?_
       refine congrArg Value.bool ?_
       first | (simp_all [btw, bl_eq]; done) | (simp_all [btw, bl_eq]; omega))
  · first
    | (exfalso; omega)
    | (refine WO.no rfl rfl (WO.no rfl rfl (WO.no rfl rfl (WO.no rfl rfl (WO.p rfl rfl (WO.p rfl rfl ?_)))))
       refine WO.nil ?_
       refine W.ret ?_
       refine fin.ret (Res.one rfl (RV.tmp rfl)) ?_
       refine congrArg Value.bool ?_
       first | (simp_all [btw, bl_eq]; done) | (simp_all [btw, bl_eq]; omega))
theorem btw1 (lo hi x : Int) : btw lo hi [x] = bl (lo ≤ x ∧ x ≤ hi) := by
  unfold btw; rw [bl_eq, bl_eq, bl_eq]
  show (decide (lo ≤ x) && decide (x ≤ hi)) = _
  simp
theorem btw2 (lo hi x y : Int) : btw lo hi [x, y] = bl (lo ≤ x ∧ x ≤ hi ∧ lo ≤ y ∧ y ≤ hi) := by
  unfold btw; rw [bl_eq, bl_eq, bl_eq]
  show (decide (lo ≤ min x y) && decide (max x y ≤ hi)) = _
  rw [← Bool.decide_and, decide_eq_decide]
  omega
theorem c_hull1 (w : World) (o : Value) (xs : List (Int × Int)) (p : Addr) (m : Int) (hR : RdF encP 2 w.heap.size w o xs) (hc : Cap w p (.int .i64 m)) : Ret Try.prog 45 [o, .pointer (some p)].toArray w (.bool (bl ((xs.length : Int) ≠ m))) := by
  refine Ret.of mixed tyTab Try.func45 rfl rfl ?_
  replace hR : RdF encP 2 (fnCx mixed tyTab Try.f45.ntmps w).B (fnCx mixed tyTab Try.f45.ntmps w).w0 o xs := hR
  replace hc : Cap (fnCx mixed tyTab Try.f45.ntmps w).w0 p (.int .i64 m) := hc
  refine W.sreg ?_
  refine WO.p rfl rfl ?_
  refine WO.nil ?_
  refine W.sreg ?_
  refine WO.p rfl rfl ?_
  refine' WO.len (n := _) rfl rfl ?hs rfl ?_
  case hs => (first | exact hR.sl)
  refine' WO.load (v := _) rfl rfl ?hc rfl ?_
  case hc => (first | (refine Cap.cell (v := .int .i64 m) rfl hc))
  refine WO.p rfl rfl (WO.p rfl rfl ?_)
  refine WO.nil ?_
  refine W.ret ?_
  exact fin.ret (Res.one rfl (RV.tmp rfl)) rfl
theorem row_later {α : Type} {P : Program} {C : Cx P} {H L : List HP} {enc : α → List Value} {sz : Nat} {v : Value} {rv : List Value} {xss : List (List α)} {w : World} (h : RdR enc sz C.B C.w0 v rv xss) (hi : Inv C.w0 C.M (L ++ H) w) (i : Nat) (h1 : i < xss.length) : RdF enc sz w.heap.size w (rv.getD i undef) (xss.getD i []) := (h.row i h1).later hi
theorem c_IndexFunc (w : World) (o : Value) (rv : List Value) (rows : List (List (Int × Int))) (p : Addr) (m : Int) (hR : RdR encP 2 w.heap.size w o rv rows) (hc : Cap w p (.int .i64 m)) : RetE Try.prog 59 [o, .func (.func 45) #[] #[.pointer (some p)]].toArray w (fun v => ∃ n : Int, v = .int .i64 n ∧ (0 ≤ n ↔ ¬ ∀ r ∈ rows, (r.length : Int) = m)) := by
  refine RetE.of mixed tyTab Try.func59 rfl rfl ?_
  replace hR : RdR encP 2 (fnCx mixed tyTab Try.f59.ntmps w).B (fnCx mixed tyTab Try.f59.ntmps w).w0 o rv rows := hR
  replace hc : Cap (fnCx mixed tyTab Try.f59.ntmps w).w0 p (.int .i64 m) := hc
  have hle := hR.sl.le
  refine W.sreg ?_
  refine WO.p rfl rfl ?_
  refine WO.nil ?_
  refine W.seq ?_
  refine W.sreg ?_
  refine WO.p rfl rfl ?_
  refine' WO.len (n := _) rfl rfl ?hs rfl ?_
  case hs => (first | exact hR.sl)
  refine WO.p rfl rfl ?_
  refine WO.nil ?_
  refine W.block ?_
  refine W.loop (fun (i : Nat) => i ≤ rows.length ∧ ∀ r ∈ rows.take i, (r.length : Int) = m)
    (fun (i : Nat) => [(8, .int .i64 (i : Int)), (7, .int .i64 (rows.length : Int)), (0, o), (1, .func (.func 45) #[] #[.pointer (some p)])])
    (fun (i : Nat) => [])
    (fun (i : Nat) => rows.length - i) 0
    (by exact ⟨by omega, by simp⟩) ⟨rfl, rfl, rfl, rfl, trivial⟩ (by repeat (first | exact Sub.nil | refine Sub.cons (by repeat (first | exact Pick.head | apply Pick.tail)) ?_)) ?_
  rintro i ⟨hi, hal⟩
  refine W.sreg ?_
  refine WO.p rfl rfl ?_
  refine WO.nil ?_
  refine W.seq ?_
  refine W.cond_bl rfl (fun c1 => ?_) (fun c1 => ?_)
  · first
    | (exfalso; omega)
    | (refine W.skip ?_
       refine W.seq ?_
       refine W.block ?_
       refine W.sreg ?_
       refine WO.p rfl rfl (WO.p rfl rfl ?_)
       refine WO.nil ?_
       refine W.sreg ?_
       refine WO.p rfl rfl (WO.p rfl rfl (WO.p rfl rfl ?_))
       refine' WO.indexAddr (n := _) (i := _) rfl rfl rfl ?hs ?h1 rfl ?_
       case hs => (first | exact hR.sl)
       case h1 => (first | omega | (simp; omega))
       refine' WO.load (v := _) rfl rfl ?hc rfl ?_
       case hc => (first | (refine hR.cellV ?_; omega))
       refine WO.callCR (first := []) (captured := [.pointer (some p)]) rfl rfl Try.call45 (fun L w hi => c_hull1 w _ _ p m (row_later hR hi i (by omega)) (hc.old rfl hi)) rfl ?_
       refine WO.nil ?_
       refine W.cond_bl rfl (fun c2 => ?_) (fun c2 => ?_)
       · first
         | (exfalso; omega)
         | (refine W.sreg ?_
            refine WO.p rfl rfl (WO.p rfl rfl ?_)
            refine WO.nil ?_
            refine W.ret ?_
            exact fin.ret (Res.one rfl (RV.tmp rfl)) ⟨_, rfl, by first | exact ⟨fun h => by omega, fun h => absurd (all_len (by omega) hal) h⟩ | exact ⟨fun _ => not_all_getD (i := i) (by omega) [] (fun h => by simp_all), fun _ => by omega⟩⟩)
       · first
         | (exfalso; omega)
         | (refine W.skip ?_
            refine W.region ?_
            refine WO.ar rfl rfl rfl (by (first | (unfold in64; omega))) rfl (WO.p rfl rfl ?_)
            refine WO.nil ?_
            refine' ⟨i + 1, ?hp, ?hmu, ⟨rfl, rfl, rfl, rfl, trivial⟩, ?hS⟩
            case hS => repeat (first | exact Sub.nil | refine Sub.cons (by repeat (first | exact Pick.head | apply Pick.tail)) ?_)
            case hp => exact ⟨by omega, all_succ (by omega) [] hal (by simp_all)⟩
            case hmu => omega))
  · first
    | (exfalso; omega)
    | (refine W.exit (blk_same ?_)
       refine W.sreg ?_
       refine WO.p rfl rfl ?_
       refine WO.nil ?_
       refine W.ret ?_
       exact fin.ret (Res.one rfl (RV.tmp rfl)) ⟨_, rfl, by first | exact ⟨fun h => by omega, fun h => absurd (all_len (by omega) hal) h⟩ | exact ⟨fun _ => not_all_getD (i := i) (by omega) [] (fun h => by simp_all), fun _ => by omega⟩⟩)
theorem c_ContainsFunc (w : World) (o : Value) (rv : List Value) (rows : List (List (Int × Int))) (p : Addr) (m : Int) (hR : RdR encP 2 w.heap.size w o rv rows) (hc : Cap w p (.int .i64 m)) : Ret Try.prog 44 [o, .func (.func 45) #[] #[.pointer (some p)]].toArray w (.bool (bl (¬ ∀ r ∈ rows, (r.length : Int) = m))) := by
  refine Ret.of mixed tyTab Try.func44 rfl rfl ?_
  replace hR : RdR encP 2 (fnCx mixed tyTab Try.f44.ntmps w).B (fnCx mixed tyTab Try.f44.ntmps w).w0 o rv rows := hR
  replace hc : Cap (fnCx mixed tyTab Try.f44.ntmps w).w0 p (.int .i64 m) := hc
  refine W.sreg ?_
  refine WO.p rfl rfl ?_
  refine WO.nil ?_
  refine W.sreg ?_
  refine WO.p rfl rfl (WO.p rfl rfl ?_)
  refine WO.callE rfl Try.call59 (fun L w hi => c_IndexFunc w o rv rows p m (hR.later hi) (hc.old rfl hi)) rfl ?_
  rintro _ ⟨n, rfl, hn⟩
  refine WO.p rfl rfl (WO.p rfl rfl ?_)
  refine WO.nil ?_
  refine W.ret ?_
  refine fin.ret (Res.one rfl (RV.tmp rfl)) ?_
  refine congrArg Value.bool ?_
  rw [bl_eq, bl_eq]; exact decide_eq_decide.2 hn
end Go.Proofs.Ytgihklgpehfbpaa
namespace Go.Proofs.Ytgihklgpehfbpaa
open Go Go.TH
attribute [local irreducible] W WO pt
set_option maxRecDepth 10000
set_option maxHeartbeats 1000000
theorem btw_one (w : World) (lo hi x : Int) (C : Cx Try.prog) {L H : List HP} {b : Nat} (hi' : Inv C.w0 C.M (L ++ OwC 2 1 (.slice (some ⟨b, 0, none⟩) 1 1) 1 [.int .i64 x] :: H) w) : Ret Try.prog 46 [.int .i64 lo, .int .i64 hi, .slice (some ⟨b, 0, none⟩) 1 1].toArray w (.bool (bl (lo ≤ x ∧ x ≤ hi))) := by
  rw [← btw1]
  exact c_between w lo hi _ [x] (RdF.of_ow (C := C) (enc := encI) (e := 2) encI_ok (H := OwE encI 2 1 (.slice (some ⟨b, 0, none⟩) 1 1) [x] :: H) .head hi') (by simp)
theorem btw_two (w : World) (lo hi x y : Int) (C : Cx Try.prog) {L H : List HP} {b : Nat} (hi' : Inv C.w0 C.M (L ++ OwC 2 1 (.slice (some ⟨b, 0, none⟩) 2 2) 2 [.int .i64 x, .int .i64 y] :: H) w) : Ret Try.prog 46 [.int .i64 lo, .int .i64 hi, .slice (some ⟨b, 0, none⟩) 2 2].toArray w (.bool (bl (lo ≤ x ∧ x ≤ hi ∧ lo ≤ y ∧ y ≤ hi))) := by
  rw [← btw2]
  exact c_between w lo hi _ [x, y] (RdF.of_ow (C := C) (enc := encI) (e := 2) encI_ok (H := OwE encI 2 1 (.slice (some ⟨b, 0, none⟩) 2 2) [x, y] :: H) .head hi') (by simp)
theorem all_succ_iff {α : Type} {p : α → Prop} {l : List α} {i : Nat} (h : i < l.length) (z : α) : (∀ x ∈ l.take (i + 1), p x) ↔ (∀ x ∈ l.take i, p x) ∧ p (l.getD i z) := by
  rw [take_succ_getD h z]
  constructor
  · intro h1; exact ⟨fun x hx => h1 x (by simp [hx]), h1 _ (by simp)⟩
  · rintro ⟨h1, h2⟩ x hx
    rcases List.mem_append.1 hx with hx | hx
    · exact h1 x hx
    · rw [List.mem_singleton.1 hx]; exact h2
section
variable {G : Prop} {g g' q : Bool} {l : List (Int × Int)} {k : Nat} {m m' : Int}
theorem okStep (h : k < l.length) (hg' : g' = true ↔ G ∧ ∀ x ∈ l.take k, okR x = true) (hq : q = true ↔ g' = true ∧ okR (l.getD k (0, 0)) = true) : q = true ↔ G ∧ ∀ x ∈ l.take (k + 1), okR x = true := by
  rw [all_succ_iff h (0, 0), hq, hg', and_assoc]
theorem q1 {X : Prop} (h : g' = false) : false = true ↔ g' = true ∧ X := by simp [h]
theorem q2 {r : Int × Int} (h : ¬ (0 ≤ r.1 ∧ r.1 ≤ 500 ∧ 0 ≤ r.2 ∧ r.2 ≤ 500)) : false = true ↔ g' = true ∧ okR r = true := by
  simp only [okR, decide_eq_true_eq, Bool.false_eq_true, false_iff]
  rintro ⟨_, h2⟩
  omega
theorem q3 {r : Int × Int} (hg : g' = true) (h : 0 ≤ r.1 ∧ r.1 ≤ 500 ∧ 0 ≤ r.2 ∧ r.2 ≤ 500) : bl (0 ≤ r.2 - r.1 ∧ r.2 - r.1 ≤ 20) = true ↔ g' = true ∧ okR r = true := by
  simp only [okR, decide_eq_true_eq, bl_t, hg, true_and]
  omega
theorem posStep {Q : Prop} (h : k < l.length) (h0 : 0 ≤ m') (hm : 0 < m' ↔ Q ∨ ∃ x ∈ l.take k, posR x = true) : 0 < max m' (l.getD k (0, 0)).1 ↔ Q ∨ ∃ x ∈ l.take (k + 1), posR x = true := by
  rw [ex_succ h (0, 0), ← or_assoc, ← hm]
  simp only [posR, decide_eq_true_eq]
  omega
theorem rowStep {G : Prop} {rows : List (List (Int × Int))} {i : Nat} {j : Nat} (h : i < rows.length) (hj : (rows.getD i []).length ≤ j) (hg : g = true ↔ G ∧ ∀ r ∈ rows.take i, ∀ x ∈ r, okR x = true) (hg' : g' = true ↔ g = true ∧ ∀ x ∈ (rows.getD i []).take j, okR x = true) : g' = true ↔ G ∧ ∀ r ∈ rows.take (i + 1), ∀ x ∈ r, okR x = true := by
  rw [all_succ_iff h [], hg', hg, List.take_of_length_le hj, and_assoc]
theorem rowStepM {rows : List (List (Int × Int))} {i : Nat} {j : Nat} (h : i < rows.length) (hj : (rows.getD i []).length ≤ j) (hm : 0 < m ↔ ∃ r ∈ rows.take i, ∃ x ∈ r, posR x = true) (hm' : 0 < m' ↔ 0 < m ∨ ∃ x ∈ (rows.getD i []).take j, posR x = true) : 0 < m' ↔ ∃ r ∈ rows.take (i + 1), ∃ x ∈ r, posR x = true := by
  rw [ex_succ h [], hm', hm, List.take_of_length_le hj]
end
section
variable {sp st m : Int} {rows : List (List (Int × Int))} {g : Bool} {i : Nat}
theorem lenI {n : Nat} (h : ∀ r ∈ rows, (r.length : Int) = n) : ∀ r ∈ rows, r.length = n := fun r hr => by have := h r hr; omega
theorem fin2 (h : ¬ (rows.length < 2 ∨ 10 < rows.length ∨ (rows.getD 0 []).length < 2 ∨ 6 < (rows.getD 0 []).length)) (h1 : ∀ r ∈ rows, r.length = (rows.getD 0 []).length) (hi : rows.length ≤ i)
    (hg : g = true ↔ (1 ≤ sp ∧ sp ≤ 1000 ∧ 1 ≤ st ∧ st ≤ 100) ∧ ∀ r ∈ rows.take i, ∀ x ∈ r, okR x = true) (h0 : 0 ≤ m) (hm : 0 < m ↔ ∃ r ∈ rows.take i, ∃ x ∈ r, posR x = true) (hc : (!g) = true ∨ m = 0) : 2 = chkHull sp st rows := by
  rw [List.take_of_length_le hi] at hg hm
  rw [chkHull, if_neg h, if_neg (fun x => x h1)]
  split
  · rfl
  split
  · rfl
  split
  · rfl
  rename_i a b c
  exfalso
  rcases hc with hc | hc
  · have : g = true := hg.2 ⟨by omega, Decidable.not_not.1 b⟩
    simp [this] at hc
  · have := hm.2 (Decidable.not_not.1 c); omega
theorem fin0 (h : ¬ (rows.length < 2 ∨ 10 < rows.length ∨ (rows.getD 0 []).length < 2 ∨ 6 < (rows.getD 0 []).length)) (h1 : ∀ r ∈ rows, r.length = (rows.getD 0 []).length) (hi : rows.length ≤ i)
    (hg : g = true ↔ (1 ≤ sp ∧ sp ≤ 1000 ∧ 1 ≤ st ∧ st ≤ 100) ∧ ∀ r ∈ rows.take i, ∀ x ∈ r, okR x = true) (h0 : 0 ≤ m) (hm : 0 < m ↔ ∃ r ∈ rows.take i, ∃ x ∈ r, posR x = true) (hc : (!g) = false) (hc' : ¬ m = 0) : 0 = chkHull sp st rows := by
  rw [List.take_of_length_le hi] at hg hm
  have hg' := hg.1 (by simpa using hc)
  exact ck0 h h1 (by omega) hg'.2 (hm.1 (by omega))
end
theorem c_CheckHull (w : World) (sp st : Int) (o : Value) (rv : List Value) (rows : List (List (Int × Int))) (hR : RdR encP 2 w.heap.size w o rv rows) :
    Ret Try.prog 18 [.agg #[.int .i64 sp, .int .i64 st, o]].toArray w (.int .i64 (chkHull sp st rows)) := by
  refine Ret.of mixed tyTab Try.func18 rfl rfl ?_
  replace hR : RdR encP 2 (fnCx mixed tyTab Try.f18.ntmps w).B (fnCx mixed tyTab Try.f18.ntmps w).w0 o rv rows := hR
  have hle := hR.sl.le
  refine W.sreg ?_
  refine WO.boxA rfl rfl (fun b1 hb1 => ?_)
  refine WO.p rfl rfl ?_
  refine WO.nil ?_
  refine W.seq ?_
  refine W.sreg ?_
  refine WO.fieldL rfl rfl rfl (WO.load rfl rfl (Cell.own Pick.head rfl) rfl ?_)
  refine' WO.len (n := _) rfl rfl ?hs rfl ?_
  case hs => (first | exact hR.sl | (refine (hR.row _ ?_).sl; omega))
  refine WO.p rfl rfl (WO.p rfl rfl ?_)
  refine WO.guard_bl rfl rfl (fun c1 => ?_) (fun c1 => ?_)
  · first
    | (exfalso; omega)
    | (refine WO.no rfl rfl (WO.no rfl rfl (WO.no rfl rfl (WO.no rfl rfl (WO.p rfl rfl ?_))))
       refine WO.nil ?_
       refine W.cond_t rfl ?_
       refine W.sreg ?_
       refine WO.p rfl rfl ?_
       refine WO.nil ?_
       refine W.ret ?_
       refine fin.ret (Res.one rfl (RV.tmp rfl)) ?_
       refine congrArg (Value.int .i64) ?_
       first | exact ck6 (by omega) | exact ck15 (by omega) (fun h => absurd (fun r hr => by have := h r hr; omega) (by assumption)) | exact fin2 (by omega) (lenI (Classical.not_not.1 (by assumption))) (by omega) hg hm0 hm (.inl (by assumption)) | exact fin2 (by omega) (lenI (Classical.not_not.1 (by assumption))) (by omega) hg hm0 hm (.inr (by assumption)) | exact fin0 (by omega) (lenI (Classical.not_not.1 (by assumption))) (by omega) hg hm0 hm (by assumption) (by assumption))
  · first
    | (exfalso; omega)
    | (refine WO.go' rfl (WO.fieldL rfl rfl rfl (WO.go' rfl (WO.load rfl rfl (Cell.own Pick.head rfl) rfl (WO.go' rfl ?_))))
       refine' WO.len (n := _) rfl rfl ?hs rfl ?_
       case hs => (first | exact hR.sl | (refine (hR.row _ ?_).sl; omega))
       refine WO.pg rfl rfl rfl (WO.p rfl rfl ?_)
       refine WO.nil ?_
       refine W.cond_bl rfl (fun c2 => ?_) (fun c2 => ?_)
       · first
         | (exfalso; omega)
         | (refine W.sreg ?_
            refine WO.p rfl rfl ?_
            refine WO.nil ?_
            refine W.ret ?_
            refine fin.ret (Res.one rfl (RV.tmp rfl)) ?_
            refine congrArg (Value.int .i64) ?_
            first | exact ck6 (by omega) | exact ck15 (by omega) (fun h => absurd (fun r hr => by have := h r hr; omega) (by assumption)) | exact fin2 (by omega) (lenI (Classical.not_not.1 (by assumption))) (by omega) hg hm0 hm (.inl (by assumption)) | exact fin2 (by omega) (lenI (Classical.not_not.1 (by assumption))) (by omega) hg hm0 hm (.inr (by assumption)) | exact fin0 (by omega) (lenI (Classical.not_not.1 (by assumption))) (by omega) hg hm0 hm (by assumption) (by assumption))
       · first
         | (exfalso; omega)
         | (refine W.skip ?_
            refine W.sreg ?_
            refine WO.fieldL rfl rfl rfl (WO.load rfl rfl (Cell.own Pick.head rfl) rfl ?_)
            refine' WO.indexAddr (n := _) (i := 0) rfl rfl rfl ?hs ?h1 rfl ?_
            case hs => (first | exact hR.sl | (refine (hR.row _ ?_).sl; omega))
            case h1 => (first | omega | (simp; omega))
            refine' WO.load (v := _) rfl rfl ?hc rfl ?_
            case hc => (first | (refine hR.cellV ?_; omega))
            refine' WO.len (n := _) rfl rfl ?hs rfl ?_
            case hs => (first | exact hR.sl | (refine (hR.row _ ?_).sl; omega))
            refine WO.alloc rfl rfl rfl (fun b2 hb2 => ?_)
            refine WO.store1 rfl rfl rfl (by first | rfl | assumption) Pick.head rfl ?_
            refine WO.nil ?_
            refine W.seq ?_
            refine W.sreg ?_
            refine WO.load rfl rfl (Cell.own Pick.head rfl) rfl (WO.p rfl rfl (WO.p rfl rfl ?_))
            refine WO.guard_bl rfl rfl (fun c3 => ?_) (fun c3 => ?_)
            · first
              | (exfalso; omega)
              | (refine WO.no rfl rfl (WO.no rfl rfl (WO.p rfl rfl ?_))
                 refine WO.nil ?_
                 refine W.cond_t rfl ?_
                 refine W.sreg ?_
                 refine WO.p rfl rfl ?_
                 refine WO.nil ?_
                 refine W.ret ?_
                 refine fin.ret (Res.one rfl (RV.tmp rfl)) ?_
                 refine congrArg (Value.int .i64) ?_
                 first | exact ck6 (by omega) | exact ck15 (by omega) (fun h => absurd (fun r hr => by have := h r hr; omega) (by assumption)) | exact fin2 (by omega) (lenI (Classical.not_not.1 (by assumption))) (by omega) hg hm0 hm (.inl (by assumption)) | exact fin2 (by omega) (lenI (Classical.not_not.1 (by assumption))) (by omega) hg hm0 hm (.inr (by assumption)) | exact fin0 (by omega) (lenI (Classical.not_not.1 (by assumption))) (by omega) hg hm0 hm (by assumption) (by assumption))
            · first
              | (exfalso; omega)
              | (refine WO.go' rfl (WO.load rfl rfl (Cell.own Pick.head rfl) rfl (WO.pg rfl rfl rfl (WO.p rfl rfl ?_)))
                 refine WO.nil ?_
                 refine W.cond_bl rfl (fun c4 => ?_) (fun c4 => ?_)
                 · first
                   | (exfalso; omega)
                   | (refine W.sreg ?_
                      refine WO.p rfl rfl ?_
                      refine WO.nil ?_
                      refine W.ret ?_
                      refine fin.ret (Res.one rfl (RV.tmp rfl)) ?_
                      refine congrArg (Value.int .i64) ?_
                      first | exact ck6 (by omega) | exact ck15 (by omega) (fun h => absurd (fun r hr => by have := h r hr; omega) (by assumption)) | exact fin2 (by omega) (lenI (Classical.not_not.1 (by assumption))) (by omega) hg hm0 hm (.inl (by assumption)) | exact fin2 (by omega) (lenI (Classical.not_not.1 (by assumption))) (by omega) hg hm0 hm (.inr (by assumption)) | exact fin0 (by omega) (lenI (Classical.not_not.1 (by assumption))) (by omega) hg hm0 hm (by assumption) (by assumption))
                 · first
                   | (exfalso; omega)
                   | (refine W.skip ?_
                      refine W.seq ?_
                      refine W.sreg ?_
                      refine WO.fieldL rfl rfl rfl (WO.load rfl rfl (Cell.own (Pick.tail (Pick.head)) rfl) rfl (WO.p rfl rfl ?_))
                      refine WO.callR rfl Try.call44 (fun L w hi => c_ContainsFunc w o rv rows _ ((rows.getD 0 []).length : Int) (hR.later hi) (Cap.of .head rfl hi)) rfl ?_
                      refine WO.nil ?_
                      refine W.cond_bl rfl (fun c5 => ?_) (fun c5 => ?_)
                      · first
                        | (exfalso; omega)
                        | (refine W.sreg ?_
                           refine WO.p rfl rfl ?_
                           refine WO.nil ?_
                           refine W.ret ?_
                           refine fin.ret (Res.one rfl (RV.tmp rfl)) ?_
                           refine congrArg (Value.int .i64) ?_
                           first | exact ck6 (by omega) | exact ck15 (by omega) (fun h => absurd (fun r hr => by have := h r hr; omega) (by assumption)) | exact fin2 (by omega) (lenI (Classical.not_not.1 (by assumption))) (by omega) hg hm0 hm (.inl (by assumption)) | exact fin2 (by omega) (lenI (Classical.not_not.1 (by assumption))) (by omega) hg hm0 hm (.inr (by assumption)) | exact fin0 (by omega) (lenI (Classical.not_not.1 (by assumption))) (by omega) hg hm0 hm (by assumption) (by assumption))
                      · first
                        | (exfalso; omega)
                        | (refine W.skip ?_
                           refine W.sreg ?_
                           refine WO.field0 rfl rfl rfl (WO.load rfl rfl (Cell.own (Pick.tail (Pick.head)) rfl) rfl ?_)
                           refine' WO.buildSl (cs := _) rfl rfl rfl rfl ?hf rfl rfl ?hl rfl (fun v3 => ?_)
                           case hf => (conv => lhs; simp [-List.getD_eq_getElem?_getD, fillL, vcl, wrl, TTab.pl?.lget']) <;> rfl
                           case hl => rfl
                           refine WO.callR rfl Try.call46 (fun L w hi => btw_one w _ _ sp _ hi) rfl ?_
                           refine WO.p rfl rfl ?_
                           refine WO.guard_bl rfl rfl (fun c6 => ?_) (fun c6 => ?_)
                           · first
                             | (exfalso; omega)
                             | (refine WO.go' rfl (WO.fieldL rfl rfl rfl (WO.go' rfl (WO.load rfl rfl (Cell.own (Pick.tail (Pick.tail (Pick.head))) rfl) rfl (WO.go' rfl ?_))))
                                refine' WO.buildSl (cs := _) rfl rfl rfl rfl ?hf rfl rfl ?hl rfl (fun v4 => ?_)
                                case hf => (conv => lhs; simp [-List.getD_eq_getElem?_getD, fillL, vcl, wrl, TTab.pl?.lget']) <;> rfl
                                case hl => rfl
                                refine WO.go' rfl ?_
                                refine WO.callR rfl Try.call46 (fun L w hi => btw_one w _ _ st _ hi) rfl ?_
                                refine WO.p rfl rfl (WO.p rfl rfl ?_)
                                refine WO.nil ?_
                                refine W.sreg ?_
                                refine WO.p rfl rfl ?_
                                refine WO.nil ?_
                                refine W.seq ?_
                                refine W.sreg ?_
                                refine WO.fieldL rfl rfl rfl (WO.load rfl rfl (Cell.own (Pick.tail (Pick.tail (Pick.tail (Pick.head)))) rfl) rfl ?_)
                                refine' WO.len (n := _) rfl rfl ?hs rfl ?_
                                case hs => (first | exact hR.sl | (refine (hR.row _ ?_).sl; omega))
                                refine WO.p rfl rfl ?_
                                refine WO.nil ?_
                                refine W.block ?_
                                refine W.loop3 (fun (i : Nat) (g : Bool) (m : Int) => i ≤ rows.length ∧ (g = true ↔ (1 ≤ sp ∧ sp ≤ 1000 ∧ 1 ≤ st ∧ st ≤ 100) ∧ ∀ r ∈ rows.take i, ∀ x ∈ r, okR x = true) ∧ 0 ≤ m ∧ (0 < m ↔ ∃ r ∈ rows.take i, ∃ x ∈ r, posR x = true))
                                  (fun (i : Nat) (g : Bool) (m : Int) => [(48, .int .i64 (i : Int)), (47, .int .i64 (rows.length : Int)), (46, o), (4, .bool g), (5, .int .i64 m)])
                                  (fun (i : Nat) (g : Bool) (m : Int) => [])
                                  (fun (i : Nat) (g : Bool) (m : Int) => rows.length - i) 0 _ 0
                                  (by exact ⟨by omega, by simp [bl_t]; omega, by omega, by simp⟩) ⟨rfl, rfl, rfl, rfl, rfl, trivial⟩ (by repeat (first | exact Sub.nil | refine Sub.cons (by repeat (first | exact Pick.head | apply Pick.tail)) ?_)) ?_
                                rintro i g m ⟨hi, hg, hm0, hm⟩
                                refine W.sreg ?_
                                refine WO.p rfl rfl ?_
                                refine WO.nil ?_
                                refine W.seq ?_
                                refine W.cond_bl rfl (fun c7 => ?_) (fun c7 => ?_)
                                · first
                                  | (exfalso; omega)
                                  | (refine W.skip ?_
                                     refine W.seq ?_
                                     refine W.block ?_
                                     refine W.sreg ?_
                                     refine' WO.indexAddr (n := _) (i := _) rfl rfl rfl ?hs ?h1 rfl ?_
                                     case hs => (first | exact hR.sl | (refine (hR.row _ ?_).sl; omega))
                                     case h1 => (first | omega | (simp; omega))
                                     refine' WO.load (v := _) rfl rfl ?hc rfl ?_
                                     case hc => (first | (refine hR.cellV ?_; omega))
                                     refine WO.p rfl rfl ?_
                                     refine WO.nil ?_
                                     refine W.sreg ?_
                                     refine WO.p rfl rfl ?_
                                     refine' WO.len (n := _) rfl rfl ?hs rfl ?_
                                     case hs => (first | exact hR.sl | (refine (hR.row _ ?_).sl; omega))
                                     refine WO.p rfl rfl ?_
                                     refine WO.nil ?_
                                     refine W.block ?_
                                     refine W.loop3 (fun (k : Nat) (g' : Bool) (m' : Int) => k ≤ (rows.getD i []).length ∧ (g' = true ↔ g = true ∧ ∀ x ∈ (rows.getD i []).take k, okR x = true) ∧ 0 ≤ m' ∧ (0 < m' ↔ 0 < m ∨ ∃ x ∈ (rows.getD i []).take k, posR x = true))
                                       (fun (k : Nat) (g' : Bool) (m' : Int) => [(48, .int .i64 (i : Int)), (47, .int .i64 (rows.length : Int)), (46, o), (54, .int .i64 (k : Int)), (53, .int .i64 ((rows.getD i []).length : Int)), (52, rv.getD i undef), (4, .bool g'), (5, .int .i64 m')])
                                       (fun (k : Nat) (g' : Bool) (m' : Int) => [])
                                       (fun (k : Nat) (g' : Bool) (m' : Int) => (rows.getD i []).length - k) 0 g m
                                       (by exact ⟨by omega, by simp, by omega, by simp⟩) ⟨rfl, rfl, rfl, rfl, rfl, rfl, rfl, rfl, trivial⟩ (by repeat (first | exact Sub.nil | refine Sub.cons (by repeat (first | exact Pick.head | apply Pick.tail)) ?_)) ?_
                                     rintro k g' m' ⟨hk, hg', hm0', hm'⟩
                                     have hlk := (hR.row i (by omega)).sl.le
                                     refine W.sreg ?_
                                     refine WO.p rfl rfl ?_
                                     refine WO.nil ?_
                                     refine W.seq ?_
                                     refine W.cond_bl rfl (fun c8 => ?_) (fun c8 => ?_)
                                     · first
                                       | (exfalso; omega)
                                       | (refine W.skip ?_
                                          refine W.seq ?_
                                          refine W.block ?_
                                          refine W.sreg ?_
                                          refine' WO.indexAddr (n := _) (i := _) rfl rfl rfl ?hs ?h1 rfl ?_
                                          case hs => (first | exact hR.sl | (refine (hR.row _ ?_).sl; omega))
                                          case h1 => (first | omega | (simp; omega))
                                          refine' WO.loadA (vs := _) rfl rfl ?hc ?hl rfl ?_
                                          case hc => (first | (refine (hR.row _ ?_).cells ?_ (0, 0) <;> omega))
                                          case hl => rfl
                                          refine WO.alloc rfl rfl rfl (fun b5 hb5 => ?_)
                                          refine WO.storeA rfl rfl rfl rfl Pick.head rfl rfl ?_
                                          refine WO.nil ?_
                                          refine W.sreg ?_
                                          refine WO.p rfl rfl (WO.p rfl rfl ?_)
                                          refine WO.guard_b rfl rfl (fun c9 => ?_) (fun c9 => ?_)
                                          · first
                                            | (exfalso; omega)
                                            | (refine WO.go' rfl (WO.field0 rfl rfl rfl (WO.go' rfl (WO.load rfl rfl (Cell.own Pick.head rfl) rfl (WO.go' rfl (WO.fieldL rfl rfl rfl (WO.go' rfl (WO.load rfl rfl (Cell.own Pick.head rfl) rfl (WO.go' rfl ?_))))))))
                                               refine' WO.buildSl (cs := _) rfl rfl rfl rfl ?hf rfl rfl ?hl rfl (fun v6 => ?_)
                                               case hf => (conv => lhs; simp [-List.getD_eq_getElem?_getD, fillL, vcl, wrl, TTab.pl?.lget']) <;> rfl
                                               case hl => rfl
                                               refine WO.go' rfl ?_
                                               refine WO.callR rfl Try.call46 (fun L w hi => btw_two w _ _ _ _ _ hi) rfl ?_
                                               refine WO.p rfl rfl (WO.p rfl rfl ?_)
                                               refine WO.guard_bl rfl rfl (fun c10 => ?_) (fun c10 => ?_)
                                               · first
                                                 | (exfalso; omega)
                                                 | (refine WO.go' rfl (WO.fieldL rfl rfl rfl (WO.go' rfl (WO.load rfl rfl (Cell.own (Pick.tail (Pick.head)) rfl) rfl (WO.go' rfl (WO.field0 rfl rfl rfl (WO.go' rfl (WO.load rfl rfl (Cell.own (Pick.tail (Pick.head)) rfl) rfl (WO.go' rfl (WO.ar rfl rfl rfl (by (first | (unfold in64; omega))) rfl (WO.go' rfl ?_))))))))))
                                                    refine' WO.buildSl (cs := _) rfl rfl rfl rfl ?hf rfl rfl ?hl rfl (fun v7 => ?_)
                                                    case hf => (conv => lhs; simp [-List.getD_eq_getElem?_getD, fillL, vcl, wrl, TTab.pl?.lget']) <;> rfl
                                                    case hl => rfl
                                                    refine WO.go' rfl ?_
                                                    refine WO.callR rfl Try.call46 (fun L w hi => btw_one w _ _ _ _ hi) rfl ?_
                                                    refine WO.p rfl rfl (WO.p rfl rfl ?_)
                                                    refine WO.nil ?_
                                                    refine W.region ?_
                                                    refine WO.p rfl rfl (WO.field0 rfl rfl rfl (WO.load rfl rfl (Cell.own (Pick.tail (Pick.tail (Pick.head))) rfl) rfl ?_))
                                                    refine WO.max2 rfl rfl rfl ?_
                                                    refine WO.p rfl rfl ?_
                                                    refine WO.nil ?_
                                                    refine W.region ?_
                                                    refine WO.ar rfl rfl rfl (by (first | (unfold in64; omega))) rfl (WO.p rfl rfl ?_)
                                                    refine WO.nil ?_
                                                    refine' ⟨k + 1, _, _, ?hp, ?hmu, ⟨rfl, rfl, rfl, rfl, rfl, rfl, rfl, rfl, trivial⟩, ?hS⟩
                                                    case hS => repeat (first | exact Sub.nil | refine Sub.cons (by repeat (first | exact Pick.head | apply Pick.tail)) ?_)
                                                    case hp => exact ⟨by omega, okStep (by omega) hg' (by first | exact q1 (by assumption) | exact q2 (by assumption) | exact q3 (by assumption) (by assumption)), by omega, posStep (by omega) hm0' hm'⟩
                                                    case hmu => omega)
                                               · first
                                                 | (exfalso; omega)
                                                 | (refine WO.no rfl rfl (WO.no rfl rfl (WO.no rfl rfl (WO.no rfl rfl (WO.no rfl rfl (WO.no rfl rfl (WO.no rfl rfl (WO.p rfl rfl (WO.p rfl rfl ?_))))))))
                                                    refine WO.nil ?_
                                                    refine W.region ?_
                                                    refine WO.p rfl rfl (WO.field0 rfl rfl rfl (WO.load rfl rfl (Cell.own (Pick.tail (Pick.head)) rfl) rfl ?_))
                                                    refine WO.max2 rfl rfl rfl ?_
                                                    refine WO.p rfl rfl ?_
                                                    refine WO.nil ?_
                                                    refine W.region ?_
                                                    refine WO.ar rfl rfl rfl (by (first | (unfold in64; omega))) rfl (WO.p rfl rfl ?_)
                                                    refine WO.nil ?_
                                                    refine' ⟨k + 1, _, _, ?hp, ?hmu, ⟨rfl, rfl, rfl, rfl, rfl, rfl, rfl, rfl, trivial⟩, ?hS⟩
                                                    case hS => repeat (first | exact Sub.nil | refine Sub.cons (by repeat (first | exact Pick.head | apply Pick.tail)) ?_)
                                                    case hp => exact ⟨by omega, okStep (by omega) hg' (by first | exact q1 (by assumption) | exact q2 (by assumption) | exact q3 (by assumption) (by assumption)), by omega, posStep (by omega) hm0' hm'⟩
                                                    case hmu => omega))
                                          · first
                                            | (exfalso; omega)
                                            | (refine WO.no rfl rfl (WO.no rfl rfl (WO.no rfl rfl (WO.no rfl rfl (WO.no rfl rfl (WO.no rfl rfl (WO.p rfl rfl (WO.p rfl rfl (WO.no rfl rfl (WO.no rfl rfl (WO.no rfl rfl (WO.no rfl rfl ?_)))))))))))
                                               refine WO.no rfl rfl (WO.no rfl rfl (WO.no rfl rfl (WO.p rfl rfl (WO.p rfl rfl ?_))))
                                               refine WO.nil ?_
                                               refine W.region ?_
                                               refine WO.p rfl rfl (WO.field0 rfl rfl rfl (WO.load rfl rfl (Cell.own Pick.head rfl) rfl ?_))
                                               refine WO.max2 rfl rfl rfl ?_
                                               refine WO.p rfl rfl ?_
                                               refine WO.nil ?_
                                               refine W.region ?_
                                               refine WO.ar rfl rfl rfl (by (first | (unfold in64; omega))) rfl (WO.p rfl rfl ?_)
                                               refine WO.nil ?_
                                               refine' ⟨k + 1, _, _, ?hp, ?hmu, ⟨rfl, rfl, rfl, rfl, rfl, rfl, rfl, rfl, trivial⟩, ?hS⟩
                                               case hS => repeat (first | exact Sub.nil | refine Sub.cons (by repeat (first | exact Pick.head | apply Pick.tail)) ?_)
                                               case hp => exact ⟨by omega, okStep (by omega) hg' (by first | exact q1 (by assumption) | exact q2 (by assumption) | exact q3 (by assumption) (by assumption)), by omega, posStep (by omega) hm0' hm'⟩
                                               case hmu => omega))
                                     · first
                                       | (exfalso; omega)
                                       | (refine W.exit (blk_same ?_)
                                          refine W.region ?_
                                          refine WO.ar rfl rfl rfl (by (first | (unfold in64; omega))) rfl (WO.p rfl rfl ?_)
                                          refine WO.nil ?_
                                          refine' ⟨i + 1, _, _, ?hp, ?hmu, ⟨rfl, rfl, rfl, rfl, rfl, trivial⟩, ?hS⟩
                                          case hS => repeat (first | exact Sub.nil | refine Sub.cons (by repeat (first | exact Pick.head | apply Pick.tail)) ?_)
                                          case hp => exact ⟨by omega, rowStep (by omega) (by omega) hg hg', by omega, rowStepM (by omega) (by omega) hm hm'⟩
                                          case hmu => omega))
                                · first
                                  | (exfalso; omega)
                                  | (refine W.exit (blk_same ?_)
                                     refine W.seq ?_
                                     refine W.sreg ?_
                                     refine WO.p rfl rfl (WO.p rfl rfl (WO.p rfl rfl ?_))
                                     refine WO.guard_b rfl rfl (fun c11 => ?_) (fun c11 => ?_)
                                     · first
                                       | (exfalso; omega)
                                       | (refine WO.no rfl rfl (WO.no rfl rfl (WO.p rfl rfl ?_))
                                          refine WO.nil ?_
                                          refine W.cond_t rfl ?_
                                          refine W.sreg ?_
                                          refine WO.p rfl rfl ?_
                                          refine WO.nil ?_
                                          refine W.ret ?_
                                          refine fin.ret (Res.one rfl (RV.tmp rfl)) ?_
                                          refine congrArg (Value.int .i64) ?_
                                          first | exact ck6 (by omega) | exact ck15 (by omega) (fun h => absurd (fun r hr => by have := h r hr; omega) (by assumption)) | exact fin2 (by omega) (lenI (Classical.not_not.1 (by assumption))) (by omega) hg hm0 hm (.inl (by assumption)) | exact fin2 (by omega) (lenI (Classical.not_not.1 (by assumption))) (by omega) hg hm0 hm (.inr (by assumption)) | exact fin0 (by omega) (lenI (Classical.not_not.1 (by assumption))) (by omega) hg hm0 hm (by assumption) (by assumption))
                                     · first
                                       | (exfalso; omega)
                                       | (refine WO.pg rfl rfl rfl (WO.pg rfl rfl rfl (WO.p rfl rfl ?_))
                                          refine WO.nil ?_
                                          refine W.cond_bl rfl (fun c12 => ?_) (fun c12 => ?_)
                                          · first
                                            | (exfalso; omega)
                                            | (refine W.sreg ?_
                                               refine WO.p rfl rfl ?_
                                               refine WO.nil ?_
                                               refine W.ret ?_
                                               refine fin.ret (Res.one rfl (RV.tmp rfl)) ?_
                                               refine congrArg (Value.int .i64) ?_
                                               first | exact ck6 (by omega) | exact ck15 (by omega) (fun h => absurd (fun r hr => by have := h r hr; omega) (by assumption)) | exact fin2 (by omega) (lenI (Classical.not_not.1 (by assumption))) (by omega) hg hm0 hm (.inl (by assumption)) | exact fin2 (by omega) (lenI (Classical.not_not.1 (by assumption))) (by omega) hg hm0 hm (.inr (by assumption)) | exact fin0 (by omega) (lenI (Classical.not_not.1 (by assumption))) (by omega) hg hm0 hm (by assumption) (by assumption))
                                          · first
                                            | (exfalso; omega)
                                            | (refine W.skip ?_
                                               refine W.sreg ?_
                                               refine WO.p rfl rfl ?_
                                               refine WO.nil ?_
                                               refine W.ret ?_
                                               refine fin.ret (Res.one rfl (RV.tmp rfl)) ?_
                                               refine congrArg (Value.int .i64) ?_
                                               first | exact ck6 (by omega) | exact ck15 (by omega) (fun h => absurd (fun r hr => by have := h r hr; omega) (by assumption)) | exact fin2 (by omega) (lenI (Classical.not_not.1 (by assumption))) (by omega) hg hm0 hm (.inl (by assumption)) | exact fin2 (by omega) (lenI (Classical.not_not.1 (by assumption))) (by omega) hg hm0 hm (.inr (by assumption)) | exact fin0 (by omega) (lenI (Classical.not_not.1 (by assumption))) (by omega) hg hm0 hm (by assumption) (by assumption)))))
                           · first
                             | (exfalso; omega)
                             | (refine WO.no rfl rfl (WO.no rfl rfl (WO.no rfl rfl (WO.no rfl rfl (WO.p rfl rfl (WO.p rfl rfl ?_)))))
                                refine WO.nil ?_
                                refine W.sreg ?_
                                refine WO.p rfl rfl ?_
                                refine WO.nil ?_
                                refine W.seq ?_
                                refine W.sreg ?_
                                refine WO.fieldL rfl rfl rfl (WO.load rfl rfl (Cell.own (Pick.tail (Pick.tail (Pick.head))) rfl) rfl ?_)
                                refine' WO.len (n := _) rfl rfl ?hs rfl ?_
                                case hs => (first | exact hR.sl | (refine (hR.row _ ?_).sl; omega))
                                refine WO.p rfl rfl ?_
                                refine WO.nil ?_
                                refine W.block ?_
                                refine W.loop3 (fun (i : Nat) (g : Bool) (m : Int) => i ≤ rows.length ∧ (g = true ↔ (1 ≤ sp ∧ sp ≤ 1000 ∧ 1 ≤ st ∧ st ≤ 100) ∧ ∀ r ∈ rows.take i, ∀ x ∈ r, okR x = true) ∧ 0 ≤ m ∧ (0 < m ↔ ∃ r ∈ rows.take i, ∃ x ∈ r, posR x = true))
                                  (fun (i : Nat) (g : Bool) (m : Int) => [(48, .int .i64 (i : Int)), (47, .int .i64 (rows.length : Int)), (46, o), (4, .bool g), (5, .int .i64 m)])
                                  (fun (i : Nat) (g : Bool) (m : Int) => [])
                                  (fun (i : Nat) (g : Bool) (m : Int) => rows.length - i) 0 _ 0
                                  (by exact ⟨by omega, by simp [bl_t]; omega, by omega, by simp⟩) ⟨rfl, rfl, rfl, rfl, rfl, trivial⟩ (by repeat (first | exact Sub.nil | refine Sub.cons (by repeat (first | exact Pick.head | apply Pick.tail)) ?_)) ?_
                                rintro i g m ⟨hi, hg, hm0, hm⟩
                                refine W.sreg ?_
                                refine WO.p rfl rfl ?_
                                refine WO.nil ?_
                                refine W.seq ?_
                                refine W.cond_bl rfl (fun c13 => ?_) (fun c13 => ?_)
                                · first
                                  | (exfalso; omega)
                                  | (refine W.skip ?_
                                     refine W.seq ?_
                                     refine W.block ?_
                                     refine W.sreg ?_
                                     refine' WO.indexAddr (n := _) (i := _) rfl rfl rfl ?hs ?h1 rfl ?_
                                     case hs => (first | exact hR.sl | (refine (hR.row _ ?_).sl; omega))
                                     case h1 => (first | omega | (simp; omega))
                                     refine' WO.load (v := _) rfl rfl ?hc rfl ?_
                                     case hc => (first | (refine hR.cellV ?_; omega))
                                     refine WO.p rfl rfl ?_
                                     refine WO.nil ?_
                                     refine W.sreg ?_
                                     refine WO.p rfl rfl ?_
                                     refine' WO.len (n := _) rfl rfl ?hs rfl ?_
                                     case hs => (first | exact hR.sl | (refine (hR.row _ ?_).sl; omega))
                                     refine WO.p rfl rfl ?_
                                     refine WO.nil ?_
                                     refine W.block ?_
                                     refine W.loop3 (fun (k : Nat) (g' : Bool) (m' : Int) => k ≤ (rows.getD i []).length ∧ (g' = true ↔ g = true ∧ ∀ x ∈ (rows.getD i []).take k, okR x = true) ∧ 0 ≤ m' ∧ (0 < m' ↔ 0 < m ∨ ∃ x ∈ (rows.getD i []).take k, posR x = true))
                                       (fun (k : Nat) (g' : Bool) (m' : Int) => [(48, .int .i64 (i : Int)), (47, .int .i64 (rows.length : Int)), (46, o), (54, .int .i64 (k : Int)), (53, .int .i64 ((rows.getD i []).length : Int)), (52, rv.getD i undef), (4, .bool g'), (5, .int .i64 m')])
                                       (fun (k : Nat) (g' : Bool) (m' : Int) => [])
                                       (fun (k : Nat) (g' : Bool) (m' : Int) => (rows.getD i []).length - k) 0 g m
                                       (by exact ⟨by omega, by simp, by omega, by simp⟩) ⟨rfl, rfl, rfl, rfl, rfl, rfl, rfl, rfl, trivial⟩ (by repeat (first | exact Sub.nil | refine Sub.cons (by repeat (first | exact Pick.head | apply Pick.tail)) ?_)) ?_
                                     rintro k g' m' ⟨hk, hg', hm0', hm'⟩
                                     have hlk := (hR.row i (by omega)).sl.le
                                     refine W.sreg ?_
                                     refine WO.p rfl rfl ?_
                                     refine WO.nil ?_
                                     refine W.seq ?_
                                     refine W.cond_bl rfl (fun c14 => ?_) (fun c14 => ?_)
                                     · first
                                       | (exfalso; omega)
                                       | (refine W.skip ?_
                                          refine W.seq ?_
                                          refine W.block ?_
                                          refine W.sreg ?_
                                          refine' WO.indexAddr (n := _) (i := _) rfl rfl rfl ?hs ?h1 rfl ?_
                                          case hs => (first | exact hR.sl | (refine (hR.row _ ?_).sl; omega))
                                          case h1 => (first | omega | (simp; omega))
                                          refine' WO.loadA (vs := _) rfl rfl ?hc ?hl rfl ?_
                                          case hc => (first | (refine (hR.row _ ?_).cells ?_ (0, 0) <;> omega))
                                          case hl => rfl
                                          refine WO.alloc rfl rfl rfl (fun b8 hb8 => ?_)
                                          refine WO.storeA rfl rfl rfl rfl Pick.head rfl rfl ?_
                                          refine WO.nil ?_
                                          refine W.sreg ?_
                                          refine WO.p rfl rfl (WO.p rfl rfl ?_)
                                          refine WO.guard_b rfl rfl (fun c15 => ?_) (fun c15 => ?_)
                                          · first
                                            | (exfalso; omega)
                                            | (refine WO.go' rfl (WO.field0 rfl rfl rfl (WO.go' rfl (WO.load rfl rfl (Cell.own Pick.head rfl) rfl (WO.go' rfl (WO.fieldL rfl rfl rfl (WO.go' rfl (WO.load rfl rfl (Cell.own Pick.head rfl) rfl (WO.go' rfl ?_))))))))
                                               refine' WO.buildSl (cs := _) rfl rfl rfl rfl ?hf rfl rfl ?hl rfl (fun v9 => ?_)
                                               case hf => (conv => lhs; simp [-List.getD_eq_getElem?_getD, fillL, vcl, wrl, TTab.pl?.lget']) <;> rfl
                                               case hl => rfl
                                               refine WO.go' rfl ?_
                                               refine WO.callR rfl Try.call46 (fun L w hi => btw_two w _ _ _ _ _ hi) rfl ?_
                                               refine WO.p rfl rfl (WO.p rfl rfl ?_)
                                               refine WO.guard_bl rfl rfl (fun c16 => ?_) (fun c16 => ?_)
                                               · first
                                                 | (exfalso; omega)
                                                 | (refine WO.go' rfl (WO.fieldL rfl rfl rfl (WO.go' rfl (WO.load rfl rfl (Cell.own (Pick.tail (Pick.head)) rfl) rfl (WO.go' rfl (WO.field0 rfl rfl rfl (WO.go' rfl (WO.load rfl rfl (Cell.own (Pick.tail (Pick.head)) rfl) rfl (WO.go' rfl (WO.ar rfl rfl rfl (by (first | (unfold in64; omega))) rfl (WO.go' rfl ?_))))))))))
                                                    refine' WO.buildSl (cs := _) rfl rfl rfl rfl ?hf rfl rfl ?hl rfl (fun v10 => ?_)
                                                    case hf => (conv => lhs; simp [-List.getD_eq_getElem?_getD, fillL, vcl, wrl, TTab.pl?.lget']) <;> rfl
                                                    case hl => rfl
                                                    refine WO.go' rfl ?_
                                                    refine WO.callR rfl Try.call46 (fun L w hi => btw_one w _ _ _ _ hi) rfl ?_
                                                    refine WO.p rfl rfl (WO.p rfl rfl ?_)
                                                    refine WO.nil ?_
                                                    refine W.region ?_
                                                    refine WO.p rfl rfl (WO.field0 rfl rfl rfl (WO.load rfl rfl (Cell.own (Pick.tail (Pick.tail (Pick.head))) rfl) rfl ?_))
                                                    refine WO.max2 rfl rfl rfl ?_
                                                    refine WO.p rfl rfl ?_
                                                    refine WO.nil ?_
                                                    refine W.region ?_
                                                    refine WO.ar rfl rfl rfl (by (first | (unfold in64; omega))) rfl (WO.p rfl rfl ?_)
                                                    refine WO.nil ?_
                                                    refine' ⟨k + 1, _, _, ?hp, ?hmu, ⟨rfl, rfl, rfl, rfl, rfl, rfl, rfl, rfl, trivial⟩, ?hS⟩
                                                    case hS => repeat (first | exact Sub.nil | refine Sub.cons (by repeat (first | exact Pick.head | apply Pick.tail)) ?_)
                                                    case hp => exact ⟨by omega, okStep (by omega) hg' (by first | exact q1 (by assumption) | exact q2 (by assumption) | exact q3 (by assumption) (by assumption)), by omega, posStep (by omega) hm0' hm'⟩
                                                    case hmu => omega)
                                               · first
                                                 | (exfalso; omega)
                                                 | (refine WO.no rfl rfl (WO.no rfl rfl (WO.no rfl rfl (WO.no rfl rfl (WO.no rfl rfl (WO.no rfl rfl (WO.no rfl rfl (WO.p rfl rfl (WO.p rfl rfl ?_))))))))
                                                    refine WO.nil ?_
                                                    refine W.region ?_
                                                    refine WO.p rfl rfl (WO.field0 rfl rfl rfl (WO.load rfl rfl (Cell.own (Pick.tail (Pick.head)) rfl) rfl ?_))
                                                    refine WO.max2 rfl rfl rfl ?_
                                                    refine WO.p rfl rfl ?_
                                                    refine WO.nil ?_
                                                    refine W.region ?_
                                                    refine WO.ar rfl rfl rfl (by (first | (unfold in64; omega))) rfl (WO.p rfl rfl ?_)
                                                    refine WO.nil ?_
                                                    refine' ⟨k + 1, _, _, ?hp, ?hmu, ⟨rfl, rfl, rfl, rfl, rfl, rfl, rfl, rfl, trivial⟩, ?hS⟩
                                                    case hS => repeat (first | exact Sub.nil | refine Sub.cons (by repeat (first | exact Pick.head | apply Pick.tail)) ?_)
                                                    case hp => exact ⟨by omega, okStep (by omega) hg' (by first | exact q1 (by assumption) | exact q2 (by assumption) | exact q3 (by assumption) (by assumption)), by omega, posStep (by omega) hm0' hm'⟩
                                                    case hmu => omega))
                                          · first
                                            | (exfalso; omega)
                                            | (refine WO.no rfl rfl (WO.no rfl rfl (WO.no rfl rfl (WO.no rfl rfl (WO.no rfl rfl (WO.no rfl rfl (WO.p rfl rfl (WO.p rfl rfl (WO.no rfl rfl (WO.no rfl rfl (WO.no rfl rfl (WO.no rfl rfl ?_)))))))))))
                                               refine WO.no rfl rfl (WO.no rfl rfl (WO.no rfl rfl (WO.p rfl rfl (WO.p rfl rfl ?_))))
                                               refine WO.nil ?_
                                               refine W.region ?_
                                               refine WO.p rfl rfl (WO.field0 rfl rfl rfl (WO.load rfl rfl (Cell.own Pick.head rfl) rfl ?_))
                                               refine WO.max2 rfl rfl rfl ?_
                                               refine WO.p rfl rfl ?_
                                               refine WO.nil ?_
                                               refine W.region ?_
                                               refine WO.ar rfl rfl rfl (by (first | (unfold in64; omega))) rfl (WO.p rfl rfl ?_)
                                               refine WO.nil ?_
                                               refine' ⟨k + 1, _, _, ?hp, ?hmu, ⟨rfl, rfl, rfl, rfl, rfl, rfl, rfl, rfl, trivial⟩, ?hS⟩
                                               case hS => repeat (first | exact Sub.nil | refine Sub.cons (by repeat (first | exact Pick.head | apply Pick.tail)) ?_)
                                               case hp => exact ⟨by omega, okStep (by omega) hg' (by first | exact q1 (by assumption) | exact q2 (by assumption) | exact q3 (by assumption) (by assumption)), by omega, posStep (by omega) hm0' hm'⟩
                                               case hmu => omega))
                                     · first
                                       | (exfalso; omega)
                                       | (refine W.exit (blk_same ?_)
                                          refine W.region ?_
                                          refine WO.ar rfl rfl rfl (by (first | (unfold in64; omega))) rfl (WO.p rfl rfl ?_)
                                          refine WO.nil ?_
                                          refine' ⟨i + 1, _, _, ?hp, ?hmu, ⟨rfl, rfl, rfl, rfl, rfl, trivial⟩, ?hS⟩
                                          case hS => repeat (first | exact Sub.nil | refine Sub.cons (by repeat (first | exact Pick.head | apply Pick.tail)) ?_)
                                          case hp => exact ⟨by omega, rowStep (by omega) (by omega) hg hg', by omega, rowStepM (by omega) (by omega) hm hm'⟩
                                          case hmu => omega))
                                · first
                                  | (exfalso; omega)
                                  | (refine W.exit (blk_same ?_)
                                     refine W.seq ?_
                                     refine W.sreg ?_
                                     refine WO.p rfl rfl (WO.p rfl rfl (WO.p rfl rfl ?_))
                                     refine WO.guard_b rfl rfl (fun c17 => ?_) (fun c17 => ?_)
                                     · first
                                       | (exfalso; omega)
                                       | (refine WO.no rfl rfl (WO.no rfl rfl (WO.p rfl rfl ?_))
                                          refine WO.nil ?_
                                          refine W.cond_t rfl ?_
                                          refine W.sreg ?_
                                          refine WO.p rfl rfl ?_
                                          refine WO.nil ?_
                                          refine W.ret ?_
                                          refine fin.ret (Res.one rfl (RV.tmp rfl)) ?_
                                          refine congrArg (Value.int .i64) ?_
                                          first | exact ck6 (by omega) | exact ck15 (by omega) (fun h => absurd (fun r hr => by have := h r hr; omega) (by assumption)) | exact fin2 (by omega) (lenI (Classical.not_not.1 (by assumption))) (by omega) hg hm0 hm (.inl (by assumption)) | exact fin2 (by omega) (lenI (Classical.not_not.1 (by assumption))) (by omega) hg hm0 hm (.inr (by assumption)) | exact fin0 (by omega) (lenI (Classical.not_not.1 (by assumption))) (by omega) hg hm0 hm (by assumption) (by assumption))
                                     · first
                                       | (exfalso; omega)
                                       | (refine WO.pg rfl rfl rfl (WO.pg rfl rfl rfl (WO.p rfl rfl ?_))
                                          refine WO.nil ?_
                                          refine W.cond_bl rfl (fun c18 => ?_) (fun c18 => ?_)
                                          · first
                                            | (exfalso; omega)
                                            | (refine W.sreg ?_
                                               refine WO.p rfl rfl ?_
                                               refine WO.nil ?_
                                               refine W.ret ?_
                                               refine fin.ret (Res.one rfl (RV.tmp rfl)) ?_
                                               refine congrArg (Value.int .i64) ?_
                                               first | exact ck6 (by omega) | exact ck15 (by omega) (fun h => absurd (fun r hr => by have := h r hr; omega) (by assumption)) | exact fin2 (by omega) (lenI (Classical.not_not.1 (by assumption))) (by omega) hg hm0 hm (.inl (by assumption)) | exact fin2 (by omega) (lenI (Classical.not_not.1 (by assumption))) (by omega) hg hm0 hm (.inr (by assumption)) | exact fin0 (by omega) (lenI (Classical.not_not.1 (by assumption))) (by omega) hg hm0 hm (by assumption) (by assumption))
                                          · first
                                            | (exfalso; omega)
                                            | (refine W.skip ?_
                                               refine W.sreg ?_
                                               refine WO.p rfl rfl ?_
                                               refine WO.nil ?_
                                               refine W.ret ?_
                                               refine fin.ret (Res.one rfl (RV.tmp rfl)) ?_
                                               refine congrArg (Value.int .i64) ?_
                                               first | exact ck6 (by omega) | exact ck15 (by omega) (fun h => absurd (fun r hr => by have := h r hr; omega) (by assumption)) | exact fin2 (by omega) (lenI (Classical.not_not.1 (by assumption))) (by omega) hg hm0 hm (.inl (by assumption)) | exact fin2 (by omega) (lenI (Classical.not_not.1 (by assumption))) (by omega) hg hm0 hm (.inr (by assumption)) | exact fin0 (by omega) (lenI (Classical.not_not.1 (by assumption))) (by omega) hg hm0 hm (by assumption) (by assumption))))))))))
end Go.Proofs.Ytgihklgpehfbpaa
namespace Go.Proofs.Ytgihklgpehfbpaa
open Go Go.TH
attribute [local irreducible] W WO pt
set_option maxRecDepth 10000
set_option maxHeartbeats 1000000
section
variable {rows : List (List (Int × Int))} {ys : List (List Int)} {i k : Nat} {e e' : Int} {X : Prop}
/-- places 0 to k - 1 of row i are within the hull -/
def rowTo (rows : List (List (Int × Int))) (ys : List (List Int)) (i k : Nat) : Prop := ∀ k', k' < k → ((rows.getD i []).getD k' (0, 0)).1 ≤ (ys.getD i []).getD k' 0 ∧ (ys.getD i []).getD k' 0 ≤ ((rows.getD i []).getD k' (0, 0)).2
theorem rowTo_t (h : e = 0 ↔ X ∧ rowTo rows ys i k) (hc : ((rows.getD i []).getD k (0, 0)).1 ≤ (ys.getD i []).getD k 0 ∧ (ys.getD i []).getD k 0 ≤ ((rows.getD i []).getD k (0, 0)).2) : e = 0 ↔ X ∧ rowTo rows ys i (k + 1) := by
  rw [h]
  refine and_congr_right fun _ => ⟨fun h j hj => ?_, fun h j hj => h j (by omega)⟩
  rcases Nat.lt_or_ge j k with h1 | h1
  · exact h j h1
  · obtain rfl : j = k := by omega
    exact hc
theorem rowTo_f (hc : ¬ (((rows.getD i []).getD k (0, 0)).1 ≤ (ys.getD i []).getD k 0 ∧ (ys.getD i []).getD k 0 ≤ ((rows.getD i []).getD k (0, 0)).2)) : (3 : Int) = 0 ↔ X ∧ rowTo rows ys i (k + 1) := by
  constructor
  · intro h; omega
  · intro h; exact absurd (h.2 k (by omega)) hc
theorem rowsTo (hk : (ys.getD i []).length ≤ k) (hk' : k ≤ (ys.getD i []).length) (h : e = 0 ↔ ∀ j, j < i → rowIn rows ys j) (h' : e' = 0 ↔ e = 0 ∧ rowTo rows ys i k) : e' = 0 ↔ ∀ j, j < i + 1 → rowIn rows ys j := by
  obtain rfl : k = (ys.getD i []).length := by omega
  rw [h', h]
  constructor
  · rintro ⟨h1, h2⟩ j hj
    rcases Nat.lt_or_ge j i with h3 | h3
    · exact h1 j h3
    · obtain rfl : j = i := by omega
      exact h2
  · intro h1; exact ⟨fun j hj => h1 j (by omega), h1 i (by omega)⟩
end
theorem ct34 {sp st : Int} {rows : List (List (Int × Int))} {ys : List (List Int)} (h : ¬ chkHull sp st rows ≠ 0) (h1 : ys.length = rows.length) (h2 : ∀ i, i < ys.length → (ys.getD i []).length = (rows.getD i []).length) (h3 : ¬ ∀ i, i < ys.length → rowIn rows ys i) : 3 = chkTrue sp st rows ys := by
  rw [chkTrue, if_neg h, if_neg (fun x => x h1), if_neg (fun x => x h2), if_pos h3]
theorem c_CheckTrue (w : World) (sp st : Int) (o o' : Value) (rv rv' : List Value) (rows : List (List (Int × Int))) (ys : List (List Int)) (hR : RdR encP 2 w.heap.size w o rv rows) (hR' : RdR encI 1 w.heap.size w o' rv' ys) :
    Ret Try.prog 20 [.agg #[.int .i64 sp, .int .i64 st, o], o'].toArray w (.int .i64 (chkTrue sp st rows ys)) := by
  refine Ret.of mixed tyTab Try.func20 rfl rfl ?_
  replace hR : RdR encP 2 (fnCx mixed tyTab Try.f20.ntmps w).B (fnCx mixed tyTab Try.f20.ntmps w).w0 o rv rows := hR
  replace hR' : RdR encI 1 (fnCx mixed tyTab Try.f20.ntmps w).B (fnCx mixed tyTab Try.f20.ntmps w).w0 o' rv' ys := hR'
  have hle := hR.sl.le
  have hle' := hR'.sl.le
  refine W.sreg ?_
  refine WO.boxA rfl rfl (fun b1 hb1 => ?_)
  refine WO.p rfl rfl ?_
  refine WO.nil ?_
  refine W.seq ?_
  refine W.sreg ?_
  refine WO.loadA rfl rfl (Cells.own Pick.head) rfl rfl ?_
  refine WO.callR (r := .int .i64 (chkHull sp st rows)) rfl Try.call18 (fun L w hi => c_CheckHull w sp st o rv rows (hR.later hi)) rfl ?_
  refine WO.p rfl rfl ?_
  refine WO.nil ?_
  refine W.sreg ?_
  refine WO.p rfl rfl (WO.p rfl rfl ?_)
  refine WO.nil ?_
  refine W.cond_bl rfl (fun c1 => ?_) (fun c1 => ?_)
  · first
    | (exfalso; omega)
    | (refine W.sreg ?_
       refine WO.p rfl rfl (WO.p rfl rfl ?_)
       refine WO.nil ?_
       refine W.ret ?_
       refine fin.ret (Res.one rfl (RV.tmp rfl)) ?_
       refine congrArg (Value.int .i64) ?_
       first | exact ct1 (by assumption) | exact ct2 (by assumption) (by omega) | exact ct3 (by assumption) (by omega) (i := i) (by omega) (by omega) | exact he.elim (fun h0 => by subst h0; exact ct5 (by assumption) (by omega) (fun j hj => hs j (by omega)) (fun j hj => hin.1 rfl j (by omega))) (fun h0 => by subst h0; exact ct34 (by assumption) (by omega) (fun j hj => hs j (by omega)) (fun h => absurd (hin.2 (fun j hj => h j (by omega))) (by omega))))
  · first
    | (exfalso; omega)
    | (refine W.skip ?_
       refine W.seq ?_
       refine W.sreg ?_
       refine WO.p rfl rfl ?_
       refine' WO.len (n := _) rfl rfl ?hs rfl ?_
       case hs => (first | exact hR.sl | exact hR'.sl | (refine (hR.row _ ?_).sl; omega) | (refine (hR'.row _ ?_).sl; omega))
       refine WO.fieldL rfl rfl rfl (WO.load rfl rfl (Cell.own Pick.head rfl) rfl ?_)
       refine' WO.len (n := _) rfl rfl ?hs rfl ?_
       case hs => (first | exact hR.sl | exact hR'.sl | (refine (hR.row _ ?_).sl; omega) | (refine (hR'.row _ ?_).sl; omega))
       refine WO.p rfl rfl ?_
       refine WO.nil ?_
       refine W.cond_bl rfl (fun c2 => ?_) (fun c2 => ?_)
       · first
         | (exfalso; omega)
         | (refine W.sreg ?_
            refine WO.p rfl rfl ?_
            refine WO.nil ?_
            refine W.ret ?_
            refine fin.ret (Res.one rfl (RV.tmp rfl)) ?_
            refine congrArg (Value.int .i64) ?_
            first | exact ct1 (by assumption) | exact ct2 (by assumption) (by omega) | exact ct3 (by assumption) (by omega) (i := i) (by omega) (by omega) | exact he.elim (fun h0 => by subst h0; exact ct5 (by assumption) (by omega) (fun j hj => hs j (by omega)) (fun j hj => hin.1 rfl j (by omega))) (fun h0 => by subst h0; exact ct34 (by assumption) (by omega) (fun j hj => hs j (by omega)) (fun h => absurd (hin.2 (fun j hj => h j (by omega))) (by omega))))
       · first
         | (exfalso; omega)
         | (refine W.skip ?_
            refine W.sreg ?_
            refine WO.p rfl rfl ?_
            refine WO.nil ?_
            refine W.seq ?_
            refine W.sreg ?_
            refine WO.p rfl rfl ?_
            refine' WO.len (n := _) rfl rfl ?hs rfl ?_
            case hs => (first | exact hR.sl | exact hR'.sl | (refine (hR.row _ ?_).sl; omega) | (refine (hR'.row _ ?_).sl; omega))
            refine WO.p rfl rfl ?_
            refine WO.nil ?_
            refine W.block ?_
            refine W.loop2 (fun (i : Nat) (e : Int) => i ≤ ys.length ∧ (∀ j, j < i → (ys.getD j []).length = (rows.getD j []).length) ∧ (e = 0 ∨ e = 3) ∧ (e = 0 ↔ ∀ j, j < i → rowIn rows ys j))
              (fun (i : Nat) (e : Int) => [(24, .int .i64 (i : Int)), (23, .int .i64 (ys.length : Int)), (22, o'), (6, .int .i64 e), (2, .pointer (some ⟨b1, 0, none⟩))])
              (fun (i : Nat) (e : Int) => [pt b1 (.cells #[.int .i64 sp, .int .i64 st, o] 24 (0, 0))])
              (fun (i : Nat) (e : Int) => ys.length - i) 0 0
              (by exact ⟨by omega, fun j hj => by omega, .inl rfl, fun _ j hj => by omega, fun _ => rfl⟩) ⟨rfl, rfl, rfl, rfl, rfl, trivial⟩ (by repeat (first | exact Sub.nil | refine Sub.cons (by repeat (first | exact Pick.head | apply Pick.tail)) ?_)) ?_
            rintro i e ⟨hi, hs, he, hin⟩
            refine W.sreg ?_
            refine WO.p rfl rfl ?_
            refine WO.nil ?_
            refine W.seq ?_
            refine W.cond_bl rfl (fun c3 => ?_) (fun c3 => ?_)
            · first
              | (exfalso; omega)
              | (refine W.skip ?_
                 refine W.seq ?_
                 refine W.block ?_
                 refine W.sreg ?_
                 refine WO.p rfl rfl ?_
                 refine' WO.indexAddr (n := _) (i := _) rfl rfl rfl ?hs ?h1 rfl ?_
                 case hs => (first | exact hR.sl | exact hR'.sl | (refine (hR.row _ ?_).sl; omega) | (refine (hR'.row _ ?_).sl; omega))
                 case h1 => (first | omega | (simp; omega))
                 refine' WO.load (v := _) rfl rfl ?hc rfl ?_
                 case hc => (first | (refine hR.cellV ?_; omega) | (refine hR'.cellV ?_; omega) | (refine (hR.row _ ?_).cell0 ?_ (0, 0) ?_ <;> first | rfl | omega) | (refine (hR.row _ ?_).cellAt ?_ (0, 0) ?_ <;> first | rfl | omega) | (refine (hR'.row _ ?_).cell0 ?_ 0 ?_ <;> first | rfl | omega))
                 refine WO.p rfl rfl (WO.p rfl rfl ?_)
                 refine WO.nil ?_
                 refine W.seq ?_
                 refine W.sreg ?_
                 refine WO.p rfl rfl ?_
                 refine' WO.len (n := _) rfl rfl ?hs rfl ?_
                 case hs => (first | exact hR.sl | exact hR'.sl | (refine (hR.row _ ?_).sl; omega) | (refine (hR'.row _ ?_).sl; omega))
                 refine WO.fieldL rfl rfl rfl (WO.load rfl rfl (Cell.own Pick.head rfl) rfl (WO.p rfl rfl ?_))
                 refine' WO.indexAddr (n := _) (i := _) rfl rfl rfl ?hs ?h1 rfl ?_
                 case hs => (first | exact hR.sl | exact hR'.sl | (refine (hR.row _ ?_).sl; omega) | (refine (hR'.row _ ?_).sl; omega))
                 case h1 => (first | omega | (simp; omega))
                 refine' WO.load (v := _) rfl rfl ?hc rfl ?_
                 case hc => (first | (refine hR.cellV ?_; omega) | (refine hR'.cellV ?_; omega) | (refine (hR.row _ ?_).cell0 ?_ (0, 0) ?_ <;> first | rfl | omega) | (refine (hR.row _ ?_).cellAt ?_ (0, 0) ?_ <;> first | rfl | omega) | (refine (hR'.row _ ?_).cell0 ?_ 0 ?_ <;> first | rfl | omega))
                 refine' WO.len (n := _) rfl rfl ?hs rfl ?_
                 case hs => (first | exact hR.sl | exact hR'.sl | (refine (hR.row _ ?_).sl; omega) | (refine (hR'.row _ ?_).sl; omega))
                 refine WO.p rfl rfl ?_
                 refine WO.nil ?_
                 refine W.cond_bl rfl (fun c4 => ?_) (fun c4 => ?_)
                 · first
                   | (exfalso; omega)
                   | (refine W.sreg ?_
                      refine WO.p rfl rfl ?_
                      refine WO.nil ?_
                      refine W.ret ?_
                      refine fin.ret (Res.one rfl (RV.tmp rfl)) ?_
                      refine congrArg (Value.int .i64) ?_
                      first | exact ct1 (by assumption) | exact ct2 (by assumption) (by omega) | exact ct3 (by assumption) (by omega) (i := i) (by omega) (by omega) | exact he.elim (fun h0 => by subst h0; exact ct5 (by assumption) (by omega) (fun j hj => hs j (by omega)) (fun j hj => hin.1 rfl j (by omega))) (fun h0 => by subst h0; exact ct34 (by assumption) (by omega) (fun j hj => hs j (by omega)) (fun h => absurd (hin.2 (fun j hj => h j (by omega))) (by omega))))
                 · first
                   | (exfalso; omega)
                   | (refine W.skip ?_
                      refine W.sreg ?_
                      refine WO.p rfl rfl ?_
                      refine' WO.len (n := _) rfl rfl ?hs rfl ?_
                      case hs => (first | exact hR.sl | exact hR'.sl | (refine (hR.row _ ?_).sl; omega) | (refine (hR'.row _ ?_).sl; omega))
                      refine WO.p rfl rfl ?_
                      refine WO.nil ?_
                      refine W.block ?_
                      refine W.loop2 (fun (k : Nat) (e' : Int) => k ≤ (ys.getD i []).length ∧ (e' = 0 ∨ e' = 3) ∧ (e' = 0 ↔ e = 0 ∧ rowTo rows ys i k))
                        (fun (k : Nat) (e' : Int) => [(24, .int .i64 (i : Int)), (23, .int .i64 (ys.length : Int)), (22, o'), (40, .int .i64 (k : Int)), (39, .int .i64 ((ys.getD i []).length : Int)), (38, rv'.getD i undef), (7, .int .i64 (i : Int)), (6, .int .i64 e'), (2, .pointer (some ⟨b1, 0, none⟩))])
                        (fun (k : Nat) (e' : Int) => [pt b1 (.cells #[.int .i64 sp, .int .i64 st, o] 24 (0, 0))])
                        (fun (k : Nat) (e' : Int) => (ys.getD i []).length - k) 0 e
                        (by exact ⟨by omega, he, fun h => ⟨h, fun j hj => by omega⟩, fun h => h.1⟩) ⟨rfl, rfl, rfl, rfl, rfl, rfl, rfl, rfl, rfl, trivial⟩ (by repeat (first | exact Sub.nil | refine Sub.cons (by repeat (first | exact Pick.head | apply Pick.tail)) ?_)) ?_
                      rintro k e' ⟨hk, he', hin'⟩
                      have hlk := (hR'.row i (by omega)).sl.le
                      refine W.sreg ?_
                      refine WO.p rfl rfl ?_
                      refine WO.nil ?_
                      refine W.seq ?_
                      refine W.cond_bl rfl (fun c5 => ?_) (fun c5 => ?_)
                      · first
                        | (exfalso; omega)
                        | (refine W.skip ?_
                           refine W.seq ?_
                           refine W.block ?_
                           refine W.sreg ?_
                           refine WO.p rfl rfl ?_
                           refine' WO.indexAddr (n := _) (i := _) rfl rfl rfl ?hs ?h1 rfl ?_
                           case hs => (first | exact hR.sl | exact hR'.sl | (refine (hR.row _ ?_).sl; omega) | (refine (hR'.row _ ?_).sl; omega))
                           case h1 => (first | omega | (simp; omega))
                           refine' WO.load (v := _) rfl rfl ?hc rfl ?_
                           case hc => (first | (refine hR.cellV ?_; omega) | (refine hR'.cellV ?_; omega) | (refine (hR.row _ ?_).cell0 ?_ (0, 0) ?_ <;> first | rfl | omega) | (refine (hR.row _ ?_).cellAt ?_ (0, 0) ?_ <;> first | rfl | omega) | (refine (hR'.row _ ?_).cell0 ?_ 0 ?_ <;> first | rfl | omega))
                           refine WO.p rfl rfl (WO.p rfl rfl ?_)
                           refine WO.nil ?_
                           refine W.seq ?_
                           refine W.drawD 20 [.r 0 [], .b 1 [], .r 2 [], .r 3 [], .b 4 [], .r 5 [], .r 6 [], .r 7 [], .b 8 [], .r 9 [], .b 10 [], .r 11 [], .r 12 [], .b 13 [], .r 14 [], .r 15 [], .r 16 [], .b 17 [], .r 18 [], .c 19 []] [] (A0 := []) (Sub.refl _) (by kernel_rfl) ?_ ?_
                           · exact (ALok.r (ALok.b (ALok.r (ALok.r (ALok.b (ALok.r (ALok.r (ALok.r (ALok.b (ALok.r (ALok.b (ALok.r (ALok.r (ALok.b (ALok.r (ALok.r (ALok.r (ALok.b (ALok.r (ALok.c ALok.nil))))))))))))))))))))
                           refine' DT.r rfl rfl rfl ?hq ?_
                           case hq =>
                             refine WO.fieldL rfl rfl rfl ?_
                             exact WO.nil ⟨rfl, rfl⟩
                           refine' DT.b rfl rfl rfl ?hq ?_
                           case hq =>
                             refine WO.load rfl rfl (Cell.own Pick.head rfl) rfl ?_
                             exact WO.nil ⟨rfl, rfl⟩
                           refine' DT.r rfl rfl rfl ?hq ?_
                           case hq =>
                             refine WO.p rfl rfl ?_
                             exact WO.nil ⟨rfl, rfl⟩
                           refine' DT.r rfl rfl rfl ?hq ?_
                           case hq =>
                             refine' WO.indexAddr (n := _) (i := _) rfl rfl rfl ?hs ?h1 rfl ?_
                             case hs => (first | exact hR.sl | exact hR'.sl | (refine (hR.row _ ?_).sl; omega) | (refine (hR'.row _ ?_).sl; omega))
                             case h1 => (first | omega | (simp; omega))
                             exact WO.nil ⟨rfl, rfl⟩
                           refine' DT.b rfl rfl rfl ?hq ?_
                           case hq =>
                             refine' WO.load (v := _) rfl rfl ?hc rfl ?_
                             case hc => (first | (refine hR.cellV ?_; omega) | (refine hR'.cellV ?_; omega) | (refine (hR.row _ ?_).cell0 ?_ (0, 0) ?_ <;> first | rfl | omega) | (refine (hR.row _ ?_).cellAt ?_ (0, 0) ?_ <;> first | rfl | omega) | (refine (hR'.row _ ?_).cell0 ?_ 0 ?_ <;> first | rfl | omega))
                             exact WO.nil ⟨rfl, rfl⟩
                           refine' DT.r rfl rfl rfl ?hq ?_
                           case hq =>
                             refine WO.p rfl rfl ?_
                             exact WO.nil ⟨rfl, rfl⟩
                           refine' DT.r rfl rfl rfl ?hq ?_
                           case hq =>
                             refine' WO.indexAddr (n := _) (i := _) rfl rfl rfl ?hs ?h1 rfl ?_
                             case hs => (first | exact hR.sl | exact hR'.sl | (refine (hR.row _ ?_).sl; omega) | (refine (hR'.row _ ?_).sl; omega))
                             case h1 => (first | omega | (simp; omega))
                             exact WO.nil ⟨rfl, rfl⟩
                           refine' DT.r rfl rfl rfl ?hq ?_
                           case hq =>
                             refine WO.field0 rfl rfl rfl ?_
                             exact WO.nil ⟨rfl, rfl⟩
                           refine' DT.b rfl rfl rfl ?hq ?_
                           case hq =>
                             refine' WO.load (v := _) rfl rfl ?hc rfl ?_
                             case hc => (first | (refine hR.cellV ?_; omega) | (refine hR'.cellV ?_; omega) | (refine (hR.row _ ?_).cell0 ?_ (0, 0) ?_ <;> first | rfl | omega) | (refine (hR.row _ ?_).cellAt ?_ (0, 0) ?_ <;> first | rfl | omega) | (refine (hR'.row _ ?_).cell0 ?_ 0 ?_ <;> first | rfl | omega))
                             exact WO.nil ⟨rfl, rfl⟩
                           refine' DT.r rfl rfl rfl ?hq ?_
                           case hq =>
                             refine WO.fieldL rfl rfl rfl ?_
                             exact WO.nil ⟨rfl, rfl⟩
                           refine' DT.b rfl rfl rfl ?hq ?_
                           case hq =>
                             refine WO.load rfl rfl (Cell.own Pick.head rfl) rfl ?_
                             exact WO.nil ⟨rfl, rfl⟩
                           refine' DT.r rfl rfl rfl ?hq ?_
                           case hq =>
                             refine WO.p rfl rfl ?_
                             exact WO.nil ⟨rfl, rfl⟩
                           refine' DT.r rfl rfl rfl ?hq ?_
                           case hq =>
                             refine' WO.indexAddr (n := _) (i := _) rfl rfl rfl ?hs ?h1 rfl ?_
                             case hs => (first | exact hR.sl | exact hR'.sl | (refine (hR.row _ ?_).sl; omega) | (refine (hR'.row _ ?_).sl; omega))
                             case h1 => (first | omega | (simp; omega))
                             exact WO.nil ⟨rfl, rfl⟩
                           refine' DT.b rfl rfl rfl ?hq ?_
                           case hq =>
                             refine' WO.load (v := _) rfl rfl ?hc rfl ?_
                             case hc => (first | (refine hR.cellV ?_; omega) | (refine hR'.cellV ?_; omega) | (refine (hR.row _ ?_).cell0 ?_ (0, 0) ?_ <;> first | rfl | omega) | (refine (hR.row _ ?_).cellAt ?_ (0, 0) ?_ <;> first | rfl | omega) | (refine (hR'.row _ ?_).cell0 ?_ 0 ?_ <;> first | rfl | omega))
                             exact WO.nil ⟨rfl, rfl⟩
                           refine' DT.r rfl rfl rfl ?hq ?_
                           case hq =>
                             refine WO.p rfl rfl ?_
                             exact WO.nil ⟨rfl, rfl⟩
                           refine' DT.r rfl rfl rfl ?hq ?_
                           case hq =>
                             refine' WO.indexAddr (n := _) (i := _) rfl rfl rfl ?hs ?h1 rfl ?_
                             case hs => (first | exact hR.sl | exact hR'.sl | (refine (hR.row _ ?_).sl; omega) | (refine (hR'.row _ ?_).sl; omega))
                             case h1 => (first | omega | (simp; omega))
                             exact WO.nil ⟨rfl, rfl⟩
                           refine' DT.r rfl rfl rfl ?hq ?_
                           case hq =>
                             refine WO.field rfl rfl rfl ?_
                             exact WO.nil ⟨rfl, rfl⟩
                           refine' DT.b rfl rfl rfl ?hq ?_
                           case hq =>
                             refine' WO.load (v := _) rfl rfl ?hc rfl ?_
                             case hc => (first | (refine hR.cellV ?_; omega) | (refine hR'.cellV ?_; omega) | (refine (hR.row _ ?_).cell0 ?_ (0, 0) ?_ <;> first | rfl | omega) | (refine (hR.row _ ?_).cellAt ?_ (0, 0) ?_ <;> first | rfl | omega) | (refine (hR'.row _ ?_).cell0 ?_ 0 ?_ <;> first | rfl | omega))
                             exact WO.nil ⟨rfl, rfl⟩
                           refine' DT.r rfl rfl rfl ?hq ?_
                           case hq =>
                             refine WO.p rfl rfl ?_
                             exact WO.nil ⟨rfl, rfl⟩
                           refine DT.c [_] rfl rfl rfl rfl ?_
                           refine' WO.buildSl (cs := _) rfl rfl rfl rfl ?hf rfl rfl ?hl rfl (fun v2 => ?_)
                           case hf => (conv => lhs; simp [-List.getD_eq_getElem?_getD, fillL, vcl, wrl, TTab.pl?.lget']) <;> rfl
                           case hl => rfl
                           refine WO.nil ⟨_, [_], rfl, rfl, (Keep.r (Keep.b (Keep.r (Keep.r (Keep.r (Keep.b (Keep.r (Keep.r (Keep.b (Keep.r (Keep.b (Keep.r (Keep.r (Keep.r (Keep.b (Keep.r (Keep.r (Keep.b (Keep.r Keep.nil))))))))))))))))))), ?_⟩
                           refine DT.nil [_, _] rfl ?_
                           refine WO.callR rfl Try.call46 (fun L w hi => btw_one w _ _ ((ys.getD i []).getD k 0) _ hi) rfl ?_
                           refine WO.p rfl rfl ?_
                           refine WO.nil ?_
                           refine W.cond_nbl rfl (fun c6 => ?_) (fun c6 => ?_)
                           · first
                             | (exfalso; omega)
                             | (refine W.region ?_
                                refine WO.p rfl rfl ?_
                                refine WO.nil ?_
                                refine W.region ?_
                                refine WO.ar rfl rfl rfl (by (first | (unfold in64; omega))) rfl (WO.p rfl rfl ?_)
                                refine WO.nil ?_
                                refine' ⟨k + 1, _, ?hp, ?hmu, ⟨rfl, rfl, rfl, rfl, rfl, rfl, rfl, rfl, rfl, trivial⟩, ?hS⟩
                                case hS => repeat (first | exact Sub.nil | refine Sub.cons (by repeat (first | exact Pick.head | apply Pick.tail)) ?_)
                                case hp => exact ⟨by omega, by first | exact he' | exact .inr rfl, by first | exact rowTo_t hin' (by assumption) | exact rowTo_f (by assumption)⟩
                                case hmu => omega)
                           · first
                             | (exfalso; omega)
                             | (refine W.skip ?_
                                refine W.region ?_
                                refine WO.ar rfl rfl rfl (by (first | (unfold in64; omega))) rfl (WO.p rfl rfl ?_)
                                refine WO.nil ?_
                                refine' ⟨k + 1, _, ?hp, ?hmu, ⟨rfl, rfl, rfl, rfl, rfl, rfl, rfl, rfl, rfl, trivial⟩, ?hS⟩
                                case hS => repeat (first | exact Sub.nil | refine Sub.cons (by repeat (first | exact Pick.head | apply Pick.tail)) ?_)
                                case hp => exact ⟨by omega, by first | exact he' | exact .inr rfl, by first | exact rowTo_t hin' (by assumption) | exact rowTo_f (by assumption)⟩
                                case hmu => omega))
                      · first
                        | (exfalso; omega)
                        | (refine W.exit (blk_same ?_)
                           refine W.region ?_
                           refine WO.ar rfl rfl rfl (by (first | (unfold in64; omega))) rfl (WO.p rfl rfl ?_)
                           refine WO.nil ?_
                           refine' ⟨i + 1, _, ?hp, ?hmu, ⟨rfl, rfl, rfl, rfl, rfl, trivial⟩, ?hS⟩
                           case hS => repeat (first | exact Sub.nil | refine Sub.cons (by repeat (first | exact Pick.head | apply Pick.tail)) ?_)
                           case hp => exact ⟨by omega, fun j hj => by rcases Nat.lt_or_ge j i with h | h; exact hs j h; obtain rfl : j = i := (by omega); omega, he', rowsTo (by omega) hk hin hin'⟩
                           case hmu => omega)))
            · first
              | (exfalso; omega)
              | (refine W.exit (blk_same ?_)
                 refine W.sreg ?_
                 refine WO.p rfl rfl (WO.p rfl rfl ?_)
                 refine WO.nil ?_
                 refine W.ret ?_
                 refine fin.ret (Res.one rfl (RV.tmp rfl)) ?_
                 refine congrArg (Value.int .i64) ?_
                 first | exact ct1 (by assumption) | exact ct2 (by assumption) (by omega) | exact ct3 (by assumption) (by omega) (i := i) (by omega) (by omega) | exact he.elim (fun h0 => by subst h0; exact ct5 (by assumption) (by omega) (fun j hj => hs j (by omega)) (fun j hj => hin.1 rfl j (by omega))) (fun h0 => by subst h0; exact ct34 (by assumption) (by omega) (fun j hj => hs j (by omega)) (fun h => absurd (hin.2 (fun j hj => h j (by omega))) (by omega))))))
end Go.Proofs.Ytgihklgpehfbpaa
namespace Go.Proofs.Ytgihklgpehfbpaa
open Go Go.TH
attribute [local irreducible] W WO pt
set_option maxRecDepth 10000
set_option maxHeartbeats 1000000
theorem c_weight (w : World) (i n : Nat) (hi : i < n) (hn : n ≤ 1000) : Ret Try.prog 66 [.agg #[.int .i64 1, .int .i64 2], .int .i64 (i : Int), .int .i64 (n : Int)].toArray w (.int .i64 (wgt i n)) := by
  refine Ret.of mixed tyTab Try.func66 rfl rfl ?_
  refine W.sreg ?_
  refine WO.boxA rfl rfl (fun b1 hb1 => ?_)
  refine WO.p rfl rfl ?_
  refine WO.nil ?_
  refine W.seq ?_
  refine W.sreg ?_
  refine WO.p rfl rfl (WO.p rfl rfl (WO.p rfl rfl ?_))
  refine WO.guard_bl rfl rfl (fun c1 => ?_) (fun c1 => ?_)
  · first
    | (exfalso; omega)
    | (refine WO.pg rfl rfl rfl (WO.pg rfl rfl rfl (WO.go' rfl (WO.ar rfl rfl rfl (by (first | (unfold in64; omega))) rfl (WO.pg rfl rfl rfl (WO.p rfl rfl ?_)))))
       refine WO.nil ?_
       refine W.cond_bl rfl (fun c2 => ?_) (fun c2 => ?_)
       · first
         | (exfalso; omega)
         | (refine W.sreg ?_
            refine WO.indexArrL (o' := 1) rfl rfl rfl (by decide) rfl rfl ?_
            refine WO.load rfl rfl (Cell.own Pick.head rfl) rfl (WO.p rfl rfl ?_)
            refine WO.nil ?_
            refine W.ret ?_
            refine fin.ret (Res.one rfl (RV.tmp rfl)) ?_
            refine congrArg (Value.int .i64) ?_
            unfold wgt; first | rw [if_pos (by omega)] | rw [if_neg (by omega)])
       · first
         | (exfalso; omega)
         | (refine W.skip ?_
            refine W.sreg ?_
            refine WO.indexArrL (o' := 0) rfl rfl rfl (by decide) rfl rfl ?_
            refine WO.load rfl rfl (Cell.own Pick.head rfl) rfl (WO.p rfl rfl ?_)
            refine WO.nil ?_
            refine W.ret ?_
            refine fin.ret (Res.one rfl (RV.tmp rfl)) ?_
            refine congrArg (Value.int .i64) ?_
            unfold wgt; first | rw [if_pos (by omega)] | rw [if_neg (by omega)]))
  · first
    | (exfalso; omega)
    | (refine WO.no rfl rfl (WO.no rfl rfl (WO.no rfl rfl (WO.no rfl rfl (WO.p rfl rfl ?_))))
       refine WO.nil ?_
       refine W.cond_f rfl ?_
       refine W.skip ?_
       refine W.sreg ?_
       refine WO.indexArrL (o' := 0) rfl rfl rfl (by decide) rfl rfl ?_
       refine WO.load rfl rfl (Cell.own Pick.head rfl) rfl (WO.p rfl rfl ?_)
       refine WO.nil ?_
       refine W.ret ?_
       refine fin.ret (Res.one rfl (RV.tmp rfl)) ?_
       refine congrArg (Value.int .i64) ?_
       unfold wgt; first | rw [if_pos (by omega)] | rw [if_neg (by omega)])
theorem c_places (w : World) (p : Addr) : Ct Try.prog 56 [.pointer (some p)].toArray w fun v w' => ∃ Hq, (∃ b1 b2, v = .func (.func 67) #[] #[.pointer (some ⟨b1, 0, none⟩), .pointer (some ⟨b2, 0, none⟩)] ∧
    Hq = [pt b2 (.cells #[.func (.func 66) #[.agg #[.int .i64 1, .int .i64 2]] #[]] 95 (0, 0)), pt b1 (.cells #[.pointer (some p)] 71 (0, 0))]) ∧ Inv w [] Hq w' := by
  refine Ct.of mixed tyTab Try.func56 rfl rfl ?_
  refine W.sreg ?_
  refine WO.box1 rfl (by first | rfl | assumption) rfl (fun b1 hb1 => ?_)
  refine WO.p rfl rfl ?_
  refine WO.nil ?_
  refine W.sreg ?_
  refine' WO.build (cs := _) rfl rfl rfl ?hf rfl ?_
  case hf => (conv => lhs; simp [-List.getD_eq_getElem?_getD, fillL, vcl, wrl, TTab.pl?.lget']) <;> rfl
  refine WO.p rfl rfl ?_
  refine WO.alloc rfl rfl rfl (fun b2 hb2 => ?_)
  refine WO.store1 rfl rfl rfl (by first | rfl | assumption) Pick.head rfl ?_
  refine WO.nil ?_
  refine W.sreg ?_
  refine WO.p rfl rfl (WO.p rfl rfl ?_)
  refine WO.nil ?_
  refine W.ret ?_
  exact fin.ret (Res.one rfl (RV.tmp rfl)) ⟨b1, b2, rfl, rfl⟩
/-- the places of a hull, in order -/
def plcTo (rows : List (List (Int × Int))) (i : Nat) : List (Nat × Nat) := (List.range i).flatMap fun i => (List.range (rows.getD i []).length).map fun k => (i, k)
def plc (rows : List (List (Int × Int))) : List (Nat × Nat) := plcTo rows rows.length
theorem plcTo_succ (rows : List (List (Int × Int))) (i : Nat) : plcTo rows (i + 1) = plcTo rows i ++ (List.range (rows.getD i []).length).map fun k => (i, k) := by
  unfold plcTo; rw [List.range_succ, List.flatMap_append]; simp
theorem plcTo_len (rows : List (List (Int × Int))) (i : Nat) : (plcTo rows (i + 1)).length = (plcTo rows i).length + (rows.getD i []).length := by rw [plcTo_succ]; simp
theorem plcTo_get (rows : List (List (Int × Int))) {i k : Nat} : ∀ {n : Nat}, i < n → k < (rows.getD i []).length → (plcTo rows n)[(plcTo rows i).length + k]? = some (i, k)
  | 0, h, _ => by omega
  | n + 1, h, hk => by
    rw [plcTo_succ]
    rcases Nat.lt_or_ge i n with h1 | h1
    · have := plcTo_get rows (n := n) h1 hk
      rw [List.getElem?_append_left (List.getElem?_eq_some_iff.1 this).1]; exact this
    · obtain rfl : i = n := by omega
      rw [List.getElem?_append_right (by omega), Nat.add_sub_cancel_left, List.getElem?_map, List.getElem?_range hk]
      rfl
def placeV (n m i k : Nat) : Value := .agg #[.int .i64 (i : Int), .int .i64 (k : Int), .int .i64 (wgt i n * wgt k m), .int .i64 (wgt i n), .bool (bl ((k : Int) = (m : Int) - 1))]
def plcV (rows : List (List (Int × Int))) : List Value := (plc rows).map fun q => placeV rows.length (rows.getD q.1 []).length q.1 q.2
theorem plcV_get {rows : List (List (Int × Int))} {i k : Nat} (hi : i < rows.length) (hk : k < (rows.getD i []).length) : (plcV rows)[(plcTo rows i).length + k]? = some (placeV rows.length (rows.getD i []).length i k) := by
  unfold plcV plc; rw [List.getElem?_map, plcTo_get rows hi hk]; rfl
theorem c_places1 (B : Nat) (wr : World) (p : Addr) (sp st : Int) (o : Value) (rv : List Value) (rows : List (List (Int × Int))) (X : HP) (hR : RdR encP 2 B wr o rv rows) (hv : HV sp st rows)
    (l : Nat) (Hc : Nat → List HP) (hy : ∀ k x, (plcV rows)[k]? = some x → YieldOK Try.prog B wr l #[x] (Hc k) (Hc (k + 1))) (b1 b2 : Nat) (w : World) (M' : List Nat) (hB : B ≤ w.heap.size) (hk : ∀ k, k < B → w.heap[k]? = wr.heap[k]?) (hM : ∀ b ∈ M', B ≤ b)
    (hPX : ∀ H : List HP, Sub H [X] → Cell (itCx mixed tyTab Try.f67.ntmps w M' B hB hM) H (prt p 2) o)
    (hi : Inv w M' ([pt b2 (.cells #[.func (.func 66) #[.agg #[.int .i64 1, .int .i64 2]] #[]] 95 (0, 0)), pt b1 (.cells #[.pointer (some p)] 71 (0, 0)), X] ++ Hc 0) w) :
    Ct Try.prog 67 ([.func (.yield l) #[] #[], .pointer (some ⟨b1, 0, none⟩), .pointer (some ⟨b2, 0, none⟩)] : List Value).toArray w fun _ w' => Inv w M' ([pt b2 (.cells #[.func (.func 66) #[.agg #[.int .i64 1, .int .i64 2]] #[]] 95 (0, 0)), pt b1 (.cells #[.pointer (some p)] 71 (0, 0)), X] ++ Hc (plcV rows).length) w' := by
  refine Iter.of mixed tyTab hB hM Try.func67 rfl rfl hi ?_
  replace hR : RdR encP 2 (itCx mixed tyTab Try.f67.ntmps w M' B hB hM).B (itCx mixed tyTab Try.f67.ntmps w M' B hB hM).w0 o rv rows := hR.agree hk
  have hle := hR.sl.le
  have hn := hv.n
  have hm := hv.m
  refine W.sreg ?_
  refine WO.load rfl rfl (Cell.own (Pick.tail (Pick.head)) rfl) rfl (WO.p rfl rfl (WO.field0 rfl rfl rfl (WO.field rfl rfl rfl ?_)))
  refine' WO.load (v := _) rfl rfl ?hc rfl ?_
  case hc => (first | (refine hPX _ ?_; repeat (first | exact Sub.nil | refine Sub.cons (by repeat (first | exact Pick.head | apply Pick.tail)) ?_)) | (refine hR.cellV ?_; omega))
  refine' WO.len (n := _) rfl rfl ?hs rfl ?_
  case hs => (first | exact hR.sl | (refine (hR.row _ ?_).sl; omega))
  refine WO.p rfl rfl ?_
  refine WO.nil ?_
  refine W.block ?_
  refine W.loop (fun (i : Nat) => i ≤ rows.length)
    (fun (i : Nat) => [(14, .int .i64 (i : Int)), (13, .int .i64 (rows.length : Int)), (12, o), (0, .func (.yield l) #[] #[]), (1, .pointer (some ⟨b1, 0, none⟩)), (2, .pointer (some ⟨b2, 0, none⟩))])
    (fun (i : Nat) => [pt b1 (.cells #[.pointer (some p)] 71 (0, 0)), pt b2 (.cells #[.func (.func 66) #[.agg #[.int .i64 1, .int .i64 2]] #[]] 95 (0, 0)), X, sat (Hc (plcTo rows i).length)])
    (fun (i : Nat) => rows.length - i) 0
    (by exact Nat.zero_le _) ⟨rfl, rfl, rfl, rfl, rfl, rfl, trivial⟩ (by repeat (first | exact Sub.nil | refine Sub.cons (by repeat (first | exact Pick.head | apply Pick.tail)) ?_)) ?_
  rintro i hi'
  refine W.sreg ?_
  refine WO.p rfl rfl ?_
  refine WO.nil ?_
  refine W.seq ?_
  refine W.cond_bl rfl (fun c1 => ?_) (fun c1 => ?_)
  · first
    | (exfalso; omega)
    | (refine W.skip ?_
       refine W.seq ?_
       refine W.block ?_
       refine W.sreg ?_
       refine WO.p rfl rfl ?_
       refine' WO.indexAddr (n := _) (i := _) rfl rfl rfl ?hs ?h1 rfl ?_
       case hs => (first | exact hR.sl | (refine (hR.row _ ?_).sl; omega))
       case h1 => (first | omega | (simp; omega))
       refine' WO.load (v := _) rfl rfl ?hc rfl ?_
       case hc => (first | (refine hPX _ ?_; repeat (first | exact Sub.nil | refine Sub.cons (by repeat (first | exact Pick.head | apply Pick.tail)) ?_)) | (refine hR.cellV ?_; omega))
       refine WO.p rfl rfl (WO.p rfl rfl ?_)
       refine WO.nil ?_
       refine W.sreg ?_
       refine WO.p rfl rfl ?_
       refine' WO.len (n := _) rfl rfl ?hs rfl ?_
       case hs => (first | exact hR.sl | (refine (hR.row _ ?_).sl; omega))
       refine WO.p rfl rfl ?_
       refine WO.nil ?_
       refine W.block ?_
       refine W.loop (fun (k : Nat) => k ≤ (rows.getD i []).length)
         (fun (k : Nat) => [(14, .int .i64 (i : Int)), (13, .int .i64 (rows.length : Int)), (12, o), (21, .int .i64 (k : Int)), (20, .int .i64 ((rows.getD i []).length : Int)), (19, rv.getD i undef), (4, .int .i64 (i : Int)), (5, rv.getD i undef), (0, .func (.yield l) #[] #[]), (1, .pointer (some ⟨b1, 0, none⟩)), (2, .pointer (some ⟨b2, 0, none⟩))])
         (fun (k : Nat) => [pt b1 (.cells #[.pointer (some p)] 71 (0, 0)), pt b2 (.cells #[.func (.func 66) #[.agg #[.int .i64 1, .int .i64 2]] #[]] 95 (0, 0)), X, sat (Hc ((plcTo rows i).length + k))])
         (fun (k : Nat) => (rows.getD i []).length - k) 0
         (by exact Nat.zero_le _) ⟨rfl, rfl, rfl, rfl, rfl, rfl, rfl, rfl, rfl, rfl, rfl, trivial⟩ (by repeat (first | exact Sub.nil | refine Sub.cons (by repeat (first | exact Pick.head | apply Pick.tail)) ?_)) ?_
       rintro k hk'
       have hlk := hv.eq i (by omega)
       refine W.sreg ?_
       refine WO.p rfl rfl ?_
       refine WO.nil ?_
       refine W.seq ?_
       refine W.cond_bl rfl (fun c2 => ?_) (fun c2 => ?_)
       · first
         | (exfalso; omega)
         | (refine W.skip ?_
            refine W.seq ?_
            refine W.block ?_
            refine W.sreg ?_
            refine WO.p rfl rfl (WO.p rfl rfl ?_)
            refine WO.nil ?_
            refine W.seq ?_
            refine W.drawD 8 [.b 0 [], .r 1 [], .b 2 [], .r 3 [], .r 4 [], .r 5 [], .b 6 [], .r 7 []] [] (A0 := []) (Sub.refl _) (by kernel_rfl) ?_ ?_
            · exact (ALok.b (ALok.r (ALok.b (ALok.r (ALok.r (ALok.r (ALok.b (ALok.r ALok.nil))))))))
            refine' DT.b rfl rfl rfl ?hq ?_
            case hq =>
              refine WO.load rfl rfl (Cell.own (Pick.tail (Pick.head)) rfl) rfl ?_
              exact WO.nil ⟨rfl, rfl⟩
            refine' DT.r rfl rfl rfl ?hq ?_
            case hq =>
              refine WO.p rfl rfl ?_
              exact WO.nil ⟨rfl, rfl⟩
            refine' DT.b rfl rfl rfl ?hq ?_
            case hq =>
              refine WO.load rfl rfl (Cell.own Pick.head rfl) rfl ?_
              exact WO.nil ⟨rfl, rfl⟩
            refine' DT.r rfl rfl rfl ?hq ?_
            case hq =>
              refine WO.p rfl rfl ?_
              exact WO.nil ⟨rfl, rfl⟩
            refine' DT.r rfl rfl rfl ?hq ?_
            case hq =>
              refine WO.field0 rfl rfl rfl ?_
              exact WO.nil ⟨rfl, rfl⟩
            refine' DT.r rfl rfl rfl ?hq ?_
            case hq =>
              refine WO.field rfl rfl rfl ?_
              exact WO.nil ⟨rfl, rfl⟩
            refine' DT.b rfl rfl rfl ?hq ?_
            case hq =>
              refine' WO.load (v := _) rfl rfl ?hc rfl ?_
              case hc => (first | (refine hPX _ ?_; repeat (first | exact Sub.nil | refine Sub.cons (by repeat (first | exact Pick.head | apply Pick.tail)) ?_)) | (refine hR.cellV ?_; omega))
              exact WO.nil ⟨rfl, rfl⟩
            refine' DT.r rfl rfl rfl ?hq ?_
            case hq =>
              refine' WO.len (n := _) rfl rfl ?hs rfl ?_
              case hs => (first | exact hR.sl | (refine (hR.row _ ?_).sl; omega))
              exact WO.nil ⟨rfl, rfl⟩
            refine DT.nil [_, _, _, _] rfl ?_
            refine WO.callCR (first := [.agg #[.int .i64 1, .int .i64 2]]) (captured := []) rfl rfl Try.call66 (fun L w hi => c_weight w i rows.length (by omega) (by omega)) rfl ?_
            refine WO.p rfl rfl ?_
            refine WO.nil ?_
            refine W.sreg ?_
            refine WO.p rfl rfl (WO.p rfl rfl (WO.p rfl rfl (WO.p rfl rfl (WO.load rfl rfl (Cell.own (Pick.tail (Pick.head)) rfl) rfl (WO.p rfl rfl (WO.p rfl rfl ?_))))))
            refine' WO.len (n := _) rfl rfl ?hs rfl ?_
            case hs => (first | exact hR.sl | (refine (hR.row _ ?_).sl; omega))
            refine WO.callCR (first := [.agg #[.int .i64 1, .int .i64 2]]) (captured := []) rfl rfl Try.call66 (fun L w hi => c_weight w k (rows.getD i []).length (by omega) (by omega)) rfl ?_
            refine WO.ar rfl rfl rfl (by (first | (unfold in64; omega) | (unfold in64; omega) | exact in64B (mulB (wgtB _ _) (wgtB _ _)) (by decide))) rfl (WO.p rfl rfl (WO.p rfl rfl (WO.p rfl rfl ?_)))
            refine' WO.len (n := _) rfl rfl ?hs rfl ?_
            case hs => (first | exact hR.sl | (refine (hR.row _ ?_).sl; omega))
            refine WO.ar rfl rfl rfl (by (first | (unfold in64; omega) | (unfold in64; omega) | exact in64B (mulB (wgtB _ _) (wgtB _ _)) (by decide))) rfl (WO.p rfl rfl ?_)
            refine' WO.build (cs := _) rfl rfl rfl ?hf rfl ?_
            case hf => (conv => lhs; simp [-List.getD_eq_getElem?_getD, fillL, vcl, wrl, TTab.pl?.lget']) <;> rfl
            refine WO.yield rfl rfl (by repeat (first | exact Pick.head | apply Pick.tail)) ((hy _ _ (plcV_get (by omega) (by omega))).one.agree hk) rfl ?_
            refine WO.p rfl rfl ?_
            refine WO.nil ?_
            refine W.cond_f rfl ?_
            refine W.skip ?_
            refine W.region ?_
            refine WO.ar rfl rfl rfl (by (first | (unfold in64; omega) | (unfold in64; omega) | exact in64B (mulB (wgtB _ _) (wgtB _ _)) (by decide))) rfl (WO.p rfl rfl ?_)
            refine WO.nil ?_
            refine' ⟨k + 1, ?hp, ?hmu, ⟨rfl, rfl, rfl, rfl, rfl, rfl, rfl, rfl, rfl, rfl, rfl, trivial⟩, ?hS⟩
            case hS => repeat (first | exact Sub.nil | refine Sub.cons (by repeat (first | exact Pick.head | apply Pick.tail)) ?_)
            case hp => omega
            case hmu => omega)
       · first
         | (exfalso; omega)
         | (refine W.exit (blk_same ?_)
            obtain rfl : k = (rows.getD i []).length := by omega
            rw [← plcTo_len]
            refine W.region ?_
            refine WO.ar rfl rfl rfl (by (first | (unfold in64; omega) | (unfold in64; omega) | exact in64B (mulB (wgtB _ _) (wgtB _ _)) (by decide))) rfl (WO.p rfl rfl ?_)
            refine WO.nil ?_
            refine' ⟨i + 1, ?hp, ?hmu, ⟨rfl, rfl, rfl, rfl, rfl, rfl, trivial⟩, ?hS⟩
            case hS => repeat (first | exact Sub.nil | refine Sub.cons (by repeat (first | exact Pick.head | apply Pick.tail)) ?_)
            case hp => omega
            case hmu => omega))
  · first
    | (exfalso; omega)
    | (refine W.exit (blk_same ?_)
       obtain rfl : i = rows.length := by omega
       refine fin.normal (Res.none rfl) ?_
       rw [show (plcV rows).length = (plcTo rows rows.length).length by simp [plcV, plc]]
       exact .cons (.tail .head) (.cons .head (.cons .head (.cons .head .nil))))
end Go.Proofs.Ytgihklgpehfbpaa
namespace Go.Proofs.Ytgihklgpehfbpaa
open Go Go.TH
attribute [local irreducible] W WO pt
set_option maxRecDepth 10000
set_option maxHeartbeats 1000000
section
variable {what sp st : Int} {n m i k : Nat} {y : Int}
theorem tm0 (h : what = 0) : (.tuple #[.int .i64 (sp * i * (wgt i n * wgt k m * y)), .int .i64 (wgt i n * wgt k m * y)] : Value) = .tuple #[.int .i64 (tA what sp st n m i k y), .int .i64 (tB what st n m i k y)] := by
  subst h; simp [tA, tB, Int.mul_assoc]
theorem tm1 (h : what = 1) : (.tuple #[.int .i64 (st * k * (wgt i n * wgt k m * y)), .int .i64 (wgt i n * wgt k m * y)] : Value) = .tuple #[.int .i64 (tA what sp st n m i k y), .int .i64 (tB what st n m i k y)] := by
  subst h; simp [tA, tB, Int.mul_assoc]
theorem tm2 (h : what = 2) (hk : (k : Int) = (m : Int) - 1) : (.tuple #[.int .i64 (3 * st * st * k * (wgt i n * wgt k m * y) + 2 * wgt i n * y * y * y), .int .i64 (3 * st * (wgt i n * wgt k m * y))] : Value) = .tuple #[.int .i64 (tA what sp st n m i k y), .int .i64 (tB what st n m i k y)] := by
  have hk' : k + 1 = m := by omega
  subst h; simp [tA, tB, Int.mul_assoc, hk']
theorem tm3 (h : what = 2) (hk : ¬ (k : Int) = (m : Int) - 1) : (.tuple #[.int .i64 (3 * st * st * k * (wgt i n * wgt k m * y)), .int .i64 (3 * st * (wgt i n * wgt k m * y))] : Value) = .tuple #[.int .i64 (tA what sp st n m i k y), .int .i64 (tB what st n m i k y)] := by
  have hk' : ¬ k + 1 = m := by omega
  subst h; simp [tA, tB, Int.mul_assoc, hk']
end
theorem c_terms (w : World) (p : Addr) (sp st what : Int) (o : Value) (n m i k : Nat) (y : Int) (hP : RdC w.heap.size w p [.int .i64 sp, .int .i64 st, o, .int .i64 what]) (hw : 0 ≤ what ∧ what ≤ 2) (tf : TF sp st 0 0 n m i k y) (hy : 0 ≤ st) (hst : st ≤ 100) :
    Ret Try.prog 58 [.pointer (some p), placeV n m i k, .int .i64 y].toArray w (.tuple #[.int .i64 (tA what sp st n m i k y), .int .i64 (tB what st n m i k y)]) := by
  refine Ret.of mixed tyTab Try.func58 rfl rfl ?_
  replace hP : RdC (fnCx mixed tyTab Try.f58.ntmps w).B (fnCx mixed tyTab Try.f58.ntmps w).w0 p [.int .i64 sp, .int .i64 st, o, .int .i64 what] := hP
  refine W.sreg ?_
  refine WO.boxA rfl rfl (fun b1 hb1 => ?_)
  refine WO.p rfl rfl (WO.p rfl rfl ?_)
  refine WO.nil ?_
  refine W.sreg ?_
  refine WO.fieldL rfl rfl rfl (WO.load rfl rfl (Cell.own Pick.head rfl) rfl (WO.p rfl rfl (WO.ar rfl rfl rfl (by (first | exact in64B tf.b1 (by decide))) rfl (WO.p rfl rfl ?_))))
  refine WO.nil ?_
  refine W.seq ?_
  refine W.sreg ?_
  refine WO.p rfl rfl (WO.p rfl rfl (WO.field rfl rfl rfl ?_))
  refine' WO.load (v := _) rfl rfl ?hc rfl ?_
  case hc => (first | (refine hP.cell0 ?_ <;> rfl) | (refine hP.cellAt ?_ <;> rfl))
  refine WO.nil ?_
  refine W.block ?_
  refine W.sreg ?_
  refine WO.p rfl rfl (WO.p rfl rfl ?_)
  refine WO.nil ?_
  refine W.cond_bl rfl (fun c1 => ?_) (fun c1 => ?_)
  · first
    | (exfalso; omega)
    | (refine W.seq ?_
       refine W.drawD 12 [.r 0 [], .r 1 [], .r 2 [], .r 3 [], .b 4 [], .r 5 [], .b 6 [], .r 7 [], .r 8 [], .r 9 [], .r 10 [6], .r 11 [6]] [6] (A0 := []) (Sub.refl _) (by kernel_rfl) ?_ ?_
       · exact (ALok.r (ALok.r (ALok.r (ALok.r (ALok.b (ALok.r (ALok.b (ALok.r (ALok.r (ALok.r (ALok.r (ALok.r ALok.nil))))))))))))
       refine' DT.r rfl rfl rfl ?hq ?_
       case hq =>
         refine WO.p rfl rfl ?_
         exact WO.nil ⟨rfl, rfl⟩
       refine' DT.r rfl rfl rfl ?hq ?_
       case hq =>
         refine WO.p rfl rfl ?_
         exact WO.nil ⟨rfl, rfl⟩
       refine' DT.r rfl rfl rfl ?hq ?_
       case hq =>
         refine WO.field0 rfl rfl rfl ?_
         exact WO.nil ⟨rfl, rfl⟩
       refine' DT.r rfl rfl rfl ?hq ?_
       case hq =>
         refine WO.field0 rfl rfl rfl ?_
         exact WO.nil ⟨rfl, rfl⟩
       refine' DT.b rfl rfl rfl ?hq ?_
       case hq =>
         refine' WO.load (v := _) rfl rfl ?hc rfl ?_
         case hc => (first | (refine hP.cell0 ?_ <;> rfl) | (refine hP.cellAt ?_ <;> rfl))
         exact WO.nil ⟨rfl, rfl⟩
       refine' DT.r rfl rfl rfl ?hq ?_
       case hq =>
         refine WO.field0 rfl rfl rfl ?_
         exact WO.nil ⟨rfl, rfl⟩
       refine' DT.b rfl rfl rfl ?hq ?_
       case hq =>
         refine WO.load rfl rfl (Cell.own Pick.head rfl) rfl ?_
         exact WO.nil ⟨rfl, rfl⟩
       refine' DT.r rfl rfl rfl ?hq ?_
       case hq =>
         refine WO.ar rfl rfl rfl (by (first | exact in64B tf.a1 (by decide))) rfl ?_
         exact WO.nil ⟨rfl, rfl⟩
       refine' DT.r rfl rfl rfl ?hq ?_
       case hq =>
         refine WO.p rfl rfl ?_
         exact WO.nil ⟨rfl, rfl⟩
       refine' DT.r rfl rfl rfl ?hq ?_
       case hq =>
         refine WO.ar rfl rfl rfl (by (first | rw [← Int.mul_assoc]; exact in64B tf.a3 (by decide))) rfl ?_
         exact WO.nil ⟨rfl, rfl⟩
       refine' DT.r rfl rfl rfl ?hq ?_
       case hq =>
         refine WO.p rfl rfl ?_
         exact WO.nil ⟨rfl, rfl⟩
       refine' DT.r rfl rfl rfl ?hq ?_
       case hq =>
         refine WO.p rfl rfl ?_
         exact WO.nil ⟨rfl, rfl⟩
       refine DT.nil [_] rfl ?_
       refine WO.p rfl rfl ?_
       refine WO.nil ?_
       refine W.ret ?_
       refine fin.ret (Res.two rfl (RV.tmp rfl) (RV.tmp rfl)) ?_
       first | with_reducible exact tm0 (by assumption) | with_reducible exact tm1 (by assumption) | with_reducible exact tm2 (by omega) (by assumption) | with_reducible exact tm3 (by omega) (by assumption))
  · first
    | (exfalso; omega)
    | (refine W.sreg ?_
       refine WO.p rfl rfl (WO.p rfl rfl ?_)
       refine WO.nil ?_
       refine W.cond_bl rfl (fun c2 => ?_) (fun c2 => ?_)
       · first
         | (exfalso; omega)
         | (refine W.seq ?_
            refine W.drawD 12 [.r 0 [], .r 1 [], .r 2 [], .r 3 [], .b 4 [], .r 5 [], .b 6 [], .r 7 [], .r 8 [], .r 9 [], .r 10 [6], .r 11 [6]] [6] (A0 := []) (Sub.refl _) (by kernel_rfl) ?_ ?_
            · exact (ALok.r (ALok.r (ALok.r (ALok.r (ALok.b (ALok.r (ALok.b (ALok.r (ALok.r (ALok.r (ALok.r (ALok.r ALok.nil))))))))))))
            refine' DT.r rfl rfl rfl ?hq ?_
            case hq =>
              refine WO.p rfl rfl ?_
              exact WO.nil ⟨rfl, rfl⟩
            refine' DT.r rfl rfl rfl ?hq ?_
            case hq =>
              refine WO.p rfl rfl ?_
              exact WO.nil ⟨rfl, rfl⟩
            refine' DT.r rfl rfl rfl ?hq ?_
            case hq =>
              refine WO.field0 rfl rfl rfl ?_
              exact WO.nil ⟨rfl, rfl⟩
            refine' DT.r rfl rfl rfl ?hq ?_
            case hq =>
              refine WO.field rfl rfl rfl ?_
              exact WO.nil ⟨rfl, rfl⟩
            refine' DT.b rfl rfl rfl ?hq ?_
            case hq =>
              refine' WO.load (v := _) rfl rfl ?hc rfl ?_
              case hc => (first | (refine hP.cell0 ?_ <;> rfl) | (refine hP.cellAt ?_ <;> rfl))
              exact WO.nil ⟨rfl, rfl⟩
            refine' DT.r rfl rfl rfl ?hq ?_
            case hq =>
              refine WO.fieldL rfl rfl rfl ?_
              exact WO.nil ⟨rfl, rfl⟩
            refine' DT.b rfl rfl rfl ?hq ?_
            case hq =>
              refine WO.load rfl rfl (Cell.own Pick.head rfl) rfl ?_
              exact WO.nil ⟨rfl, rfl⟩
            refine' DT.r rfl rfl rfl ?hq ?_
            case hq =>
              refine WO.ar rfl rfl rfl (by (first | exact in64B tf.c1 (by decide))) rfl ?_
              exact WO.nil ⟨rfl, rfl⟩
            refine' DT.r rfl rfl rfl ?hq ?_
            case hq =>
              refine WO.p rfl rfl ?_
              exact WO.nil ⟨rfl, rfl⟩
            refine' DT.r rfl rfl rfl ?hq ?_
            case hq =>
              refine WO.ar rfl rfl rfl (by (first | rw [← Int.mul_assoc]; exact in64B tf.c3 (by decide))) rfl ?_
              exact WO.nil ⟨rfl, rfl⟩
            refine' DT.r rfl rfl rfl ?hq ?_
            case hq =>
              refine WO.p rfl rfl ?_
              exact WO.nil ⟨rfl, rfl⟩
            refine' DT.r rfl rfl rfl ?hq ?_
            case hq =>
              refine WO.p rfl rfl ?_
              exact WO.nil ⟨rfl, rfl⟩
            refine DT.nil [_] rfl ?_
            refine WO.p rfl rfl ?_
            refine WO.nil ?_
            refine W.ret ?_
            refine fin.ret (Res.two rfl (RV.tmp rfl) (RV.tmp rfl)) ?_
            first | with_reducible exact tm0 (by assumption) | with_reducible exact tm1 (by assumption) | with_reducible exact tm2 (by omega) (by assumption) | with_reducible exact tm3 (by omega) (by assumption))
       · first
         | (exfalso; omega)
         | (refine W.skip ?_
            refine W.seq ?_
            refine W.drawD 16 [.r 0 [], .r 1 [], .r 2 [], .r 3 [], .b 4 [], .r 5 [], .r 6 [], .r 7 [], .r 8 [], .r 9 [], .b 10 [], .r 11 [], .r 12 [], .b 13 [], .r 14 [], .r 15 []] [] (A0 := []) (Sub.refl _) (by kernel_rfl) ?_ ?_
            · exact (ALok.r (ALok.r (ALok.r (ALok.r (ALok.b (ALok.r (ALok.r (ALok.r (ALok.r (ALok.r (ALok.b (ALok.r (ALok.r (ALok.b (ALok.r (ALok.r ALok.nil))))))))))))))))
            refine' DT.r rfl rfl rfl ?hq ?_
            case hq =>
              refine WO.p rfl rfl ?_
              exact WO.nil ⟨rfl, rfl⟩
            refine' DT.r rfl rfl rfl ?hq ?_
            case hq =>
              refine WO.p rfl rfl ?_
              exact WO.nil ⟨rfl, rfl⟩
            refine' DT.r rfl rfl rfl ?hq ?_
            case hq =>
              refine WO.field0 rfl rfl rfl ?_
              exact WO.nil ⟨rfl, rfl⟩
            refine' DT.r rfl rfl rfl ?hq ?_
            case hq =>
              refine WO.field rfl rfl rfl ?_
              exact WO.nil ⟨rfl, rfl⟩
            refine' DT.b rfl rfl rfl ?hq ?_
            case hq =>
              refine' WO.load (v := _) rfl rfl ?hc rfl ?_
              case hc => (first | (refine hP.cell0 ?_ <;> rfl) | (refine hP.cellAt ?_ <;> rfl))
              exact WO.nil ⟨rfl, rfl⟩
            refine' DT.r rfl rfl rfl ?hq ?_
            case hq =>
              refine WO.ar rfl rfl rfl (by (first | (unfold in64; omega) | (unfold in64; omega))) rfl ?_
              exact WO.nil ⟨rfl, rfl⟩
            refine' DT.r rfl rfl rfl ?hq ?_
            case hq =>
              refine WO.p rfl rfl ?_
              exact WO.nil ⟨rfl, rfl⟩
            refine' DT.r rfl rfl rfl ?hq ?_
            case hq =>
              refine WO.p rfl rfl ?_
              exact WO.nil ⟨rfl, rfl⟩
            refine' DT.r rfl rfl rfl ?hq ?_
            case hq =>
              refine WO.field0 rfl rfl rfl ?_
              exact WO.nil ⟨rfl, rfl⟩
            refine' DT.r rfl rfl rfl ?hq ?_
            case hq =>
              refine WO.field rfl rfl rfl ?_
              exact WO.nil ⟨rfl, rfl⟩
            refine' DT.b rfl rfl rfl ?hq ?_
            case hq =>
              refine' WO.load (v := _) rfl rfl ?hc rfl ?_
              case hc => (first | (refine hP.cell0 ?_ <;> rfl) | (refine hP.cellAt ?_ <;> rfl))
              exact WO.nil ⟨rfl, rfl⟩
            refine' DT.r rfl rfl rfl ?hq ?_
            case hq =>
              refine WO.ar rfl rfl rfl (by (first | exact in64B tf.d1 (by decide))) rfl ?_
              exact WO.nil ⟨rfl, rfl⟩
            refine' DT.r rfl rfl rfl ?hq ?_
            case hq =>
              refine WO.fieldL rfl rfl rfl ?_
              exact WO.nil ⟨rfl, rfl⟩
            refine' DT.b rfl rfl rfl ?hq ?_
            case hq =>
              refine WO.load rfl rfl (Cell.own Pick.head rfl) rfl ?_
              exact WO.nil ⟨rfl, rfl⟩
            refine' DT.r rfl rfl rfl ?hq ?_
            case hq =>
              refine WO.ar rfl rfl rfl (by (first | exact in64B tf.d2 (by decide))) rfl ?_
              exact WO.nil ⟨rfl, rfl⟩
            refine' DT.r rfl rfl rfl ?hq ?_
            case hq =>
              refine WO.p rfl rfl ?_
              exact WO.nil ⟨rfl, rfl⟩
            refine DT.nil [_] rfl ?_
            refine WO.ar rfl rfl rfl (by (first | rw [← Int.mul_assoc]; exact in64B tf.d4 (by decide))) rfl (WO.p rfl rfl ?_)
            refine WO.nil ?_
            refine W.seq ?_
            refine W.sreg ?_
            refine WO.fieldL rfl rfl rfl (WO.load rfl rfl (Cell.own Pick.head rfl) rfl ?_)
            refine WO.nil ?_
            refine W.cond_bl rfl (fun c3 => ?_) (fun c3 => ?_)
            · first
              | (exfalso; omega)
              | (refine W.region ?_
                 refine WO.p rfl rfl (WO.fieldL rfl rfl rfl (WO.load rfl rfl (Cell.own Pick.head rfl) rfl (WO.ar rfl rfl rfl (by (first | have h := tf.w2; unfold in64; omega)) rfl (WO.p rfl rfl (WO.ar rfl rfl rfl (by (first | exact in64B tf.g1 (by decide))) rfl (WO.p rfl rfl (WO.ar rfl rfl rfl (by (first | exact in64B tf.g2 (by decide))) rfl (WO.p rfl rfl (WO.ar rfl rfl rfl (by (first | exact in64B tf.g3 (by decide))) rfl (WO.ar rfl rfl rfl (by (first | rw [← Int.mul_assoc]; exact in64B (addB tf.d4 tf.g3) (by decide))) rfl (WO.p rfl rfl ?_)))))))))))
                 refine WO.nil ?_
                 refine W.seq ?_
                 refine W.drawD 10 [.r 0 [], .r 1 [6], .r 2 [6], .r 3 [6], .r 4 [6], .b 5 [6], .r 6 [6], .r 7 [6], .r 8 [6], .r 9 [6]] [6] (A0 := []) (Sub.refl _) (by kernel_rfl) ?_ ?_
                 · exact (ALok.r (ALok.r (ALok.r (ALok.r (ALok.r (ALok.b (ALok.r (ALok.r (ALok.r (ALok.r ALok.nil))))))))))
                 refine' DT.r rfl rfl rfl ?hq ?_
                 case hq =>
                   refine WO.p rfl rfl ?_
                   exact WO.nil ⟨rfl, rfl⟩
                 refine' DT.r rfl rfl rfl ?hq ?_
                 case hq =>
                   refine WO.p rfl rfl ?_
                   exact WO.nil ⟨rfl, rfl⟩
                 refine' DT.r rfl rfl rfl ?hq ?_
                 case hq =>
                   refine WO.p rfl rfl ?_
                   exact WO.nil ⟨rfl, rfl⟩
                 refine' DT.r rfl rfl rfl ?hq ?_
                 case hq =>
                   refine WO.field0 rfl rfl rfl ?_
                   exact WO.nil ⟨rfl, rfl⟩
                 refine' DT.r rfl rfl rfl ?hq ?_
                 case hq =>
                   refine WO.field rfl rfl rfl ?_
                   exact WO.nil ⟨rfl, rfl⟩
                 refine' DT.b rfl rfl rfl ?hq ?_
                 case hq =>
                   refine' WO.load (v := _) rfl rfl ?hc rfl ?_
                   case hc => (first | (refine hP.cell0 ?_ <;> rfl) | (refine hP.cellAt ?_ <;> rfl))
                   exact WO.nil ⟨rfl, rfl⟩
                 refine' DT.r rfl rfl rfl ?hq ?_
                 case hq =>
                   refine WO.ar rfl rfl rfl (by (first | (unfold in64; omega) | (unfold in64; omega))) rfl ?_
                   exact WO.nil ⟨rfl, rfl⟩
                 refine' DT.r rfl rfl rfl ?hq ?_
                 case hq =>
                   refine WO.p rfl rfl ?_
                   exact WO.nil ⟨rfl, rfl⟩
                 refine' DT.r rfl rfl rfl ?hq ?_
                 case hq =>
                   refine WO.ar rfl rfl rfl (by (first | rw [← Int.mul_assoc]; exact in64B tf.e2 (by decide))) rfl ?_
                   exact WO.nil ⟨rfl, rfl⟩
                 refine' DT.r rfl rfl rfl ?hq ?_
                 case hq =>
                   refine WO.p rfl rfl ?_
                   exact WO.nil ⟨rfl, rfl⟩
                 refine DT.nil [_] rfl ?_
                 refine WO.p rfl rfl ?_
                 refine WO.nil ?_
                 refine W.ret ?_
                 refine fin.ret (Res.two rfl (RV.tmp rfl) (RV.tmp rfl)) ?_
                 first | with_reducible exact tm0 (by assumption) | with_reducible exact tm1 (by assumption) | with_reducible exact tm2 (by omega) (by assumption) | with_reducible exact tm3 (by omega) (by assumption))
            · first
              | (exfalso; omega)
              | (refine W.skip ?_
                 refine W.seq ?_
                 refine W.drawD 10 [.r 0 [], .r 1 [6], .r 2 [6], .r 3 [6], .r 4 [6], .b 5 [6], .r 6 [6], .r 7 [6], .r 8 [6], .r 9 [6]] [6] (A0 := []) (Sub.refl _) (by kernel_rfl) ?_ ?_
                 · exact (ALok.r (ALok.r (ALok.r (ALok.r (ALok.r (ALok.b (ALok.r (ALok.r (ALok.r (ALok.r ALok.nil))))))))))
                 refine' DT.r rfl rfl rfl ?hq ?_
                 case hq =>
                   refine WO.p rfl rfl ?_
                   exact WO.nil ⟨rfl, rfl⟩
                 refine' DT.r rfl rfl rfl ?hq ?_
                 case hq =>
                   refine WO.p rfl rfl ?_
                   exact WO.nil ⟨rfl, rfl⟩
                 refine' DT.r rfl rfl rfl ?hq ?_
                 case hq =>
                   refine WO.p rfl rfl ?_
                   exact WO.nil ⟨rfl, rfl⟩
                 refine' DT.r rfl rfl rfl ?hq ?_
                 case hq =>
                   refine WO.field0 rfl rfl rfl ?_
                   exact WO.nil ⟨rfl, rfl⟩
                 refine' DT.r rfl rfl rfl ?hq ?_
                 case hq =>
                   refine WO.field rfl rfl rfl ?_
                   exact WO.nil ⟨rfl, rfl⟩
                 refine' DT.b rfl rfl rfl ?hq ?_
                 case hq =>
                   refine' WO.load (v := _) rfl rfl ?hc rfl ?_
                   case hc => (first | (refine hP.cell0 ?_ <;> rfl) | (refine hP.cellAt ?_ <;> rfl))
                   exact WO.nil ⟨rfl, rfl⟩
                 refine' DT.r rfl rfl rfl ?hq ?_
                 case hq =>
                   refine WO.ar rfl rfl rfl (by (first | (unfold in64; omega) | (unfold in64; omega))) rfl ?_
                   exact WO.nil ⟨rfl, rfl⟩
                 refine' DT.r rfl rfl rfl ?hq ?_
                 case hq =>
                   refine WO.p rfl rfl ?_
                   exact WO.nil ⟨rfl, rfl⟩
                 refine' DT.r rfl rfl rfl ?hq ?_
                 case hq =>
                   refine WO.ar rfl rfl rfl (by (first | rw [← Int.mul_assoc]; exact in64B tf.e2 (by decide))) rfl ?_
                   exact WO.nil ⟨rfl, rfl⟩
                 refine' DT.r rfl rfl rfl ?hq ?_
                 case hq =>
                   refine WO.p rfl rfl ?_
                   exact WO.nil ⟨rfl, rfl⟩
                 refine DT.nil [_] rfl ?_
                 refine WO.p rfl rfl ?_
                 refine WO.nil ?_
                 refine W.ret ?_
                 refine fin.ret (Res.two rfl (RV.tmp rfl) (RV.tmp rfl)) ?_
                 first | with_reducible exact tm0 (by assumption) | with_reducible exact tm1 (by assumption) | with_reducible exact tm2 (by omega) (by assumption) | with_reducible exact tm3 (by omega) (by assumption))))
/-- a sum over places -/
def pSum (f : Nat × Nat → Int) (l : List (Nat × Nat)) : Int := l.foldl (fun s q => s + f q) 0
theorem pSum_app (f : Nat × Nat → Int) (l r : List (Nat × Nat)) : pSum f (l ++ r) = pSum f l + pSum f r := by
  have key : ∀ (r : List (Nat × Nat)) (a : Int), r.foldl (fun s q => s + f q) a = a + pSum f r := by
    intro r
    induction r with
    | nil => intro a; simp [pSum]
    | cons x r ih => intro a; simp only [pSum, List.foldl_cons]; rw [ih, ih (0 + f x)]; omega
  unfold pSum; rw [List.foldl_append, key]; rfl
theorem pSum_range (f : Nat × Nat → Int) (i : Nat) : ∀ k, pSum f ((List.range k).map fun k => (i, k)) = ps (fun k => f (i, k)) k
  | 0 => rfl
  | k + 1 => by rw [List.range_succ, List.map_append, pSum_app, pSum_range f i k]; simp [pSum, ps]
theorem pSum_plc (f : Nat × Nat → Int) (rows : List (List (Int × Int))) : ∀ i, pSum f (plcTo rows i) = ps (fun i => ps (fun k => f (i, k)) (rows.getD i []).length) i
  | 0 => rfl
  | i + 1 => by rw [plcTo_succ, pSum_app, pSum_plc f rows i, pSum_range]; rfl
theorem pSum_take {f : Nat × Nat → Int} {l : List (Nat × Nat)} {q : Nat} {x : Nat × Nat} (h : l[q]? = some x) : pSum f (l.take (q + 1)) = pSum f (l.take q) + f x := by
  have hl := (List.getElem?_eq_some_iff.1 h)
  rw [List.take_succ_eq_append_getElem hl.1, pSum_app, hl.2]; simp [pSum]
theorem pSum_bound {f : Nat × Nat → Int} {A B : Int} : ∀ {l : List (Nat × Nat)}, (∀ x ∈ l, -A ≤ f x ∧ f x ≤ B) → -(l.length * A) ≤ pSum f l ∧ pSum f l ≤ l.length * B
  | [], _ => by simp [pSum]
  | x :: l, h => by
    have h1 := pSum_bound (l := l) (fun y hy => h y (by simp [hy]))
    have h2 := h x (by simp)
    have e : pSum f (x :: l) = f x + pSum f l := by rw [show x :: l = [x] ++ l from rfl, pSum_app]; simp [pSum]
    rw [e]
    simp only [List.length_cons]
    have e1 : ((l.length + 1 : Nat) : Int) * B = l.length * B + B := by rw [Int.natCast_add, Int.add_mul]; simp
    have e2 : ((l.length + 1 : Nat) : Int) * A = l.length * A + A := by rw [Int.natCast_add, Int.add_mul]; simp
    omega
theorem plc_mem {rows : List (List (Int × Int))} {x : Nat × Nat} (h : x ∈ plc rows) : x.1 < rows.length ∧ x.2 < (rows.getD x.1 []).length := by
  unfold plc plcTo at h
  obtain ⟨i, hi, h2⟩ := List.mem_flatMap.1 h
  obtain ⟨k, hk, rfl⟩ := List.mem_map.1 h2
  exact ⟨by simpa using hi, by simpa using hk⟩
theorem plc_len {sp st : Int} {rows : List (List (Int × Int))} (hv : HV sp st rows) : (plc rows).length ≤ 60 := by
  have key : ∀ i, i ≤ rows.length → (plcTo rows i).length ≤ i * 6 := by
    intro i
    induction i with
    | zero => intro _; simp [plcTo]
    | succ i ih => intro h; rw [plcTo_len, hv.eq i (by omega)]; have := ih (by omega); have := hv.m; omega
  have := key rows.length (Nat.le_refl _)
  have := hv.n
  unfold plc; omega
theorem plcV_some {rows : List (List (Int × Int))} {q : Nat} {x : Value} (h : (plcV rows)[q]? = some x) : ∃ i k, (plc rows)[q]? = some (i, k) ∧ i < rows.length ∧ k < (rows.getD i []).length ∧ x = placeV rows.length (rows.getD i []).length i k := by
  unfold plcV at h
  rw [List.getElem?_map] at h
  cases hq : (plc rows)[q]? with
  | none => simp [hq] at h
  | some y =>
    simp [hq] at h
    have := plc_mem (List.mem_of_getElem? hq)
    exact ⟨y.1, y.2, rfl, this.1, this.2, by simpa using h.symm⟩
end Go.Proofs.Ytgihklgpehfbpaa
namespace Go.Proofs.Ytgihklgpehfbpaa
open Go Go.TH
attribute [local irreducible] W WO pt
set_option maxRecDepth 10000
set_option maxHeartbeats 1000000
/-- what one place counts in the volume -/
def xwP (rows : List (List (Int × Int))) (ys : List (List Int)) (q : Nat × Nat) : Int := wgt q.1 rows.length * wgt q.2 (rows.getD q.1 []).length * yy ys q.1 q.2
section
variable {sp st : Int} {rows : List (List (Int × Int))} {ys : List (List Int)}
theorem TV.yB (hv : HV sp st rows) (tv : TV rows ys) {i k : Nat} (hi : i < rows.length) (hk : k < (rows.getD i []).length) : 0 ≤ yy ys i k ∧ yy ys i k ≤ 500 := by
  have hl := tv.len
  exact (tv.small hv).y i k (by omega) (by rw [tv.row i (by omega)]; exact hk)
theorem ps_congr {f g : Nat → Int} : ∀ {n : Nat}, (∀ i, i < n → f i = g i) → ps f n = ps g n
  | 0, _ => rfl
  | n + 1, h => by simp only [ps]; rw [ps_congr (n := n) (fun i hi => h i (by omega)), h n (by omega)]
theorem xwP_all (tv : TV rows ys) : pSum (xwP rows ys) (plc rows) = sAll ys ys.length := by
  unfold plc sAll
  rw [pSum_plc, tv.len]
  refine ps_congr fun i hi => ?_
  have hr := tv.row i (by rw [tv.len]; exact hi)
  rw [hr]
  refine ps_congr fun k hk => ?_
  unfold xwP xw; rw [hr, tv.len]
theorem xwP_bound (hv : HV sp st rows) (tv : TV rows ys) (q : Nat) : -120000 ≤ pSum (xwP rows ys) ((plc rows).take q) ∧ pSum (xwP rows ys) ((plc rows).take q) ≤ 120000 := by
  have h1 := pSum_bound (f := xwP rows ys) (l := (plc rows).take q) (A := 0) (B := 2000) fun x hx => by
    have hm := plc_mem (List.mem_of_mem_take hx)
    have hw := mulB (mulB (wgtB x.1 rows.length) (wgtB x.2 (rows.getD x.1 []).length)) (tv.yB hv hm.1 hm.2)
    unfold xwP; omega
  have h2 := plc_len hv
  have h3 : ((plc rows).take q).length ≤ 60 := by rw [List.length_take]; omega
  omega
end
theorem plcV_len (rows : List (List (Int × Int))) : (plcV rows).length = (plc rows).length := by simp [plcV]
theorem c_volume (w : World) (sp st : Int) (o o' : Value) (rv rv' : List Value) (rows : List (List (Int × Int))) (ys : List (List Int)) (hR : RdR encP 2 w.heap.size w o rv rows) (hR' : RdR encI 1 w.heap.size w o' rv' ys) (hv : HV sp st rows) (tv : TV rows ys) :
    Ret Try.prog 39 [.agg #[.int .i64 sp, .int .i64 st, o], o'].toArray w (.agg (encP (volQ sp st ys)).toArray) := by
  refine Ret.of mixed tyTab Try.func39 rfl rfl ?_
  replace hR : RdR encP 2 (fnCx mixed tyTab Try.f39.ntmps w).B (fnCx mixed tyTab Try.f39.ntmps w).w0 o rv rows := hR
  replace hR' : RdR encI 1 (fnCx mixed tyTab Try.f39.ntmps w).B (fnCx mixed tyTab Try.f39.ntmps w).w0 o' rv' ys := hR'
  have hlen := tv.len
  have ho' := hR'.sl.oc
  have hS := tv.small hv
  have ba := hS.all (Nat.le_refl _)
  have q1 := hv.sp
  have q2 := hv.st
  have p1 := mulB (A := 1000) (B := 100) ⟨by omega, q1.2⟩ ⟨by omega, q2.2⟩
  have p2 := mulB p1 ba
  refine W.sreg ?_
  refine WO.boxA rfl rfl (fun b1 hb1 => ?_)
  refine WO.box1 rfl (by first | rfl | assumption) rfl (fun b2 hb2 => ?_)
  refine WO.alloc rfl rfl rfl (fun b3 hb3 => ?_)
  refine WO.nil ?_
  refine W.sreg ?_
  refine WO.loadA rfl rfl (Cells.own (Pick.tail (Pick.tail (Pick.head)))) rfl rfl ?_
  refine' WO.build (cs := _) rfl rfl rfl ?hf rfl ?_
  case hf => (conv => lhs; simp [-List.getD_eq_getElem?_getD, fillL, vcl, wrl, TTab.pl?.lget']) <;> rfl
  refine WO.boxA rfl rfl (fun b4 hb4 => ?_)
  refine WO.p rfl rfl ?_
  refine WO.nil ?_
  refine W.sreg ?_
  refine WO.alloc rfl rfl rfl (fun b5 hb5 => ?_)
  refine WO.store1 rfl rfl rfl (by first | rfl | assumption) Pick.head rfl ?_
  refine WO.nil ?_
  refine W.seq ?_
  refine W.sreg ?_
  refine WO.p rfl rfl ?_
  refine WO.call (Post := fun v Hq => ∃ b1 b2, v = .func (.func 67) #[] #[.pointer (some ⟨b1, 0, none⟩), .pointer (some ⟨b2, 0, none⟩)] ∧ Hq = [pt b2 (.cells #[.func (.func 66) #[.agg #[.int .i64 1, .int .i64 2]] #[]] 95 (0, 0)), pt b1 (.cells #[.pointer (some ⟨b4, 0, none⟩)] 71 (0, 0))]) rfl Try.call56 (fun L w hi => c_places w _) rfl ?_
  rintro _ _ ⟨e1, e2, rfl, rfl⟩
  refine WO.nil ?_
  refine W.block ?_
  refine W.rangeFunc [pt e2 (.cells #[.func (.func 66) #[.agg #[.int .i64 1, .int .i64 2]] #[]] 95 (0, 0)), pt e1 (.cells #[.pointer (some ⟨b4, 0, none⟩)] 71 (0, 0)), pt b4 (.cells #[.int .i64 sp, .int .i64 st, o, .int .i64 0] 89 (0, 0))] (fun q => [pt b5 (.cells #[.int .i64 (pSum (xwP rows ys) ((plc rows).take q))] 2 (0, 0)), pt b1 (.cells #[.int .i64 sp, .int .i64 st, o] 24 (0, 0)), pt b2 (.cells #[o'] 25 (0, 0)), pt b3 (.cells #[.int .i64 0, .int .i64 0] 29 (0, 0))]) (plcV rows) rfl rfl rfl Try.call67 (by repeat (first | exact Sub.nil | refine Sub.cons (by repeat (first | exact Pick.head | apply Pick.tail)) ?_)) ?_ ?_ ?_
  · intro l Hc hy w1 M' hB hk hM hi
    exact c_places1 _ _ ⟨b4, 0, none⟩ sp st o rv rows _ hR hv l Hc hy e1 e2 w1 M' hB hk hM (fun _ s => by cases s with | cons p _ => rw [prt_eq]; exact Cell.own (off := 2) p rfl) hi
  · intro l w1 M hB hM hk q x hx
    obtain ⟨i, k, hq, hi, hk', rfl⟩ := plcV_some hx
    have hR2 : RdR encI 1 (rdCx (fnCx mixed tyTab Try.f39.ntmps w) l w1 M hB hM).B (rdCx (fnCx mixed tyTab Try.f39.ntmps w) l w1 M hB hM).w0 o' rv' ys := hR'.agree hk
    have hrl := tv.row i (by omega)
    have hyB := tv.yB hv hi hk'
    have hsB := xwP_bound hv tv q
    rw [pSum_take hq]
    refine W.region ?_
    refine WO.alloc rfl rfl rfl (fun b6 hb6 => ?_)
    refine WO.storeA rfl rfl rfl rfl Pick.head rfl rfl ?_
    refine WO.nil ?_
    refine W.block ?_
    refine W.drawD 13 [.b 0 [], .r 1 [], .b 2 [], .b 3 [], .r 4 [], .b 5 [], .r 6 [], .b 7 [], .r 8 [], .b 9 [], .r 10 [], .b 11 [], .r 12 []] [] (A0 := []) (Sub.refl _) (by kernel_rfl) ?_ ?_
    · exact (ALok.b (ALok.r (ALok.b (ALok.b (ALok.r (ALok.b (ALok.r (ALok.b (ALok.r (ALok.b (ALok.r (ALok.b (ALok.r ALok.nil)))))))))))))
    refine' DT.b rfl rfl rfl ?hq ?_
    case hq =>
      refine WO.load rfl rfl (Cell.own (Pick.tail (Pick.head)) rfl) rfl ?_
      exact WO.nil ⟨rfl, rfl⟩
    refine' DT.r rfl rfl rfl ?hq ?_
    case hq =>
      refine WO.fieldL rfl rfl rfl ?_
      exact WO.nil ⟨rfl, rfl⟩
    refine' DT.b rfl rfl rfl ?hq ?_
    case hq =>
      refine WO.load rfl rfl (Cell.own Pick.head rfl) rfl ?_
      exact WO.nil ⟨rfl, rfl⟩
    refine' DT.b rfl rfl rfl ?hq ?_
    case hq =>
      refine WO.load rfl rfl (Cell.own (Pick.tail (Pick.tail (Pick.tail (Pick.head)))) rfl) rfl ?_
      exact WO.nil ⟨rfl, rfl⟩
    refine' DT.r rfl rfl rfl ?hq ?_
    case hq =>
      refine WO.field0 rfl rfl rfl ?_
      exact WO.nil ⟨rfl, rfl⟩
    refine' DT.b rfl rfl rfl ?hq ?_
    case hq =>
      refine WO.load rfl rfl (Cell.own Pick.head rfl) rfl ?_
      exact WO.nil ⟨rfl, rfl⟩
    refine' DT.r rfl rfl rfl ?hq ?_
    case hq =>
      refine' WO.indexAddr (n := _) (i := _) rfl rfl rfl ?hs ?h1 rfl ?_
      case hs => (first | exact hR2.sl | (refine (hR2.row _ ?_).sl; omega))
      case h1 => (first | omega | (simp; omega))
      exact WO.nil ⟨rfl, rfl⟩
    refine' DT.b rfl rfl rfl ?hq ?_
    case hq =>
      refine' WO.load (v := _) rfl rfl ?hc rfl ?_
      case hc => (first | (refine hR2.cellV ?_; omega) | (refine (hR2.row _ ?_).cell0 ?_ 0 ?_ <;> first | rfl | omega))
      exact WO.nil ⟨rfl, rfl⟩
    refine' DT.r rfl rfl rfl ?hq ?_
    case hq =>
      refine WO.fieldL rfl rfl rfl ?_
      exact WO.nil ⟨rfl, rfl⟩
    refine' DT.b rfl rfl rfl ?hq ?_
    case hq =>
      refine WO.load rfl rfl (Cell.own Pick.head rfl) rfl ?_
      exact WO.nil ⟨rfl, rfl⟩
    refine' DT.r rfl rfl rfl ?hq ?_
    case hq =>
      refine' WO.indexAddr (n := _) (i := _) rfl rfl rfl ?hs ?h1 rfl ?_
      case hs => (first | exact hR2.sl | (refine (hR2.row _ ?_).sl; omega))
      case h1 => (first | omega | (simp; omega))
      exact WO.nil ⟨rfl, rfl⟩
    refine' DT.b rfl rfl rfl ?hq ?_
    case hq =>
      refine' WO.load (v := _) rfl rfl ?hc rfl ?_
      case hc => (first | (refine hR2.cellV ?_; omega) | (refine (hR2.row _ ?_).cell0 ?_ 0 ?_ <;> first | rfl | omega))
      exact WO.nil ⟨rfl, rfl⟩
    refine' DT.r rfl rfl rfl ?hq ?_
    case hq =>
      refine WO.ar rfl rfl rfl (by (first | exact in64B (mulB (mulB (wgtB _ _) (wgtB _ _)) hyB) (by decide))) rfl ?_
      exact WO.nil ⟨rfl, rfl⟩
    refine DT.nil [_, _, _, _, _] rfl ?_
    refine WO.ar rfl rfl rfl (by (first | have h1 := mulB (mulB (wgtB i rows.length) (wgtB k (rows.getD i []).length)) hyB; unfold yy at h1; unfold in64; omega)) rfl (WO.store1 rfl rfl rfl (by first | rfl | assumption) (Pick.tail (Pick.head)) rfl ?_)
    refine WO.nil ?_
    (repeat (first | exact Sub.nil | refine Sub.cons (by repeat (first | exact Pick.head | apply Pick.tail)) ?_))
  rw [plcV_len, List.take_length, xwP_all tv]
  refine W.sreg ?_
  refine WO.field0 rfl rfl rfl (WO.load rfl rfl (Cell.own (Pick.tail (Pick.tail (Pick.tail (Pick.tail (Pick.head))))) rfl) rfl (WO.fieldL rfl rfl rfl (WO.load rfl rfl (Cell.own (Pick.tail (Pick.tail (Pick.tail (Pick.tail (Pick.head))))) rfl) rfl (WO.ar rfl rfl rfl (by (first | exact in64B p1 (by decide))) rfl (WO.load rfl rfl (Cell.own (Pick.tail (Pick.tail (Pick.tail (Pick.head)))) rfl) rfl (WO.ar rfl rfl rfl (by (first | exact in64B p2 (by decide))) rfl ?_))))))
  refine WO.callR rfl Try.call47 (fun L w hi => c_fraction w _ _ p2.1 (by omega) (in64B p2 (by decide)) (by unfold in64; omega)) rfl ?_
  refine WO.storeA rfl rfl rfl rfl (Pick.tail (Pick.tail (Pick.tail (Pick.tail (Pick.tail (Pick.tail (Pick.head))))))) rfl rfl ?_
  refine WO.nil ?_
  refine W.ret ?_
  exact fin.ret (Res.one rfl (RV.cell rfl rfl rfl (Cells.own Pick.head))) rfl
end Go.Proofs.Ytgihklgpehfbpaa
namespace Go.Proofs.Ytgihklgpehfbpaa
open Go Go.TH
attribute [local irreducible] W WO pt
set_option maxRecDepth 10000
set_option maxHeartbeats 1000000
/-- what one place adds above, and below -/
def tAP (what sp st : Int) (rows : List (List (Int × Int))) (ys : List (List Int)) (q : Nat × Nat) : Int := tA what sp st rows.length (rows.getD q.1 []).length q.1 q.2 (yy ys q.1 q.2)
def tBP (what st : Int) (rows : List (List (Int × Int))) (ys : List (List Int)) (q : Nat × Nat) : Int := tB what st rows.length (rows.getD q.1 []).length q.1 q.2 (yy ys q.1 q.2)
theorem ps_mul (c : Int) (f : Nat → Int) : ∀ n, ps (fun i => c * f i) n = c * ps f n
  | 0 => by simp [ps]
  | n + 1 => by simp only [ps]; rw [ps_mul c f n, Int.mul_add]
theorem ps_add (f g : Nat → Int) : ∀ n, ps (fun i => f i + g i) n = ps f n + ps g n
  | 0 => by simp [ps]
  | n + 1 => by simp only [ps]; rw [ps_add f g n]; omega
theorem ps_last (g : Int) : ∀ n, 0 < n → ps (fun k => if k + 1 = n then g else 0) n = g := by
  intro n hn
  obtain ⟨m, rfl⟩ : ∃ m, n = m + 1 := ⟨n - 1, by omega⟩
  simp only [ps]
  have key : ∀ j, j ≤ m → ps (fun k => if k + 1 = m + 1 then g else 0) j = 0 := by
    intro j
    induction j with
    | zero => intro _; rfl
    | succ j ih => intro h; simp only [ps]; rw [ih (by omega), if_neg (by omega)]; rfl
  have := key m (Nat.le_refl _); simp at this ⊢; omega
section
variable {sp st : Int} {rows : List (List (Int × Int))} {ys : List (List Int)} {what : Int}
theorem tBP_all (tv : TV rows ys) (hw : 0 ≤ what ∧ what ≤ 2) : pSum (tBP what st rows ys) (plc rows) = tD st ys what := by
  have h0 : pSum (xwP rows ys) (plc rows) = sAll ys ys.length := xwP_all tv
  unfold plc at *
  rw [pSum_plc] at h0 ⊢
  unfold tD
  rw [← h0]
  by_cases h2 : what = 2
  · rw [if_neg (by omega), if_neg (by omega), ← ps_mul]
    refine ps_congr fun i hi => ?_
    rw [← ps_mul]
    refine ps_congr fun k hk => ?_
    unfold tBP tB xwP; rw [if_pos h2]; simp only [Int.mul_assoc]
  · have e : (if what = 0 then ps (fun i => ps (fun k => xwP rows ys (i, k)) (rows.getD i []).length) rows.length else if what = 1 then ps (fun i => ps (fun k => xwP rows ys (i, k)) (rows.getD i []).length) rows.length else 3 * st * ps (fun i => ps (fun k => xwP rows ys (i, k)) (rows.getD i []).length) rows.length) = ps (fun i => ps (fun k => xwP rows ys (i, k)) (rows.getD i []).length) rows.length := by
      split
      · rfl
      · rw [if_pos (by omega)]
    rw [e]
    refine ps_congr fun i hi => ps_congr fun k hk => ?_
    unfold tBP tB xwP; rw [if_neg h2]
theorem lastY_eq (ys : List (List Int)) (i : Nat) : lastY ys i = yy ys i ((ys.getD i []).length - 1) := by
  unfold lastY
  congr 1
  omega
theorem tAP_all (hv : HV sp st rows) (tv : TV rows ys) (hw : 0 ≤ what ∧ what ≤ 2) : pSum (tAP what sp st rows ys) (plc rows) = tN sp st ys what := by
  unfold plc
  rw [pSum_plc]
  unfold tN sAlong sAbove sCubes
  rw [tv.len]
  have hr : ∀ i, i < rows.length → (ys.getD i []).length = (rows.getD i []).length := fun i hi => tv.row i (by rw [tv.len]; exact hi)
  by_cases h0 : what = 0
  · rw [if_pos h0, ← ps_mul]
    refine ps_congr fun i hi => ?_
    rw [← ps_mul, hr i hi]
    refine ps_congr fun k hk => ?_
    unfold tAP tA xw; rw [if_neg (by omega), if_neg (by omega), hr i hi, tv.len]; simp only [Int.mul_assoc]
  · rw [if_neg h0]
    by_cases h1 : what = 1
    · rw [if_pos h1, ← ps_mul]
      refine ps_congr fun i hi => ?_
      rw [← ps_mul, hr i hi]
      refine ps_congr fun k hk => ?_
      unfold tAP tA xw; rw [if_neg (by omega), if_pos h1, hr i hi, tv.len]; simp only [Int.mul_assoc]
    · rw [if_neg h1, ← ps_mul, ← ps_mul, ← ps_add]
      refine ps_congr fun i hi => ?_
      have hm := hv.eq i hi
      have hm2 := hv.m
      rw [← ps_mul, hr i hi, ← ps_last (2 * (wgt i rows.length * lastY ys i * lastY ys i * lastY ys i)) (rows.getD i []).length (by omega), ← ps_add]
      refine ps_congr fun k hk => ?_
      unfold tAP tA xw; rw [if_pos (by omega), hr i hi, tv.len]
      by_cases hk' : k + 1 = (rows.getD i []).length
      · rw [if_pos hk', if_pos hk', lastY_eq, hr i hi, show (rows.getD i []).length - 1 = k by omega]; simp only [Int.mul_assoc]
      · rw [if_neg hk', if_neg hk']; simp only [Int.mul_assoc]
theorem TV.tf (hv : HV sp st rows) (tv : TV rows ys) (num den : Int) {i k : Nat} (hi : i < rows.length) (hk : k < (rows.getD i []).length) : TF sp st num den rows.length (rows.getD i []).length i k (yy ys i k) := by
  have h1 := hv.n; have h2 := hv.m; have h3 := hv.eq i hi
  exact TF.of hv.sp hv.st (by omega) (by omega) (tv.yB hv hi hk)
theorem tP_bound (hv : HV sp st rows) (tv : TV rows ys) (q : Nat) : (-100000000000 ≤ pSum (tAP what sp st rows ys) ((plc rows).take q) ∧ pSum (tAP what sp st rows ys) ((plc rows).take q) ≤ 100000000000) ∧ -100000000000 ≤ pSum (tBP what st rows ys) ((plc rows).take q) ∧ pSum (tBP what st rows ys) ((plc rows).take q) ≤ 100000000000 := by
  have h2 := plc_len hv
  have h3 : ((plc rows).take q).length ≤ 60 := by rw [List.length_take]; omega
  have h1 := pSum_bound (f := tAP what sp st rows ys) (l := (plc rows).take q) (A := 0) (B := 800000000) fun x hx => by
    have hm := plc_mem (List.mem_of_mem_take hx)
    have := (tv.tf hv 0 0 hm.1 hm.2).ab what
    unfold tAP; omega
  have h1' := pSum_bound (f := tBP what st rows ys) (l := (plc rows).take q) (A := 0) (B := 600000) fun x hx => by
    have hm := plc_mem (List.mem_of_mem_take hx)
    have := (tv.tf hv 0 0 hm.1 hm.2).ab what
    unfold tBP; omega
  omega
/-- what is asked, above and below: how great they are -/
theorem tN_bound (hv : HV sp st rows) (tv : TV rows ys) (what : Int) : (0 ≤ tN sp st ys what ∧ tN sp st ys what ≤ 100000000000) ∧ 0 < tD st ys what ∧ tD st ys what ≤ 100000000 := by
  have hS := tv.small hv
  have ba := hS.all (Nat.le_refl _)
  have bl' := hS.along (Nat.le_refl _)
  have bb := hS.above (Nat.le_refl _)
  have bc := hS.cubes (Nat.le_refl _)
  have hp := tv.pos hv
  have hsp := hv.sp; have hst := hv.st
  have p1 := mulB (A := 1000) (B := 1200000) ⟨by omega, hsp.2⟩ bl'
  have p2 := mulB (A := 100) (B := 720000) ⟨by omega, hst.2⟩ bb
  have p3 : 0 ≤ 3 * st ∧ 3 * st ≤ 300 := by omega
  have p4 := mulB (A := 300) (B := 100) p3 ⟨by omega, hst.2⟩
  have p5 := mulB p4 bb
  have p6 := mulB p3 ba
  have p7 : 0 < 3 * st * sAll ys ys.length := Int.mul_pos (by omega) hp
  unfold tN tD
  refine ⟨?_, ?_⟩
  · split
    · omega
    · split <;> omega
  · split
    · omega
    · split <;> omega
end
theorem c_value (w : World) (p : Addr) (sp st what : Int) (o o' : Value) (rv rv' : List Value) (rows : List (List (Int × Int))) (ys : List (List Int)) (hP : RdC w.heap.size w p [.int .i64 sp, .int .i64 st, o, .int .i64 what]) (hR : RdR encP 2 w.heap.size w o rv rows) (hR' : RdR encI 1 w.heap.size w o' rv' ys) (hv : HV sp st rows) (tv : TV rows ys) (hw : 0 ≤ what ∧ what ≤ 2) :
    Ret Try.prog 42 [.pointer (some p), o'].toArray w (.agg (encP (valQ sp st ys what)).toArray) := by
  refine Ret.of mixed tyTab Try.func42 rfl rfl ?_
  replace hR : RdR encP 2 (fnCx mixed tyTab Try.f42.ntmps w).B (fnCx mixed tyTab Try.f42.ntmps w).w0 o rv rows := hR
  replace hR' : RdR encI 1 (fnCx mixed tyTab Try.f42.ntmps w).B (fnCx mixed tyTab Try.f42.ntmps w).w0 o' rv' ys := hR'
  replace hP : RdC (fnCx mixed tyTab Try.f42.ntmps w).B (fnCx mixed tyTab Try.f42.ntmps w).w0 p [.int .i64 sp, .int .i64 st, o, .int .i64 what] := hP
  have hlen := tv.len
  have ho' := hR'.sl.oc
  have hst := hv.st
  obtain ⟨bN, bD⟩ := tN_bound hv tv what
  refine W.sreg ?_
  refine WO.box1 rfl (by first | rfl | assumption) rfl (fun b1 hb1 => ?_)
  refine WO.box1 rfl (by first | rfl | assumption) rfl (fun b2 hb2 => ?_)
  refine WO.alloc rfl rfl rfl (fun b3 hb3 => ?_)
  refine WO.nil ?_
  refine W.sreg ?_
  refine WO.alloc rfl rfl rfl (fun b4 hb4 => ?_)
  refine WO.alloc rfl rfl rfl (fun b5 hb5 => ?_)
  refine WO.store1 rfl rfl rfl (by first | rfl | assumption) (Pick.tail (Pick.head)) rfl (WO.store1 rfl rfl rfl (by first | rfl | assumption) (Pick.tail (Pick.head)) rfl ?_)
  refine WO.nil ?_
  refine W.seq ?_
  refine W.sreg ?_
  refine WO.load rfl rfl (Cell.own (Pick.tail (Pick.tail (Pick.tail (Pick.tail (Pick.head))))) rfl) rfl ?_
  refine WO.call (Post := fun v Hq => ∃ b1 b2, v = .func (.func 67) #[] #[.pointer (some ⟨b1, 0, none⟩), .pointer (some ⟨b2, 0, none⟩)] ∧ Hq = [pt b2 (.cells #[.func (.func 66) #[.agg #[.int .i64 1, .int .i64 2]] #[]] 95 (0, 0)), pt b1 (.cells #[.pointer (some p)] 71 (0, 0))]) rfl Try.call56 (fun L w hi => c_places w _) rfl ?_
  rintro _ _ ⟨e1, e2, rfl, rfl⟩
  refine WO.nil ?_
  refine W.block ?_
  refine W.rangeFunc [pt e2 (.cells #[.func (.func 66) #[.agg #[.int .i64 1, .int .i64 2]] #[]] 95 (0, 0)), pt e1 (.cells #[.pointer (some p)] 71 (0, 0)), pt b3 (.cells #[.int .i64 0, .int .i64 0] 29 (0, 0))] (fun q => [pt b4 (.cells #[.int .i64 (pSum (tAP what sp st rows ys) ((plc rows).take q))] 2 (0, 0)), pt b5 (.cells #[.int .i64 (pSum (tBP what st rows ys) ((plc rows).take q))] 2 (0, 0)), pt b1 (.cells #[.pointer (some p)] 71 (0, 0)), pt b2 (.cells #[o'] 25 (0, 0))]) (plcV rows) rfl rfl rfl Try.call67 (by repeat (first | exact Sub.nil | refine Sub.cons (by repeat (first | exact Pick.head | apply Pick.tail)) ?_)) ?_ ?_ ?_
  · intro l Hc hy w1 M' hB hk hM hi
    exact c_places1 _ _ p sp st o rv rows _ hR hv l Hc hy e1 e2 w1 M' hB hk hM (fun _ _ => (show RdC (itCx mixed tyTab Try.f67.ntmps w1 M' _ hB hM).B (itCx mixed tyTab Try.f67.ntmps w1 M' _ hB hM).w0 p [.int .i64 sp, .int .i64 st, o, .int .i64 what] from hP.agree hk).cellAt rfl) hi
  · intro l w1 M hB hM hk q x hx
    obtain ⟨i, k, hq, hi, hk', rfl⟩ := plcV_some hx
    have hR2 : RdR encI 1 (rdCx (fnCx mixed tyTab Try.f42.ntmps w) l w1 M hB hM).B (rdCx (fnCx mixed tyTab Try.f42.ntmps w) l w1 M hB hM).w0 o' rv' ys := hR'.agree hk
    have hP2 : RdC (rdCx (fnCx mixed tyTab Try.f42.ntmps w) l w1 M hB hM).B (rdCx (fnCx mixed tyTab Try.f42.ntmps w) l w1 M hB hM).w0 p [.int .i64 sp, .int .i64 st, o, .int .i64 what] := hP.agree hk
    have hrl := tv.row i (by omega)
    have tf := tv.tf hv 0 0 hi hk'
    have hab := tf.ab what
    have hsB := tP_bound (what := what) hv tv q
    rw [pSum_take hq, pSum_take hq]
    refine W.region ?_
    refine WO.alloc rfl rfl rfl (fun b6 hb6 => ?_)
    refine WO.storeA rfl rfl rfl rfl Pick.head rfl rfl ?_
    refine WO.nil ?_
    refine W.block ?_
    refine W.seq ?_
    refine W.drawD 16 [.b 0 [], .b 1 [], .b 2 [], .r 3 [], .b 4 [], .r 5 [], .b 6 [], .r 7 [], .b 8 [], .r 9 [], .b 10 [], .b 11 [], .r 12 [], .r 13 [], .r 14 [], .r 15 []] [] (A0 := []) (Sub.refl _) (by kernel_rfl) ?_ ?_
    · exact (ALok.b (ALok.b (ALok.b (ALok.r (ALok.b (ALok.r (ALok.b (ALok.r (ALok.b (ALok.r (ALok.b (ALok.b (ALok.r (ALok.r (ALok.r (ALok.r ALok.nil))))))))))))))))
    refine' DT.b rfl rfl rfl ?hq ?_
    case hq =>
      refine WO.load rfl rfl (Cell.own (Pick.tail (Pick.tail (Pick.tail (Pick.head)))) rfl) rfl ?_
      exact WO.nil ⟨rfl, rfl⟩
    refine' DT.b rfl rfl rfl ?hq ?_
    case hq =>
      refine WO.loadA rfl rfl (Cells.own Pick.head) rfl rfl ?_
      exact WO.nil ⟨rfl, rfl⟩
    refine' DT.b rfl rfl rfl ?hq ?_
    case hq =>
      refine WO.load rfl rfl (Cell.own (Pick.tail (Pick.tail (Pick.tail (Pick.tail (Pick.head))))) rfl) rfl ?_
      exact WO.nil ⟨rfl, rfl⟩
    refine' DT.r rfl rfl rfl ?hq ?_
    case hq =>
      refine WO.field0 rfl rfl rfl ?_
      exact WO.nil ⟨rfl, rfl⟩
    refine' DT.b rfl rfl rfl ?hq ?_
    case hq =>
      refine WO.load rfl rfl (Cell.own Pick.head rfl) rfl ?_
      exact WO.nil ⟨rfl, rfl⟩
    refine' DT.r rfl rfl rfl ?hq ?_
    case hq =>
      refine' WO.indexAddr (n := _) (i := _) rfl rfl rfl ?hs ?h1 rfl ?_
      case hs => (first | exact hR2.sl | (refine (hR2.row _ ?_).sl; omega))
      case h1 => (first | omega | (simp; omega))
      exact WO.nil ⟨rfl, rfl⟩
    refine' DT.b rfl rfl rfl ?hq ?_
    case hq =>
      refine' WO.load (v := _) rfl rfl ?hc rfl ?_
      case hc => (first | (refine hR2.cellV ?_; omega) | (refine (hR2.row _ ?_).cell0 ?_ 0 ?_ <;> first | rfl | omega))
      exact WO.nil ⟨rfl, rfl⟩
    refine' DT.r rfl rfl rfl ?hq ?_
    case hq =>
      refine WO.fieldL rfl rfl rfl ?_
      exact WO.nil ⟨rfl, rfl⟩
    refine' DT.b rfl rfl rfl ?hq ?_
    case hq =>
      refine WO.load rfl rfl (Cell.own Pick.head rfl) rfl ?_
      exact WO.nil ⟨rfl, rfl⟩
    refine' DT.r rfl rfl rfl ?hq ?_
    case hq =>
      refine' WO.indexAddr (n := _) (i := _) rfl rfl rfl ?hs ?h1 rfl ?_
      case hs => (first | exact hR2.sl | (refine (hR2.row _ ?_).sl; omega))
      case h1 => (first | omega | (simp; omega))
      exact WO.nil ⟨rfl, rfl⟩
    refine' DT.b rfl rfl rfl ?hq ?_
    case hq =>
      refine' WO.load (v := _) rfl rfl ?hc rfl ?_
      case hc => (first | (refine hR2.cellV ?_; omega) | (refine (hR2.row _ ?_).cell0 ?_ 0 ?_ <;> first | rfl | omega))
      exact WO.nil ⟨rfl, rfl⟩
    refine' DT.b rfl rfl rfl ?hq ?_
    case hq =>
      refine WO.callR rfl Try.call58 (fun L w hi => c_terms w p sp st what o rows.length (rows.getD i []).length i k (yy ys i k) (hP2.later hi) hw tf (by omega) hst.2) rfl ?_
      exact WO.nil ⟨rfl, rfl⟩
    refine' DT.r rfl rfl rfl ?hq ?_
    case hq =>
      refine WO.p rfl rfl ?_
      exact WO.nil ⟨rfl, rfl⟩
    refine' DT.r rfl rfl rfl ?hq ?_
    case hq =>
      refine WO.p rfl rfl ?_
      exact WO.nil ⟨rfl, rfl⟩
    refine' DT.r rfl rfl rfl ?hq ?_
    case hq =>
      refine WO.p rfl rfl ?_
      exact WO.nil ⟨rfl, rfl⟩
    refine' DT.r rfl rfl rfl ?hq ?_
    case hq =>
      refine WO.p rfl rfl ?_
      exact WO.nil ⟨rfl, rfl⟩
    refine DT.nil [_, _, _, _, _] rfl ?_
    refine WO.p rfl rfl ?_
    refine WO.nil ?_
    refine W.drawD 7 [.f 0 [], .r 1 [], .r 2 [], .g 3 [] (pt b5 (.cells #[.int .i64 (pSum (tBP what st rows ys) ((plc rows).take q))] 2 (0, 0))), .r 4 [], .r 5 [], .s 6 []] [] (A0 := [_, _]) (H0 := [_, _, _]) (.cons (Pick.tail .head) (.cons (Pick.tail .head) (.cons .head (.cons .head (.cons .head .nil))))) (by kernel_rfl) ?_ ?_
    · exact (ALok.f (ALok.r (ALok.r (ALok.g (ALok.r (ALok.r (ALok.s ALok.nil)))))))
    refine' DT.f [_, _, _, _, _] rfl rfl rfl rfl ?hq ?_
    case hq =>
      refine WO.load rfl rfl (Cell.own Pick.head rfl) rfl ?_
      exact WO.nil ⟨rfl, rfl⟩
    refine' DT.r rfl rfl rfl ?hq ?_
    case hq =>
      refine WO.p rfl rfl ?_
      exact WO.nil ⟨rfl, rfl⟩
    refine' DT.r rfl rfl rfl ?hq ?_
    case hq =>
      refine WO.ar rfl rfl rfl (by (first | (unfold in64; omega) | (unfold in64; omega))) rfl ?_
      exact WO.nil ⟨rfl, rfl⟩
    refine' DT.g (by repeat (first | exact Pick.head | apply Pick.tail)) rfl rfl rfl ?hq ?_
    case hq =>
      refine WO.load rfl rfl (Cell.own Pick.head rfl) rfl ?_
      exact WO.nil ⟨rfl, rfl⟩
    refine' DT.r rfl rfl rfl ?hq ?_
    case hq =>
      refine WO.p rfl rfl ?_
      exact WO.nil ⟨rfl, rfl⟩
    refine' DT.r rfl rfl rfl ?hq ?_
    case hq =>
      refine WO.ar rfl rfl rfl (by (first | (unfold in64; omega) | (unfold in64; omega))) rfl ?_
      exact WO.nil ⟨rfl, rfl⟩
    refine DT.s [_, _, _, _, _] rfl rfl rfl ?_
    refine WO.store1 rfl rfl rfl (by first | rfl | assumption) Pick.head rfl ?_
    refine WO.nil ⟨[_, _], rfl, rfl, (Keep.r (Keep.r (Keep.g (.inr ⟨_, by repeat (first | exact Pick.head | apply Pick.tail)⟩) (Keep.r (Keep.r (Keep.f Keep.nil)))))), ?_⟩
    refine DT.nil [_, _, _, _, _] rfl ?_
    refine WO.store1 rfl rfl rfl (by first | rfl | assumption) (Pick.tail (Pick.head)) rfl ?_
    refine WO.nil ?_
    (repeat (first | exact Sub.nil | refine Sub.cons (by repeat (first | exact Pick.head | apply Pick.tail)) ?_))
  rw [plcV_len, List.take_length, tAP_all hv tv hw, tBP_all tv hw]
  refine W.sreg ?_
  refine WO.load rfl rfl (Cell.own (Pick.tail (Pick.tail (Pick.tail (Pick.head)))) rfl) rfl (WO.load rfl rfl (Cell.own (Pick.tail (Pick.tail (Pick.tail (Pick.tail (Pick.head))))) rfl) rfl ?_)
  refine WO.callR rfl Try.call47 (fun L w hi => c_fraction w _ _ bN.1 bD.1 (by unfold in64; omega) (by unfold in64; omega)) rfl ?_
  refine WO.storeA rfl rfl rfl rfl (Pick.tail (Pick.tail (Pick.head))) rfl rfl ?_
  refine WO.nil ?_
  refine W.ret ?_
  exact fin.ret (Res.one rfl (RV.cell rfl rfl rfl (Cells.own Pick.head))) rfl
end Go.Proofs.Ytgihklgpehfbpaa
namespace Go.Proofs.Ytgihklgpehfbpaa
open Go Go.TH
attribute [local irreducible] W WO pt
set_option maxRecDepth 10000
set_option maxHeartbeats 1000000
/-- a function that takes one end of a range -/
structure ChooseOK (f : Nat) (high : Bool) : Prop where
  run : ∀ (w : World) (i k : Int) (r : Int × Int), Ret Try.prog f [.int .i64 i, .int .i64 k, .agg (encP r).toArray].toArray w (.int .i64 (pickE high r))
  call : ∀ (args : Array Value) (w : World), (callFunc f args).run Try.prog w = .ok (.enter f args) w
theorem ch_52 : ChooseOK 52 false := by
  refine ⟨fun w i k r => ?_, Try.call52⟩
  refine Ret.of mixed tyTab Try.func52 rfl rfl ?_
  refine W.sreg ?_
  refine WO.boxA rfl rfl (fun b1 hb1 => ?_)
  refine WO.p rfl rfl ?_
  refine WO.nil ?_
  refine W.sreg ?_
  refine WO.field0 rfl rfl rfl (WO.load rfl rfl (Cell.own Pick.head rfl) rfl (WO.p rfl rfl ?_))
  refine WO.nil ?_
  refine W.ret ?_
  exact fin.ret (Res.one rfl (RV.tmp rfl)) rfl
theorem ch_53 : ChooseOK 53 true := by
  refine ⟨fun w i k r => ?_, Try.call53⟩
  refine Ret.of mixed tyTab Try.func53 rfl rfl ?_
  refine W.sreg ?_
  refine WO.boxA rfl rfl (fun b1 hb1 => ?_)
  refine WO.p rfl rfl ?_
  refine WO.nil ?_
  refine W.sreg ?_
  refine WO.fieldL rfl rfl rfl (WO.load rfl rfl (Cell.own Pick.head rfl) rfl (WO.p rfl rfl ?_))
  refine WO.nil ?_
  refine W.ret ?_
  exact fin.ret (Res.one rfl (RV.tmp rfl)) rfl
theorem ch_63 : ChooseOK 63 false := by
  refine ⟨fun w i k r => ?_, Try.call63⟩
  refine Ret.of mixed tyTab Try.func63 rfl rfl ?_
  refine W.sreg ?_
  refine WO.boxA rfl rfl (fun b1 hb1 => ?_)
  refine WO.p rfl rfl ?_
  refine WO.nil ?_
  refine W.sreg ?_
  refine WO.field0 rfl rfl rfl (WO.load rfl rfl (Cell.own Pick.head rfl) rfl (WO.p rfl rfl ?_))
  refine WO.nil ?_
  refine W.ret ?_
  exact fin.ret (Res.one rfl (RV.tmp rfl)) rfl
theorem ch_65 : ChooseOK 65 true := by
  refine ⟨fun w i k r => ?_, Try.call65⟩
  refine Ret.of mixed tyTab Try.func65 rfl rfl ?_
  refine W.sreg ?_
  refine WO.boxA rfl rfl (fun b1 hb1 => ?_)
  refine WO.p rfl rfl ?_
  refine WO.nil ?_
  refine W.sreg ?_
  refine WO.fieldL rfl rfl rfl (WO.load rfl rfl (Cell.own Pick.head rfl) rfl (WO.p rfl rfl ?_))
  refine WO.nil ?_
  refine W.ret ?_
  exact fin.ret (Res.one rfl (RV.tmp rfl)) rfl
theorem part_set {α β : Type} {f : α → β} {l : List α} {k : Nat} (h : k < l.length) (z : α) (u : β) : ((l.take k).map f ++ List.replicate (l.length - k) u).set k (f (l.getD k z)) = (l.take (k + 1)).map f ++ List.replicate (l.length - (k + 1)) u := by
  rw [take_succ_getD h z, List.map_append, List.set_append_right _ _ (by simp; omega)]
  obtain ⟨m, hm⟩ : ∃ m, l.length - k = m + 1 := ⟨l.length - k - 1, by omega⟩
  rw [hm, show l.length - (k + 1) = m by omega, List.replicate_succ]
  simp [Nat.min_eq_left (Nat.le_of_lt h)]
theorem part_full {α β : Type} {f : α → β} {l : List α} {k : Nat} (h : ¬ (k : Int) < (l.length : Int)) (u : β) : (l.take k).map f ++ List.replicate (l.length - k) u = l.map f := by
  rw [List.take_of_length_le (by omega), show l.length - k = 0 by omega]; simp
theorem part_none {α β : Type} (f : α → β) (l : List α) (u : β) : List.replicate l.length u = (l.take 0).map f ++ List.replicate (l.length - 0) u := by simp
theorem c_pick (w : World) (sp st : Int) (o : Value) (rv : List Value) (rows : List (List (Int × Int))) (f : Nat) (high : Bool) (hf : ChooseOK f high) (hR : RdR encP 2 w.heap.size w o rv rows) (hsm : rows.length ≤ 1000) (hsm2 : ∀ r ∈ rows, r.length ≤ 1000) :
    Ct Try.prog 51 [.agg #[.int .i64 sp, .int .i64 st, o], .func (.func f) #[] #[]].toArray w fun v w' => ∃ Hq, (∃ rv', Hq = [OwC 53 1 v rows.length rv', RowsE encI 2 1 rv' (endsOf high rows)]) ∧ Inv w [] Hq w' := by
  refine Ct.of mixed tyTab Try.func51 rfl rfl ?_
  replace hR : RdR encP 2 (fnCx mixed tyTab Try.f51.ntmps w).B (fnCx mixed tyTab Try.f51.ntmps w).w0 o rv rows := hR
  have hle := hR.sl.le
  refine W.sreg ?_
  refine WO.boxA rfl rfl (fun b1 hb1 => ?_)
  refine WO.p rfl rfl ?_
  refine WO.nil ?_
  refine W.sreg ?_
  refine WO.p rfl rfl ?_
  refine WO.nil ?_
  refine W.seq ?_
  refine W.sreg ?_
  refine WO.fieldL rfl rfl rfl (WO.load rfl rfl (Cell.own Pick.head rfl) rfl ?_)
  refine' WO.len (n := _) rfl rfl ?hs rfl ?_
  case hs => (first | exact hR.sl | (refine (hR.row _ ?_).sl; omega) | exact isSl_lit (by omega))
  refine WO.p rfl rfl ?_
  refine WO.nil ?_
  refine W.block ?_
  refine W.chg (owcNil (e := 53) (sz := 1)) ?_
  refine W.chg (rowsNil (enc := encI) (e := 2) (sz := 1)) ?_
  refine W.loop3 (fun (i : Nat) (v : Value) (rv' : List Value) => i ≤ rows.length)
    (fun (i : Nat) (v : Value) (rv' : List Value) => [(14, .int .i64 (i : Int)), (13, .int .i64 (rows.length : Int)), (12, o), (5, v), (1, .func (.func f) #[] #[]), (2, .pointer (some ⟨b1, 0, none⟩))])
    (fun (i : Nat) (v : Value) (rv' : List Value) => [pt b1 (.cells #[.int .i64 sp, .int .i64 st, o] 24 (0, 0)), OwC 53 1 v i rv', RowsE encI 2 1 rv' (endsOf high (rows.take i))])
    (fun (i : Nat) (v : Value) (rv' : List Value) => rows.length - i) 0 (.slice none 0 0) []
    (by omega) ⟨rfl, rfl, rfl, rfl, rfl, rfl, trivial⟩ (by repeat (first | exact Sub.nil | refine Sub.cons (by repeat (first | exact Pick.head | apply Pick.tail)) ?_)) ?_
  rintro i v rv' hi
  refine W.sreg ?_
  refine WO.p rfl rfl ?_
  refine WO.nil ?_
  refine W.seq ?_
  refine W.cond_bl rfl (fun c1 => ?_) (fun c1 => ?_)
  · first
    | (exfalso; omega)
    | (refine W.skip ?_
       refine W.seq ?_
       refine W.block ?_
       refine W.sreg ?_
       refine WO.p rfl rfl ?_
       refine' WO.indexAddr (n := _) (i := _) rfl rfl rfl ?hs ?h1 rfl ?_
       case hs => (first | exact hR.sl | (refine (hR.row _ ?_).sl; omega) | exact isSl_lit (by omega))
       case h1 => (first | omega | (simp; omega))
       refine' WO.load (v := _) rfl rfl ?hc rfl ?_
       case hc => (first | (refine hR.cellV ?_; omega))
       refine WO.p rfl rfl (WO.p rfl rfl ?_)
       refine WO.nil ?_
       refine W.sreg ?_
       refine WO.p rfl rfl ?_
       refine' WO.len (n := _) rfl rfl ?hs rfl ?_
       case hs => (first | exact hR.sl | (refine (hR.row _ ?_).sl; omega) | exact isSl_lit (by omega))
       refine WO.makeI rfl rfl rfl rfl (by have := hsm2 _ (getD_mem (show i < rows.length by omega) []); omega) (by have := hsm2 _ (getD_mem (show i < rows.length by omega) []); omega) rfl (fun lb => ?_)
       rw [part_none (pickE high) (rows.getD i []) 0]
       refine WO.p rfl rfl ?_
       refine WO.nil ?_
       refine W.seq ?_
       refine W.sreg ?_
       refine WO.p rfl rfl ?_
       refine' WO.len (n := _) rfl rfl ?hs rfl ?_
       case hs => (first | exact hR.sl | (refine (hR.row _ ?_).sl; omega) | exact isSl_lit (by omega))
       refine WO.p rfl rfl ?_
       refine WO.nil ?_
       refine W.block ?_
       refine W.loop (fun (k : Nat) => k ≤ (rows.getD i []).length)
         (fun (k : Nat) => [(14, .int .i64 (i : Int)), (13, .int .i64 (rows.length : Int)), (12, o), (24, .int .i64 (k : Int)), (23, .int .i64 ((rows.getD i []).length : Int)), (22, rv.getD i undef), (8, .slice (some ⟨lb, 0, none⟩) (rows.getD i []).length (rows.getD i []).length), (6, .int .i64 (i : Int)), (5, v), (1, .func (.func f) #[] #[]), (2, .pointer (some ⟨b1, 0, none⟩))])
         (fun (k : Nat) => [pt b1 (.cells #[.int .i64 sp, .int .i64 st, o] 24 (0, 0)), OwE encI 2 1 (.slice (some ⟨lb, 0, none⟩) (rows.getD i []).length (rows.getD i []).length) (((rows.getD i []).take k).map (pickE high) ++ List.replicate ((rows.getD i []).length - k) 0), OwC 53 1 v i rv', RowsE encI 2 1 rv' (endsOf high (rows.take i))])
         (fun (k : Nat) => (rows.getD i []).length - k) 0
         (by omega) ⟨rfl, rfl, rfl, rfl, rfl, rfl, rfl, rfl, rfl, rfl, rfl, trivial⟩ (by repeat (first | exact Sub.nil | refine Sub.cons (by repeat (first | exact Pick.head | apply Pick.tail)) ?_)) ?_
       rintro k hk
       have hlk := (hR.row i (by omega)).sl.le
       refine W.sreg ?_
       refine WO.p rfl rfl ?_
       refine WO.nil ?_
       refine W.seq ?_
       refine W.cond_bl rfl (fun c2 => ?_) (fun c2 => ?_)
       · first
         | (exfalso; omega)
         | (refine W.skip ?_
            refine W.seq ?_
            refine W.block ?_
            refine W.sreg ?_
            refine WO.p rfl rfl ?_
            refine' WO.indexAddr (n := _) (i := _) rfl rfl rfl ?hs ?h1 rfl ?_
            case hs => (first | exact hR.sl | (refine (hR.row _ ?_).sl; omega) | exact isSl_lit (by omega))
            case h1 => (first | omega | (simp; omega))
            refine' WO.loadA (vs := _) rfl rfl ?hc ?hl rfl ?_
            case hc => (first | (refine (hR.row _ ?_).cells ?_ (0, 0) <;> omega))
            case hl => rfl
            refine WO.alloc rfl rfl rfl (fun b2 hb2 => ?_)
            refine WO.p rfl rfl (WO.storeA rfl rfl rfl rfl Pick.head rfl rfl ?_)
            refine WO.nil ?_
            refine W.region ?_
            refine WO.p rfl rfl (WO.p rfl rfl (WO.p rfl rfl (WO.p rfl rfl (WO.p rfl rfl (WO.loadA rfl rfl (Cells.own Pick.head) rfl rfl ?_)))))
            refine WO.callCR (first := []) (captured := []) rfl rfl hf.call (fun L w hi => hf.run w i k ((rows.getD i []).getD k (0, 0))) rfl ?_
            refine' WO.indexAddr (n := _) (i := _) rfl rfl rfl ?hs ?h1 rfl ?_
            case hs => (first | exact hR.sl | (refine (hR.row _ ?_).sl; omega) | exact isSl_lit (by omega))
            case h1 => (first | omega | (simp; omega))
            refine WO.storeE encI_ok rfl rfl rfl rfl (by repeat (first | exact Pick.head | apply Pick.tail)) (by rw [List.length_append, List.length_map, List.length_take, List.length_replicate]; omega) ?_
            rw [part_set (by omega)]
            refine WO.nil ?_
            refine W.region ?_
            refine WO.ar rfl rfl rfl (by (first | (unfold in64; omega))) rfl (WO.p rfl rfl ?_)
            refine WO.nil ?_
            refine' ⟨k + 1, ?hp, ?hmu, ⟨rfl, rfl, rfl, rfl, rfl, rfl, rfl, rfl, rfl, rfl, rfl, trivial⟩, ?hS⟩
            case hS => repeat (first | exact Sub.nil | refine Sub.cons (by repeat (first | exact Pick.head | apply Pick.tail)) ?_)
            case hp => omega
            case hmu => omega)
       · first
         | (exfalso; omega)
         | (refine W.exit (blk_same ?_)
            refine W.region ?_
            refine WO.p rfl rfl (WO.p rfl rfl ?_)
            refine' WO.buildSl (cs := _) rfl rfl rfl rfl ?hf rfl rfl ?hl rfl (fun v3 => ?_)
            case hf => (conv => lhs; simp [-List.getD_eq_getElem?_getD, fillL, vcl, wrl, TTab.pl?.lget']) <;> rfl
            case hl => rfl
            refine' WO.append (m := 1) (news := [.slice (some ⟨lb, 0, none⟩) (rows.getD i []).length (rows.getD i []).length]) rfl rfl rfl rfl rfl (by repeat (first | exact Pick.head | apply Pick.tail)) (isSl_lit (by omega)) (by omega) (OwC.cells (by repeat (first | exact Pick.head | apply Pick.tail))) rfl (by simp [Value.oneCell']) (by omega) (by omega) rfl (fun g c' => ?_)
            refine WO.p rfl rfl ?_
            refine WO.nil ?_
            refine W.chg (rowsSnoc (enc := encI) (e := 2) (sz := 1) (by repeat (first | exact Pick.head | apply Pick.tail)) (by repeat (first | exact Pick.head | apply Pick.tail))) ?_
            rw [part_full (by assumption), show endsOf high (rows.take i) ++ [(rows.getD i []).map (pickE high)] = endsOf high (rows.take (i + 1)) from map_take_succ (l := rows) (i := i) (by omega) [] (fun r => r.map (pickE high))]
            refine W.region ?_
            refine WO.ar rfl rfl rfl (by (first | (unfold in64; omega))) rfl (WO.p rfl rfl ?_)
            refine WO.nil ?_
            refine' ⟨i + 1, _, _, ?hp, ?hmu, ⟨rfl, rfl, rfl, rfl, rfl, rfl, trivial⟩, ?hS⟩
            case hS => repeat (first | exact Sub.nil | refine Sub.cons (by repeat (first | exact Pick.head | apply Pick.tail)) ?_)
            case hp => omega
            case hmu => omega))
  · first
    | (exfalso; omega)
    | (refine W.exit (blk_same ?_)
       refine W.chg (H' := [OwC 53 1 v i rv', RowsE encI 2 1 rv' (endsOf high (rows.take i))]) (fun h hs => Sub.sat (.cons (.tail .head) (.cons (.tail .head) .nil)) hs) ?_
       obtain rfl : i = rows.length := by omega
       refine W.sreg ?_
       refine WO.p rfl rfl (WO.p rfl rfl ?_)
       refine WO.nil ?_
       refine W.ret ?_
       exact fin.ret (Res.one rfl (RV.tmp rfl)) ⟨rv', by rw [List.take_length]⟩)
end Go.Proofs.Ytgihklgpehfbpaa
namespace Go.Proofs.Ytgihklgpehfbpaa
open Go Go.TH
attribute [local irreducible] W WO pt
set_option maxRecDepth 10000
set_option maxHeartbeats 1000000
def planE (sp st : Int) (rows : List (List (Int × Int))) (what : Int) : Int := if chkHull sp st rows ≠ 0 then chkHull sp st rows else if what < 0 ∨ 2 < what then 3 else 0
section
variable {sp st : Int} {rows : List (List (Int × Int))} {what : Int}
theorem planE_1 (h : chkHull sp st rows ≠ 0) : chkHull sp st rows = planE sp st rows what := by rw [planE, if_pos h]
theorem planE_3 (h : ¬ chkHull sp st rows ≠ 0) (hw : what < 0 ∨ 2 < what) : 3 = planE sp st rows what := by rw [planE, if_neg h, if_pos hw]
theorem planE_0 (h : ¬ chkHull sp st rows ≠ 0) (hw : ¬ (what < 0 ∨ 2 < what)) : 0 = planE sp st rows what := by rw [planE, if_neg h, if_neg hw]
theorem planE_ok (h : planE sp st rows what = 0) : HV sp st rows ∧ 0 ≤ what ∧ what ≤ 2 := by
  unfold planE at h
  split at h
  · rename_i h1; exact absurd h h1
  split at h
  · omega
  · rename_i h1 h2; exact ⟨HV.of (Decidable.not_not.1 h1), by omega, by omega⟩
end
def planCs (sp st : Int) (o : Value) (what : Int) : List Value := [.int .i64 sp, .int .i64 st, o, .int .i64 what]
theorem c_newPlan (w : World) (sp st : Int) (o : Value) (rv : List Value) (rows : List (List (Int × Int))) (what : Int) (hR : RdR encP 2 w.heap.size w o rv rows) :
    Ct Try.prog 41 [.agg #[.int .i64 sp, .int .i64 st, o], .int .i64 what].toArray w fun v w' => ∃ Hq, (∃ pv, v = .tuple #[pv, .int .i64 (planE sp st rows what)] ∧ Hq = [PtrP pv (planE sp st rows what) (planCs sp st o what) 89]) ∧ Inv w [] Hq w' := by
  refine Ct.ofI mixed tyTab Try.func41 rfl rfl ?_
  replace hR : RdR encP 2 (fnCx mixed tyTab Try.f41.ntmps w).B (fnCx mixed tyTab Try.f41.ntmps w).w0 o rv rows := hR
  refine W.sreg ?_
  refine WO.boxA rfl rfl (fun b1 hb1 => ?_)
  refine WO.p rfl rfl (WO.p rfl rfl ?_)
  refine WO.nil ?_
  refine W.seq ?_
  refine W.sreg ?_
  refine WO.loadA rfl rfl (Cells.own Pick.head) rfl rfl ?_
  refine WO.callR (r := .int .i64 (chkHull sp st rows)) rfl Try.call18 (fun L w hi => c_CheckHull w sp st o rv rows (hR.later hi)) rfl ?_
  refine WO.p rfl rfl ?_
  refine WO.nil ?_
  refine W.sreg ?_
  refine WO.p rfl rfl (WO.p rfl rfl ?_)
  refine WO.nil ?_
  refine W.cond_bl rfl (fun c1 => ?_) (fun c1 => ?_)
  · first
    | (exfalso; omega)
    | (refine W.sreg ?_
       refine WO.p rfl rfl (WO.p rfl rfl (WO.p rfl rfl ?_))
       refine WO.nil ?_
       refine W.ret ?_
       refine fin.ret (Res.two rfl (RV.tmp rfl) (RV.tmp rfl)) ?_
       first | exact ⟨_, by rw [← planE_1 (by assumption)], fun h hs => Sub.sat (.cons .head .nil) (PtrP.no (by rw [← planE_1 (by assumption)]; assumption) h hs)⟩ | exact ⟨_, by rw [← planE_3 (by assumption) (by omega)], fun h hs => Sub.sat (.cons .head .nil) (PtrP.no (by rw [← planE_3 (by assumption) (by omega)]; omega) h hs)⟩ | exact ⟨_, by rw [← planE_0 (by assumption) (by omega)], fun h hs => Sub.sat (.cons .head .nil) (PtrP.yes .head h hs)⟩)
  · first
    | (exfalso; omega)
    | (refine W.skip ?_
       refine W.seq ?_
       refine W.sreg ?_
       refine WO.p rfl rfl (WO.p rfl rfl (WO.p rfl rfl ?_))
       refine WO.guard_bl rfl rfl (fun c2 => ?_) (fun c2 => ?_)
       · first
         | (exfalso; omega)
         | (refine WO.no rfl rfl (WO.no rfl rfl (WO.p rfl rfl ?_))
            refine WO.nil ?_
            refine W.cond_t rfl ?_
            refine W.sreg ?_
            refine WO.p rfl rfl (WO.p rfl rfl ?_)
            refine WO.nil ?_
            refine W.ret ?_
            refine fin.ret (Res.two rfl (RV.tmp rfl) (RV.tmp rfl)) ?_
            first | exact ⟨_, by rw [← planE_1 (by assumption)], fun h hs => Sub.sat (.cons .head .nil) (PtrP.no (by rw [← planE_1 (by assumption)]; assumption) h hs)⟩ | exact ⟨_, by rw [← planE_3 (by assumption) (by omega)], fun h hs => Sub.sat (.cons .head .nil) (PtrP.no (by rw [← planE_3 (by assumption) (by omega)]; omega) h hs)⟩ | exact ⟨_, by rw [← planE_0 (by assumption) (by omega)], fun h hs => Sub.sat (.cons .head .nil) (PtrP.yes .head h hs)⟩)
       · first
         | (exfalso; omega)
         | (refine WO.pg rfl rfl rfl (WO.pg rfl rfl rfl (WO.p rfl rfl ?_))
            refine WO.nil ?_
            refine W.cond_bl rfl (fun c3 => ?_) (fun c3 => ?_)
            · first
              | (exfalso; omega)
              | (refine W.sreg ?_
                 refine WO.p rfl rfl (WO.p rfl rfl ?_)
                 refine WO.nil ?_
                 refine W.ret ?_
                 refine fin.ret (Res.two rfl (RV.tmp rfl) (RV.tmp rfl)) ?_
                 first | exact ⟨_, by rw [← planE_1 (by assumption)], fun h hs => Sub.sat (.cons .head .nil) (PtrP.no (by rw [← planE_1 (by assumption)]; assumption) h hs)⟩ | exact ⟨_, by rw [← planE_3 (by assumption) (by omega)], fun h hs => Sub.sat (.cons .head .nil) (PtrP.no (by rw [← planE_3 (by assumption) (by omega)]; omega) h hs)⟩ | exact ⟨_, by rw [← planE_0 (by assumption) (by omega)], fun h hs => Sub.sat (.cons .head .nil) (PtrP.yes .head h hs)⟩)
            · first
              | (exfalso; omega)
              | (refine W.skip ?_
                 refine W.sreg ?_
                 refine WO.loadA rfl rfl (Cells.own Pick.head) rfl rfl (WO.p rfl rfl ?_)
                 refine' WO.build (cs := _) rfl rfl rfl ?hf rfl ?_
                 case hf => (conv => lhs; simp [-List.getD_eq_getElem?_getD, fillL, vcl, wrl, TTab.pl?.lget']) <;> rfl
                 refine WO.boxA rfl rfl (fun b2 hb2 => ?_)
                 refine WO.p rfl rfl (WO.p rfl rfl ?_)
                 refine WO.nil ?_
                 refine W.ret ?_
                 refine fin.ret (Res.two rfl (RV.tmp rfl) (RV.tmp rfl)) ?_
                 first | exact ⟨_, by rw [← planE_1 (by assumption)], fun h hs => Sub.sat (.cons .head .nil) (PtrP.no (by rw [← planE_1 (by assumption)]; assumption) h hs)⟩ | exact ⟨_, by rw [← planE_3 (by assumption) (by omega)], fun h hs => Sub.sat (.cons .head .nil) (PtrP.no (by rw [← planE_3 (by assumption) (by omega)]; omega) h hs)⟩ | exact ⟨_, by rw [← planE_0 (by assumption) (by omega)], fun h hs => Sub.sat (.cons .head .nil) (PtrP.yes .head h hs)⟩)))
theorem valE_0 {sp st : Int} {rows : List (List (Int × Int))} {ys : List (List Int)} {what : Int} (h : ¬ chkTrue sp st rows ys ≠ 0) : planE sp st rows what = valE sp st rows ys what := by
  have h0 := Decidable.not_not.1 h
  have hv := (TV.of h0).1.to
  unfold planE valE
  rw [if_neg (by simp [hv]), if_pos h0]
theorem valR_p {sp st : Int} {rows : List (List (Int × Int))} {ys : List (List Int)} {what : Int} (h : ¬ chkTrue sp st rows ys ≠ 0) (hp : planE sp st rows what ≠ 0) : .tuple #[.agg (encP (0, 0)).toArray, .int .i64 (planE sp st rows what)] = valR sp st rows ys what := by
  rw [valE_0 (ys := ys) h] at *
  unfold valR valV; rw [if_neg hp]
theorem valR_o {sp st : Int} {rows : List (List (Int × Int))} {ys : List (List Int)} {what : Int} (h : ¬ chkTrue sp st rows ys ≠ 0) (hp : ¬ planE sp st rows what ≠ 0) : .tuple #[.agg (encP (valQ sp st ys what)).toArray, .int .i64 0] = valR sp st rows ys what := by
  have hp' := Decidable.not_not.1 hp
  rw [valE_0 (ys := ys) h] at hp'
  unfold valR valV; rw [if_pos hp', hp']
theorem c_Volume (w : World) (sp st : Int) (o o' : Value) (rv rv' : List Value) (rows : List (List (Int × Int))) (ys : List (List Int)) (hR : RdR encP 2 w.heap.size w o rv rows) (hR' : RdR encI 1 w.heap.size w o' rv' ys) :
    Ret Try.prog 14 [.agg #[.int .i64 sp, .int .i64 st, o], o'].toArray w (volR sp st rows ys) := by
  refine Ret.of mixed tyTab Try.func14 rfl rfl ?_
  replace hR : RdR encP 2 (fnCx mixed tyTab Try.f14.ntmps w).B (fnCx mixed tyTab Try.f14.ntmps w).w0 o rv rows := hR
  replace hR' : RdR encI 1 (fnCx mixed tyTab Try.f14.ntmps w).B (fnCx mixed tyTab Try.f14.ntmps w).w0 o' rv' ys := hR'
  refine W.sreg ?_
  refine WO.boxA rfl rfl (fun b1 hb1 => ?_)
  refine WO.alloc rfl rfl rfl (fun b2 hb2 => ?_)
  refine WO.p rfl rfl ?_
  refine WO.nil ?_
  refine W.seq ?_
  refine W.sreg ?_
  refine WO.loadA rfl rfl (Cells.own (Pick.tail (Pick.head))) rfl rfl (WO.p rfl rfl ?_)
  refine WO.callR (r := .int .i64 (chkTrue sp st rows ys)) rfl Try.call20 (fun L w hi => c_CheckTrue w sp st o o' rv rv' rows ys (hR.later hi) (hR'.later hi)) rfl ?_
  refine WO.p rfl rfl ?_
  refine WO.nil ?_
  refine W.sreg ?_
  refine WO.p rfl rfl (WO.p rfl rfl ?_)
  refine WO.nil ?_
  refine W.cond_bl rfl (fun c1 => ?_) (fun c1 => ?_)
  · first
    | (exfalso; omega)
    | (refine W.sreg ?_
       refine' WO.build (cs := _) rfl rfl rfl ?hf rfl ?_
       case hf => (conv => lhs; simp [-List.getD_eq_getElem?_getD, fillL, vcl, wrl, TTab.pl?.lget']) <;> rfl
       refine WO.p rfl rfl (WO.storeA rfl rfl rfl rfl Pick.head rfl rfl (WO.p rfl rfl ?_))
       refine WO.nil ?_
       refine W.ret ?_
       refine fin.ret (Res.two rfl (RV.cell rfl rfl rfl (Cells.own Pick.head)) (RV.tmp rfl)) ?_
       first | exact volR_0 (by omega) | exact volR_1 (by omega))
  · first
    | (exfalso; omega)
    | (refine W.skip ?_
       refine W.sreg ?_
       refine WO.loadA rfl rfl (Cells.own (Pick.tail (Pick.head))) rfl rfl (WO.p rfl rfl ?_)
       obtain ⟨hv, tv⟩ := TV.of (sp := sp) (st := st) (rows := rows) (ys := ys) (by omega)
       refine WO.callR rfl Try.call39 (fun L w hi => c_volume w sp st o o' rv rv' rows ys (hR.later hi) (hR'.later hi) hv tv) rfl ?_
       refine WO.storeA rfl rfl rfl rfl Pick.head rfl rfl (WO.p rfl rfl ?_)
       refine WO.nil ?_
       refine W.ret ?_
       refine fin.ret (Res.two rfl (RV.cell rfl rfl rfl (Cells.own Pick.head)) (RV.tmp rfl)) ?_
       first | exact volR_0 (by omega) | exact volR_1 (by omega))
theorem c_Value (w : World) (sp st : Int) (o o' : Value) (rv rv' : List Value) (rows : List (List (Int × Int))) (ys : List (List Int)) (what : Int) (hR : RdR encP 2 w.heap.size w o rv rows) (hR' : RdR encI 1 w.heap.size w o' rv' ys) :
    Ret Try.prog 16 [.agg #[.int .i64 sp, .int .i64 st, o], o', .int .i64 what].toArray w (valR sp st rows ys what) := by
  refine Ret.of mixed tyTab Try.func16 rfl rfl ?_
  replace hR : RdR encP 2 (fnCx mixed tyTab Try.f16.ntmps w).B (fnCx mixed tyTab Try.f16.ntmps w).w0 o rv rows := hR
  replace hR' : RdR encI 1 (fnCx mixed tyTab Try.f16.ntmps w).B (fnCx mixed tyTab Try.f16.ntmps w).w0 o' rv' ys := hR'
  refine W.sreg ?_
  refine WO.boxA rfl rfl (fun b1 hb1 => ?_)
  refine WO.alloc rfl rfl rfl (fun b2 hb2 => ?_)
  refine WO.p rfl rfl ?_
  refine WO.nil ?_
  refine W.seq ?_
  refine W.sreg ?_
  refine WO.loadA rfl rfl (Cells.own (Pick.tail (Pick.head))) rfl rfl (WO.p rfl rfl ?_)
  refine WO.callR (r := .int .i64 (chkTrue sp st rows ys)) rfl Try.call20 (fun L w hi => c_CheckTrue w sp st o o' rv rv' rows ys (hR.later hi) (hR'.later hi)) rfl ?_
  refine WO.p rfl rfl ?_
  refine WO.nil ?_
  refine W.sreg ?_
  refine WO.p rfl rfl (WO.p rfl rfl ?_)
  refine WO.nil ?_
  refine W.cond_bl rfl (fun c1 => ?_) (fun c1 => ?_)
  · first
    | (exfalso; omega)
    | (refine W.sreg ?_
       refine' WO.build (cs := _) rfl rfl rfl ?hf rfl ?_
       case hf => (conv => lhs; simp [-List.getD_eq_getElem?_getD, fillL, vcl, wrl, TTab.pl?.lget']) <;> rfl
       refine WO.p rfl rfl (WO.storeA rfl rfl rfl rfl Pick.head rfl rfl (WO.p rfl rfl ?_))
       refine WO.nil ?_
       refine W.ret ?_
       refine fin.ret (Res.two rfl (RV.cell rfl rfl rfl (Cells.own Pick.head)) (RV.tmp rfl)) ?_
       first | exact valR_1 (by assumption) | exact valR_p (by assumption) (by assumption) | exact valR_o (by assumption) (by assumption))
  · first
    | (exfalso; omega)
    | (refine W.skip ?_
       refine W.sreg ?_
       refine WO.loadA rfl rfl (Cells.own (Pick.tail (Pick.head))) rfl rfl (WO.p rfl rfl ?_)
       refine WO.call (Post := fun v Hq => ∃ pv, v = .tuple #[pv, .int .i64 (planE sp st rows what)] ∧ Hq = [PtrP pv (planE sp st rows what) (planCs sp st o what) 89]) rfl Try.call41 (fun L w hi => c_newPlan w sp st o rv rows what (hR.later hi)) rfl ?_
       rintro _ _ ⟨pv, rfl, rfl⟩
       refine WO.p rfl rfl (WO.p rfl rfl (WO.p rfl rfl (WO.p rfl rfl (WO.p rfl rfl ?_))))
       refine WO.nil ?_
       refine W.seq ?_
       refine W.sreg ?_
       refine WO.p rfl rfl (WO.p rfl rfl ?_)
       refine WO.nil ?_
       refine W.cond_bl rfl (fun c2 => ?_) (fun c2 => ?_)
       · first
         | (exfalso; omega)
         | (refine W.sreg ?_
            refine' WO.build (cs := _) rfl rfl rfl ?hf rfl ?_
            case hf => (conv => lhs; simp [-List.getD_eq_getElem?_getD, fillL, vcl, wrl, TTab.pl?.lget']) <;> rfl
            refine WO.p rfl rfl (WO.storeA rfl rfl rfl rfl (Pick.tail (Pick.head)) rfl rfl (WO.p rfl rfl ?_))
            refine WO.nil ?_
            refine W.ret ?_
            refine fin.ret (Res.two rfl (RV.cell rfl rfl rfl (Cells.own Pick.head)) (RV.tmp rfl)) ?_
            first | exact valR_1 (by assumption) | exact valR_p (by assumption) (by assumption) | exact valR_o (by assumption) (by assumption))
       · first
         | (exfalso; omega)
         | (refine W.skip ?_
            refine W.chgE (PtrP.open (by repeat (first | exact Pick.head | apply Pick.tail)) (Decidable.not_not.1 (by assumption))) ?_
            rintro pb rfl
            refine W.sreg ?_
            refine WO.p rfl rfl (WO.p rfl rfl ?_)
            obtain ⟨hv, tv⟩ := TV.of (sp := sp) (st := st) (rows := rows) (ys := ys) (by omega)
            have hpo := planE_ok (sp := sp) (st := st) (rows := rows) (what := what) (by omega)
            refine WO.callR rfl Try.call42 (fun L w hi => c_value w _ sp st what o o' rv rv' rows ys (RdC.own .head hi) (hR.later hi) (hR'.later hi) hv tv hpo.2) rfl ?_
            refine WO.storeA rfl rfl rfl rfl (Pick.tail (Pick.head)) rfl rfl (WO.p rfl rfl ?_)
            refine WO.nil ?_
            refine W.ret ?_
            refine fin.ret (Res.two rfl (RV.cell rfl rfl rfl (Cells.own Pick.head)) (RV.tmp rfl)) ?_
            first | exact valR_1 (by assumption) | exact valR_p (by assumption) (by assumption) | exact valR_o (by assumption) (by assumption)))
theorem ends_row (rows : List (List (Int × Int))) (high : Bool) (i : Nat) : (endsOf high rows).getD i [] = (rows.getD i []).map (pickE high) := by
  unfold endsOf
  simp only [List.getD_eq_getElem?_getD, List.getElem?_map]
  cases rows[i]? <;> rfl
theorem ends_y (rows : List (List (Int × Int))) (high : Bool) {i k : Nat} (hk : k < (rows.getD i []).length) : yy (endsOf high rows) i k = pickE high ((rows.getD i []).getD k (0, 0)) := by
  unfold yy; rw [ends_row]
  rw [List.getD_eq_getElem?_getD, List.getElem?_map, getD_some hk (0, 0)]; rfl
theorem ends_tv {sp st : Int} {rows : List (List (Int × Int))} (hv : HV sp st rows) (high : Bool) : TV rows (endsOf high rows) := by
  have hl : (endsOf high rows).length = rows.length := by simp [endsOf]
  refine ⟨hl, fun i _ => by rw [ends_row, List.length_map], fun i k hi hk => ?_⟩
  rw [ends_row, List.length_map] at hk
  rw [ends_y rows high hk]
  have := hv.ok i k (by omega) hk
  unfold pickE
  split <;> omega
theorem vols_o {sp st : Int} {rows : List (List (Int × Int))} (hv : HV sp st rows) : .tuple #[.agg (encP (volQ sp st (endsOf false rows)) ++ encP (volQ sp st (endsOf true rows))).toArray, .int .i64 0] = volsR sp st rows := by
  rw [← volsR_0 hv.to]
  unfold volV
  rw [if_pos (TV.to hv (ends_tv hv false)), if_pos (TV.to hv (ends_tv hv true))]
theorem c_Volumes (w : World) (sp st : Int) (o : Value) (rv : List Value) (rows : List (List (Int × Int))) (hR : RdR encP 2 w.heap.size w o rv rows) :
    Ret Try.prog 34 [.agg #[.int .i64 sp, .int .i64 st, o]].toArray w (volsR sp st rows) := by
  refine Ret.of mixed tyTab Try.func34 rfl rfl ?_
  replace hR : RdR encP 2 (fnCx mixed tyTab Try.f34.ntmps w).B (fnCx mixed tyTab Try.f34.ntmps w).w0 o rv rows := hR
  refine W.sreg ?_
  refine WO.boxA rfl rfl (fun b1 hb1 => ?_)
  refine WO.alloc rfl rfl rfl (fun b2 hb2 => ?_)
  refine WO.p rfl rfl ?_
  refine WO.nil ?_
  refine W.seq ?_
  refine W.sreg ?_
  refine WO.loadA rfl rfl (Cells.own (Pick.tail (Pick.head))) rfl rfl ?_
  refine WO.callR (r := .int .i64 (chkHull sp st rows)) rfl Try.call18 (fun L w hi => c_CheckHull w sp st o rv rows (hR.later hi)) rfl ?_
  refine WO.p rfl rfl ?_
  refine WO.nil ?_
  refine W.sreg ?_
  refine WO.p rfl rfl (WO.p rfl rfl ?_)
  refine WO.nil ?_
  refine W.cond_bl rfl (fun c1 => ?_) (fun c1 => ?_)
  · first
    | (exfalso; omega)
    | (refine W.sreg ?_
       refine' WO.build (cs := _) rfl rfl rfl ?hf rfl ?_
       case hf => (conv => lhs; simp [-List.getD_eq_getElem?_getD, fillL, vcl, wrl, TTab.pl?.lget']) <;> rfl
       refine WO.p rfl rfl (WO.storeA rfl rfl rfl rfl Pick.head rfl rfl (WO.p rfl rfl ?_))
       refine WO.nil ?_
       refine W.ret ?_
       refine fin.ret (Res.two rfl (RV.cell rfl rfl rfl (Cells.own Pick.head)) (RV.tmp rfl)) ?_
       first | exact volsR_1 (by omega) | exact vols_o hv)
  · first
    | (exfalso; omega)
    | (refine W.skip ?_
       refine W.sreg ?_
       refine WO.loadA rfl rfl (Cells.own (Pick.tail (Pick.head))) rfl rfl ?_
       have hv := HV.of (sp := sp) (st := st) (rows := rows) (by omega)
       have hs := hv.small
       refine WO.call (Post := fun v Hq => ∃ rv', Hq = [OwC 53 1 v rows.length rv', RowsE encI 2 1 rv' (endsOf false rows)]) rfl Try.call51 (fun L w hi => c_pick w sp st o rv rows _ false ch_52 (hR.later hi) hs.1 hs.2) rfl ?_
       rintro v1 _ ⟨rv1, rfl⟩
       refine WO.p rfl rfl ?_
       refine WO.nil ?_
       refine W.sreg ?_
       refine WO.loadA rfl rfl (Cells.own (Pick.tail (Pick.tail (Pick.tail (Pick.head))))) rfl rfl ?_
       refine WO.call (Post := fun v Hq => ∃ rv', Hq = [OwC 53 1 v rows.length rv', RowsE encI 2 1 rv' (endsOf true rows)]) rfl Try.call51 (fun L w hi => c_pick w sp st o rv rows _ true ch_53 (hR.later hi) hs.1 hs.2) rfl ?_
       rintro v2 _ ⟨rv2, rfl⟩
       refine WO.p rfl rfl ?_
       refine WO.nil ?_
       refine W.seq ?_
       refine W.drawD 5 [.b 0 [], .r 1 [], .b 2 [], .b 3 [], .r 4 []] [] (A0 := []) (Sub.refl _) (by kernel_rfl) ?_ ?_
       · exact (ALok.b (ALok.r (ALok.b (ALok.b (ALok.r ALok.nil)))))
       refine' DT.b rfl rfl rfl ?hq ?_
       case hq =>
         refine WO.loadA rfl rfl (Cells.own (Pick.tail (Pick.tail (Pick.tail (Pick.tail (Pick.tail (Pick.head))))))) rfl rfl ?_
         exact WO.nil ⟨rfl, rfl⟩
       refine' DT.r rfl rfl rfl ?hq ?_
       case hq =>
         refine WO.p rfl rfl ?_
         exact WO.nil ⟨rfl, rfl⟩
       refine' DT.b rfl rfl rfl ?hq ?_
       case hq =>
         refine WO.callR rfl Try.call39 (fun L w hi => c_volume w sp st o v1 rv rv1 rows (endsOf false rows) (hR.later hi) (RdR.of_ow encI_ok (by repeat (first | exact Pick.head | apply Pick.tail)) (by repeat (first | exact Pick.head | apply Pick.tail)) hi) hv (ends_tv hv false)) rfl ?_
         exact WO.nil ⟨rfl, rfl⟩
       refine' DT.b rfl rfl rfl ?hq ?_
       case hq =>
         refine WO.loadA rfl rfl (Cells.own (Pick.tail (Pick.tail (Pick.tail (Pick.tail (Pick.tail (Pick.head))))))) rfl rfl ?_
         exact WO.nil ⟨rfl, rfl⟩
       refine' DT.r rfl rfl rfl ?hq ?_
       case hq =>
         refine WO.p rfl rfl ?_
         exact WO.nil ⟨rfl, rfl⟩
       refine DT.nil [_, _, _, _, _, _] rfl ?_
       refine WO.callR rfl Try.call39 (fun L w hi => c_volume w sp st o v2 rv rv2 rows (endsOf true rows) (hR.later hi) (RdR.of_ow encI_ok (by repeat (first | exact Pick.head | apply Pick.tail)) (by repeat (first | exact Pick.head | apply Pick.tail)) hi) hv (ends_tv hv true)) rfl ?_
       refine' WO.build (cs := _) rfl rfl rfl ?hf rfl ?_
       case hf => (conv => lhs; simp [-List.getD_eq_getElem?_getD, fillL, vcl, wrl, TTab.pl?.lget']) <;> rfl
       refine WO.storeA rfl rfl rfl rfl (Pick.tail (Pick.tail (Pick.tail (Pick.tail (Pick.head))))) rfl rfl (WO.p rfl rfl ?_)
       refine WO.nil ?_
       refine W.ret ?_
       refine fin.ret (Res.two rfl (RV.cell rfl rfl rfl (Cells.own Pick.head)) (RV.tmp rfl)) ?_
       first | exact volsR_1 (by omega) | exact vols_o hv)
end Go.Proofs.Ytgihklgpehfbpaa
