/-
  What is proved here: the program's tests of hulls. Conditions: none; each contract states its own.
-/
import Derived.Test.YtgihklgpehfbpaaB13
import Derived.Test.YtgihklgpehfbpaaKo
namespace Go.Proofs.Ytgihklgpehfbpaa
open Go Go.TH
attribute [local irreducible] W WO pt
set_option maxRecDepth 10000
set_option maxHeartbeats 1000000
/-- the least, and the greatest, of some numbers -/
def minL : List Int → Int
  | [] => 0
  | x :: r => r.foldl min x
def maxL : List Int → Int
  | [] => 0
  | x :: r => r.foldl max x
theorem minL_succ {xs : List Int} {i : Nat} (h : i < xs.length) (h1 : 1 ≤ i) : minL (xs.take (i + 1)) = min (minL (xs.take i)) (xs.getD i 0) := by
  cases xs with
  | nil => simp at h
  | cons x r =>
    obtain ⟨j, rfl⟩ : ∃ j, i = j + 1 := ⟨i - 1, by omega⟩
    simp only [List.take_succ_cons, minL]
    rw [foldl_take _ (by simpa using h) 0]; simp
theorem maxL_succ {xs : List Int} {i : Nat} (h : i < xs.length) (h1 : 1 ≤ i) : maxL (xs.take (i + 1)) = max (maxL (xs.take i)) (xs.getD i 0) := by
  cases xs with
  | nil => simp at h
  | cons x r =>
    obtain ⟨j, rfl⟩ : ∃ j, i = j + 1 := ⟨i - 1, by omega⟩
    simp only [List.take_succ_cons, maxL]
    rw [foldl_take _ (by simpa using h) 0]; simp
theorem minL_one {xs : List Int} (h : 0 < xs.length) : minL (xs.take 1) = xs.getD 0 0 := by
  cases xs with
  | nil => simp at h
  | cons x r => simp [minL]
theorem maxL_one {xs : List Int} (h : 0 < xs.length) : maxL (xs.take 1) = xs.getD 0 0 := by
  cases xs with
  | nil => simp at h
  | cons x r => simp [maxL]
theorem c_Min (w : World) (o : Value) (xs : List Int) (hR : RdF encI 1 w.heap.size w o xs) (hn : 0 < xs.length) : Ret Try.prog 60 [o].toArray w (.int .i64 (minL xs)) := by
  refine Ret.of mixed tyTab Try.func60 rfl rfl ?_
  replace hR : RdF encI 1 (fnCx mixed tyTab Try.f60.ntmps w).B (fnCx mixed tyTab Try.f60.ntmps w).w0 o xs := hR
  have hle := hR.sl.le
  refine W.sreg ?_
  refine WO.p rfl rfl ?_
  refine WO.nil ?_
  refine W.seq ?_
  refine W.sreg ?_
  refine WO.p rfl rfl ?_
  refine' WO.len (n := _) rfl rfl ?hs rfl ?_
  case hs => (first | exact hR.sl)
  refine WO.p rfl rfl ?_
  refine WO.nil ?_
  refine W.cond_bl rfl (fun c1 => ?_) (fun c1 => ?_)
  · first
    | (exfalso; omega)
    | (refine W.region ?_
       omega
       omega
       refine WO.nil ?_
       refine W.sreg ?_
       refine WO.p rfl rfl ?_
       refine' WO.indexAddr (n := _) (i := 0) rfl rfl rfl ?hs ?h1 rfl ?_
       case hs => (first | exact hR.sl)
       case h1 => (first | omega | (simp; omega))
       refine' WO.load (v := _) rfl rfl ?hc rfl ?_
       case hc => (first | (refine hR.cell0 ?_ 0 ?_ <;> first | rfl | omega))
       refine WO.p rfl rfl ?_
       refine WO.nil ?_
       refine W.seq ?_
       refine W.sreg ?_
       refine WO.p rfl rfl ?_
       refine WO.nil ?_
       refine W.block ?_
       refine W.loop2 (fun (i : Nat) (m : Int) => 1 ≤ i ∧ i ≤ xs.length ∧ m = minL (xs.take i))
         (fun (i : Nat) (m : Int) => [(4, .int .i64 (i : Int)), (3, .int .i64 m), (0, o)])
         (fun (i : Nat) (m : Int) => [])
         (fun (i : Nat) (m : Int) => xs.length - i) 1 (xs.getD 0 0)
         (by exact ⟨by omega, by omega, (minL_one hn).symm⟩) ⟨rfl, rfl, rfl, trivial⟩ (by repeat (first | exact Sub.nil | refine Sub.cons (by repeat (first | exact Pick.head | apply Pick.tail)) ?_)) ?_
       rintro i m ⟨h1, hi, em⟩
       refine W.seq ?_
       refine W.sreg ?_
       refine WO.p rfl rfl (WO.p rfl rfl ?_)
       refine' WO.len (n := _) rfl rfl ?hs rfl ?_
       case hs => (first | exact hR.sl)
       refine WO.p rfl rfl ?_
       refine WO.nil ?_
       refine W.cond_bl rfl (fun c2 => ?_) (fun c2 => ?_)
       · first
         | (exfalso; omega)
         | (refine W.skip ?_
            refine W.seq ?_
            refine W.block ?_
            refine W.region ?_
            refine WO.p rfl rfl (WO.p rfl rfl (WO.p rfl rfl ?_))
            refine' WO.indexAddr (n := _) (i := _) rfl rfl rfl ?hs ?h1 rfl ?_
            case hs => (first | exact hR.sl)
            case h1 => (first | omega | (simp; omega))
            refine' WO.load (v := _) rfl rfl ?hc rfl ?_
            case hc => (first | (refine hR.cell0 ?_ 0 ?_ <;> first | rfl | omega))
            refine WO.min2 rfl rfl rfl ?_
            refine WO.p rfl rfl ?_
            refine WO.nil ?_
            refine W.region ?_
            refine WO.p rfl rfl (WO.ar rfl rfl rfl (by (first | (unfold in64; omega))) rfl (WO.p rfl rfl ?_))
            refine WO.nil ?_
            refine' ⟨i + 1, _, ?hp, ?hmu, ⟨rfl, rfl, rfl, trivial⟩, ?hS⟩
            case hS => repeat (first | exact Sub.nil | refine Sub.cons (by repeat (first | exact Pick.head | apply Pick.tail)) ?_)
            case hp => exact ⟨by omega, by omega, by rw [minL_succ (by omega) h1, em]⟩
            case hmu => omega)
       · first
         | (exfalso; omega)
         | (refine W.exit (blk_same ?_)
            refine W.sreg ?_
            refine WO.p rfl rfl (WO.p rfl rfl ?_)
            refine WO.nil ?_
            refine W.ret ?_
            obtain rfl : i = xs.length := by omega
            refine fin.ret (Res.one rfl (RV.tmp rfl)) ?_
            rw [em, List.take_length]))
  · first
    | (exfalso; omega)
    | (refine W.skip ?_
       refine W.sreg ?_
       refine WO.p rfl rfl ?_
       refine' WO.indexAddr (n := _) (i := 0) rfl rfl rfl ?hs ?h1 rfl ?_
       case hs => (first | exact hR.sl)
       case h1 => (first | omega | (simp; omega))
       refine' WO.load (v := _) rfl rfl ?hc rfl ?_
       case hc => (first | (refine hR.cell0 ?_ 0 ?_ <;> first | rfl | omega))
       refine WO.p rfl rfl ?_
       refine WO.nil ?_
       refine W.seq ?_
       refine W.sreg ?_
       refine WO.p rfl rfl ?_
       refine WO.nil ?_
       refine W.block ?_
       refine W.loop2 (fun (i : Nat) (m : Int) => 1 ≤ i ∧ i ≤ xs.length ∧ m = minL (xs.take i))
         (fun (i : Nat) (m : Int) => [(4, .int .i64 (i : Int)), (3, .int .i64 m), (0, o)])
         (fun (i : Nat) (m : Int) => [])
         (fun (i : Nat) (m : Int) => xs.length - i) 1 (xs.getD 0 0)
         (by exact ⟨by omega, by omega, (minL_one hn).symm⟩) ⟨rfl, rfl, rfl, trivial⟩ (by repeat (first | exact Sub.nil | refine Sub.cons (by repeat (first | exact Pick.head | apply Pick.tail)) ?_)) ?_
       rintro i m ⟨h1, hi, em⟩
       refine W.seq ?_
       refine W.sreg ?_
       refine WO.p rfl rfl (WO.p rfl rfl ?_)
       refine' WO.len (n := _) rfl rfl ?hs rfl ?_
       case hs => (first | exact hR.sl)
       refine WO.p rfl rfl ?_
       refine WO.nil ?_
       refine W.cond_bl rfl (fun c3 => ?_) (fun c3 => ?_)
       · first
         | (exfalso; omega)
         | (refine W.skip ?_
            refine W.seq ?_
            refine W.block ?_
            refine W.region ?_
            refine WO.p rfl rfl (WO.p rfl rfl (WO.p rfl rfl ?_))
            refine' WO.indexAddr (n := _) (i := _) rfl rfl rfl ?hs ?h1 rfl ?_
            case hs => (first | exact hR.sl)
            case h1 => (first | omega | (simp; omega))
            refine' WO.load (v := _) rfl rfl ?hc rfl ?_
            case hc => (first | (refine hR.cell0 ?_ 0 ?_ <;> first | rfl | omega))
            refine WO.min2 rfl rfl rfl ?_
            refine WO.p rfl rfl ?_
            refine WO.nil ?_
            refine W.region ?_
            refine WO.p rfl rfl (WO.ar rfl rfl rfl (by (first | (unfold in64; omega))) rfl (WO.p rfl rfl ?_))
            refine WO.nil ?_
            refine' ⟨i + 1, _, ?hp, ?hmu, ⟨rfl, rfl, rfl, trivial⟩, ?hS⟩
            case hS => repeat (first | exact Sub.nil | refine Sub.cons (by repeat (first | exact Pick.head | apply Pick.tail)) ?_)
            case hp => exact ⟨by omega, by omega, by rw [minL_succ (by omega) h1, em]⟩
            case hmu => omega)
       · first
         | (exfalso; omega)
         | (refine W.exit (blk_same ?_)
            refine W.sreg ?_
            refine WO.p rfl rfl (WO.p rfl rfl ?_)
            refine WO.nil ?_
            refine W.ret ?_
            obtain rfl : i = xs.length := by omega
            refine fin.ret (Res.one rfl (RV.tmp rfl)) ?_
            rw [em, List.take_length]))
theorem c_Max (w : World) (o : Value) (xs : List Int) (hR : RdF encI 1 w.heap.size w o xs) (hn : 0 < xs.length) : Ret Try.prog 61 [o].toArray w (.int .i64 (maxL xs)) := by
  refine Ret.of mixed tyTab Try.func61 rfl rfl ?_
  replace hR : RdF encI 1 (fnCx mixed tyTab Try.f61.ntmps w).B (fnCx mixed tyTab Try.f61.ntmps w).w0 o xs := hR
  have hle := hR.sl.le
  refine W.sreg ?_
  refine WO.p rfl rfl ?_
  refine WO.nil ?_
  refine W.seq ?_
  refine W.sreg ?_
  refine WO.p rfl rfl ?_
  refine' WO.len (n := _) rfl rfl ?hs rfl ?_
  case hs => (first | exact hR.sl)
  refine WO.p rfl rfl ?_
  refine WO.nil ?_
  refine W.cond_bl rfl (fun c1 => ?_) (fun c1 => ?_)
  · first
    | (exfalso; omega)
    | (refine W.region ?_
       omega
       omega
       refine WO.nil ?_
       refine W.sreg ?_
       refine WO.p rfl rfl ?_
       refine' WO.indexAddr (n := _) (i := 0) rfl rfl rfl ?hs ?h1 rfl ?_
       case hs => (first | exact hR.sl)
       case h1 => (first | omega | (simp; omega))
       refine' WO.load (v := _) rfl rfl ?hc rfl ?_
       case hc => (first | (refine hR.cell0 ?_ 0 ?_ <;> first | rfl | omega))
       refine WO.p rfl rfl ?_
       refine WO.nil ?_
       refine W.seq ?_
       refine W.sreg ?_
       refine WO.p rfl rfl ?_
       refine WO.nil ?_
       refine W.block ?_
       refine W.loop2 (fun (i : Nat) (m : Int) => 1 ≤ i ∧ i ≤ xs.length ∧ m = maxL (xs.take i))
         (fun (i : Nat) (m : Int) => [(4, .int .i64 (i : Int)), (3, .int .i64 m), (0, o)])
         (fun (i : Nat) (m : Int) => [])
         (fun (i : Nat) (m : Int) => xs.length - i) 1 (xs.getD 0 0)
         (by exact ⟨by omega, by omega, (maxL_one hn).symm⟩) ⟨rfl, rfl, rfl, trivial⟩ (by repeat (first | exact Sub.nil | refine Sub.cons (by repeat (first | exact Pick.head | apply Pick.tail)) ?_)) ?_
       rintro i m ⟨h1, hi, em⟩
       refine W.seq ?_
       refine W.sreg ?_
       refine WO.p rfl rfl (WO.p rfl rfl ?_)
       refine' WO.len (n := _) rfl rfl ?hs rfl ?_
       case hs => (first | exact hR.sl)
       refine WO.p rfl rfl ?_
       refine WO.nil ?_
       refine W.cond_bl rfl (fun c2 => ?_) (fun c2 => ?_)
       · first
         | (exfalso; omega)
         | (refine W.skip ?_
            refine W.seq ?_
            refine W.block ?_
            refine W.region ?_
            refine WO.p rfl rfl (WO.p rfl rfl (WO.p rfl rfl ?_))
            refine' WO.indexAddr (n := _) (i := _) rfl rfl rfl ?hs ?h1 rfl ?_
            case hs => (first | exact hR.sl)
            case h1 => (first | omega | (simp; omega))
            refine' WO.load (v := _) rfl rfl ?hc rfl ?_
            case hc => (first | (refine hR.cell0 ?_ 0 ?_ <;> first | rfl | omega))
            refine WO.max2 rfl rfl rfl ?_
            refine WO.p rfl rfl ?_
            refine WO.nil ?_
            refine W.region ?_
            refine WO.p rfl rfl (WO.ar rfl rfl rfl (by (first | (unfold in64; omega))) rfl (WO.p rfl rfl ?_))
            refine WO.nil ?_
            refine' ⟨i + 1, _, ?hp, ?hmu, ⟨rfl, rfl, rfl, trivial⟩, ?hS⟩
            case hS => repeat (first | exact Sub.nil | refine Sub.cons (by repeat (first | exact Pick.head | apply Pick.tail)) ?_)
            case hp => exact ⟨by omega, by omega, by rw [maxL_succ (by omega) h1, em]⟩
            case hmu => omega)
       · first
         | (exfalso; omega)
         | (refine W.exit (blk_same ?_)
            refine W.sreg ?_
            refine WO.p rfl rfl (WO.p rfl rfl ?_)
            refine WO.nil ?_
            refine W.ret ?_
            obtain rfl : i = xs.length := by omega
            refine fin.ret (Res.one rfl (RV.tmp rfl)) ?_
            rw [em, List.take_length]))
  · first
    | (exfalso; omega)
    | (refine W.skip ?_
       refine W.sreg ?_
       refine WO.p rfl rfl ?_
       refine' WO.indexAddr (n := _) (i := 0) rfl rfl rfl ?hs ?h1 rfl ?_
       case hs => (first | exact hR.sl)
       case h1 => (first | omega | (simp; omega))
       refine' WO.load (v := _) rfl rfl ?hc rfl ?_
       case hc => (first | (refine hR.cell0 ?_ 0 ?_ <;> first | rfl | omega))
       refine WO.p rfl rfl ?_
       refine WO.nil ?_
       refine W.seq ?_
       refine W.sreg ?_
       refine WO.p rfl rfl ?_
       refine WO.nil ?_
       refine W.block ?_
       refine W.loop2 (fun (i : Nat) (m : Int) => 1 ≤ i ∧ i ≤ xs.length ∧ m = maxL (xs.take i))
         (fun (i : Nat) (m : Int) => [(4, .int .i64 (i : Int)), (3, .int .i64 m), (0, o)])
         (fun (i : Nat) (m : Int) => [])
         (fun (i : Nat) (m : Int) => xs.length - i) 1 (xs.getD 0 0)
         (by exact ⟨by omega, by omega, (maxL_one hn).symm⟩) ⟨rfl, rfl, rfl, trivial⟩ (by repeat (first | exact Sub.nil | refine Sub.cons (by repeat (first | exact Pick.head | apply Pick.tail)) ?_)) ?_
       rintro i m ⟨h1, hi, em⟩
       refine W.seq ?_
       refine W.sreg ?_
       refine WO.p rfl rfl (WO.p rfl rfl ?_)
       refine' WO.len (n := _) rfl rfl ?hs rfl ?_
       case hs => (first | exact hR.sl)
       refine WO.p rfl rfl ?_
       refine WO.nil ?_
       refine W.cond_bl rfl (fun c3 => ?_) (fun c3 => ?_)
       · first
         | (exfalso; omega)
         | (refine W.skip ?_
            refine W.seq ?_
            refine W.block ?_
            refine W.region ?_
            refine WO.p rfl rfl (WO.p rfl rfl (WO.p rfl rfl ?_))
            refine' WO.indexAddr (n := _) (i := _) rfl rfl rfl ?hs ?h1 rfl ?_
            case hs => (first | exact hR.sl)
            case h1 => (first | omega | (simp; omega))
            refine' WO.load (v := _) rfl rfl ?hc rfl ?_
            case hc => (first | (refine hR.cell0 ?_ 0 ?_ <;> first | rfl | omega))
            refine WO.max2 rfl rfl rfl ?_
            refine WO.p rfl rfl ?_
            refine WO.nil ?_
            refine W.region ?_
            refine WO.p rfl rfl (WO.ar rfl rfl rfl (by (first | (unfold in64; omega))) rfl (WO.p rfl rfl ?_))
            refine WO.nil ?_
            refine' ⟨i + 1, _, ?hp, ?hmu, ⟨rfl, rfl, rfl, trivial⟩, ?hS⟩
            case hS => repeat (first | exact Sub.nil | refine Sub.cons (by repeat (first | exact Pick.head | apply Pick.tail)) ?_)
            case hp => exact ⟨by omega, by omega, by rw [maxL_succ (by omega) h1, em]⟩
            case hmu => omega)
       · first
         | (exfalso; omega)
         | (refine W.exit (blk_same ?_)
            refine W.sreg ?_
            refine WO.p rfl rfl (WO.p rfl rfl ?_)
            refine WO.nil ?_
            refine W.ret ?_
            obtain rfl : i = xs.length := by omega
            refine fin.ret (Res.one rfl (RV.tmp rfl)) ?_
            rw [em, List.take_length]))
/-- are all from one to another one? -/
def btw (lo hi : Int) (xs : List Int) : Bool := bl (lo ≤ minL xs) && bl (maxL xs ≤ hi)
theorem c_between (w : World) (lo hi : Int) (o : Value) (xs : List Int) (hR : RdF encI 1 w.heap.size w o xs) (hn : 0 < xs.length) : Ret Try.prog 46 [.int .i64 lo, .int .i64 hi, o].toArray w (.bool (btw lo hi xs)) := by
  refine Ret.of mixed tyTab Try.func46 rfl rfl ?_
  replace hR : RdF encI 1 (fnCx mixed tyTab Try.f46.ntmps w).B (fnCx mixed tyTab Try.f46.ntmps w).w0 o xs := hR
  refine W.sreg ?_
  refine WO.p rfl rfl ?_
  refine WO.nil ?_
  refine W.sreg ?_
  refine WO.p rfl rfl ?_
  refine WO.callR rfl Try.call60 (fun L w hi => c_Min w o xs (hR.later hi) hn) rfl ?_
  refine WO.p rfl rfl (WO.p rfl rfl (WO.p rfl rfl ?_))
  refine WO.guard_bl rfl rfl (fun c1 => ?_) (fun c1 => ?_)
  · first
    | (exfalso; omega)
    | (refine WO.pg rfl rfl rfl (WO.go' rfl ?_)
       refine WO.callR rfl Try.call61 (fun L w hi => c_Max w o xs (hR.later hi) hn) rfl ?_
       refine WO.pg rfl rfl rfl (WO.pg rfl rfl rfl (WO.p rfl rfl (WO.p rfl rfl ?_)))
       refine WO.nil ?_
       refine W.ret ?_
       refine fin.ret (Res.one rfl (RV.tmp rfl)) ?_
       refine congrArg Value.bool ?_
       first | (simp_all [btw, bl_eq]; done) | (simp_all [btw, bl_eq]; omega))
  · first
    | (exfalso; omega)
    | (refine WO.no rfl rfl (WO.no rfl rfl (WO.no rfl rfl (WO.no rfl rfl (WO.p rfl rfl (WO.p rfl rfl ?_)))))
       refine WO.nil ?_
       refine W.ret ?_
       refine fin.ret (Res.one rfl (RV.tmp rfl)) ?_
       refine congrArg Value.bool ?_
       first | (simp_all [btw, bl_eq]; done) | (simp_all [btw, bl_eq]; omega))
theorem btw1 (lo hi x : Int) : btw lo hi [x] = bl (lo ≤ x ∧ x ≤ hi) := by
  unfold btw; rw [bl_eq, bl_eq, bl_eq]
  show (decide (lo ≤ x) && decide (x ≤ hi)) = _
  simp
theorem btw2 (lo hi x y : Int) : btw lo hi [x, y] = bl (lo ≤ x ∧ x ≤ hi ∧ lo ≤ y ∧ y ≤ hi) := by
  unfold btw; rw [bl_eq, bl_eq, bl_eq]
  show (decide (lo ≤ min x y) && decide (max x y ≤ hi)) = _
  rw [← Bool.decide_and, decide_eq_decide]
  omega
theorem c_hull1 (w : World) (o : Value) (xs : List (Int × Int)) (p : Addr) (m : Int) (hR : RdF encP 2 w.heap.size w o xs) (hc : Cap w p (.int .i64 m)) : Ret Try.prog 45 [o, .pointer (some p)].toArray w (.bool (bl ((xs.length : Int) ≠ m))) := by
  refine Ret.of mixed tyTab Try.func45 rfl rfl ?_
  replace hR : RdF encP 2 (fnCx mixed tyTab Try.f45.ntmps w).B (fnCx mixed tyTab Try.f45.ntmps w).w0 o xs := hR
  replace hc : Cap (fnCx mixed tyTab Try.f45.ntmps w).w0 p (.int .i64 m) := hc
  refine W.sreg ?_
  refine WO.p rfl rfl ?_
  refine WO.nil ?_
  refine W.sreg ?_
  refine WO.p rfl rfl ?_
  refine' WO.len (n := _) rfl rfl ?hs rfl ?_
  case hs => (first | exact hR.sl)
  refine' WO.load (v := _) rfl rfl ?hc rfl ?_
  case hc => (first | (refine Cap.cell (v := .int .i64 m) rfl hc))
  refine WO.p rfl rfl (WO.p rfl rfl ?_)
  refine WO.nil ?_
  refine W.ret ?_
  exact fin.ret (Res.one rfl (RV.tmp rfl)) rfl
theorem row_later {α : Type} {P : Program} {C : Cx P} {H L : List HP} {enc : α → List Value} {sz : Nat} {v : Value} {rv : List Value} {xss : List (List α)} {w : World} (h : RdR enc sz C.B C.w0 v rv xss) (hi : Inv C.w0 C.M (L ++ H) w) (i : Nat) (h1 : i < xss.length) : RdF enc sz w.heap.size w (rv.getD i undef) (xss.getD i []) := (h.row i h1).later hi
theorem c_IndexFunc (w : World) (o : Value) (rv : List Value) (rows : List (List (Int × Int))) (p : Addr) (m : Int) (hR : RdR encP 2 w.heap.size w o rv rows) (hc : Cap w p (.int .i64 m)) : RetE Try.prog 59 [o, .func (.func 45) #[] #[.pointer (some p)]].toArray w (fun v => ∃ n : Int, v = .int .i64 n ∧ (0 ≤ n ↔ ¬ ∀ r ∈ rows, (r.length : Int) = m)) := by
  refine RetE.of mixed tyTab Try.func59 rfl rfl ?_
  replace hR : RdR encP 2 (fnCx mixed tyTab Try.f59.ntmps w).B (fnCx mixed tyTab Try.f59.ntmps w).w0 o rv rows := hR
  replace hc : Cap (fnCx mixed tyTab Try.f59.ntmps w).w0 p (.int .i64 m) := hc
  have hle := hR.sl.le
  refine W.sreg ?_
  refine WO.p rfl rfl ?_
  refine WO.nil ?_
  refine W.seq ?_
  refine W.sreg ?_
  refine WO.p rfl rfl ?_
  refine' WO.len (n := _) rfl rfl ?hs rfl ?_
  case hs => (first | exact hR.sl)
  refine WO.p rfl rfl ?_
  refine WO.nil ?_
  refine W.block ?_
  refine W.loop (fun (i : Nat) => i ≤ rows.length ∧ ∀ r ∈ rows.take i, (r.length : Int) = m)
    (fun (i : Nat) => [(8, .int .i64 (i : Int)), (7, .int .i64 (rows.length : Int)), (0, o), (1, .func (.func 45) #[] #[.pointer (some p)])])
    (fun (i : Nat) => [])
    (fun (i : Nat) => rows.length - i) 0
    (by exact ⟨by omega, by simp⟩) ⟨rfl, rfl, rfl, rfl, trivial⟩ (by repeat (first | exact Sub.nil | refine Sub.cons (by repeat (first | exact Pick.head | apply Pick.tail)) ?_)) ?_
  rintro i ⟨hi, hal⟩
  refine W.sreg ?_
  refine WO.p rfl rfl ?_
  refine WO.nil ?_
  refine W.seq ?_
  refine W.cond_bl rfl (fun c1 => ?_) (fun c1 => ?_)
  · first
    | (exfalso; omega)
    | (refine W.skip ?_
       refine W.seq ?_
       refine W.block ?_
       refine W.sreg ?_
       refine WO.p rfl rfl (WO.p rfl rfl ?_)
       refine WO.nil ?_
       refine W.sreg ?_
       refine WO.p rfl rfl (WO.p rfl rfl (WO.p rfl rfl ?_))
       refine' WO.indexAddr (n := _) (i := _) rfl rfl rfl ?hs ?h1 rfl ?_
       case hs => (first | exact hR.sl)
       case h1 => (first | omega | (simp; omega))
       refine' WO.load (v := _) rfl rfl ?hc rfl ?_
       case hc => (first | (refine hR.cellV ?_; omega))
       refine WO.callCR (first := []) (captured := [.pointer (some p)]) rfl rfl Try.call45 (fun L w hi => c_hull1 w _ _ p m (row_later hR hi i (by omega)) (hc.old rfl hi)) rfl ?_
       refine WO.nil ?_
       refine W.cond_bl rfl (fun c2 => ?_) (fun c2 => ?_)
       · first
         | (exfalso; omega)
         | (refine W.sreg ?_
            refine WO.p rfl rfl (WO.p rfl rfl ?_)
            refine WO.nil ?_
            refine W.ret ?_
            exact fin.ret (Res.one rfl (RV.tmp rfl)) ⟨_, rfl, by first | exact ⟨fun h => by omega, fun h => absurd (all_len (by omega) hal) h⟩ | exact ⟨fun _ => not_all_getD (i := i) (by omega) [] (fun h => by simp_all), fun _ => by omega⟩⟩)
       · first
         | (exfalso; omega)
         | (refine W.skip ?_
            refine W.region ?_
            refine WO.ar rfl rfl rfl (by (first | (unfold in64; omega))) rfl (WO.p rfl rfl ?_)
            refine WO.nil ?_
            refine' ⟨i + 1, ?hp, ?hmu, ⟨rfl, rfl, rfl, rfl, trivial⟩, ?hS⟩
            case hS => repeat (first | exact Sub.nil | refine Sub.cons (by repeat (first | exact Pick.head | apply Pick.tail)) ?_)
            case hp => exact ⟨by omega, all_succ (by omega) [] hal (by simp_all)⟩
            case hmu => omega))
  · first
    | (exfalso; omega)
    | (refine W.exit (blk_same ?_)
       refine W.sreg ?_
       refine WO.p rfl rfl ?_
       refine WO.nil ?_
       refine W.ret ?_
       exact fin.ret (Res.one rfl (RV.tmp rfl)) ⟨_, rfl, by first | exact ⟨fun h => by omega, fun h => absurd (all_len (by omega) hal) h⟩ | exact ⟨fun _ => not_all_getD (i := i) (by omega) [] (fun h => by simp_all), fun _ => by omega⟩⟩)
theorem c_ContainsFunc (w : World) (o : Value) (rv : List Value) (rows : List (List (Int × Int))) (p : Addr) (m : Int) (hR : RdR encP 2 w.heap.size w o rv rows) (hc : Cap w p (.int .i64 m)) : Ret Try.prog 44 [o, .func (.func 45) #[] #[.pointer (some p)]].toArray w (.bool (bl (¬ ∀ r ∈ rows, (r.length : Int) = m))) := by
  refine Ret.of mixed tyTab Try.func44 rfl rfl ?_
  replace hR : RdR encP 2 (fnCx mixed tyTab Try.f44.ntmps w).B (fnCx mixed tyTab Try.f44.ntmps w).w0 o rv rows := hR
  replace hc : Cap (fnCx mixed tyTab Try.f44.ntmps w).w0 p (.int .i64 m) := hc
  refine W.sreg ?_
  refine WO.p rfl rfl ?_
  refine WO.nil ?_
  refine W.sreg ?_
  refine WO.p rfl rfl (WO.p rfl rfl ?_)
  refine WO.callE rfl Try.call59 (fun L w hi => c_IndexFunc w o rv rows p m (hR.later hi) (hc.old rfl hi)) rfl ?_
  rintro _ ⟨n, rfl, hn⟩
  refine WO.p rfl rfl (WO.p rfl rfl ?_)
  refine WO.nil ?_
  refine W.ret ?_
  refine fin.ret (Res.one rfl (RV.tmp rfl)) ?_
  refine congrArg Value.bool ?_
  rw [bl_eq, bl_eq]; exact decide_eq_decide.2 hn
end Go.Proofs.Ytgihklgpehfbpaa

