/-
  What is proved here: the laws' own functions on tides and grounds. Conditions: none; each contract states its own.
  What is proved here: which tides cancel (no program in sight). Conditions: none; each theorem states its own.
  What is proved here: true speeds, and what a trial of known speeds keeps. Conditions: none; each contract states its own.
  What is proved here: the law TrialCancels, as a contract. Conditions: none.
  What is proved here: the law TrialFooled, as a contract. Conditions: none.
-/
import Derived.Test.YtkiaepcklbidgaaM6
import Derived.Test.YtkiaepcklbidgaaM5
namespace Go.Proofs.Ytkiaepcklbidgaa
open Go Go.TH
attribute [local irreducible] W WO pt
set_option maxRecDepth 10000
set_option maxHeartbeats 1000000
theorem law_tidal (w : World) (v : Value) (xs : List Int) (hX : RdF encI 1 w.heap.size w v xs) : Ret Try.prog 35 [v].toArray w (.bool (bl (xs.length ≤ 5 ∧ allIn xs))) := by
  refine Ret.of mixed tyTab Try.func35 rfl rfl ?_
  replace hX : RdF encI 1 (fnCx mixed tyTab Try.f35.ntmps w).B (fnCx mixed tyTab Try.f35.ntmps w).w0 v xs := hX
  have hle := hX.sl.le
  refine W.sreg ?_
  refine WO.p rfl rfl ?_
  refine WO.nil ?_
  refine W.seq ?_
  refine W.sreg ?_
  refine WO.p rfl rfl ?_
  refine WO.nil ?_
  refine W.block ?_
  refine W.loop (fun (i : Nat) => i ≤ xs.length ∧ ∀ x ∈ xs.take i, -20 ≤ x ∧ x ≤ 20)
    (fun (i : Nat) => [(3, .int .i64 (i : Int)), (0, v)])
    (fun (i : Nat) => [])
    (fun (i : Nat) => xs.length - i) 0
    (by exact ⟨by omega, fun x hx => by simp at hx⟩) ⟨rfl, rfl, trivial⟩ (by repeat (first | exact Sub.nil | refine Sub.cons (by repeat (first | exact Pick.head | apply Pick.tail)) ?_)) ?_
  rintro i ⟨hi, hin⟩
  refine W.seq ?_
  refine W.sreg ?_
  refine WO.p rfl rfl (WO.p rfl rfl ?_)
  refine' WO.len (n := _) rfl rfl ?hs rfl ?_
  case hs => (first | exact hX.sl)
  refine WO.p rfl rfl ?_
  refine WO.nil ?_
  refine W.cond_bl rfl (fun c1 => ?_) (fun c1 => ?_)
  · first
    | (exfalso; omega)
    | (refine W.skip ?_
       refine W.seq ?_
       refine W.block ?_
       refine W.sreg ?_
       refine WO.p rfl rfl (WO.p rfl rfl ?_)
       refine' WO.indexAddr (n := _) (i := _) rfl rfl rfl ?hs ?h1 rfl ?_
       case hs => (first | exact hX.sl)
       case h1 => (first | omega | (simp; omega))
       refine' WO.load (v := _) rfl rfl ?hc rfl ?_
       case hc => (first | (refine hX.cell0 ?_ 0 ?_ <;> first | rfl | omega))
       refine WO.p rfl rfl (WO.p rfl rfl ?_)
       refine WO.guard_bl rfl rfl (fun c2 => ?_) (fun c2 => ?_)
       · first
         | (exfalso; omega)
         | (refine WO.no rfl rfl (WO.no rfl rfl (WO.no rfl rfl (WO.no rfl rfl (WO.no rfl rfl (WO.p rfl rfl ?_)))))
            refine WO.nil ?_
            refine W.cond_t rfl ?_
            refine W.sreg ?_
            refine WO.p rfl rfl ?_
            refine WO.nil ?_
            refine W.ret ?_
            refine fin.ret (Res.one rfl (RV.tmp rfl)) (congrArg Value.bool ?_)
            first | exact (bl_f.2 (fun h => absurd (h.2 _ (getD_mem (l := xs) (i := i) (by omega) 0)) (by omega))).symm | (rw [bl_eq, bl_eq, decide_eq_decide]; exact ⟨fun h => ⟨by omega, fun x hx => by rw [show i = xs.length by omega, List.take_length] at hin; exact hin x hx⟩, fun h => by have := h.1; omega⟩))
       · first
         | (exfalso; omega)
         | (refine WO.pg rfl rfl rfl (WO.pg rfl rfl rfl (WO.go' rfl ?_))
            refine' WO.indexAddr (n := _) (i := _) rfl rfl rfl ?hs ?h1 rfl ?_
            case hs => (first | exact hX.sl)
            case h1 => (first | omega | (simp; omega))
            refine WO.go' rfl ?_
            refine' WO.load (v := _) rfl rfl ?hc rfl ?_
            case hc => (first | (refine hX.cell0 ?_ 0 ?_ <;> first | rfl | omega))
            refine WO.pg rfl rfl rfl (WO.p rfl rfl ?_)
            refine WO.nil ?_
            refine W.cond_bl rfl (fun c3 => ?_) (fun c3 => ?_)
            · first
              | (exfalso; omega)
              | (refine W.sreg ?_
                 refine WO.p rfl rfl ?_
                 refine WO.nil ?_
                 refine W.ret ?_
                 refine fin.ret (Res.one rfl (RV.tmp rfl)) (congrArg Value.bool ?_)
                 first | exact (bl_f.2 (fun h => absurd (h.2 _ (getD_mem (l := xs) (i := i) (by omega) 0)) (by omega))).symm | (rw [bl_eq, bl_eq, decide_eq_decide]; exact ⟨fun h => ⟨by omega, fun x hx => by rw [show i = xs.length by omega, List.take_length] at hin; exact hin x hx⟩, fun h => by have := h.1; omega⟩))
            · first
              | (exfalso; omega)
              | (refine W.skip ?_
                 refine W.region ?_
                 refine WO.p rfl rfl (WO.ar rfl rfl rfl (by (first | (unfold in64; omega) | (unfold in64; omega))) rfl (WO.p rfl rfl ?_))
                 refine WO.nil ?_
                 refine' ⟨i + 1, ?hp, ?hmu, ⟨rfl, rfl, trivial⟩, ?hS⟩
                 case hS => repeat (first | exact Sub.nil | refine Sub.cons (by repeat (first | exact Pick.head | apply Pick.tail)) ?_)
                 case hp => exact ⟨by omega, all_succ (by omega) 0 hin (by omega)⟩
                 case hmu => omega)))
  · first
    | (exfalso; omega)
    | (refine W.exit (blk_same ?_)
       refine W.sreg ?_
       refine WO.p rfl rfl ?_
       refine' WO.len (n := _) rfl rfl ?hs rfl ?_
       case hs => (first | exact hX.sl)
       refine WO.p rfl rfl (WO.p rfl rfl ?_)
       refine WO.nil ?_
       refine W.ret ?_
       refine fin.ret (Res.one rfl (RV.tmp rfl)) (congrArg Value.bool ?_)
       first | exact (bl_f.2 (fun h => absurd (h.2 _ (getD_mem (l := xs) (i := i) (by omega) 0)) (by omega))).symm | (rw [bl_eq, bl_eq, decide_eq_decide]; exact ⟨fun h => ⟨by omega, fun x hx => by rw [show i = xs.length by omega, List.take_length] at hin; exact hin x hx⟩, fun h => by have := h.1; omega⟩))
/-- the degree of a tide, of its first numbers -/
def dgTo (xs : List Int) : Nat → Int
  | 0 => -1
  | i + 1 => if xs.getD i 0 ≠ 0 then (i : Int) else dgTo xs i
theorem dgTo_in (xs : List Int) : ∀ i, -1 ≤ dgTo xs i ∧ dgTo xs i < i ∨ i = 0 ∧ dgTo xs i = -1
  | 0 => .inr ⟨rfl, rfl⟩
  | i + 1 => by
    left
    have := dgTo_in xs i
    unfold dgTo
    split
    · omega
    · omega
theorem dgTo_zero (xs : List Int) : ∀ (i k : Nat), k < i → dgTo xs i < (k : Int) → xs.getD k 0 = 0
  | 0, k, h, _ => by omega
  | i + 1, k, h, h2 => by
    unfold dgTo at h2
    split at h2
    · omega
    · rename_i h3
      by_cases e : k = i
      · subst e; exact Decidable.not_not.1 h3
      · exact dgTo_zero xs i k (by omega) h2
theorem ref_Degree (w : World) (v : Value) (xs : List Int) (hX : RdF encI 1 w.heap.size w v xs) : Ret Try.prog 36 [v].toArray w (.int .i64 (dgTo xs xs.length)) := by
  refine Ret.of mixed tyTab Try.func36 rfl rfl ?_
  replace hX : RdF encI 1 (fnCx mixed tyTab Try.f36.ntmps w).B (fnCx mixed tyTab Try.f36.ntmps w).w0 v xs := hX
  have hle := hX.sl.le
  refine W.sreg ?_
  refine WO.p rfl rfl ?_
  refine WO.nil ?_
  refine W.sreg ?_
  refine WO.p rfl rfl ?_
  refine WO.nil ?_
  refine W.seq ?_
  refine W.sreg ?_
  refine WO.p rfl rfl ?_
  refine WO.nil ?_
  refine W.block ?_
  refine W.loop2 (fun (i : Nat) (d : Int) => i ≤ xs.length ∧ d = dgTo xs i)
    (fun (i : Nat) (d : Int) => [(4, .int .i64 (i : Int)), (3, .int .i64 d), (0, v)])
    (fun (i : Nat) (d : Int) => [])
    (fun (i : Nat) (d : Int) => xs.length - i) 0 (-1)
    (by exact ⟨by omega, rfl⟩) ⟨rfl, rfl, rfl, trivial⟩ (by repeat (first | exact Sub.nil | refine Sub.cons (by repeat (first | exact Pick.head | apply Pick.tail)) ?_)) ?_
  rintro i d ⟨hi, hd⟩
  refine W.seq ?_
  refine W.sreg ?_
  refine WO.p rfl rfl (WO.p rfl rfl ?_)
  refine' WO.len (n := _) rfl rfl ?hs rfl ?_
  case hs => (first | exact hX.sl)
  refine WO.p rfl rfl ?_
  refine WO.nil ?_
  refine W.cond_bl rfl (fun c1 => ?_) (fun c1 => ?_)
  · first
    | (exfalso; omega)
    | (refine W.skip ?_
       refine W.seq ?_
       refine W.block ?_
       refine W.sreg ?_
       refine WO.p rfl rfl (WO.p rfl rfl ?_)
       refine' WO.indexAddr (n := _) (i := _) rfl rfl rfl ?hs ?h1 rfl ?_
       case hs => (first | exact hX.sl)
       case h1 => (first | omega | (simp; omega))
       refine' WO.load (v := _) rfl rfl ?hc rfl ?_
       case hc => (first | (refine hX.cell0 ?_ 0 ?_ <;> first | rfl | omega))
       refine WO.p rfl rfl ?_
       refine WO.nil ?_
       refine W.cond_bl rfl (fun c2 => ?_) (fun c2 => ?_)
       · first
         | (exfalso; omega)
         | (refine W.region ?_
            refine WO.p rfl rfl (WO.p rfl rfl ?_)
            refine WO.nil ?_
            refine W.region ?_
            refine WO.p rfl rfl (WO.ar rfl rfl rfl (by (first | (unfold in64; omega) | (unfold in64; omega))) rfl (WO.p rfl rfl ?_))
            refine WO.nil ?_
            refine' ⟨i + 1, _, ?hp, ?hmu, ⟨rfl, rfl, rfl, trivial⟩, ?hS⟩
            case hS => repeat (first | exact Sub.nil | refine Sub.cons (by repeat (first | exact Pick.head | apply Pick.tail)) ?_)
            case hp => refine ⟨by omega, ?_⟩; unfold dgTo; first | (rw [if_pos (by assumption)]; done) | rw [if_neg (by assumption), hd]
            case hmu => omega)
       · first
         | (exfalso; omega)
         | (refine W.skip ?_
            refine W.region ?_
            refine WO.p rfl rfl (WO.ar rfl rfl rfl (by (first | (unfold in64; omega) | (unfold in64; omega))) rfl (WO.p rfl rfl ?_))
            refine WO.nil ?_
            refine' ⟨i + 1, _, ?hp, ?hmu, ⟨rfl, rfl, rfl, trivial⟩, ?hS⟩
            case hS => repeat (first | exact Sub.nil | refine Sub.cons (by repeat (first | exact Pick.head | apply Pick.tail)) ?_)
            case hp => refine ⟨by omega, ?_⟩; unfold dgTo; first | (rw [if_pos (by assumption)]; done) | rw [if_neg (by assumption), hd]
            case hmu => omega))
  · first
    | (exfalso; omega)
    | (refine W.exit (blk_same ?_)
       refine W.sreg ?_
       refine WO.p rfl rfl (WO.p rfl rfl ?_)
       refine WO.nil ?_
       refine W.ret ?_
       obtain rfl : i = xs.length := by omega
       exact fin.ret (Res.one rfl (RV.tmp rfl)) (congrArg (Value.int .i64) hd))
/-- a trial whose Grounds are just some numbers -/
def withR (rs : List (Int × Int × Int)) (xs : List Int) (i : Nat) : Int × Int × Int := (tm rs i, xs.getD i 0, xs.getD i 0)
def withL (rs : List (Int × Int × Int)) (xs : List Int) : List (Int × Int × Int) := (List.range xs.length).map (withR rs xs)
theorem rangeA_getD {α : Type} {f : Nat → α} {n i : Nat} (z : α) (h : i < n) : ((List.range n).map f).getD i z = f i := by
  rw [List.getD_eq_getElem?_getD, List.getElem?_map, List.getElem?_range h]; rfl
theorem rangeA_take {α : Type} {f : Nat → α} {n i : Nat} (z : α) (h : i < n) : ((List.range n).map f).take i ++ [f i] = ((List.range n).map f).take (i + 1) := by
  rw [take_succ_getD (by simpa using h) z, rangeA_getD z h]
theorem withL_len (rs : List (Int × Int × Int)) (xs : List Int) : (withL rs xs).length = xs.length := by unfold withL; simp
theorem withL_at {rs : List (Int × Int × Int)} {xs : List Int} {i : Nat} (h : i < xs.length) : (withL rs xs).getD i r0 = withR rs xs i := rangeA_getD r0 h
def sp20 (xs : List Int) : Prop := ∀ x ∈ xs, 0 ≤ x ∧ x ≤ 20000
theorem law_with (w : World) (m : Int) (o v : Value) (rs : List (Int × Int × Int)) (xs : List Int) (hR : RdF encR 3 w.heap.size w o rs) (hX : RdF encI 1 w.heap.size w v xs) (hl : xs.length ≤ rs.length) (h5 : rs.length ≤ 1000) :
    Ct Try.prog 38 [.agg #[.int .i64 m, o], v].toArray w fun r w' => ∃ Hq, (∃ x : Value × Bool × List (Int × Int × Int), (r = .tuple #[.agg #[.int .i64 m, x.1], .bool x.2.1] ∧ (x.2.1 = true → x.2.2 = withL rs xs ∧ sp20 xs) ∧ (x.2.1 = false → ¬ sp20 xs)) ∧ Hq = [OwE encR 66 3 x.1 x.2.2]) ∧ Inv w [] Hq w' := by
  refine Ct.ofI mixed tyTab Try.func38 rfl rfl ?_
  replace hR : RdF encR 3 (fnCx mixed tyTab Try.f38.ntmps w).B (fnCx mixed tyTab Try.f38.ntmps w).w0 o rs := hR
  replace hX : RdF encI 1 (fnCx mixed tyTab Try.f38.ntmps w).B (fnCx mixed tyTab Try.f38.ntmps w).w0 v xs := hX
  have ho := hR.sl.oc
  have hle := hX.sl.le
  refine W.sreg ?_
  refine WO.boxA rfl rfl (fun b1 hb1 => ?_)
  refine WO.alloc rfl rfl rfl (fun b2 hb2 => ?_)
  refine WO.p rfl rfl ?_
  refine WO.nil ?_
  refine W.sreg ?_
  refine WO.field0 rfl rfl rfl (WO.load rfl rfl (Cell.own (Pick.tail (Pick.head)) rfl) rfl ?_)
  refine' WO.build (cs := _) rfl rfl rfl ?hf rfl ?_
  case hf => (conv => lhs; simp [-List.getD_eq_getElem?_getD, fillL, vcl, wrl, TTab.pl?.lget']) <;> rfl
  refine WO.alloc rfl rfl rfl (fun b3 hb3 => ?_)
  refine WO.storeA rfl rfl rfl rfl Pick.head rfl rfl ?_
  refine WO.nil ?_
  refine W.seq ?_
  refine W.sreg ?_
  refine WO.p rfl rfl ?_
  refine WO.nil ?_
  refine W.block ?_
  refine W.chg (owNil (enc := encR) (e := 66) (sz := 3)) ?_
  refine W.loop2 (fun (i : Nat) (x : Value) => i ≤ xs.length ∧ ∀ y ∈ xs.take i, 0 ≤ y ∧ y ≤ 20000)
    (fun (i : Nat) (x : Value) => [(7, .int .i64 (i : Int)), (6, .pointer (some ⟨b3, 0, none⟩)), (4, .pointer (some ⟨b2, 0, none⟩)), (2, .pointer (some ⟨b1, 0, none⟩)), (1, v)])
    (fun (i : Nat) (x : Value) => [pt b1 (.cells #[.int .i64 m, o] 24 (0, 0)), pt b2 (.cells #[.int .i64 0, .slice none 0 0] 24 (0, 0)), pt b3 (.cells #[.int .i64 m, x] 24 (0, 0)), OwE encR 66 3 x ((withL rs xs).take i)])
    (fun (i : Nat) (x : Value) => xs.length - i) 0 (.slice none 0 0)
    (by exact ⟨by omega, fun y hy => by simp at hy⟩) ⟨rfl, rfl, rfl, rfl, rfl, trivial⟩ (by repeat (first | exact Sub.nil | refine Sub.cons (by repeat (first | exact Pick.head | apply Pick.tail)) ?_)) ?_
  rintro i x ⟨hi, hin⟩
  refine W.seq ?_
  refine W.sreg ?_
  refine WO.p rfl rfl (WO.p rfl rfl ?_)
  refine' WO.len (n := _) rfl rfl ?hs rfl ?_
  case hs => (first | exact hX.sl | exact hR.sl)
  refine WO.p rfl rfl ?_
  refine WO.nil ?_
  refine W.cond_bl rfl (fun c1 => ?_) (fun c1 => ?_)
  · first
    | (exfalso; omega)
    | (refine W.skip ?_
       refine W.seq ?_
       refine W.block ?_
       refine W.seq ?_
       refine W.sreg ?_
       refine WO.p rfl rfl (WO.p rfl rfl ?_)
       refine' WO.indexAddr (n := _) (i := _) rfl rfl rfl ?hs ?h1 rfl ?_
       case hs => (first | exact hX.sl | exact hR.sl)
       case h1 => (first | omega | (simp; omega))
       refine' WO.load (v := _) rfl rfl ?hc rfl ?_
       case hc => (first | (refine hX.cell0 ?_ 0 ?_ <;> first | rfl | omega) | (refine hR.cell0 ?_ r0 ?_ <;> first | rfl | omega))
       refine WO.p rfl rfl (WO.p rfl rfl ?_)
       refine WO.guard_bl rfl rfl (fun c2 => ?_) (fun c2 => ?_)
       · first
         | (exfalso; omega)
         | (refine WO.no rfl rfl (WO.no rfl rfl (WO.no rfl rfl (WO.no rfl rfl (WO.no rfl rfl (WO.p rfl rfl ?_)))))
            refine WO.nil ?_
            refine W.cond_t rfl ?_
            refine W.fact (OwE.form (enc := encR) (e := 66) (sz := 3) (by repeat (first | exact Pick.head | apply Pick.tail))) (fun hf => ?_)
            obtain ⟨fa, fc, rfl⟩ := hf
            refine W.sreg ?_
            refine WO.loadA rfl rfl (Cells.own (Pick.tail (Pick.tail (Pick.head)))) rfl rfl (WO.storeA rfl rfl rfl rfl (Pick.tail (Pick.head)) rfl rfl (WO.p rfl rfl ?_))
            refine WO.nil ?_
            refine W.ret ?_
            refine fin.ret (Res.two rfl (RV.cell rfl rfl rfl (Cells.own Pick.head)) (RV.tmp rfl)) ?_
            first | exact ⟨(_, false, (withL rs xs).take i), ⟨rfl, fun h => (by cases h), fun _ h => by have := h _ (getD_mem (l := xs) (i := i) (by omega) 0); omega⟩, fun h hs => Sub.sat (.cons (by repeat (first | exact Pick.head | apply Pick.tail)) .nil) hs⟩ | exact ⟨(_, true, (withL rs xs).take i), ⟨rfl, fun _ => by rw [show i = xs.length by omega] at hin ⊢; rw [List.take_length] at hin; exact ⟨by rw [← withL_len rs xs, List.take_length], hin⟩, fun h => (by cases h)⟩, fun h hs => Sub.sat (.cons (by repeat (first | exact Pick.head | apply Pick.tail)) .nil) hs⟩)
       · first
         | (exfalso; omega)
         | (refine WO.pg rfl rfl rfl (WO.pg rfl rfl rfl (WO.go' rfl ?_))
            refine' WO.indexAddr (n := _) (i := _) rfl rfl rfl ?hs ?h1 rfl ?_
            case hs => (first | exact hX.sl | exact hR.sl)
            case h1 => (first | omega | (simp; omega))
            refine WO.go' rfl ?_
            refine' WO.load (v := _) rfl rfl ?hc rfl ?_
            case hc => (first | (refine hX.cell0 ?_ 0 ?_ <;> first | rfl | omega) | (refine hR.cell0 ?_ r0 ?_ <;> first | rfl | omega))
            refine WO.pg rfl rfl rfl (WO.p rfl rfl ?_)
            refine WO.nil ?_
            refine W.cond_bl rfl (fun c3 => ?_) (fun c3 => ?_)
            · first
              | (exfalso; omega)
              | (refine W.fact (OwE.form (enc := encR) (e := 66) (sz := 3) (by repeat (first | exact Pick.head | apply Pick.tail))) (fun hf => ?_)
                 obtain ⟨fa, fc, rfl⟩ := hf
                 refine W.sreg ?_
                 refine WO.loadA rfl rfl (Cells.own (Pick.tail (Pick.tail (Pick.head)))) rfl rfl (WO.storeA rfl rfl rfl rfl (Pick.tail (Pick.head)) rfl rfl (WO.p rfl rfl ?_))
                 refine WO.nil ?_
                 refine W.ret ?_
                 refine fin.ret (Res.two rfl (RV.cell rfl rfl rfl (Cells.own Pick.head)) (RV.tmp rfl)) ?_
                 first | exact ⟨(_, false, (withL rs xs).take i), ⟨rfl, fun h => (by cases h), fun _ h => by have := h _ (getD_mem (l := xs) (i := i) (by omega) 0); omega⟩, fun h hs => Sub.sat (.cons (by repeat (first | exact Pick.head | apply Pick.tail)) .nil) hs⟩ | exact ⟨(_, true, (withL rs xs).take i), ⟨rfl, fun _ => by rw [show i = xs.length by omega] at hin ⊢; rw [List.take_length] at hin; exact ⟨by rw [← withL_len rs xs, List.take_length], hin⟩, fun h => (by cases h)⟩, fun h hs => Sub.sat (.cons (by repeat (first | exact Pick.head | apply Pick.tail)) .nil) hs⟩)
            · first
              | (exfalso; omega)
              | (refine W.skip ?_
                 refine W.drawD 19 [.r 0 [], .b 1 [], .r 2 [], .b 3 [], .r 4 [], .r 5 [], .r 6 [], .b 7 [], .r 8 [], .r 9 [], .r 10 [], .b 11 [], .r 12 [], .r 13 [], .r 14 [], .b 15 [], .r 16 [], .r 17 [], .c 18 []] [] (A0 := [_]) (H0 := [_, _, _]) (.cons (Pick.tail (Pick.tail (Pick.tail .head))) (.cons .head (.cons .head (.cons .head .nil)))) (by kernel_rfl) ?_ ?_
                 · exact (ALok.r (ALok.b (ALok.r (ALok.b (ALok.r (ALok.r (ALok.r (ALok.b (ALok.r (ALok.r (ALok.r (ALok.b (ALok.r (ALok.r (ALok.r (ALok.b (ALok.r (ALok.r (ALok.c ALok.nil)))))))))))))))))))
                 refine' DT.r rfl rfl rfl ?hq ?_
                 case hq =>
                   refine WO.fieldL rfl rfl rfl ?_
                   exact WO.nil ⟨rfl, rfl⟩
                 refine' DT.b rfl rfl rfl ?hq ?_
                 case hq =>
                   refine WO.load rfl rfl (Cell.own (Pick.tail (Pick.tail (Pick.head))) rfl) rfl ?_
                   exact WO.nil ⟨rfl, rfl⟩
                 refine' DT.r rfl rfl rfl ?hq ?_
                 case hq =>
                   refine WO.fieldL rfl rfl rfl ?_
                   exact WO.nil ⟨rfl, rfl⟩
                 refine' DT.b rfl rfl rfl ?hq ?_
                 case hq =>
                   refine WO.load rfl rfl (Cell.own Pick.head rfl) rfl ?_
                   exact WO.nil ⟨rfl, rfl⟩
                 refine' DT.r rfl rfl rfl ?hq ?_
                 case hq =>
                   refine WO.p rfl rfl ?_
                   exact WO.nil ⟨rfl, rfl⟩
                 refine' DT.r rfl rfl rfl ?hq ?_
                 case hq =>
                   refine' WO.indexAddr (n := _) (i := _) rfl rfl rfl ?hs ?h1 rfl ?_
                   case hs => (first | exact hX.sl | exact hR.sl)
                   case h1 => (first | omega | (simp; omega))
                   exact WO.nil ⟨rfl, rfl⟩
                 refine' DT.r rfl rfl rfl ?hq ?_
                 case hq =>
                   refine WO.field0 rfl rfl rfl ?_
                   exact WO.nil ⟨rfl, rfl⟩
                 refine' DT.b rfl rfl rfl ?hq ?_
                 case hq =>
                   refine' WO.load (v := _) rfl rfl ?hc rfl ?_
                   case hc => (first | (refine hX.cell0 ?_ 0 ?_ <;> first | rfl | omega) | (refine hR.cell0 ?_ r0 ?_ <;> first | rfl | omega))
                   exact WO.nil ⟨rfl, rfl⟩
                 refine' DT.r rfl rfl rfl ?hq ?_
                 case hq =>
                   refine WO.p rfl rfl ?_
                   exact WO.nil ⟨rfl, rfl⟩
                 refine' DT.r rfl rfl rfl ?hq ?_
                 case hq =>
                   refine WO.p rfl rfl ?_
                   exact WO.nil ⟨rfl, rfl⟩
                 refine' DT.r rfl rfl rfl ?hq ?_
                 case hq =>
                   refine' WO.indexAddr (n := _) (i := _) rfl rfl rfl ?hs ?h1 rfl ?_
                   case hs => (first | exact hX.sl | exact hR.sl)
                   case h1 => (first | omega | (simp; omega))
                   exact WO.nil ⟨rfl, rfl⟩
                 refine' DT.b rfl rfl rfl ?hq ?_
                 case hq =>
                   refine' WO.load (v := _) rfl rfl ?hc rfl ?_
                   case hc => (first | (refine hX.cell0 ?_ 0 ?_ <;> first | rfl | omega) | (refine hR.cell0 ?_ r0 ?_ <;> first | rfl | omega))
                   exact WO.nil ⟨rfl, rfl⟩
                 refine' DT.r rfl rfl rfl ?hq ?_
                 case hq =>
                   refine WO.p rfl rfl ?_
                   exact WO.nil ⟨rfl, rfl⟩
                 refine' DT.r rfl rfl rfl ?hq ?_
                 case hq =>
                   refine WO.p rfl rfl ?_
                   exact WO.nil ⟨rfl, rfl⟩
                 refine' DT.r rfl rfl rfl ?hq ?_
                 case hq =>
                   refine' WO.indexAddr (n := _) (i := _) rfl rfl rfl ?hs ?h1 rfl ?_
                   case hs => (first | exact hX.sl | exact hR.sl)
                   case h1 => (first | omega | (simp; omega))
                   exact WO.nil ⟨rfl, rfl⟩
                 refine' DT.b rfl rfl rfl ?hq ?_
                 case hq =>
                   refine' WO.load (v := _) rfl rfl ?hc rfl ?_
                   case hc => (first | (refine hX.cell0 ?_ 0 ?_ <;> first | rfl | omega) | (refine hR.cell0 ?_ r0 ?_ <;> first | rfl | omega))
                   exact WO.nil ⟨rfl, rfl⟩
                 refine' DT.r rfl rfl rfl ?hq ?_
                 case hq =>
                   refine' WO.build (cs := _) rfl rfl rfl ?hf rfl ?_
                   case hf => (conv => lhs; simp [-List.getD_eq_getElem?_getD, fillL, vcl, wrl, TTab.pl?.lget']) <;> rfl
                   exact WO.nil ⟨rfl, rfl⟩
                 refine' DT.r rfl rfl rfl ?hq ?_
                 case hq =>
                   refine' WO.build (cs := _) rfl rfl rfl ?hf rfl ?_
                   case hf => (conv => lhs; simp [-List.getD_eq_getElem?_getD, fillL, vcl, wrl, TTab.pl?.lget']) <;> rfl
                   exact WO.nil ⟨rfl, rfl⟩
                 refine DT.c [_, _, _, _] rfl rfl rfl rfl ?_
                 refine' WO.buildSl (cs := _) rfl rfl rfl rfl ?hf rfl rfl ?hl rfl (fun v4 => ?_)
                 case hf => (conv => lhs; simp [-List.getD_eq_getElem?_getD, fillL, vcl, wrl, TTab.pl?.lget']) <;> rfl
                 case hl => rfl
                 refine WO.nil ⟨_, [_, _], rfl, rfl, (Keep.r (Keep.r (Keep.b (Keep.r (Keep.r (Keep.r (Keep.b (Keep.r (Keep.r (Keep.r (Keep.b (Keep.r (Keep.r (Keep.r (Keep.b (Keep.r (Keep.b (Keep.r Keep.nil)))))))))))))))))), ?_⟩
                 refine DT.nil [_, _, _, _, _] rfl ?_
                 refine' WO.appendE (enc := encR) (m := 1) (ys := [withR rs xs i]) encR_ok rfl rfl rfl rfl rfl (by repeat (first | exact Pick.head | apply Pick.tail)) (isSl_lit (by omega) (fun _ => ⟨_, _, rfl⟩)) (by omega) rfl (OwC.cells .head) (by rw [List.length_take, withL_len]; omega) (by rw [List.length_take, withL_len]; omega) rfl (fun g c => ?_)
                 rw [show (withL rs xs).take i ++ [withR rs xs i] = (withL rs xs).take (i + 1) from rangeA_take r0 (by omega)]
                 refine WO.fieldL rfl rfl rfl (WO.store1 rfl rfl rfl (by first | rfl | assumption) (Pick.tail (Pick.tail (Pick.tail (Pick.tail (Pick.head))))) rfl ?_)
                 refine WO.nil ?_
                 refine W.region ?_
                 refine WO.p rfl rfl (WO.ar rfl rfl rfl (by (first | (unfold in64; omega) | (unfold in64; omega))) rfl (WO.p rfl rfl ?_))
                 refine WO.nil ?_
                 refine' ⟨i + 1, _, ?hp, ?hmu, ⟨rfl, rfl, rfl, rfl, rfl, trivial⟩, ?hS⟩
                 case hS => repeat (first | exact Sub.nil | refine Sub.cons (by repeat (first | exact Pick.head | apply Pick.tail)) ?_)
                 case hp => exact ⟨by omega, all_succ (by omega) 0 hin (by omega)⟩
                 case hmu => omega)))
  · first
    | (exfalso; omega)
    | (refine W.exit (blk_same ?_)
       refine W.fact (OwE.form (enc := encR) (e := 66) (sz := 3) (by repeat (first | exact Pick.head | apply Pick.tail))) (fun hf => ?_)
       obtain ⟨fa, fc, rfl⟩ := hf
       refine W.sreg ?_
       refine WO.loadA rfl rfl (Cells.own (Pick.tail (Pick.tail (Pick.head)))) rfl rfl (WO.storeA rfl rfl rfl rfl (Pick.tail (Pick.head)) rfl rfl (WO.p rfl rfl ?_))
       refine WO.nil ?_
       refine W.ret ?_
       refine fin.ret (Res.two rfl (RV.cell rfl rfl rfl (Cells.own Pick.head)) (RV.tmp rfl)) ?_
       first | exact ⟨(_, false, (withL rs xs).take i), ⟨rfl, fun h => (by cases h), fun _ h => by have := h _ (getD_mem (l := xs) (i := i) (by omega) 0); omega⟩, fun h hs => Sub.sat (.cons (by repeat (first | exact Pick.head | apply Pick.tail)) .nil) hs⟩ | exact ⟨(_, true, (withL rs xs).take i), ⟨rfl, fun _ => by rw [show i = xs.length by omega] at hin ⊢; rw [List.take_length] at hin; exact ⟨by rw [← withL_len rs xs, List.take_length], hin⟩, fun h => (by cases h)⟩, fun h hs => Sub.sat (.cons (by repeat (first | exact Pick.head | apply Pick.tail)) .nil) hs⟩)
/-- what a ship has over the ground -/
def gT (rs : List (Int × Int × Int)) (T : Int → Int) (s : Int) (x : Int) : Int := offT rs T x + s
/-- the first i of them done -/
def gMid (rs : List (Int × Int × Int)) (T : Int → Int) (s : Int) (i : Nat) (x : Int) : Int := if x < (i : Int) then offT rs T x + s else offT rs T x
theorem runL_congr {rs : List (Int × Int × Int)} {g g' : Int → Int} (h : ∀ i : Nat, i < rs.length → g i = g' i) : runL rs g = runL rs g' := List.map_congr_left fun i hi => h i (List.mem_range.1 hi)
theorem runL_set {rs : List (Int × Int × Int)} {g : Int → Int} {i : Nat} {x : Int} (hi : i < rs.length) : (runL rs g).set i x = runL rs (fun y => if y = (i : Int) then x else g y) := by
  refine ext_getD 0 (by simp [runL_len]) fun j hj => ?_
  have hj' : j < rs.length := by simpa [runL_len] using hj
  rw [runL_at hj', List.getD_eq_getElem?_getD, List.getElem?_set]
  by_cases e : i = j
  · subst e; rw [if_pos rfl, if_pos (by rw [runL_len]; exact hi), if_pos rfl]; rfl
  · rw [if_neg e, if_neg (by omega), ← List.getD_eq_getElem?_getD, runL_at hj']
theorem gMid_step {rs : List (Int × Int × Int)} {T : Int → Int} {s : Int} {i : Nat} (hi : i < rs.length) : (runL rs (gMid rs T s i)).set i (offT rs T i + s) = runL rs (gMid rs T s (i + 1)) := by
  rw [runL_set hi]
  refine runL_congr fun j hj => ?_
  unfold gMid
  by_cases e : (j : Int) = (i : Int)
  · rw [if_pos e, if_pos (by omega), e]
  · rw [if_neg e]
    by_cases h : (j : Int) < (i : Int)
    · rw [if_pos h, if_pos (by omega)]
    · rw [if_neg h, if_neg (by omega)]
theorem gMid_0 {rs : List (Int × Int × Int)} {T : Int → Int} {s : Int} : runL rs (gMid rs T s 0) = runL rs (offT rs T) := runL_congr fun j hj => by unfold gMid; rw [if_neg (by omega)]
theorem gMid_n {rs : List (Int × Int × Int)} {T : Int → Int} {s : Int} : runL rs (gMid rs T s rs.length) = runL rs (gT rs T s) := runL_congr fun j hj => by unfold gMid gT; rw [if_pos (by omega)]
theorem turn_runL {rs : List (Int × Int × Int)} {T : Int → Int} : turnL (runL rs (tmT rs T)) = runL rs (offT rs T) := by
  refine ext_getD 0 (by rw [turnL_len, runL_len, runL_len]) fun j hj => ?_
  rw [turnL_len, runL_len] at hj
  have e : (turnL (runL rs (tmT rs T))).getD j 0 = turnG (runL rs (tmT rs T)) j := by unfold turnL; exact range_getD (by rw [runL_len]; exact hj)
  rw [e, runL_at hj]
  unfold turnG offT
  rw [runL_at hj]
  have hmod : ((j : Int).tmod 2) = ((j % 2 : Nat) : Int) := by rw [Int.tmod_eq_emod_of_nonneg (by omega)]; omega
  unfold tmT
  rw [Int.toNat_natCast, hmod]
  by_cases h : j % 2 = 1
  · rw [if_pos h, if_pos (by omega)]
  · rw [if_neg h, if_neg (by omega)]
theorem law_Ground (w : World) (m s : Int) (o v : Value) (rs : List (Int × Int × Int)) (xs : List Int) (hR : RdF encR 3 w.heap.size w o rs) (hX : RdF encI 1 w.heap.size w v xs) (hv : VT m rs) (hx : Tidal xs) (hs : 0 ≤ s ∧ s ≤ 1000000000) :
    Ct Try.prog 39 [.agg #[.int .i64 m, o], .int .i64 s, v].toArray w fun r w' => ∃ Hq, (Hq = [OwE encI 2 1 r (runL rs (gT rs (tideV xs) s))]) ∧ Inv w [] Hq w' := by
  refine Ct.of mixed tyTab Try.func39 rfl rfl ?_
  replace hR : RdF encR 3 (fnCx mixed tyTab Try.f39.ntmps w).B (fnCx mixed tyTab Try.f39.ntmps w).w0 o rs := hR
  replace hX : RdF encI 1 (fnCx mixed tyTab Try.f39.ntmps w).B (fnCx mixed tyTab Try.f39.ntmps w).w0 v xs := hX
  have ho := hR.sl.oc
  have hn := hv.n
  have hta := tide_ab hv hx
  have hoa := offT_ab hta
  refine W.sreg ?_
  refine WO.boxA rfl rfl (fun b1 hb1 => ?_)
  refine WO.p rfl rfl ?_
  refine WO.nil ?_
  refine W.sreg ?_
  refine WO.p rfl rfl ?_
  refine WO.nil ?_
  refine W.seq ?_
  refine W.sreg ?_
  refine WO.p rfl rfl ?_
  refine WO.nil ?_
  refine W.block ?_
  refine W.chg (owNil (enc := encI) (e := 2) (sz := 1)) ?_
  refine W.loop2 (fun (i : Nat) (l : Value) => i ≤ rs.length)
    (fun (i : Nat) (l : Value) => [(8, .int .i64 (i : Int)), (7, l), (3, .pointer (some ⟨b1, 0, none⟩)), (1, .int .i64 s), (2, v)])
    (fun (i : Nat) (l : Value) => [pt b1 (.cells #[.int .i64 m, o] 24 (0, 0)), OwE encI 2 1 l ((runL rs (tmT rs (tideV xs))).take i)])
    (fun (i : Nat) (l : Value) => rs.length - i) 0 (.slice none 0 0)
    (by omega) ⟨rfl, rfl, rfl, rfl, rfl, trivial⟩ (by repeat (first | exact Sub.nil | refine Sub.cons (by repeat (first | exact Pick.head | apply Pick.tail)) ?_)) ?_
  rintro i l hi
  refine W.seq ?_
  refine W.sreg ?_
  refine WO.p rfl rfl (WO.fieldL rfl rfl rfl (WO.load rfl rfl (Cell.own Pick.head rfl) rfl ?_))
  refine' WO.len (n := _) rfl rfl ?hs rfl ?_
  case hs => (first | exact hR.sl | exact hws2)
  refine WO.p rfl rfl ?_
  refine WO.nil ?_
  refine W.cond_bl rfl (fun c1 => ?_) (fun c1 => ?_)
  · first
    | (exfalso; omega)
    | (refine W.skip ?_
       refine W.seq ?_
       refine W.block ?_
       have hru := hv.run (i := i) (by omega)
       refine W.region ?_
       refine WO.p rfl rfl (WO.p rfl rfl (WO.fieldL rfl rfl rfl (WO.load rfl rfl (Cell.own Pick.head rfl) rfl (WO.p rfl rfl ?_))))
       refine' WO.indexAddr (n := _) (i := _) rfl rfl rfl ?hs ?h1 rfl ?_
       case hs => (first | exact hR.sl | exact hws2)
       case h1 => (first | omega | (simp; omega))
       refine WO.field0 rfl rfl rfl ?_
       refine' WO.load (v := _) rfl rfl ?hc rfl ?_
       case hc => (first | (refine hR.cell0 ?_ r0 ?_ <;> first | rfl | omega))
       refine WO.callR (r := .int .i64 (tmT rs (tideV xs) (i : Int))) rfl Try.call62 (fun L w hi => ref_Tide w v xs (tm rs i) (hX.later hi) hx ⟨hru.1, hru.2.1⟩) rfl ?_
       refine' WO.buildSl (cs := _) rfl rfl rfl rfl ?hf rfl rfl ?hl rfl (fun v2 => ?_)
       case hf => (conv => lhs; simp [-List.getD_eq_getElem?_getD, fillL, vcl, wrl, TTab.pl?.lget']) <;> rfl
       case hl => rfl
       refine' WO.appendE (enc := encI) (m := 1) (ys := [tmT rs (tideV xs) (i : Int)]) encI_ok rfl rfl rfl rfl rfl (by repeat (first | exact Pick.head | apply Pick.tail)) (isSl_lit (by omega) (fun _ => ⟨_, _, rfl⟩)) (by omega) rfl (OwC.cells .head) (by rw [List.length_take, runL_len]; omega) (by rw [List.length_take, runL_len]; omega) rfl (fun g c => ?_)
       rw [runL_take (g := tmT rs (tideV xs)) (by omega)]
       refine WO.p rfl rfl ?_
       refine WO.nil ?_
       refine W.region ?_
       refine WO.p rfl rfl (WO.ar rfl rfl rfl (by (first | (unfold in64; omega) | (unfold in64; omega))) rfl (WO.p rfl rfl ?_))
       refine WO.nil ?_
       refine' ⟨i + 1, _, ?hp, ?hmu, ⟨rfl, rfl, rfl, rfl, rfl, trivial⟩, ?hS⟩
       case hS => repeat (first | exact Sub.nil | refine Sub.cons (by repeat (first | exact Pick.head | apply Pick.tail)) ?_)
       case hp => omega
       case hmu => omega)
  · first
    | (exfalso; omega)
    | (refine W.exit (blk_same ?_)
       obtain rfl : i = rs.length := by omega
       rw [runL_all]
       refine W.sreg ?_
       refine WO.p rfl rfl ?_
       refine WO.call (Post := fun r Hq => Hq = [OwE encI 2 1 r (turnL (runL rs (tmT rs (tideV xs))))]) rfl Try.call63 (fun L w hi => ref_Turned w l _ (RdF.of_ow (e := 2) encI_ok (by repeat (first | exact Pick.head | apply Pick.tail)) hi) (by rw [runL_len]; omega) (fun x hx => by obtain ⟨i, hi, rfl⟩ := runL_mem hx; unfold tmT; rw [Int.toNat_natCast]; exact hta i hi)) rfl ?_
       rintro tv _ rfl
       refine WO.p rfl rfl ?_
       refine WO.nil ?_
       refine W.seq ?_
       rw [turn_runL, ← gMid_0 (s := s)]
       refine W.fact (OwE.sl (enc := encI) (e := 2) (sz := 1) (xs := runL rs (gMid rs (tideV xs) s 0)) (by repeat (first | exact Pick.head | apply Pick.tail))) (fun hws2 => ?_)
       rw [runL_len] at hws2
       refine W.sreg ?_
       refine WO.p rfl rfl ?_
       refine WO.nil ?_
       refine W.block ?_
       refine W.loop (fun (i : Nat) => i ≤ rs.length)
         (fun (i : Nat) => [(9, .int .i64 (i : Int)), (7, tv), (1, .int .i64 s)])
         (fun (i : Nat) => [OwE encI 2 1 tv (runL rs (gMid rs (tideV xs) s i))])
         (fun (i : Nat) => rs.length - i) 0
         (by omega) ⟨rfl, rfl, rfl, trivial⟩ (by repeat (first | exact Sub.nil | refine Sub.cons (by repeat (first | exact Pick.head | apply Pick.tail)) ?_)) ?_
       rintro i hi2
       refine W.seq ?_
       refine W.sreg ?_
       refine WO.p rfl rfl (WO.p rfl rfl ?_)
       refine' WO.len (n := _) rfl rfl ?hs rfl ?_
       case hs => (first | exact hR.sl | exact hws2)
       refine WO.p rfl rfl ?_
       refine WO.nil ?_
       refine W.cond_bl rfl (fun c2 => ?_) (fun c2 => ?_)
       · first
         | (exfalso; omega)
         | (refine W.skip ?_
            refine W.seq ?_
            refine W.block ?_
            have hoi := hoa i (by omega)
            unfold ab at hoi
            refine W.region ?_
            refine WO.p rfl rfl (WO.p rfl rfl ?_)
            refine' WO.indexAddr (n := _) (i := _) rfl rfl rfl ?hs ?h1 rfl ?_
            case hs => (first | exact hR.sl | exact hws2)
            case h1 => (first | omega | (simp; omega))
            refine' WO.load (v := _) rfl rfl ?hc rfl ?_
            case hc => (first | (refine owE_cellS (e := 2) (i := i) (xs := runL rs (gMid rs (tideV xs) s i)) (x := offT rs (tideV xs) i) ?_ ?_ (by rw [runL_at (by omega)]; unfold gMid; rw [if_neg (by omega)]); (repeat (first | exact Sub.nil | refine Sub.cons (by repeat (first | exact Pick.head | apply Pick.tail)) ?_)); rw [runL_len]; omega))
            refine WO.p rfl rfl (WO.ar rfl rfl rfl (by (first | (unfold in64; omega) | (unfold in64; omega))) rfl ?_)
            refine' WO.indexAddr (n := _) (i := _) rfl rfl rfl ?hs ?h1 rfl ?_
            case hs => (first | exact hR.sl | exact hws2)
            case h1 => (first | omega | (simp; omega))
            refine WO.storeE (n := offT rs (tideV xs) i + s) (i := i) (xs := runL rs (gMid rs (tideV xs) s i)) encI_ok rfl rfl rfl rfl (by repeat (first | exact Pick.head | apply Pick.tail)) (by rw [runL_len]; omega) ?_
            rw [gMid_step (by omega)]
            refine WO.nil ?_
            refine W.region ?_
            refine WO.p rfl rfl (WO.ar rfl rfl rfl (by (first | (unfold in64; omega) | (unfold in64; omega))) rfl (WO.p rfl rfl ?_))
            refine WO.nil ?_
            refine' ⟨i + 1, ?hp, ?hmu, ⟨rfl, rfl, rfl, trivial⟩, ?hS⟩
            case hS => repeat (first | exact Sub.nil | refine Sub.cons (by repeat (first | exact Pick.head | apply Pick.tail)) ?_)
            case hp => omega
            case hmu => omega)
       · first
         | (exfalso; omega)
         | (refine W.exit (blk_same ?_)
            obtain rfl : i = rs.length := by omega
            rw [gMid_n]
            refine W.sreg ?_
            refine WO.p rfl rfl (WO.p rfl rfl ?_)
            refine WO.nil ?_
            refine W.ret ?_
            exact fin.ret (Res.one rfl (RV.tmp rfl)) rfl))
end Go.Proofs.Ytkiaepcklbidgaa
namespace Go.Proofs.Ytkiaepcklbidgaa
open Go Go.TH
set_option maxRecDepth 10000
theorem zer20 (a b : Int) : (1 : Int)*(1) - (1)*(1) = 0 := by grind
theorem zer30 (a b c : Int) : (1*(c-b))*(1) - (1*(c-a))*(1) + (1*(b-a))*(1) = 0 := by grind
theorem zer31 (a b c : Int) : (1*(c-b))*(1*a) - (1*(c-a))*(1*b) + (1*(b-a))*(1*c) = 0 := by grind
theorem zer40 (a b c d : Int) : (1*(c-b)*(d-b)*(d-c))*(1) - (1*(c-a)*(d-a)*(d-c))*(1) + (1*(b-a)*(d-a)*(d-b))*(1) - (1*(b-a)*(c-a)*(c-b))*(1) = 0 := by grind
theorem zer41 (a b c d : Int) : (1*(c-b)*(d-b)*(d-c))*(1*a) - (1*(c-a)*(d-a)*(d-c))*(1*b) + (1*(b-a)*(d-a)*(d-b))*(1*c) - (1*(b-a)*(c-a)*(c-b))*(1*d) = 0 := by grind
theorem zer42 (a b c d : Int) : (1*(c-b)*(d-b)*(d-c))*(1*a*a) - (1*(c-a)*(d-a)*(d-c))*(1*b*b) + (1*(b-a)*(d-a)*(d-b))*(1*c*c) - (1*(b-a)*(c-a)*(c-b))*(1*d*d) = 0 := by grind
theorem zer50 (a b c d e : Int) : (1*(c-b)*(d-b)*(d-c)*(e-b)*(e-c)*(e-d))*(1) - (1*(c-a)*(d-a)*(d-c)*(e-a)*(e-c)*(e-d))*(1) + (1*(b-a)*(d-a)*(d-b)*(e-a)*(e-b)*(e-d))*(1) - (1*(b-a)*(c-a)*(c-b)*(e-a)*(e-b)*(e-c))*(1) + (1*(b-a)*(c-a)*(c-b)*(d-a)*(d-b)*(d-c))*(1) = 0 := by grind
theorem zer51 (a b c d e : Int) : (1*(c-b)*(d-b)*(d-c)*(e-b)*(e-c)*(e-d))*(1*a) - (1*(c-a)*(d-a)*(d-c)*(e-a)*(e-c)*(e-d))*(1*b) + (1*(b-a)*(d-a)*(d-b)*(e-a)*(e-b)*(e-d))*(1*c) - (1*(b-a)*(c-a)*(c-b)*(e-a)*(e-b)*(e-c))*(1*d) + (1*(b-a)*(c-a)*(c-b)*(d-a)*(d-b)*(d-c))*(1*e) = 0 := by grind
theorem zer52 (a b c d e : Int) : (1*(c-b)*(d-b)*(d-c)*(e-b)*(e-c)*(e-d))*(1*a*a) - (1*(c-a)*(d-a)*(d-c)*(e-a)*(e-c)*(e-d))*(1*b*b) + (1*(b-a)*(d-a)*(d-b)*(e-a)*(e-b)*(e-d))*(1*c*c) - (1*(b-a)*(c-a)*(c-b)*(e-a)*(e-b)*(e-c))*(1*d*d) + (1*(b-a)*(c-a)*(c-b)*(d-a)*(d-b)*(d-c))*(1*e*e) = 0 := by grind
theorem zer53 (a b c d e : Int) : (1*(c-b)*(d-b)*(d-c)*(e-b)*(e-c)*(e-d))*(1*a*a*a) - (1*(c-a)*(d-a)*(d-c)*(e-a)*(e-c)*(e-d))*(1*b*b*b) + (1*(b-a)*(d-a)*(d-b)*(e-a)*(e-b)*(e-d))*(1*c*c*c) - (1*(b-a)*(c-a)*(c-b)*(e-a)*(e-b)*(e-c))*(1*d*d*d) + (1*(b-a)*(c-a)*(c-b)*(d-a)*(d-b)*(d-c))*(1*e*e*e) = 0 := by grind
/-- the sum with weights that are not yet in least terms -/
def rsum (m : Int) (rs : List (Int × Int × Int)) (g : Int → Int) : Nat → Int
  | 0 => 0
  | i + 1 => rsum m rs g i + raw m rs i * g (i : Int)
section
variable {m : Int} {rs : List (Int × Int × Int)}
theorem msum_raw (hv : VT m rs) (g : Int → Int) : ∀ {i : Nat}, i ≤ rs.length → msum m rs g i * gcdR m rs = rsum m rs g i
  | 0, _ => Int.zero_mul _
  | i + 1, h => by
    have ih := msum_raw hv g (i := i) (by omega)
    have hw := wts_mul hv (i := i) (by omega)
    show (msum m rs g i + wts m rs i * g (i : Int)) * gcdR m rs = rsum m rs g i + raw m rs i * g (i : Int)
    rw [Int.add_mul, ih, Int.mul_right_comm, hw]
theorem roff_2 (T : Int → Int) : rsum m rs (offT rs T) 2 = raw m rs 0 * T (tm rs 0) - raw m rs 1 * T (tm rs 1) := by
  show ((0 + raw m rs 0 * offT rs T ((0 : Nat) : Int)) + raw m rs 1 * offT rs T ((1 : Nat) : Int)) = _
  rw [offT_0, offT_1]
  simp only [Int.mul_neg]
  omega
theorem roff_3 (T : Int → Int) : rsum m rs (offT rs T) 3 = raw m rs 0 * T (tm rs 0) - raw m rs 1 * T (tm rs 1) + raw m rs 2 * T (tm rs 2) := by
  show (((0 + raw m rs 0 * offT rs T ((0 : Nat) : Int)) + raw m rs 1 * offT rs T ((1 : Nat) : Int)) + raw m rs 2 * offT rs T ((2 : Nat) : Int)) = _
  rw [offT_0, offT_1, offT_2]
  simp only [Int.mul_neg]
  omega
theorem roff_4 (T : Int → Int) : rsum m rs (offT rs T) 4 = raw m rs 0 * T (tm rs 0) - raw m rs 1 * T (tm rs 1) + raw m rs 2 * T (tm rs 2) - raw m rs 3 * T (tm rs 3) := by
  show ((((0 + raw m rs 0 * offT rs T ((0 : Nat) : Int)) + raw m rs 1 * offT rs T ((1 : Nat) : Int)) + raw m rs 2 * offT rs T ((2 : Nat) : Int)) + raw m rs 3 * offT rs T ((3 : Nat) : Int)) = _
  rw [offT_0, offT_1, offT_2, offT_3]
  simp only [Int.mul_neg]
  omega
theorem roff_5 (T : Int → Int) : rsum m rs (offT rs T) 5 = raw m rs 0 * T (tm rs 0) - raw m rs 1 * T (tm rs 1) + raw m rs 2 * T (tm rs 2) - raw m rs 3 * T (tm rs 3) + raw m rs 4 * T (tm rs 4) := by
  show (((((0 + raw m rs 0 * offT rs T ((0 : Nat) : Int)) + raw m rs 1 * offT rs T ((1 : Nat) : Int)) + raw m rs 2 * offT rs T ((2 : Nat) : Int)) + raw m rs 3 * offT rs T ((3 : Nat) : Int)) + raw m rs 4 * offT rs T ((4 : Nat) : Int)) = _
  rw [offT_0, offT_1, offT_2, offT_3, offT_4]
  simp only [Int.mul_neg]
  omega
theorem raw_0 {i : Nat} : raw 0 rs i = exW rs i := by unfold raw; rw [if_neg (by omega), if_neg (by omega)]
theorem exact_zero (hv : VT 0 rs) {d : Nat} (hd : d + 2 ≤ rs.length) : msum 0 rs (offT rs (fun t => pw t d)) rs.length = 0 := by
  have hn := hv.n
  have h1 := msum_raw hv (offT rs (fun t => pw t d)) (Nat.le_refl _)
  have hg := gcdR_pos hv
  have h2 : rsum 0 rs (offT rs (fun t => pw t d)) rs.length = 0 := by
    obtain h | h | h | h : rs.length = 2 ∨ rs.length = 3 ∨ rs.length = 4 ∨ rs.length = 5 := by omega
    · rw [h] at hd ⊢
      rw [roff_2]
      simp only [raw_0]
      rw [ex20 h, ex21 h]
      obtain rfl : d = 0 := by omega
      · exact zer20 (tm rs 0) (tm rs 1)
    · rw [h] at hd ⊢
      rw [roff_3]
      simp only [raw_0]
      rw [ex30 h, ex31 h, ex32 h]
      obtain rfl | rfl : d = 0 ∨ d = 1 := by omega
      · exact zer30 (tm rs 0) (tm rs 1) (tm rs 2)
      · exact zer31 (tm rs 0) (tm rs 1) (tm rs 2)
    · rw [h] at hd ⊢
      rw [roff_4]
      simp only [raw_0]
      rw [ex40 h, ex41 h, ex42 h, ex43 h]
      obtain rfl | rfl | rfl : d = 0 ∨ d = 1 ∨ d = 2 := by omega
      · exact zer40 (tm rs 0) (tm rs 1) (tm rs 2) (tm rs 3)
      · exact zer41 (tm rs 0) (tm rs 1) (tm rs 2) (tm rs 3)
      · exact zer42 (tm rs 0) (tm rs 1) (tm rs 2) (tm rs 3)
    · rw [h] at hd ⊢
      rw [roff_5]
      simp only [raw_0]
      rw [ex50 h, ex51 h, ex52 h, ex53 h, ex54 h]
      obtain rfl | rfl | rfl | rfl : d = 0 ∨ d = 1 ∨ d = 2 ∨ d = 3 := by omega
      · exact zer50 (tm rs 0) (tm rs 1) (tm rs 2) (tm rs 3) (tm rs 4)
      · exact zer51 (tm rs 0) (tm rs 1) (tm rs 2) (tm rs 3) (tm rs 4)
      · exact zer52 (tm rs 0) (tm rs 1) (tm rs 2) (tm rs 3) (tm rs 4)
      · exact zer53 (tm rs 0) (tm rs 1) (tm rs 2) (tm rs 3) (tm rs 4)
  rw [h2] at h1
  rcases Int.mul_eq_zero.1 h1 with h | h
  · exact h
  · omega
theorem fst5_spec {p : Nat → Bool} (h : ∃ d, d < 5 ∧ p d = true) : p (fst5 p) = true ∧ (∀ k, k < fst5 p → p k = false) ∧ fst5 p < 5 := by
  obtain ⟨d, hd, hp⟩ := h
  induction d using Nat.strongRecOn with
  | _ d ih =>
    by_cases hb : ∀ k, k < d → p k = false
    · rw [fst5_eq hd hp hb]; exact ⟨hp, hb, hd⟩
    · obtain ⟨k, hk, hkp⟩ : ∃ k, k < d ∧ p k = true := by
        refine Decidable.byContradiction fun hc => hb fun k hk => ?_
        cases hx : p k
        · rfl
        · exact absurd ⟨k, hk, hx⟩ hc
      exact ih k hk (by omega) hkp
theorem can_spec (hv : VT m rs) : ∃ D : Nat, canV m rs = (D : Int) - 1 ∧ D < rs.length ∧ msum m rs (offT rs (fun t => pw t D)) rs.length ≠ 0 ∧ ∀ k, k < D → msum m rs (offT rs (fun t => pw t k)) rs.length = 0 := by
  have hn := hv.n
  have hw := wsum_lt hv (i := rs.length) (Nat.le_refl _)
  obtain ⟨d, hd, hp⟩ := offP_some hv
  obtain ⟨h1, h2, h3⟩ := fst5_spec ⟨d, by omega, hp⟩
  have hle : fst5 (offP m rs) ≤ d := by
    rcases Nat.lt_or_ge d (fst5 (offP m rs)) with h | h
    · rw [h2 d h] at hp; cases hp
    · exact h
  have hz : ∀ k, offP m rs k = true ↔ msum m rs (offT rs (fun t => pw t k)) rs.length ≠ 0 := fun k => by
    unfold offP meanQ
    rw [decide_eq_true_eq]
    exact not_congr (red_num (by omega))
  refine ⟨fst5 (offP m rs), by unfold canV; rw [if_pos hv.to], by omega, (hz _).1 h1, fun k hk => ?_⟩
  refine Decidable.byContradiction fun hc => ?_
  have := (hz k).2 hc
  rw [h2 k hk] at this
  cases this
theorem can_exact (hv : VT 0 rs) : canV 0 rs = (rs.length : Int) - 2 := by
  obtain ⟨D, h1, h2, h3, h4⟩ := can_spec hv
  have hn := hv.n
  by_cases h : D + 2 ≤ rs.length
  · exact absurd (exact_zero hv h) h3
  · omega
/-- of tides that are summed, the errors are -/
theorem off_lin (f g : Int → Int) (a : Int) : ∀ i, msum m rs (offT rs (fun t => f t + a * g t)) i = msum m rs (offT rs f) i + a * msum m rs (offT rs g) i
  | 0 => by show (0 : Int) = 0 + a * 0; omega
  | i + 1 => by
    have ih := off_lin f g a i
    show msum m rs (offT rs (fun t => f t + a * g t)) i + wts m rs i * offT rs (fun t => f t + a * g t) (i : Int) = msum m rs (offT rs f) i + wts m rs i * offT rs f (i : Int) + a * (msum m rs (offT rs g) i + wts m rs i * offT rs g (i : Int))
    rw [ih]
    unfold offT
    split <;> grind
/-- the error in a tide, power by power -/
def pS (m : Int) (rs : List (Int × Int × Int)) (xs : List Int) : Nat → Int
  | 0 => 0
  | k + 1 => pS m rs xs k + xs.getD k 0 * msum m rs (offT rs (fun t => pw t k)) rs.length
theorem off_zero : ∀ i, msum m rs (offT rs (fun _ => 0)) i = 0
  | 0 => rfl
  | i + 1 => by
    show msum m rs (offT rs (fun _ => 0)) i + wts m rs i * offT rs (fun _ => 0) (i : Int) = 0
    rw [off_zero i]
    unfold offT
    split <;> simp
theorem off_fS (xs : List Int) : ∀ k, msum m rs (offT rs (fun t => fS xs t k)) rs.length = pS m rs xs k
  | 0 => off_zero _
  | k + 1 => by
    have h := off_lin (m := m) (rs := rs) (fun t => fS xs t k) (fun t => pw t k) (xs.getD k 0) rs.length
    rw [off_fS xs k] at h
    exact h
theorem off_tide (xs : List Int) : msum m rs (offT rs (tideV xs)) rs.length = pS m rs xs xs.length := by
  rw [← off_fS xs xs.length]
  congr 2
  funext t
  exact (fS_all xs t).symm
theorem pS_zero {xs : List Int} : ∀ {k : Nat}, (∀ j, j < k → xs.getD j 0 = 0 ∨ msum m rs (offT rs (fun t => pw t j)) rs.length = 0) → pS m rs xs k = 0
  | 0, _ => rfl
  | k + 1, h => by
    have ih := pS_zero (xs := xs) (k := k) (fun j hj => h j (by omega))
    show pS m rs xs k + _ = 0
    rw [ih]
    rcases h k (by omega) with h | h <;> rw [h] <;> simp
theorem tide_zero (hv : VT m rs) {xs : List Int} (h : dgTo xs xs.length ≤ canV m rs) : msum m rs (offT rs (tideV xs)) rs.length = 0 := by
  obtain ⟨D, h1, h2, h3, h4⟩ := can_spec hv
  rw [off_tide]
  refine pS_zero fun j hj => ?_
  by_cases hjd : j < D
  · exact .inr (h4 j hjd)
  · exact .inl (dgTo_zero xs xs.length j hj (by omega))
theorem tide_next (hv : VT m rs) {xs : List Int} {D : Nat} (hD : canV m rs = (D : Int) - 1) (hl : xs.length = D + 1) (hx : xs.getD D 0 ≠ 0) : msum m rs (offT rs (tideV xs)) rs.length ≠ 0 := by
  obtain ⟨D', h1, h2, h3, h4⟩ := can_spec hv
  obtain rfl : D' = D := by omega
  rw [off_tide, hl]
  show pS m rs xs D' + xs.getD D' 0 * msum m rs (offT rs (fun t => pw t D')) rs.length ≠ 0
  rw [pS_zero fun j hj => .inr (h4 j hj), Int.zero_add]
  exact Int.mul_ne_zero hx h3
/-- a number that is added to all adds to the mean -/
theorem msum_add (g : Int → Int) (s : Int) : ∀ i, msum m rs (fun x => g x + s) i = msum m rs g i + s * wsum m rs i
  | 0 => by show (0 : Int) = 0 + s * 0; omega
  | i + 1 => by
    have ih := msum_add g s i
    show msum m rs (fun x => g x + s) i + wts m rs i * (g (i : Int) + s) = msum m rs g i + wts m rs i * g (i : Int) + s * (wsum m rs i + wts m rs i)
    rw [ih]; grind
theorem gcd_add {n d s : Int} (hd : 0 < d) : gcd2 (ab (n + s * d)) d = gcd2 (ab n) d := by
  have hx : ∀ k : Int, gcd2 (ab k) d = (Int.gcd k d : Int) := fun k => by
    unfold gcd2 Int.gcd
    have h1 : (ab k).toNat = k.natAbs := by unfold ab; omega
    have h2 : d.toNat = d.natAbs := by omega
    rw [h1, h2]
  rw [hx, hx]
  congr 1
  exact Int.gcd_add_mul_right_left d n s
theorem red_add {n d s : Int} (hd : 0 < d) : red (n + s * d) d = (s * (red n d).2 + (red n d).1, (red n d).2) := by
  obtain ⟨g1, g2, g3⟩ := red_mul (n := n) hd
  obtain ⟨f1, f2, f3⟩ := red_mul (n := n + s * d) hd
  rw [gcd_add hd] at f2 f3
  have e2 : (red (n + s * d) d).2 = (red n d).2 := by
    have : (red (n + s * d) d).2 * gcd2 (ab n) d = (red n d).2 * gcd2 (ab n) d := by rw [f3, g3]
    exact Int.eq_of_mul_eq_mul_right (by omega) this
  have e1 : (red (n + s * d) d).1 = s * (red n d).2 + (red n d).1 := by
    have : (red (n + s * d) d).1 * gcd2 (ab n) d = (s * (red n d).2 + (red n d).1) * gcd2 (ab n) d := by
      rw [f2, Int.add_mul, Int.mul_assoc, g3, g2]; omega
    exact Int.eq_of_mul_eq_mul_right (by omega) this
  exact Prod.ext e1 e2
theorem red_0 {d : Int} (hd : 0 < d) : red 0 d = (0, 1) := by
  obtain ⟨g1, g2, g3⟩ := red_mul (n := 0) hd
  have e : gcd2 (ab 0) d = d := gcd2_0 (by omega)
  rw [e] at g3 g2
  have h2 : (red 0 d).2 = 1 := Int.eq_of_mul_eq_mul_right (show d ≠ 0 by omega) (by rw [g3, Int.one_mul])
  have h1 : (red 0 d).1 = 0 := (red_num hd).2 rfl
  exact Prod.ext h1 h2
end
end Go.Proofs.Ytkiaepcklbidgaa
namespace Go.Proofs.Ytkiaepcklbidgaa
open Go Go.TH
attribute [local irreducible] W WO pt
set_option maxRecDepth 10000
set_option maxHeartbeats 1000000
theorem RdF.nil0 {α : Type} {enc : α → List Value} {sz B : Nat} {w : World} : RdF enc sz B w (.slice none 0 0) ([] : List α) :=
  ⟨isSl_lit (by simp) (fun h => by simp at h), fun h => by simp at h, fun i x h => by simp at h⟩
theorem RdF.cellsP {α : Type} {C : Cx Try.prog} {H : List HP} {enc : α → List Value} {sz : Nat} {v : Value} {xs : List α} (h : RdF enc sz C.B C.w0 v xs) {i : Nat} (h1 : i < xs.length) (z : α) {j : Nat} {us : List Value} (hu : (enc (xs.getD i z)).drop j = us) : Cells C H (prt (elt v i sz) j) us := by
  intro k u hk
  have := RdF.cellAt (C := C) (H := H) h h1 z (j := j + k) (u := u) (by rw [lget_eq, ← List.getElem?_drop, hu]; exact hk)
  rw [prt_eq] at this ⊢
  rw [Addr.add_add]; exact this
/-- a true speed -/
def trueV (rs : List (Int × Int × Int)) (ys : List Int) (i : Nat) : Int := if 0 < ys.length then (rs.getD i r0).2.1 + (ys.getD ((i : Int).tmod (ys.length : Int)).toNat 0).tmod ((rs.getD i r0).2.2 - (rs.getD i r0).2.1 + 1) else (rs.getD i r0).2.1
def trueL (rs : List (Int × Int × Int)) (ys : List Int) : List Int := (List.range rs.length).map (trueV rs ys)
theorem trueL_len (rs : List (Int × Int × Int)) (ys : List Int) : (trueL rs ys).length = rs.length := by unfold trueL; simp
theorem trueL_at {rs : List (Int × Int × Int)} {ys : List Int} {i : Nat} (h : i < rs.length) : (trueL rs ys).getD i 0 = trueV rs ys i := range_getD h
theorem true_lo {rs : List (Int × Int × Int)} {ys : List Int} {i : Nat} (h : i < rs.length) (h0 : ¬ 0 < (ys.length : Int)) : (trueL rs ys).take i ++ [(rs.getD i r0).2.1] = (trueL rs ys).take (i + 1) := by
  have e : (trueL rs ys).take i ++ [trueV rs ys i] = (trueL rs ys).take (i + 1) := range_take h
  rw [← e]
  unfold trueV
  rw [if_neg (by omega)]
theorem true_hi {rs : List (Int × Int × Int)} {ys : List Int} {i : Nat} (h : i < rs.length) (h0 : 0 < (ys.length : Int)) : (trueL rs ys).take i ++ [(rs.getD i r0).2.1 + (ys.getD ((i : Int).tmod (ys.length : Int)).toNat 0).tmod ((rs.getD i r0).2.2 - (rs.getD i r0).2.1 + 1)] = (trueL rs ys).take (i + 1) := by
  have e : (trueL rs ys).take i ++ [trueV rs ys i] = (trueL rs ys).take (i + 1) := range_take h
  rw [← e]
  unfold trueV
  rw [if_pos (by omega)]
theorem trueV_in {m : Int} {rs : List (Int × Int × Int)} (hv : VT m rs) (ys : List Int) (hy : ∀ x ∈ ys, 0 ≤ x ∧ x ≤ 4294967295) {i : Nat} (h : i < rs.length) : (rs.getD i r0).2.1 ≤ trueV rs ys i ∧ trueV rs ys i ≤ (rs.getD i r0).2.2 := by
  have hr := hv.run h
  unfold trueV
  split
  · rename_i h0
    have h1 : ((i : Int).tmod (ys.length : Int)).toNat < ys.length := by
      have a := Int.tmod_lt_of_pos (i : Int) (show 0 < (ys.length : Int) by omega)
      have b := Int.tmod_nonneg (ys.length : Int) (show 0 ≤ (i : Int) by omega)
      omega
    have h2 := hy _ (getD_mem h1 0)
    have a := Int.tmod_lt_of_pos (ys.getD ((i : Int).tmod (ys.length : Int)).toNat 0) (show 0 < (rs.getD i r0).2.2 - (rs.getD i r0).2.1 + 1 by omega)
    have b := Int.tmod_nonneg ((rs.getD i r0).2.2 - (rs.getD i r0).2.1 + 1) h2.1
    omega
  · omega
theorem tmod_idx {i n : Nat} (h : 0 < n) : 0 ≤ (i : Int).tmod (n : Int) ∧ (i : Int).tmod (n : Int) < n ∧ ((i : Int).tmod (n : Int)).toNat < n := by
  have a := Int.tmod_lt_of_pos (i : Int) (show 0 < (n : Int) by omega)
  have b := Int.tmod_nonneg (n : Int) (show 0 ≤ (i : Int) by omega)
  omega
theorem law_True (w : World) (m : Int) (o v : Value) (rs : List (Int × Int × Int)) (ys : List Int) (hR : RdF encR 3 w.heap.size w o rs) (hY : RdF encU32 1 w.heap.size w v ys) (hv : VT m rs) (hl : ys.length ≤ 1000) (hy : ∀ x ∈ ys, 0 ≤ x ∧ x ≤ 4294967295) :
    Ct Try.prog 40 [.agg #[.int .i64 m, o], v].toArray w fun r w' => ∃ Hq, (Hq = [OwE encI 2 1 r (trueL rs ys)]) ∧ Inv w [] Hq w' := by
  refine Ct.of mixed tyTab Try.func40 rfl rfl ?_
  replace hR : RdF encR 3 (fnCx mixed tyTab Try.f40.ntmps w).B (fnCx mixed tyTab Try.f40.ntmps w).w0 o rs := hR
  replace hY : RdF encU32 1 (fnCx mixed tyTab Try.f40.ntmps w).B (fnCx mixed tyTab Try.f40.ntmps w).w0 v ys := hY
  have ho := hR.sl.oc
  have hn := hv.n
  refine W.sreg ?_
  refine WO.boxA rfl rfl (fun b1 hb1 => ?_)
  refine WO.p rfl rfl ?_
  refine WO.nil ?_
  refine W.sreg ?_
  refine WO.p rfl rfl ?_
  refine WO.nil ?_
  refine W.seq ?_
  refine W.sreg ?_
  refine WO.p rfl rfl ?_
  refine WO.nil ?_
  refine W.block ?_
  refine W.chg (owNil (enc := encI) (e := 2) (sz := 1)) ?_
  refine W.loop2 (fun (i : Nat) (l : Value) => i ≤ rs.length)
    (fun (i : Nat) (l : Value) => [(6, .int .i64 (i : Int)), (5, l), (2, .pointer (some ⟨b1, 0, none⟩)), (1, v)])
    (fun (i : Nat) (l : Value) => [pt b1 (.cells #[.int .i64 m, o] 24 (0, 0)), OwE encI 2 1 l ((trueL rs ys).take i)])
    (fun (i : Nat) (l : Value) => rs.length - i) 0 (.slice none 0 0)
    (by omega) ⟨rfl, rfl, rfl, rfl, trivial⟩ (by repeat (first | exact Sub.nil | refine Sub.cons (by repeat (first | exact Pick.head | apply Pick.tail)) ?_)) ?_
  rintro i l hi
  refine W.seq ?_
  refine W.sreg ?_
  refine WO.p rfl rfl (WO.fieldL rfl rfl rfl (WO.load rfl rfl (Cell.own Pick.head rfl) rfl ?_))
  refine' WO.len (n := _) rfl rfl ?hs rfl ?_
  case hs => (first | exact hY.sl | exact hR.sl)
  refine WO.p rfl rfl ?_
  refine WO.nil ?_
  refine W.cond_bl rfl (fun c1 => ?_) (fun c1 => ?_)
  · first
    | (exfalso; omega)
    | (refine W.skip ?_
       refine W.seq ?_
       refine W.block ?_
       have hru := hv.run (i := i) (by omega)
       refine W.sreg ?_
       refine WO.fieldL rfl rfl rfl (WO.load rfl rfl (Cell.own Pick.head rfl) rfl (WO.p rfl rfl ?_))
       refine' WO.indexAddr (n := _) (i := _) rfl rfl rfl ?hs ?h1 rfl ?_
       case hs => (first | exact hY.sl | exact hR.sl)
       case h1 => (first | omega | (simp; omega))
       refine WO.field rfl rfl rfl ?_
       refine' WO.loadA (vs := _) rfl rfl ?hc ?hl rfl ?_
       case hc => (first | exact RdF.cellsP hR (i := i) (by omega) r0 (j := 1) (us := [.int .i64 (rs.getD i r0).2.1, .int .i64 (rs.getD i r0).2.2]) rfl)
       case hl => rfl
       refine WO.alloc rfl rfl rfl (fun b2 hb2 => ?_)
       refine WO.storeA rfl rfl rfl rfl Pick.head rfl rfl ?_
       refine WO.nil ?_
       refine W.sreg ?_
       refine WO.field0 rfl rfl rfl (WO.load rfl rfl (Cell.own Pick.head rfl) rfl (WO.p rfl rfl ?_))
       refine WO.nil ?_
       refine W.seq ?_
       refine W.sreg ?_
       refine WO.p rfl rfl ?_
       refine' WO.len (n := _) rfl rfl ?hs rfl ?_
       case hs => (first | exact hY.sl | exact hR.sl)
       refine WO.p rfl rfl ?_
       refine WO.nil ?_
       refine W.cond_bl rfl (fun c2 => ?_) (fun c2 => ?_)
       · first
         | (exfalso; omega)
         | (have hix := tmod_idx (i := i) (n := ys.length) (by omega)
            have hyb := hy _ (getD_mem hix.2.2 0)
            have hq1 := Int.tmod_lt_of_pos (ys.getD ((i : Int).tmod (ys.length : Int)).toNat 0) (show 0 < (rs.getD i r0).2.2 - (rs.getD i r0).2.1 + 1 by omega)
            have hq2 := Int.tmod_nonneg ((rs.getD i r0).2.2 - (rs.getD i r0).2.1 + 1) hyb.1
            refine W.drawD 16 [.r 0 [], .r 1 [], .r 2 [], .r 3 [], .r 4 [], .r 5 [], .r 6 [], .b 7 [], .r 8 [], .r 9 [], .b 10 [], .r 11 [], .b 12 [], .r 13 [], .r 14 [], .r 15 []] [] (A0 := []) (Sub.refl _) (by kernel_rfl) ?_ ?_
            · exact (ALok.r (ALok.r (ALok.r (ALok.r (ALok.r (ALok.r (ALok.r (ALok.b (ALok.r (ALok.r (ALok.b (ALok.r (ALok.b (ALok.r (ALok.r (ALok.r ALok.nil))))))))))))))))
            refine' DT.r rfl rfl rfl ?hq ?_
            case hq =>
              refine WO.p rfl rfl ?_
              exact WO.nil ⟨rfl, rfl⟩
            refine' DT.r rfl rfl rfl ?hq ?_
            case hq =>
              refine WO.p rfl rfl ?_
              exact WO.nil ⟨rfl, rfl⟩
            refine' DT.r rfl rfl rfl ?hq ?_
            case hq =>
              refine WO.p rfl rfl ?_
              exact WO.nil ⟨rfl, rfl⟩
            refine' DT.r rfl rfl rfl ?hq ?_
            case hq =>
              refine WO.p rfl rfl ?_
              exact WO.nil ⟨rfl, rfl⟩
            refine' DT.r rfl rfl rfl ?hq ?_
            case hq =>
              refine' WO.len (n := _) rfl rfl ?hs rfl ?_
              case hs => (first | exact hY.sl | exact hR.sl)
              exact WO.nil ⟨rfl, rfl⟩
            refine' DT.r rfl rfl rfl ?hq ?_
            case hq =>
              refine WO.rem rfl rfl (by first | omega | assumption) rfl ?_
              exact WO.nil ⟨rfl, rfl⟩
            refine' DT.r rfl rfl rfl ?hq ?_
            case hq =>
              refine' WO.indexAddrZ (n := _) rfl rfl rfl ?hs ?h00 ?h1 rfl ?_
              case hs => (first | exact hY.sl | exact hR.sl)
              case h00 => omega
              case h1 => (first | omega | (simp; omega))
              exact WO.nil ⟨rfl, rfl⟩
            refine' DT.b rfl rfl rfl ?hq ?_
            case hq =>
              refine' WO.load (v := _) rfl rfl ?hc rfl ?_
              case hc => (first | (refine hY.cell0 ?_ 0 ?_ <;> first | rfl | omega) | (refine hR.cell0 ?_ r0 ?_ <;> first | rfl | omega))
              exact WO.nil ⟨rfl, rfl⟩
            refine' DT.r rfl rfl rfl ?hq ?_
            case hq =>
              refine WO.conv64 rfl rfl rfl (by (first | (unfold in64; omega) | (unfold in64; omega))) rfl ?_
              exact WO.nil ⟨rfl, rfl⟩
            refine' DT.r rfl rfl rfl ?hq ?_
            case hq =>
              refine WO.fieldL rfl rfl rfl ?_
              exact WO.nil ⟨rfl, rfl⟩
            refine' DT.b rfl rfl rfl ?hq ?_
            case hq =>
              refine WO.load rfl rfl (Cell.own Pick.head rfl) rfl ?_
              exact WO.nil ⟨rfl, rfl⟩
            refine' DT.r rfl rfl rfl ?hq ?_
            case hq =>
              refine WO.field0 rfl rfl rfl ?_
              exact WO.nil ⟨rfl, rfl⟩
            refine' DT.b rfl rfl rfl ?hq ?_
            case hq =>
              refine WO.load rfl rfl (Cell.own Pick.head rfl) rfl ?_
              exact WO.nil ⟨rfl, rfl⟩
            refine' DT.r rfl rfl rfl ?hq ?_
            case hq =>
              refine WO.ar rfl rfl rfl (by (first | (unfold in64; omega) | (unfold in64; omega))) rfl ?_
              exact WO.nil ⟨rfl, rfl⟩
            refine' DT.r rfl rfl rfl ?hq ?_
            case hq =>
              refine WO.ar rfl rfl rfl (by (first | (unfold in64; omega) | (unfold in64; omega))) rfl ?_
              exact WO.nil ⟨rfl, rfl⟩
            refine' DT.r rfl rfl rfl ?hq ?_
            case hq =>
              refine WO.rem rfl rfl (by first | omega | assumption) rfl ?_
              exact WO.nil ⟨rfl, rfl⟩
            refine DT.nil [_, _, _] rfl ?_
            refine WO.ar rfl rfl rfl (by (first | (unfold in64; omega) | (unfold in64; omega))) rfl (WO.p rfl rfl ?_)
            refine WO.nil ?_
            refine W.region ?_
            refine WO.p rfl rfl (WO.p rfl rfl ?_)
            refine' WO.buildSl (cs := _) rfl rfl rfl rfl ?hf rfl rfl ?hl rfl (fun v3 => ?_)
            case hf => (conv => lhs; simp [-List.getD_eq_getElem?_getD, fillL, vcl, wrl, TTab.pl?.lget']) <;> rfl
            case hl => rfl
            first | refine' WO.appendE (enc := encI) (m := 1) (ys := [(rs.getD i r0).2.1]) encI_ok rfl rfl rfl rfl rfl (by repeat (first | exact Pick.head | apply Pick.tail)) (isSl_lit (by omega) (fun _ => ⟨_, _, rfl⟩)) (by omega) rfl (OwC.cells .head) (by rw [List.length_take, trueL_len]; omega) (by rw [List.length_take, trueL_len]; omega) rfl (fun g c => ?_) | refine' WO.appendE (enc := encI) (m := 1) (ys := [(rs.getD i r0).2.1 + (ys.getD ((i : Int).tmod (ys.length : Int)).toNat 0).tmod ((rs.getD i r0).2.2 - (rs.getD i r0).2.1 + 1)]) encI_ok rfl rfl rfl rfl rfl (by repeat (first | exact Pick.head | apply Pick.tail)) (isSl_lit (by omega) (fun _ => ⟨_, _, rfl⟩)) (by omega) rfl (OwC.cells .head) (by rw [List.length_take, trueL_len]; omega) (by rw [List.length_take, trueL_len]; omega) rfl (fun g c => ?_)
            first | rw [true_lo (ys := ys) (i := i) (by omega) (by assumption)] | rw [true_hi (ys := ys) (i := i) (by omega) (by assumption)]
            refine WO.p rfl rfl ?_
            refine WO.nil ?_
            refine W.region ?_
            refine WO.p rfl rfl (WO.ar rfl rfl rfl (by (first | (unfold in64; omega) | (unfold in64; omega))) rfl (WO.p rfl rfl ?_))
            refine WO.nil ?_
            refine' ⟨i + 1, _, ?hp, ?hmu, ⟨rfl, rfl, rfl, rfl, trivial⟩, ?hS⟩
            case hS => repeat (first | exact Sub.nil | refine Sub.cons (by repeat (first | exact Pick.head | apply Pick.tail)) ?_)
            case hp => omega
            case hmu => omega)
       · first
         | (exfalso; omega)
         | (refine W.skip ?_
            refine W.region ?_
            refine WO.p rfl rfl (WO.p rfl rfl ?_)
            refine' WO.buildSl (cs := _) rfl rfl rfl rfl ?hf rfl rfl ?hl rfl (fun v4 => ?_)
            case hf => (conv => lhs; simp [-List.getD_eq_getElem?_getD, fillL, vcl, wrl, TTab.pl?.lget']) <;> rfl
            case hl => rfl
            first | refine' WO.appendE (enc := encI) (m := 1) (ys := [(rs.getD i r0).2.1]) encI_ok rfl rfl rfl rfl rfl (by repeat (first | exact Pick.head | apply Pick.tail)) (isSl_lit (by omega) (fun _ => ⟨_, _, rfl⟩)) (by omega) rfl (OwC.cells .head) (by rw [List.length_take, trueL_len]; omega) (by rw [List.length_take, trueL_len]; omega) rfl (fun g c => ?_) | refine' WO.appendE (enc := encI) (m := 1) (ys := [(rs.getD i r0).2.1 + (ys.getD ((i : Int).tmod (ys.length : Int)).toNat 0).tmod ((rs.getD i r0).2.2 - (rs.getD i r0).2.1 + 1)]) encI_ok rfl rfl rfl rfl rfl (by repeat (first | exact Pick.head | apply Pick.tail)) (isSl_lit (by omega) (fun _ => ⟨_, _, rfl⟩)) (by omega) rfl (OwC.cells .head) (by rw [List.length_take, trueL_len]; omega) (by rw [List.length_take, trueL_len]; omega) rfl (fun g c => ?_)
            first | rw [true_lo (ys := ys) (i := i) (by omega) (by assumption)] | rw [true_hi (ys := ys) (i := i) (by omega) (by assumption)]
            refine WO.p rfl rfl ?_
            refine WO.nil ?_
            refine W.region ?_
            refine WO.p rfl rfl (WO.ar rfl rfl rfl (by (first | (unfold in64; omega) | (unfold in64; omega))) rfl (WO.p rfl rfl ?_))
            refine WO.nil ?_
            refine' ⟨i + 1, _, ?hp, ?hmu, ⟨rfl, rfl, rfl, rfl, trivial⟩, ?hS⟩
            case hS => repeat (first | exact Sub.nil | refine Sub.cons (by repeat (first | exact Pick.head | apply Pick.tail)) ?_)
            case hp => omega
            case hmu => omega))
  · first
    | (exfalso; omega)
    | (refine W.exit (blk_same ?_)
       obtain rfl : i = rs.length := by omega
       rw [show (trueL rs ys).take rs.length = trueL rs ys by rw [← trueL_len rs ys, List.take_length]]
       refine W.keep (H' := [OwE encI 2 1 l (trueL rs ys)]) (.cons (by repeat (first | exact Pick.head | apply Pick.tail)) .nil) ?_
       refine W.sreg ?_
       refine WO.p rfl rfl (WO.p rfl rfl ?_)
       refine WO.nil ?_
       refine W.ret ?_
       exact fin.ret (Res.one rfl (RV.tmp rfl)) rfl)
section
variable {m : Int} {rs : List (Int × Int × Int)} {xs : List Int}
theorem with_n (hl : xs.length = rs.length) : (withL rs xs).length = rs.length := by rw [withL_len, hl]
theorem with_out {i : Nat} (h : ¬ i < rs.length) : rs.getD i r0 = r0 := by
  rw [List.getD_eq_getElem?_getD, List.getElem?_eq_none (by omega)]; rfl
theorem with_tm (hl : xs.length = rs.length) : tm (withL rs xs) = tm rs := by
  funext i
  unfold tm
  by_cases h : i < rs.length
  · rw [withL_at (by omega)]; rfl
  · rw [with_out (rs := withL rs xs) (by rw [with_n hl]; exact h), with_out h]
theorem ex_congr {rs' : List (Int × Int × Int)} (h1 : rs'.length = rs.length) (h2 : tm rs' = tm rs) : exW rs' = exW rs := by
  funext i
  unfold exW
  have : exF rs' i = exF rs i := by funext w q; unfold exF; rw [h2]
  rw [this, h1]
theorem raw_congr {rs' : List (Int × Int × Int)} (h1 : rs'.length = rs.length) (h2 : tm rs' = tm rs) : raw m rs' = raw m rs := by
  funext i
  unfold raw
  rw [ex_congr h1 h2, h1]
theorem wts_of {rs' : List (Int × Int × Int)} (h1 : rs'.length = rs.length) (h2 : raw m rs' = raw m rs) : wts m rs' = wts m rs := by
  funext i
  unfold wts gcdR
  rw [h2, h1]
theorem wsum_of {rs' : List (Int × Int × Int)} (h : wts m rs' = wts m rs) : ∀ i, wsum m rs' i = wsum m rs i
  | 0 => rfl
  | i + 1 => by
    show wsum m rs' i + wts m rs' i = wsum m rs i + wts m rs i
    rw [wsum_of h i, h]
theorem msum_of {rs' : List (Int × Int × Int)} (h : wts m rs' = wts m rs) (g : Int → Int) : ∀ i, msum m rs' g i = msum m rs g i
  | 0 => rfl
  | i + 1 => by
    show msum m rs' g i + wts m rs' i * g (i : Int) = msum m rs g i + wts m rs i * g (i : Int)
    rw [msum_of h g i, h]
theorem with_wts (hl : xs.length = rs.length) : wts m (withL rs xs) = wts m rs := wts_of (with_n hl) (raw_congr (with_n hl) (with_tm hl))
theorem with_mean (hl : xs.length = rs.length) (g : Int → Int) : meanQ m (withL rs xs) g = meanQ m rs g := by
  unfold meanQ
  rw [with_n hl, msum_of (with_wts hl), wsum_of (with_wts hl)]
theorem with_VT (hv : VT m rs) (hl : xs.length = rs.length) (hs : sp20 xs) : VT m (withL rs xs) := by
  have hn := hv.n
  refine ⟨by rw [with_n hl]; exact hn, hv.m, fun i hi => ?_⟩
  rw [with_n hl] at hi
  have h1 := hv.ok i hi
  have h2 := hs _ (getD_mem (l := xs) (i := i) (by omega) 0)
  have e : prevAt (withL rs xs) i = prevAt rs i := by
    unfold prevAt
    split
    · rfl
    · exact congrFun (with_tm hl) (i - 1)
  unfold goodR at h1 ⊢
  rw [e, withL_at (by omega)]
  show prevAt rs i + 1 ≤ (rs.getD i r0).1 ∧ (rs.getD i r0).1 ≤ 60 ∧ 0 ≤ xs.getD i 0 ∧ xs.getD i 0 ≤ xs.getD i 0 ∧ xs.getD i 0 ≤ 20000
  omega
theorem with_true (hl : xs.length = rs.length) : trueL (withL rs xs) [] = xs := by
  refine ext_getD 0 (by rw [trueL_len, with_n hl, hl]) fun i hi => ?_
  rw [trueL_len, with_n hl] at hi
  rw [trueL_at (by rw [with_n hl]; exact hi)]
  unfold trueV
  rw [if_neg (by simp), withL_at (by omega)]
  rfl
theorem with_meanR (hv : VT m rs) (hl : xs.length = rs.length) (hs : sp20 xs) : meanR m (withL rs xs) xs = .tuple #[.agg (encP (meanQ m rs (gX xs))).toArray, .int .i64 0] := by
  have h1 := with_VT hv hl hs
  rw [← meanR_0 (by rw [h1.to]; simp) (by rw [with_n hl, hl]; simp) (fun i hi => ?_), with_mean hl]
  rw [with_n hl] at hi
  rw [withL_at (by omega)]
  exact ⟨Int.le_refl _, Int.le_refl _⟩
theorem with_spanR (hv : VT m rs) (hl : xs.length = rs.length) (hs : sp20 xs) : spanR m (withL rs xs) = .tuple #[.agg (encP (meanQ m rs (gX xs)) ++ encP (meanQ m rs (gX xs))).toArray, .int .i64 0] := by
  have h1 := with_VT hv hl hs
  have e1 : meanQ m (withL rs xs) (loT (withL rs xs)) = meanQ m rs (gX xs) := by
    rw [with_mean hl]
    refine meanQ_congr fun j hj => ?_
    unfold loT gX
    rw [Int.toNat_natCast, withL_at (by omega)]; rfl
  have e2 : meanQ m (withL rs xs) (hiT (withL rs xs)) = meanQ m rs (gX xs) := by
    rw [with_mean hl]
    refine meanQ_congr fun j hj => ?_
    unfold hiT gX
    rw [Int.toNat_natCast, withL_at (by omega)]; rfl
  rw [← spanR_0 h1.to, e1, e2]
/-- the mean of what a ship has over the ground -/
theorem ground_mean (hv : VT m rs) (T : Int → Int) (s : Int) : meanQ m rs (gX (runL rs (gT rs T s))) = (s * (meanQ m rs (offT rs T)).2 + (meanQ m rs (offT rs T)).1, (meanQ m rs (offT rs T)).2) := by
  have hn := hv.n
  have hw := wsum_lt hv (i := rs.length) (Nat.le_refl _)
  rw [runL_gX]
  unfold meanQ
  have e : msum m rs (gT rs T s) rs.length = msum m rs (offT rs T) rs.length + s * wsum m rs rs.length := msum_add (offT rs T) s rs.length
  rw [e, red_add (by omega)]
end
theorem ne36 (a b c d : Int) : EqT Try.prog .neq 36 (.agg #[.int .i64 a, .int .i64 b]) (.agg #[.int .i64 c, .int .i64 d]) (.bool (bl ((a, b) ≠ (c, d)))) := by
  intro x y w
  simp [go_sem, Try.eqGuardType36, Try.underlying36]
  by_cases h1 : a = c <;> by_cases h2 : b = d <;> simp [h1, h2, bl_eq]
theorem ne36f (a b : Int) : EqT Try.prog .neq 36 (.agg #[.int .i64 a, .int .i64 b]) (.agg #[.int .i64 a, .int .i64 b]) (.bool false) := by
  have := ne36 a b a b
  rwa [show bl ((a, b) ≠ (a, b)) = false from bl_f.2 (by simp)] at this
end Go.Proofs.Ytkiaepcklbidgaa
namespace Go.Proofs.Ytkiaepcklbidgaa
open Go Go.TH
attribute [local irreducible] W WO pt
set_option maxRecDepth 10000
set_option maxHeartbeats 4000000
theorem off_cancel {m : Int} {rs : List (Int × Int × Int)} {xs : List Int} (hv : VT m rs) (h : dgTo xs xs.length ≤ canV m rs) : meanQ m rs (offT rs (tideV xs)) = (0, 1) := by
  have hn := hv.n
  have hw := wsum_lt hv (i := rs.length) (Nat.le_refl _)
  unfold meanQ
  rw [tide_zero hv h, red_0 (by omega)]
theorem off_tidal {m : Int} {rs : List (Int × Int × Int)} {xs : List Int} (hv : VT m rs) (hx : Tidal xs) : offR m rs xs = .tuple #[.agg (encP (meanQ m rs (offT rs (tideV xs)))).toArray, .int .i64 0] :=
  (offR_0 (by rw [hv.to]; simp) (by have := hx.1; omega) hx.2).symm
theorem can_in {m : Int} {rs : List (Int × Int × Int)} (hv : VT m rs) : -1 ≤ canV m rs ∧ canV m rs ≤ (rs.length : Int) - 2 := by
  obtain ⟨D, h1, h2, _⟩ := can_spec hv
  omega
theorem can_0 {m : Int} {rs : List (Int × Int × Int)} (hv : VT m rs) : m = 0 → canV m rs = (rs.length : Int) - 2 := fun h => by
  subst h; exact can_exact hv
theorem law_TrialCancels (w : World) (m : Int) (o v : Value) (rs : List (Int × Int × Int)) (xs : List Int) (n : Int) (hR : RdF encR 3 w.heap.size w o rs) (hX : RdF encI 1 w.heap.size w v xs) (hn6 : 0 ≤ n ∧ n ≤ 65535) : Ret Try.prog 6 [.agg #[.int .i64 m, o], v, .int .u16 n].toArray w (.bool true) := by
  refine Ret.of mixed tyTab Try.func6 rfl rfl ?_
  replace hR : RdF encR 3 (fnCx mixed tyTab Try.f6.ntmps w).B (fnCx mixed tyTab Try.f6.ntmps w).w0 o rs := hR
  replace hX : RdF encI 1 (fnCx mixed tyTab Try.f6.ntmps w).B (fnCx mixed tyTab Try.f6.ntmps w).w0 v xs := hX
  have ho := hR.sl.oc
  have hox := hX.sl.oc
  have hs1 := Int.tmod_lt_of_pos n (show (0 : Int) < 20001 by omega)
  have hs2 := Int.tmod_nonneg 20001 hn6.1
  have hlen : (runL rs (gT rs (tideV xs) (n.tmod 20001))).length = rs.length := runL_len _ _
  refine W.sreg ?_
  refine WO.boxA rfl rfl (fun b1 hb1 => ?_)
  refine WO.p rfl rfl ?_
  refine WO.nil ?_
  refine W.seq ?_
  refine W.sreg ?_
  refine WO.loadA rfl rfl (Cells.own Pick.head) rfl rfl ?_
  refine WO.callR rfl Try.call34 (fun L w hi => law_fine w m o rs (hR.later hi)) rfl ?_
  refine WO.p rfl rfl (WO.p rfl rfl ?_)
  refine WO.guard_nbl rfl rfl (fun c1 => ?_) (fun c1 => ?_)
  · first
    | (exfalso; omega)
    | (refine WO.no rfl rfl (WO.no rfl rfl (WO.no rfl rfl (WO.p rfl rfl ?_)))
       refine WO.nil ?_
       refine W.cond_t rfl ?_
       refine W.sreg ?_
       refine WO.callR rfl Try.call12 (fun L w hi => law_Works w) rfl ?_
       refine WO.p rfl rfl ?_
       refine WO.nil ?_
       refine W.ret ?_
       exact fin.ret (Res.one rfl (RV.tmp rfl)) rfl)
  · first
    | (exfalso; omega)
    | (refine WO.pg rfl rfl rfl (WO.go' rfl ?_)
       refine WO.callR rfl Try.call35 (fun L w hi => law_tidal w v xs (hX.later hi)) rfl ?_
       refine WO.pg rfl rfl rfl (WO.p rfl rfl ?_)
       refine WO.nil ?_
       refine W.cond_nbl rfl (fun c2 => ?_) (fun c2 => ?_)
       · first
         | (exfalso; omega)
         | (refine W.sreg ?_
            refine WO.callR rfl Try.call12 (fun L w hi => law_Works w) rfl ?_
            refine WO.p rfl rfl ?_
            refine WO.nil ?_
            refine W.ret ?_
            exact fin.ret (Res.one rfl (RV.tmp rfl)) rfl)
       · first
         | (exfalso; omega)
         | (refine W.skip ?_
            have hv : VT m rs := VT.of (by omega)
            have hx : Tidal xs := by first | assumption | exact Decidable.not_not.1 (by assumption)
            have hn := hv.n
            have hci := can_in hv
            have hc0 := can_0 hv
            have hto := hv.to
            refine W.sreg ?_
            refine WO.loadA rfl rfl (Cells.own Pick.head) rfl rfl ?_
            refine WO.callR rfl Try.call15 (fun L w hi => c_Cancels w m o rs (hR.later hi)) rfl ?_
            refine WO.p rfl rfl (WO.p rfl rfl (WO.p rfl rfl (WO.p rfl rfl (WO.p rfl rfl ?_))))
            refine WO.nil ?_
            refine W.seq ?_
            refine W.sreg ?_
            refine WO.p rfl rfl (WO.p rfl rfl (WO.p rfl rfl ?_))
            refine WO.guard_bl rfl rfl (fun c3 => ?_) (fun c3 => ?_)
            · first
              | (exfalso; omega)
              | (refine WO.no rfl rfl (WO.no rfl rfl (WO.p rfl rfl (WO.p rfl rfl (WO.no rfl rfl (WO.no rfl rfl (WO.no rfl rfl (WO.no rfl rfl (WO.no rfl rfl (WO.no rfl rfl (WO.p rfl rfl (WO.p rfl rfl ?_)))))))))))
                 refine WO.no rfl rfl (WO.no rfl rfl (WO.no rfl rfl (WO.no rfl rfl (WO.no rfl rfl (WO.no rfl rfl (WO.no rfl rfl (WO.no rfl rfl (WO.no rfl rfl (WO.no rfl rfl (WO.no rfl rfl (WO.p rfl rfl ?_)))))))))))
                 refine WO.nil ?_
                 refine W.cond_t rfl ?_
                 refine W.sreg ?_
                 refine WO.p rfl rfl ?_
                 refine WO.nil ?_
                 refine W.ret ?_
                 exact fin.ret (Res.one rfl (RV.tmp rfl)) rfl)
            · first
              | (exfalso; omega)
              | (refine WO.pg rfl rfl rfl (WO.pg rfl rfl rfl (WO.p rfl rfl (WO.p rfl rfl ?_)))
                 refine WO.guard_bl rfl rfl (fun c4 => ?_) (fun c4 => ?_)
                 · first
                   | (exfalso; omega)
                   | (refine WO.no rfl rfl (WO.no rfl rfl (WO.no rfl rfl (WO.no rfl rfl (WO.no rfl rfl (WO.no rfl rfl (WO.p rfl rfl (WO.p rfl rfl (WO.no rfl rfl (WO.no rfl rfl (WO.no rfl rfl (WO.no rfl rfl ?_)))))))))))
                      refine WO.no rfl rfl (WO.no rfl rfl (WO.no rfl rfl (WO.no rfl rfl (WO.no rfl rfl (WO.no rfl rfl (WO.no rfl rfl (WO.p rfl rfl ?_)))))))
                      refine WO.nil ?_
                      refine W.cond_t rfl ?_
                      refine W.sreg ?_
                      refine WO.p rfl rfl ?_
                      refine WO.nil ?_
                      refine W.ret ?_
                      exact fin.ret (Res.one rfl (RV.tmp rfl)) rfl)
                 · first
                   | (exfalso; omega)
                   | (refine WO.pg rfl rfl rfl (WO.go' rfl (WO.fieldL rfl rfl rfl (WO.go' rfl (WO.load rfl rfl (Cell.own Pick.head rfl) rfl (WO.go' rfl ?_)))))
                      refine' WO.len (n := _) rfl rfl ?hs rfl ?_
                      case hs => (first | exact hR.sl)
                      refine WO.go' rfl (WO.ar rfl rfl rfl (by (first | (unfold in64; omega) | (unfold in64; omega))) rfl (WO.pg rfl rfl rfl (WO.p rfl rfl (WO.p rfl rfl ?_))))
                      refine WO.guard_bl rfl rfl (fun c5 => ?_) (fun c5 => ?_)
                      · first
                        | (exfalso; omega)
                        | (refine WO.no rfl rfl (WO.no rfl rfl (WO.no rfl rfl (WO.no rfl rfl (WO.no rfl rfl (WO.no rfl rfl (WO.no rfl rfl (WO.no rfl rfl (WO.no rfl rfl (WO.no rfl rfl (WO.no rfl rfl (WO.p rfl rfl ?_)))))))))))
                           refine WO.nil ?_
                           refine W.cond_t rfl ?_
                           refine W.sreg ?_
                           refine WO.p rfl rfl ?_
                           refine WO.nil ?_
                           refine W.ret ?_
                           exact fin.ret (Res.one rfl (RV.tmp rfl)) rfl)
                      · first
                        | (exfalso; omega)
                        | (refine WO.go' rfl (WO.field0 rfl rfl rfl (WO.go' rfl (WO.load rfl rfl (Cell.own Pick.head rfl) rfl (WO.pg rfl rfl rfl (WO.pg rfl rfl rfl ?_)))))
                           refine WO.guard_bl rfl rfl (fun c6 => ?_) (fun c6 => ?_)
                           · first
                             | (exfalso; omega)
                             | (refine WO.pg rfl rfl rfl (WO.go' rfl (WO.fieldL rfl rfl rfl (WO.go' rfl (WO.load rfl rfl (Cell.own Pick.head rfl) rfl (WO.go' rfl ?_)))))
                                refine' WO.len (n := _) rfl rfl ?hs rfl ?_
                                case hs => (first | exact hR.sl)
                                refine WO.go' rfl (WO.ar rfl rfl rfl (by (first | (unfold in64; omega) | (unfold in64; omega))) rfl (WO.pg rfl rfl rfl (WO.pg rfl rfl rfl (WO.p rfl rfl ?_))))
                                refine WO.nil ?_
                                refine W.cond_bl rfl (fun c7 => ?_) (fun c7 => ?_)
                                · first
                                  | (exfalso; omega)
                                  | (refine W.sreg ?_
                                     refine WO.p rfl rfl ?_
                                     refine WO.nil ?_
                                     refine W.ret ?_
                                     exact fin.ret (Res.one rfl (RV.tmp rfl)) rfl)
                                · first
                                  | (exfalso; omega)
                                  | (refine W.skip ?_
                                     refine W.seq ?_
                                     refine W.sreg ?_
                                     refine WO.p rfl rfl ?_
                                     refine WO.callR rfl Try.call36 (fun L w hi => ref_Degree w v xs (hX.later hi)) rfl ?_
                                     refine WO.p rfl rfl (WO.p rfl rfl ?_)
                                     refine WO.nil ?_
                                     refine W.cond_bl rfl (fun c8 => ?_) (fun c8 => ?_)
                                     · first
                                       | (exfalso; omega)
                                       | (refine W.sreg ?_
                                          refine WO.callR rfl Try.call12 (fun L w hi => law_Works w) rfl ?_
                                          refine WO.p rfl rfl ?_
                                          refine WO.nil ?_
                                          refine W.ret ?_
                                          exact fin.ret (Res.one rfl (RV.tmp rfl)) rfl)
                                     · first
                                       | (exfalso; omega)
                                       | (refine W.skip ?_
                                          have hq : meanQ m rs (offT rs (tideV xs)) = (0, 1) := off_cancel hv (by omega)
                                          have hG : meanQ m rs (gX (runL rs (gT rs (tideV xs) (n.tmod 20001)))) = (n.tmod 20001, 1) := by rw [ground_mean hv, hq]; simp
                                          refine W.sreg ?_
                                          refine WO.loadA rfl rfl (Cells.own Pick.head) rfl rfl (WO.p rfl rfl ?_)
                                          refine WO.callR (r := .tuple #[.agg #[.int .i64 0, .int .i64 1], .int .i64 0]) rfl Try.call26 (fun L w hi => by have h := c_Off w m o v rs xs (hR.later hi) (hX.later hi); rw [off_tidal hv hx, hq] at h; exact h) rfl ?_
                                          refine WO.p rfl rfl (WO.p rfl rfl (WO.p rfl rfl ?_))
                                          refine WO.alloc rfl rfl rfl (fun b2 hb2 => ?_)
                                          refine WO.storeA rfl rfl rfl rfl Pick.head rfl rfl (WO.p rfl rfl ?_)
                                          refine WO.nil ?_
                                          refine W.seq ?_
                                          refine W.seq ?_
                                          refine W.drawD 5 [.r 0 [], .r 1 [], .r 2 [], .b 3 [], .b 4 []] [] (A0 := []) (Sub.refl _) (by kernel_rfl) ?_ ?_
                                          · exact (ALok.r (ALok.r (ALok.r (ALok.b (ALok.b ALok.nil)))))
                                          refine' DT.r rfl rfl rfl ?hq ?_
                                          case hq =>
                                            refine WO.p rfl rfl ?_
                                            exact WO.nil ⟨rfl, rfl⟩
                                          refine' DT.r rfl rfl rfl ?hq ?_
                                          case hq =>
                                            refine WO.p rfl rfl ?_
                                            exact WO.nil ⟨rfl, rfl⟩
                                          refine' DT.rB rfl rfl rfl ?hq (fun c9 => ?_) (fun c9 => ?_)
                                          case hq =>
                                            refine WO.p rfl rfl ?_
                                            exact WO.nil ⟨rfl, rfl⟩
                                          · first
                                            | (exfalso; omega)
                                            | (refine' DT.b rfl rfl rfl ?hq ?_
                                               case hq =>
                                                 refine WO.no rfl rfl ?_
                                                 exact WO.nil ⟨rfl, rfl⟩
                                               refine' DT.b rfl rfl rfl ?hq ?_
                                               case hq =>
                                                 refine WO.no rfl rfl ?_
                                                 exact WO.nil ⟨rfl, rfl⟩
                                               refine DT.nil [_, _] rfl ?_
                                               refine WO.no rfl rfl (WO.p rfl rfl ?_)
                                               refine WO.nil ?_
                                               refine W.cond_t rfl ?_
                                               refine W.sreg ?_
                                               refine WO.p rfl rfl ?_
                                               refine WO.nil ?_
                                               refine W.ret ?_
                                               exact fin.ret (Res.one rfl (RV.tmp rfl)) rfl)
                                          · first
                                            | (exfalso; omega)
                                            | (refine' DT.b rfl rfl rfl ?hq ?_
                                               case hq =>
                                                 refine WO.go' rfl (WO.loadA rfl rfl (Cells.own Pick.head) rfl rfl ?_)
                                                 exact WO.nil ⟨rfl, rfl⟩
                                               refine' DT.b rfl rfl rfl ?hq ?_
                                               case hq =>
                                                 refine WO.go' rfl ?_
                                                 refine WO.callR rfl Try.call37 (fun L w hi => law_whole w _) rfl ?_
                                                 exact WO.nil ⟨rfl, rfl⟩
                                               refine DT.nil [_, _] rfl ?_
                                               refine WO.go' rfl ?_
                                               refine WO.eqT rfl rfl (ne36f _ _) rfl ?_
                                               refine WO.p rfl rfl ?_
                                               refine WO.nil ?_
                                               refine W.cond_f rfl ?_
                                               refine W.skip ?_
                                               refine W.sreg ?_
                                               refine WO.p rfl rfl (WO.conv64 rfl rfl rfl (by (first | (unfold in64; omega) | (unfold in64; omega))) rfl (WO.rem rfl rfl (by first | omega | assumption) rfl (WO.p rfl rfl ?_)))
                                               refine WO.nil ?_
                                               refine W.seq ?_
                                               refine W.drawD 11 [.b 0 [], .b 1 [], .r 2 [], .r 3 [], .c 4 [], .c 5 [], .r 6 [], .r 7 [], .r 8 [], .a 9 11 (.cells #[.int .i64 0, .slice none 0 0] 24 (0, 0)), .s 10 []] [] (A0 := []) (Sub.refl _) (by kernel_rfl) ?_ ?_
                                               · exact (ALok.b (ALok.b (ALok.r (ALok.r (ALok.c (ALok.c (ALok.r (ALok.r (ALok.r (ALok.cons rfl rfl rfl rfl rfl (ALok.s ALok.nil)))))))))))
                                               refine' DT.b rfl rfl rfl ?hq ?_
                                               case hq =>
                                                 refine WO.loadA rfl rfl (Cells.own (Pick.tail (Pick.head))) rfl rfl ?_
                                                 exact WO.nil ⟨rfl, rfl⟩
                                               refine' DT.b rfl rfl rfl ?hq ?_
                                               case hq =>
                                                 refine WO.loadA rfl rfl (Cells.own (Pick.tail (Pick.head))) rfl rfl ?_
                                                 exact WO.nil ⟨rfl, rfl⟩
                                               refine' DT.r rfl rfl rfl ?hq ?_
                                               case hq =>
                                                 refine WO.p rfl rfl ?_
                                                 exact WO.nil ⟨rfl, rfl⟩
                                               refine' DT.r rfl rfl rfl ?hq ?_
                                               case hq =>
                                                 refine WO.p rfl rfl ?_
                                                 exact WO.nil ⟨rfl, rfl⟩
                                               refine DT.c [_, _] rfl rfl rfl rfl ?_
                                               refine WO.call (Post := fun r Hq => Hq = [OwE encI 2 1 r (runL rs (gT rs (tideV xs) (n.tmod 20001)))]) rfl Try.call39 (fun L w hi => law_Ground w m (n.tmod 20001) o v rs xs (hR.later hi) (hX.later hi) hv hx ⟨by omega, by omega⟩) rfl ?_
                                               rintro gv _ rfl
                                               refine WO.nil ⟨_, [_], rfl, rfl, (Keep.r (Keep.r (Keep.b (Keep.b Keep.nil)))), ?_⟩
                                               refine DT.c [_, _, _] rfl rfl rfl rfl ?_
                                               refine WO.call (Post := fun r Hq => ∃ x : Value × Bool × List (Int × Int × Int), (r = .tuple #[.agg #[.int .i64 m, x.1], .bool x.2.1] ∧ (x.2.1 = true → x.2.2 = withL rs (runL rs (gT rs (tideV xs) (n.tmod 20001))) ∧ sp20 (runL rs (gT rs (tideV xs) (n.tmod 20001)))) ∧ (x.2.1 = false → ¬ sp20 (runL rs (gT rs (tideV xs) (n.tmod 20001))))) ∧ Hq = [OwE encR 66 3 x.1 x.2.2]) rfl Try.call38 (fun L w hi => law_with w m o gv rs (runL rs (gT rs (tideV xs) (n.tmod 20001))) (hR.later hi) (RdF.of_ow (e := 2) encI_ok (by repeat (first | exact Pick.head | apply Pick.tail)) hi) (by omega) (by omega)) rfl ?_
                                               rintro _ _ ⟨⟨xo, bt, rx⟩, ⟨rfl, hxt, hxf⟩, rfl⟩
                                               dsimp only at hxt hxf ⊢
                                               refine WO.fact (OwE.form (enc := encR) (e := 66) (sz := 3) (xs := rx) (by repeat (first | exact Pick.head | apply Pick.tail))) (fun hf => ?_)
                                               obtain ⟨a1, c1, rfl⟩ := hf
                                               refine WO.nil ⟨_, [_, _], rfl, rfl, (Keep.c (Keep.r (Keep.r (Keep.b (Keep.b Keep.nil))))), ?_⟩
                                               refine' DT.r rfl rfl rfl ?hq ?_
                                               case hq =>
                                                 refine WO.p rfl rfl ?_
                                                 exact WO.nil ⟨rfl, rfl⟩
                                               refine' DT.r rfl rfl rfl ?hq ?_
                                               case hq =>
                                                 refine WO.p rfl rfl ?_
                                                 exact WO.nil ⟨rfl, rfl⟩
                                               refine' DT.r rfl rfl rfl ?hq ?_
                                               case hq =>
                                                 refine WO.p rfl rfl ?_
                                                 exact WO.nil ⟨rfl, rfl⟩
                                               refine DT.a (fun b3 => ?_)
                                               refine DT.s [_, _, _, _, _] rfl rfl rfl ?_
                                               refine WO.storeA rfl rfl rfl rfl Pick.head rfl rfl ?_
                                               refine WO.nil ⟨[_, _, _], rfl, rfl, (Keep.a (Keep.r (Keep.r (Keep.r (Keep.c (Keep.c (Keep.r (Keep.r (Keep.b (Keep.b Keep.nil)))))))))), ?_⟩
                                               refine DT.nil [_, _, _, _, _] rfl ?_
                                               refine WO.p rfl rfl ?_
                                               refine WO.nil ?_
                                               refine W.seq ?_
                                               refine W.sreg ?_
                                               refine WO.p rfl rfl (WO.p rfl rfl ?_)
                                               refine WO.nil ?_
                                               refine W.cond rfl (fun c10 => ?_) (fun c10 => ?_)
                                               · first
                                                 | (exfalso; omega)
                                                 | (refine W.sreg ?_
                                                    refine WO.callR rfl Try.call12 (fun L w hi => law_Works w) rfl ?_
                                                    refine WO.p rfl rfl ?_
                                                    refine WO.nil ?_
                                                    refine W.ret ?_
                                                    exact fin.ret (Res.one rfl (RV.tmp rfl)) rfl)
                                               · first
                                                 | (exfalso; omega)
                                                 | (refine W.skip ?_
                                                    refine W.seq ?_
                                                    have hbt : bt = true := by first | assumption | (cases bt <;> simp_all)
                                                    obtain ⟨rfl, hsp⟩ := hxt hbt
                                                    refine W.drawD 9 [.b 0 [], .b 1 [], .c 2 [], .f 3 [], .r 4 [], .r 5 [], .r 6 [], .a 7 13 (.cells #[.int .i64 0, .int .i64 0] 36 (0, 0)), .s 8 []] [] (A0 := []) (Sub.refl _) (by kernel_rfl) ?_ ?_
                                                    · exact (ALok.b (ALok.b (ALok.c (ALok.f (ALok.r (ALok.r (ALok.r (ALok.cons rfl rfl rfl rfl rfl (ALok.s ALok.nil)))))))))
                                                    refine' DT.b rfl rfl rfl ?hq ?_
                                                    case hq =>
                                                      refine WO.loadA rfl rfl (Cells.own Pick.head) rfl rfl ?_
                                                      exact WO.nil ⟨rfl, rfl⟩
                                                    refine' DT.b rfl rfl rfl ?hq ?_
                                                    case hq =>
                                                      refine WO.loadA rfl rfl (Cells.own Pick.head) rfl rfl ?_
                                                      exact WO.nil ⟨rfl, rfl⟩
                                                    refine DT.c [_, _, _, _, _] rfl rfl rfl rfl ?_
                                                    refine WO.call (Post := fun r Hq => Hq = [OwE encI 2 1 r (runL rs (gT rs (tideV xs) (n.tmod 20001)))]) rfl Try.call40 (fun L w hi => by have h := law_True w m (.slice a1 (withL rs (runL rs (gT rs (tideV xs) (n.tmod 20001)))).length c1) (.slice none 0 0) (withL rs (runL rs (gT rs (tideV xs) (n.tmod 20001)))) [] (RdF.of_ow (e := 66) encR_ok (by repeat (first | exact Pick.head | apply Pick.tail)) hi) RdF.nil0 (with_VT hv hlen hsp) (by simp) (by simp); rw [with_true hlen] at h; exact h) rfl ?_
                                                    rintro yv _ rfl
                                                    refine WO.nil ⟨_, [_], rfl, rfl, (Keep.b (Keep.b Keep.nil)), ?_⟩
                                                    refine' DT.f [_, _, _, _, _, _] rfl rfl rfl rfl ?hq ?_
                                                    case hq =>
                                                      refine WO.callR (r := .tuple #[.agg #[.int .i64 (n.tmod 20001), .int .i64 1], .int .i64 0]) rfl Try.call22 (fun L w hi => by have h := c_Mean w m (.slice a1 (withL rs (runL rs (gT rs (tideV xs) (n.tmod 20001)))).length c1) yv (withL rs (runL rs (gT rs (tideV xs) (n.tmod 20001)))) (runL rs (gT rs (tideV xs) (n.tmod 20001))) (RdF.of_ow (e := 66) encR_ok (by repeat (first | exact Pick.head | apply Pick.tail)) hi) (RdF.of_ow (e := 2) encI_ok (by repeat (first | exact Pick.head | apply Pick.tail)) hi); rw [with_meanR hv hlen hsp, hG] at h; exact h) rfl ?_
                                                      exact WO.nil ⟨rfl, rfl⟩
                                                    refine' DT.r rfl rfl rfl ?hq ?_
                                                    case hq =>
                                                      refine WO.p rfl rfl ?_
                                                      exact WO.nil ⟨rfl, rfl⟩
                                                    refine' DT.r rfl rfl rfl ?hq ?_
                                                    case hq =>
                                                      refine WO.p rfl rfl ?_
                                                      exact WO.nil ⟨rfl, rfl⟩
                                                    refine' DT.r rfl rfl rfl ?hq ?_
                                                    case hq =>
                                                      refine WO.p rfl rfl ?_
                                                      exact WO.nil ⟨rfl, rfl⟩
                                                    refine DT.a (fun b4 => ?_)
                                                    refine DT.s [_, _, _, _, _, _, _] rfl rfl rfl ?_
                                                    refine WO.storeA rfl rfl rfl rfl Pick.head rfl rfl ?_
                                                    refine WO.nil ⟨[_, _], rfl, rfl, (Keep.a (Keep.r (Keep.r (Keep.r (Keep.f (Keep.c (Keep.b (Keep.b Keep.nil)))))))), ?_⟩
                                                    refine DT.nil [_, _, _, _, _, _, _] rfl ?_
                                                    refine WO.p rfl rfl ?_
                                                    refine WO.nil ?_
                                                    refine W.sreg ?_
                                                    refine WO.loadA rfl rfl (Cells.own (Pick.tail (Pick.tail (Pick.head)))) rfl rfl ?_
                                                    refine WO.callR (r := .tuple #[.agg #[.int .i64 (n.tmod 20001), .int .i64 1, .int .i64 (n.tmod 20001), .int .i64 1], .int .i64 0]) rfl Try.call24 (fun L w hi => by have h := c_Span w m (.slice a1 (withL rs (runL rs (gT rs (tideV xs) (n.tmod 20001)))).length c1) (withL rs (runL rs (gT rs (tideV xs) (n.tmod 20001)))) (RdF.of_ow (e := 66) encR_ok (by repeat (first | exact Pick.head | apply Pick.tail)) hi); rw [with_spanR hv hlen hsp, hG] at h; exact h) rfl ?_
                                                    refine WO.p rfl rfl (WO.p rfl rfl (WO.p rfl rfl ?_))
                                                    refine WO.alloc rfl rfl rfl (fun b5 hb5 => ?_)
                                                    refine WO.storeA rfl rfl rfl rfl Pick.head rfl rfl (WO.p rfl rfl ?_)
                                                    refine WO.nil ?_
                                                    refine W.seq ?_
                                                    refine W.drawD 17 [.r 0 [], .r 1 [], .r 2 [], .r 3 [], .r 4 [], .r 5 [], .r 6 [], .b 7 [], .r 8 [], .b 9 [], .r 10 [], .r 11 [], .r 12 [], .b 13 [], .b 14 [], .b 15 [], .r 16 []] [] (A0 := []) (Sub.refl _) (by kernel_rfl) ?_ ?_
                                                    · exact (ALok.r (ALok.r (ALok.r (ALok.r (ALok.r (ALok.r (ALok.r (ALok.b (ALok.r (ALok.b (ALok.r (ALok.r (ALok.r (ALok.b (ALok.b (ALok.b (ALok.r ALok.nil)))))))))))))))))
                                                    refine' DT.r rfl rfl rfl ?hq ?_
                                                    case hq =>
                                                      refine WO.p rfl rfl ?_
                                                      exact WO.nil ⟨rfl, rfl⟩
                                                    refine' DT.r rfl rfl rfl ?hq ?_
                                                    case hq =>
                                                      refine WO.p rfl rfl ?_
                                                      exact WO.nil ⟨rfl, rfl⟩
                                                    refine' DT.rB rfl rfl rfl ?hq (fun c11 => ?_) (fun c11 => ?_)
                                                    case hq =>
                                                      refine WO.p rfl rfl ?_
                                                      exact WO.nil ⟨rfl, rfl⟩
                                                    · first
                                                      | (exfalso; omega)
                                                      | (refine' DT.r rfl rfl rfl ?hq ?_
                                                         case hq =>
                                                           refine WO.pg rfl rfl rfl ?_
                                                           exact WO.nil ⟨rfl, rfl⟩
                                                         refine' DT.r rfl rfl rfl ?hq ?_
                                                         case hq =>
                                                           refine WO.pg rfl rfl rfl ?_
                                                           exact WO.nil ⟨rfl, rfl⟩
                                                         refine' DT.r rfl rfl rfl ?hq ?_
                                                         case hq =>
                                                           refine WO.p rfl rfl ?_
                                                           exact WO.nil ⟨rfl, rfl⟩
                                                         refine' DT.rB rfl rfl rfl ?hq (fun c12 => ?_) (fun c12 => ?_)
                                                         case hq =>
                                                           refine WO.p rfl rfl ?_
                                                           exact WO.nil ⟨rfl, rfl⟩
                                                         · first
                                                           | (exfalso; omega)
                                                           | (refine' DT.b rfl rfl rfl ?hq ?_
                                                              case hq =>
                                                                refine WO.go' rfl (WO.loadA rfl rfl (Cells.own (Pick.tail (Pick.head))) rfl rfl ?_)
                                                                exact WO.nil ⟨rfl, rfl⟩
                                                              refine' DT.r rfl rfl rfl ?hq ?_
                                                              case hq =>
                                                                refine WO.pg rfl rfl rfl ?_
                                                                exact WO.nil ⟨rfl, rfl⟩
                                                              refine' DT.b rfl rfl rfl ?hq ?_
                                                              case hq =>
                                                                refine WO.go' rfl ?_
                                                                refine WO.callR rfl Try.call37 (fun L w hi => law_whole w _) rfl ?_
                                                                exact WO.nil ⟨rfl, rfl⟩
                                                              refine' DT.r rfl rfl rfl ?hq ?_
                                                              case hq =>
                                                                refine WO.go' rfl ?_
                                                                refine WO.eqT rfl rfl (eq36t _ _) rfl ?_
                                                                exact WO.nil ⟨rfl, rfl⟩
                                                              refine' DT.r rfl rfl rfl ?hq ?_
                                                              case hq =>
                                                                refine WO.p rfl rfl ?_
                                                                exact WO.nil ⟨rfl, rfl⟩
                                                              refine' DT.r rfl rfl rfl ?hq ?_
                                                              case hq =>
                                                                refine WO.p rfl rfl ?_
                                                                exact WO.nil ⟨rfl, rfl⟩
                                                              refine' DT.b rfl rfl rfl ?hq ?_
                                                              case hq =>
                                                                refine WO.go' rfl (WO.loadA rfl rfl (Cells.own Pick.head) rfl rfl ?_)
                                                                exact WO.nil ⟨rfl, rfl⟩
                                                              refine' DT.b rfl rfl rfl ?hq ?_
                                                              case hq =>
                                                                refine WO.go' rfl (WO.loadA rfl rfl (Cells.own (Pick.tail (Pick.head))) rfl rfl ?_)
                                                                exact WO.nil ⟨rfl, rfl⟩
                                                              refine' DT.b rfl rfl rfl ?hq ?_
                                                              case hq =>
                                                                refine WO.go' rfl (WO.loadA rfl rfl (Cells.own (Pick.tail (Pick.head))) rfl rfl ?_)
                                                                exact WO.nil ⟨rfl, rfl⟩
                                                              refine' DT.r rfl rfl rfl ?hq ?_
                                                              case hq =>
                                                                refine WO.go' rfl ?_
                                                                refine' WO.build (cs := _) rfl rfl rfl ?hf rfl ?_
                                                                case hf => (conv => lhs; simp [-List.getD_eq_getElem?_getD, fillL, vcl, wrl, TTab.pl?.lget']) <;> rfl
                                                                exact WO.nil ⟨rfl, rfl⟩
                                                              refine DT.nil [_, _, _, _, _, _, _, _] rfl ?_
                                                              refine WO.go' rfl ?_
                                                              refine WO.eqT rfl rfl (eq40t _ _ _ _) rfl ?_
                                                              refine WO.p rfl rfl (WO.p rfl rfl (WO.go' rfl ?_))
                                                              refine WO.callR rfl Try.call12 (fun L w hi => law_Works w) rfl ?_
                                                              refine WO.p rfl rfl (WO.p rfl rfl ?_)
                                                              refine WO.nil ?_
                                                              refine W.ret ?_
                                                              exact fin.ret (Res.one rfl (RV.tmp rfl)) rfl)
                                                         · first
                                                           | (exfalso; omega)
                                                           | (refine' DT.b rfl rfl rfl ?hq ?_
                                                              case hq =>
                                                                refine WO.no rfl rfl ?_
                                                                exact WO.nil ⟨rfl, rfl⟩
                                                              refine' DT.r rfl rfl rfl ?hq ?_
                                                              case hq =>
                                                                refine WO.no rfl rfl ?_
                                                                exact WO.nil ⟨rfl, rfl⟩
                                                              refine' DT.b rfl rfl rfl ?hq ?_
                                                              case hq =>
                                                                refine WO.no rfl rfl ?_
                                                                exact WO.nil ⟨rfl, rfl⟩
                                                              refine' DT.r rfl rfl rfl ?hq ?_
                                                              case hq =>
                                                                refine WO.no rfl rfl ?_
                                                                exact WO.nil ⟨rfl, rfl⟩
                                                              refine' DT.r rfl rfl rfl ?hq ?_
                                                              case hq =>
                                                                refine WO.p rfl rfl ?_
                                                                exact WO.nil ⟨rfl, rfl⟩
                                                              refine' DT.r rfl rfl rfl ?hq ?_
                                                              case hq =>
                                                                refine WO.p rfl rfl ?_
                                                                exact WO.nil ⟨rfl, rfl⟩
                                                              refine' DT.b rfl rfl rfl ?hq ?_
                                                              case hq =>
                                                                refine WO.no rfl rfl ?_
                                                                exact WO.nil ⟨rfl, rfl⟩
                                                              refine' DT.b rfl rfl rfl ?hq ?_
                                                              case hq =>
                                                                refine WO.no rfl rfl ?_
                                                                exact WO.nil ⟨rfl, rfl⟩
                                                              refine' DT.b rfl rfl rfl ?hq ?_
                                                              case hq =>
                                                                refine WO.no rfl rfl ?_
                                                                exact WO.nil ⟨rfl, rfl⟩
                                                              refine' DT.r rfl rfl rfl ?hq ?_
                                                              case hq =>
                                                                refine WO.no rfl rfl ?_
                                                                exact WO.nil ⟨rfl, rfl⟩
                                                              refine DT.nil [_, _, _, _, _, _, _, _] rfl ?_
                                                              refine WO.no rfl rfl (WO.p rfl rfl (WO.p rfl rfl (WO.no rfl rfl (WO.p rfl rfl (WO.p rfl rfl ?_)))))
                                                              refine WO.nil ?_
                                                              refine W.ret ?_
                                                              exact fin.ret (Res.one rfl (RV.tmp rfl)) rfl))
                                                    · first
                                                      | (exfalso; omega)
                                                      | (refine' DT.r rfl rfl rfl ?hq ?_
                                                         case hq =>
                                                           refine WO.no rfl rfl ?_
                                                           exact WO.nil ⟨rfl, rfl⟩
                                                         refine' DT.r rfl rfl rfl ?hq ?_
                                                         case hq =>
                                                           refine WO.no rfl rfl ?_
                                                           exact WO.nil ⟨rfl, rfl⟩
                                                         refine' DT.r rfl rfl rfl ?hq ?_
                                                         case hq =>
                                                           refine WO.p rfl rfl ?_
                                                           exact WO.nil ⟨rfl, rfl⟩
                                                         refine' DT.r rfl rfl rfl ?hq ?_
                                                         case hq =>
                                                           refine WO.p rfl rfl ?_
                                                           exact WO.nil ⟨rfl, rfl⟩
                                                         refine' DT.b rfl rfl rfl ?hq ?_
                                                         case hq =>
                                                           refine WO.no rfl rfl ?_
                                                           exact WO.nil ⟨rfl, rfl⟩
                                                         refine' DT.r rfl rfl rfl ?hq ?_
                                                         case hq =>
                                                           refine WO.no rfl rfl ?_
                                                           exact WO.nil ⟨rfl, rfl⟩
                                                         refine' DT.b rfl rfl rfl ?hq ?_
                                                         case hq =>
                                                           refine WO.no rfl rfl ?_
                                                           exact WO.nil ⟨rfl, rfl⟩
                                                         refine' DT.r rfl rfl rfl ?hq ?_
                                                         case hq =>
                                                           refine WO.no rfl rfl ?_
                                                           exact WO.nil ⟨rfl, rfl⟩
                                                         refine' DT.r rfl rfl rfl ?hq ?_
                                                         case hq =>
                                                           refine WO.p rfl rfl ?_
                                                           exact WO.nil ⟨rfl, rfl⟩
                                                         refine' DT.r rfl rfl rfl ?hq ?_
                                                         case hq =>
                                                           refine WO.p rfl rfl ?_
                                                           exact WO.nil ⟨rfl, rfl⟩
                                                         refine' DT.b rfl rfl rfl ?hq ?_
                                                         case hq =>
                                                           refine WO.no rfl rfl ?_
                                                           exact WO.nil ⟨rfl, rfl⟩
                                                         refine' DT.b rfl rfl rfl ?hq ?_
                                                         case hq =>
                                                           refine WO.no rfl rfl ?_
                                                           exact WO.nil ⟨rfl, rfl⟩
                                                         refine' DT.b rfl rfl rfl ?hq ?_
                                                         case hq =>
                                                           refine WO.no rfl rfl ?_
                                                           exact WO.nil ⟨rfl, rfl⟩
                                                         refine' DT.r rfl rfl rfl ?hq ?_
                                                         case hq =>
                                                           refine WO.no rfl rfl ?_
                                                           exact WO.nil ⟨rfl, rfl⟩
                                                         refine DT.nil [_, _, _, _, _, _, _, _] rfl ?_
                                                         refine WO.no rfl rfl (WO.p rfl rfl (WO.p rfl rfl (WO.no rfl rfl (WO.p rfl rfl (WO.p rfl rfl ?_)))))
                                                         refine WO.nil ?_
                                                         refine W.ret ?_
                                                         exact fin.ret (Res.one rfl (RV.tmp rfl)) rfl))))))
                           · first
                             | (exfalso; omega)
                             | (refine WO.no rfl rfl (WO.no rfl rfl (WO.no rfl rfl (WO.no rfl rfl (WO.no rfl rfl (WO.no rfl rfl (WO.pg rfl rfl rfl (WO.p rfl rfl ?_)))))))
                                refine WO.nil ?_
                                refine W.cond_f rfl ?_
                                refine W.skip ?_
                                refine W.seq ?_
                                refine W.sreg ?_
                                refine WO.p rfl rfl ?_
                                refine WO.callR rfl Try.call36 (fun L w hi => ref_Degree w v xs (hX.later hi)) rfl ?_
                                refine WO.p rfl rfl (WO.p rfl rfl ?_)
                                refine WO.nil ?_
                                refine W.cond_bl rfl (fun c13 => ?_) (fun c13 => ?_)
                                · first
                                  | (exfalso; omega)
                                  | (refine W.sreg ?_
                                     refine WO.callR rfl Try.call12 (fun L w hi => law_Works w) rfl ?_
                                     refine WO.p rfl rfl ?_
                                     refine WO.nil ?_
                                     refine W.ret ?_
                                     exact fin.ret (Res.one rfl (RV.tmp rfl)) rfl)
                                · first
                                  | (exfalso; omega)
                                  | (refine W.skip ?_
                                     have hq : meanQ m rs (offT rs (tideV xs)) = (0, 1) := off_cancel hv (by omega)
                                     have hG : meanQ m rs (gX (runL rs (gT rs (tideV xs) (n.tmod 20001)))) = (n.tmod 20001, 1) := by rw [ground_mean hv, hq]; simp
                                     refine W.sreg ?_
                                     refine WO.loadA rfl rfl (Cells.own Pick.head) rfl rfl (WO.p rfl rfl ?_)
                                     refine WO.callR (r := .tuple #[.agg #[.int .i64 0, .int .i64 1], .int .i64 0]) rfl Try.call26 (fun L w hi => by have h := c_Off w m o v rs xs (hR.later hi) (hX.later hi); rw [off_tidal hv hx, hq] at h; exact h) rfl ?_
                                     refine WO.p rfl rfl (WO.p rfl rfl (WO.p rfl rfl ?_))
                                     refine WO.alloc rfl rfl rfl (fun b6 hb6 => ?_)
                                     refine WO.storeA rfl rfl rfl rfl Pick.head rfl rfl (WO.p rfl rfl ?_)
                                     refine WO.nil ?_
                                     refine W.seq ?_
                                     refine W.seq ?_
                                     refine W.drawD 5 [.r 0 [], .r 1 [], .r 2 [], .b 3 [], .b 4 []] [] (A0 := []) (Sub.refl _) (by kernel_rfl) ?_ ?_
                                     · exact (ALok.r (ALok.r (ALok.r (ALok.b (ALok.b ALok.nil)))))
                                     refine' DT.r rfl rfl rfl ?hq ?_
                                     case hq =>
                                       refine WO.p rfl rfl ?_
                                       exact WO.nil ⟨rfl, rfl⟩
                                     refine' DT.r rfl rfl rfl ?hq ?_
                                     case hq =>
                                       refine WO.p rfl rfl ?_
                                       exact WO.nil ⟨rfl, rfl⟩
                                     refine' DT.rB rfl rfl rfl ?hq (fun c14 => ?_) (fun c14 => ?_)
                                     case hq =>
                                       refine WO.p rfl rfl ?_
                                       exact WO.nil ⟨rfl, rfl⟩
                                     · first
                                       | (exfalso; omega)
                                       | (refine' DT.b rfl rfl rfl ?hq ?_
                                          case hq =>
                                            refine WO.no rfl rfl ?_
                                            exact WO.nil ⟨rfl, rfl⟩
                                          refine' DT.b rfl rfl rfl ?hq ?_
                                          case hq =>
                                            refine WO.no rfl rfl ?_
                                            exact WO.nil ⟨rfl, rfl⟩
                                          refine DT.nil [_, _] rfl ?_
                                          refine WO.no rfl rfl (WO.p rfl rfl ?_)
                                          refine WO.nil ?_
                                          refine W.cond_t rfl ?_
                                          refine W.sreg ?_
                                          refine WO.p rfl rfl ?_
                                          refine WO.nil ?_
                                          refine W.ret ?_
                                          exact fin.ret (Res.one rfl (RV.tmp rfl)) rfl)
                                     · first
                                       | (exfalso; omega)
                                       | (refine' DT.b rfl rfl rfl ?hq ?_
                                          case hq =>
                                            refine WO.go' rfl (WO.loadA rfl rfl (Cells.own Pick.head) rfl rfl ?_)
                                            exact WO.nil ⟨rfl, rfl⟩
                                          refine' DT.b rfl rfl rfl ?hq ?_
                                          case hq =>
                                            refine WO.go' rfl ?_
                                            refine WO.callR rfl Try.call37 (fun L w hi => law_whole w _) rfl ?_
                                            exact WO.nil ⟨rfl, rfl⟩
                                          refine DT.nil [_, _] rfl ?_
                                          refine WO.go' rfl ?_
                                          refine WO.eqT rfl rfl (ne36f _ _) rfl ?_
                                          refine WO.p rfl rfl ?_
                                          refine WO.nil ?_
                                          refine W.cond_f rfl ?_
                                          refine W.skip ?_
                                          refine W.sreg ?_
                                          refine WO.p rfl rfl (WO.conv64 rfl rfl rfl (by (first | (unfold in64; omega) | (unfold in64; omega))) rfl (WO.rem rfl rfl (by first | omega | assumption) rfl (WO.p rfl rfl ?_)))
                                          refine WO.nil ?_
                                          refine W.seq ?_
                                          refine W.drawD 11 [.b 0 [], .b 1 [], .r 2 [], .r 3 [], .c 4 [], .c 5 [], .r 6 [], .r 7 [], .r 8 [], .a 9 11 (.cells #[.int .i64 0, .slice none 0 0] 24 (0, 0)), .s 10 []] [] (A0 := []) (Sub.refl _) (by kernel_rfl) ?_ ?_
                                          · exact (ALok.b (ALok.b (ALok.r (ALok.r (ALok.c (ALok.c (ALok.r (ALok.r (ALok.r (ALok.cons rfl rfl rfl rfl rfl (ALok.s ALok.nil)))))))))))
                                          refine' DT.b rfl rfl rfl ?hq ?_
                                          case hq =>
                                            refine WO.loadA rfl rfl (Cells.own (Pick.tail (Pick.head))) rfl rfl ?_
                                            exact WO.nil ⟨rfl, rfl⟩
                                          refine' DT.b rfl rfl rfl ?hq ?_
                                          case hq =>
                                            refine WO.loadA rfl rfl (Cells.own (Pick.tail (Pick.head))) rfl rfl ?_
                                            exact WO.nil ⟨rfl, rfl⟩
                                          refine' DT.r rfl rfl rfl ?hq ?_
                                          case hq =>
                                            refine WO.p rfl rfl ?_
                                            exact WO.nil ⟨rfl, rfl⟩
                                          refine' DT.r rfl rfl rfl ?hq ?_
                                          case hq =>
                                            refine WO.p rfl rfl ?_
                                            exact WO.nil ⟨rfl, rfl⟩
                                          refine DT.c [_, _] rfl rfl rfl rfl ?_
                                          refine WO.call (Post := fun r Hq => Hq = [OwE encI 2 1 r (runL rs (gT rs (tideV xs) (n.tmod 20001)))]) rfl Try.call39 (fun L w hi => law_Ground w m (n.tmod 20001) o v rs xs (hR.later hi) (hX.later hi) hv hx ⟨by omega, by omega⟩) rfl ?_
                                          rintro gv _ rfl
                                          refine WO.nil ⟨_, [_], rfl, rfl, (Keep.r (Keep.r (Keep.b (Keep.b Keep.nil)))), ?_⟩
                                          refine DT.c [_, _, _] rfl rfl rfl rfl ?_
                                          refine WO.call (Post := fun r Hq => ∃ x : Value × Bool × List (Int × Int × Int), (r = .tuple #[.agg #[.int .i64 m, x.1], .bool x.2.1] ∧ (x.2.1 = true → x.2.2 = withL rs (runL rs (gT rs (tideV xs) (n.tmod 20001))) ∧ sp20 (runL rs (gT rs (tideV xs) (n.tmod 20001)))) ∧ (x.2.1 = false → ¬ sp20 (runL rs (gT rs (tideV xs) (n.tmod 20001))))) ∧ Hq = [OwE encR 66 3 x.1 x.2.2]) rfl Try.call38 (fun L w hi => law_with w m o gv rs (runL rs (gT rs (tideV xs) (n.tmod 20001))) (hR.later hi) (RdF.of_ow (e := 2) encI_ok (by repeat (first | exact Pick.head | apply Pick.tail)) hi) (by omega) (by omega)) rfl ?_
                                          rintro _ _ ⟨⟨xo, bt, rx⟩, ⟨rfl, hxt, hxf⟩, rfl⟩
                                          dsimp only at hxt hxf ⊢
                                          refine WO.fact (OwE.form (enc := encR) (e := 66) (sz := 3) (xs := rx) (by repeat (first | exact Pick.head | apply Pick.tail))) (fun hf => ?_)
                                          obtain ⟨a1, c1, rfl⟩ := hf
                                          refine WO.nil ⟨_, [_, _], rfl, rfl, (Keep.c (Keep.r (Keep.r (Keep.b (Keep.b Keep.nil))))), ?_⟩
                                          refine' DT.r rfl rfl rfl ?hq ?_
                                          case hq =>
                                            refine WO.p rfl rfl ?_
                                            exact WO.nil ⟨rfl, rfl⟩
                                          refine' DT.r rfl rfl rfl ?hq ?_
                                          case hq =>
                                            refine WO.p rfl rfl ?_
                                            exact WO.nil ⟨rfl, rfl⟩
                                          refine' DT.r rfl rfl rfl ?hq ?_
                                          case hq =>
                                            refine WO.p rfl rfl ?_
                                            exact WO.nil ⟨rfl, rfl⟩
                                          refine DT.a (fun b7 => ?_)
                                          refine DT.s [_, _, _, _, _] rfl rfl rfl ?_
                                          refine WO.storeA rfl rfl rfl rfl Pick.head rfl rfl ?_
                                          refine WO.nil ⟨[_, _, _], rfl, rfl, (Keep.a (Keep.r (Keep.r (Keep.r (Keep.c (Keep.c (Keep.r (Keep.r (Keep.b (Keep.b Keep.nil)))))))))), ?_⟩
                                          refine DT.nil [_, _, _, _, _] rfl ?_
                                          refine WO.p rfl rfl ?_
                                          refine WO.nil ?_
                                          refine W.seq ?_
                                          refine W.sreg ?_
                                          refine WO.p rfl rfl (WO.p rfl rfl ?_)
                                          refine WO.nil ?_
                                          refine W.cond rfl (fun c15 => ?_) (fun c15 => ?_)
                                          · first
                                            | (exfalso; omega)
                                            | (refine W.sreg ?_
                                               refine WO.callR rfl Try.call12 (fun L w hi => law_Works w) rfl ?_
                                               refine WO.p rfl rfl ?_
                                               refine WO.nil ?_
                                               refine W.ret ?_
                                               exact fin.ret (Res.one rfl (RV.tmp rfl)) rfl)
                                          · first
                                            | (exfalso; omega)
                                            | (refine W.skip ?_
                                               refine W.seq ?_
                                               have hbt : bt = true := by first | assumption | (cases bt <;> simp_all)
                                               obtain ⟨rfl, hsp⟩ := hxt hbt
                                               refine W.drawD 9 [.b 0 [], .b 1 [], .c 2 [], .f 3 [], .r 4 [], .r 5 [], .r 6 [], .a 7 13 (.cells #[.int .i64 0, .int .i64 0] 36 (0, 0)), .s 8 []] [] (A0 := []) (Sub.refl _) (by kernel_rfl) ?_ ?_
                                               · exact (ALok.b (ALok.b (ALok.c (ALok.f (ALok.r (ALok.r (ALok.r (ALok.cons rfl rfl rfl rfl rfl (ALok.s ALok.nil)))))))))
                                               refine' DT.b rfl rfl rfl ?hq ?_
                                               case hq =>
                                                 refine WO.loadA rfl rfl (Cells.own Pick.head) rfl rfl ?_
                                                 exact WO.nil ⟨rfl, rfl⟩
                                               refine' DT.b rfl rfl rfl ?hq ?_
                                               case hq =>
                                                 refine WO.loadA rfl rfl (Cells.own Pick.head) rfl rfl ?_
                                                 exact WO.nil ⟨rfl, rfl⟩
                                               refine DT.c [_, _, _, _, _] rfl rfl rfl rfl ?_
                                               refine WO.call (Post := fun r Hq => Hq = [OwE encI 2 1 r (runL rs (gT rs (tideV xs) (n.tmod 20001)))]) rfl Try.call40 (fun L w hi => by have h := law_True w m (.slice a1 (withL rs (runL rs (gT rs (tideV xs) (n.tmod 20001)))).length c1) (.slice none 0 0) (withL rs (runL rs (gT rs (tideV xs) (n.tmod 20001)))) [] (RdF.of_ow (e := 66) encR_ok (by repeat (first | exact Pick.head | apply Pick.tail)) hi) RdF.nil0 (with_VT hv hlen hsp) (by simp) (by simp); rw [with_true hlen] at h; exact h) rfl ?_
                                               rintro yv _ rfl
                                               refine WO.nil ⟨_, [_], rfl, rfl, (Keep.b (Keep.b Keep.nil)), ?_⟩
                                               refine' DT.f [_, _, _, _, _, _] rfl rfl rfl rfl ?hq ?_
                                               case hq =>
                                                 refine WO.callR (r := .tuple #[.agg #[.int .i64 (n.tmod 20001), .int .i64 1], .int .i64 0]) rfl Try.call22 (fun L w hi => by have h := c_Mean w m (.slice a1 (withL rs (runL rs (gT rs (tideV xs) (n.tmod 20001)))).length c1) yv (withL rs (runL rs (gT rs (tideV xs) (n.tmod 20001)))) (runL rs (gT rs (tideV xs) (n.tmod 20001))) (RdF.of_ow (e := 66) encR_ok (by repeat (first | exact Pick.head | apply Pick.tail)) hi) (RdF.of_ow (e := 2) encI_ok (by repeat (first | exact Pick.head | apply Pick.tail)) hi); rw [with_meanR hv hlen hsp, hG] at h; exact h) rfl ?_
                                                 exact WO.nil ⟨rfl, rfl⟩
                                               refine' DT.r rfl rfl rfl ?hq ?_
                                               case hq =>
                                                 refine WO.p rfl rfl ?_
                                                 exact WO.nil ⟨rfl, rfl⟩
                                               refine' DT.r rfl rfl rfl ?hq ?_
                                               case hq =>
                                                 refine WO.p rfl rfl ?_
                                                 exact WO.nil ⟨rfl, rfl⟩
                                               refine' DT.r rfl rfl rfl ?hq ?_
                                               case hq =>
                                                 refine WO.p rfl rfl ?_
                                                 exact WO.nil ⟨rfl, rfl⟩
                                               refine DT.a (fun b8 => ?_)
                                               refine DT.s [_, _, _, _, _, _, _] rfl rfl rfl ?_
                                               refine WO.storeA rfl rfl rfl rfl Pick.head rfl rfl ?_
                                               refine WO.nil ⟨[_, _], rfl, rfl, (Keep.a (Keep.r (Keep.r (Keep.r (Keep.f (Keep.c (Keep.b (Keep.b Keep.nil)))))))), ?_⟩
                                               refine DT.nil [_, _, _, _, _, _, _] rfl ?_
                                               refine WO.p rfl rfl ?_
                                               refine WO.nil ?_
                                               refine W.sreg ?_
                                               refine WO.loadA rfl rfl (Cells.own (Pick.tail (Pick.tail (Pick.head)))) rfl rfl ?_
                                               refine WO.callR (r := .tuple #[.agg #[.int .i64 (n.tmod 20001), .int .i64 1, .int .i64 (n.tmod 20001), .int .i64 1], .int .i64 0]) rfl Try.call24 (fun L w hi => by have h := c_Span w m (.slice a1 (withL rs (runL rs (gT rs (tideV xs) (n.tmod 20001)))).length c1) (withL rs (runL rs (gT rs (tideV xs) (n.tmod 20001)))) (RdF.of_ow (e := 66) encR_ok (by repeat (first | exact Pick.head | apply Pick.tail)) hi); rw [with_spanR hv hlen hsp, hG] at h; exact h) rfl ?_
                                               refine WO.p rfl rfl (WO.p rfl rfl (WO.p rfl rfl ?_))
                                               refine WO.alloc rfl rfl rfl (fun b9 hb9 => ?_)
                                               refine WO.storeA rfl rfl rfl rfl Pick.head rfl rfl (WO.p rfl rfl ?_)
                                               refine WO.nil ?_
                                               refine W.seq ?_
                                               refine W.drawD 17 [.r 0 [], .r 1 [], .r 2 [], .r 3 [], .r 4 [], .r 5 [], .r 6 [], .b 7 [], .r 8 [], .b 9 [], .r 10 [], .r 11 [], .r 12 [], .b 13 [], .b 14 [], .b 15 [], .r 16 []] [] (A0 := []) (Sub.refl _) (by kernel_rfl) ?_ ?_
                                               · exact (ALok.r (ALok.r (ALok.r (ALok.r (ALok.r (ALok.r (ALok.r (ALok.b (ALok.r (ALok.b (ALok.r (ALok.r (ALok.r (ALok.b (ALok.b (ALok.b (ALok.r ALok.nil)))))))))))))))))
                                               refine' DT.r rfl rfl rfl ?hq ?_
                                               case hq =>
                                                 refine WO.p rfl rfl ?_
                                                 exact WO.nil ⟨rfl, rfl⟩
                                               refine' DT.r rfl rfl rfl ?hq ?_
                                               case hq =>
                                                 refine WO.p rfl rfl ?_
                                                 exact WO.nil ⟨rfl, rfl⟩
                                               refine' DT.rB rfl rfl rfl ?hq (fun c16 => ?_) (fun c16 => ?_)
                                               case hq =>
                                                 refine WO.p rfl rfl ?_
                                                 exact WO.nil ⟨rfl, rfl⟩
                                               · first
                                                 | (exfalso; omega)
                                                 | (refine' DT.r rfl rfl rfl ?hq ?_
                                                    case hq =>
                                                      refine WO.pg rfl rfl rfl ?_
                                                      exact WO.nil ⟨rfl, rfl⟩
                                                    refine' DT.r rfl rfl rfl ?hq ?_
                                                    case hq =>
                                                      refine WO.pg rfl rfl rfl ?_
                                                      exact WO.nil ⟨rfl, rfl⟩
                                                    refine' DT.r rfl rfl rfl ?hq ?_
                                                    case hq =>
                                                      refine WO.p rfl rfl ?_
                                                      exact WO.nil ⟨rfl, rfl⟩
                                                    refine' DT.rB rfl rfl rfl ?hq (fun c17 => ?_) (fun c17 => ?_)
                                                    case hq =>
                                                      refine WO.p rfl rfl ?_
                                                      exact WO.nil ⟨rfl, rfl⟩
                                                    · first
                                                      | (exfalso; omega)
                                                      | (refine' DT.b rfl rfl rfl ?hq ?_
                                                         case hq =>
                                                           refine WO.go' rfl (WO.loadA rfl rfl (Cells.own (Pick.tail (Pick.head))) rfl rfl ?_)
                                                           exact WO.nil ⟨rfl, rfl⟩
                                                         refine' DT.r rfl rfl rfl ?hq ?_
                                                         case hq =>
                                                           refine WO.pg rfl rfl rfl ?_
                                                           exact WO.nil ⟨rfl, rfl⟩
                                                         refine' DT.b rfl rfl rfl ?hq ?_
                                                         case hq =>
                                                           refine WO.go' rfl ?_
                                                           refine WO.callR rfl Try.call37 (fun L w hi => law_whole w _) rfl ?_
                                                           exact WO.nil ⟨rfl, rfl⟩
                                                         refine' DT.r rfl rfl rfl ?hq ?_
                                                         case hq =>
                                                           refine WO.go' rfl ?_
                                                           refine WO.eqT rfl rfl (eq36t _ _) rfl ?_
                                                           exact WO.nil ⟨rfl, rfl⟩
                                                         refine' DT.r rfl rfl rfl ?hq ?_
                                                         case hq =>
                                                           refine WO.p rfl rfl ?_
                                                           exact WO.nil ⟨rfl, rfl⟩
                                                         refine' DT.r rfl rfl rfl ?hq ?_
                                                         case hq =>
                                                           refine WO.p rfl rfl ?_
                                                           exact WO.nil ⟨rfl, rfl⟩
                                                         refine' DT.b rfl rfl rfl ?hq ?_
                                                         case hq =>
                                                           refine WO.go' rfl (WO.loadA rfl rfl (Cells.own Pick.head) rfl rfl ?_)
                                                           exact WO.nil ⟨rfl, rfl⟩
                                                         refine' DT.b rfl rfl rfl ?hq ?_
                                                         case hq =>
                                                           refine WO.go' rfl (WO.loadA rfl rfl (Cells.own (Pick.tail (Pick.head))) rfl rfl ?_)
                                                           exact WO.nil ⟨rfl, rfl⟩
                                                         refine' DT.b rfl rfl rfl ?hq ?_
                                                         case hq =>
                                                           refine WO.go' rfl (WO.loadA rfl rfl (Cells.own (Pick.tail (Pick.head))) rfl rfl ?_)
                                                           exact WO.nil ⟨rfl, rfl⟩
                                                         refine' DT.r rfl rfl rfl ?hq ?_
                                                         case hq =>
                                                           refine WO.go' rfl ?_
                                                           refine' WO.build (cs := _) rfl rfl rfl ?hf rfl ?_
                                                           case hf => (conv => lhs; simp [-List.getD_eq_getElem?_getD, fillL, vcl, wrl, TTab.pl?.lget']) <;> rfl
                                                           exact WO.nil ⟨rfl, rfl⟩
                                                         refine DT.nil [_, _, _, _, _, _, _, _] rfl ?_
                                                         refine WO.go' rfl ?_
                                                         refine WO.eqT rfl rfl (eq40t _ _ _ _) rfl ?_
                                                         refine WO.p rfl rfl (WO.p rfl rfl (WO.go' rfl ?_))
                                                         refine WO.callR rfl Try.call12 (fun L w hi => law_Works w) rfl ?_
                                                         refine WO.p rfl rfl (WO.p rfl rfl ?_)
                                                         refine WO.nil ?_
                                                         refine W.ret ?_
                                                         exact fin.ret (Res.one rfl (RV.tmp rfl)) rfl)
                                                    · first
                                                      | (exfalso; omega)
                                                      | (refine' DT.b rfl rfl rfl ?hq ?_
                                                         case hq =>
                                                           refine WO.no rfl rfl ?_
                                                           exact WO.nil ⟨rfl, rfl⟩
                                                         refine' DT.r rfl rfl rfl ?hq ?_
                                                         case hq =>
                                                           refine WO.no rfl rfl ?_
                                                           exact WO.nil ⟨rfl, rfl⟩
                                                         refine' DT.b rfl rfl rfl ?hq ?_
                                                         case hq =>
                                                           refine WO.no rfl rfl ?_
                                                           exact WO.nil ⟨rfl, rfl⟩
                                                         refine' DT.r rfl rfl rfl ?hq ?_
                                                         case hq =>
                                                           refine WO.no rfl rfl ?_
                                                           exact WO.nil ⟨rfl, rfl⟩
                                                         refine' DT.r rfl rfl rfl ?hq ?_
                                                         case hq =>
                                                           refine WO.p rfl rfl ?_
                                                           exact WO.nil ⟨rfl, rfl⟩
                                                         refine' DT.r rfl rfl rfl ?hq ?_
                                                         case hq =>
                                                           refine WO.p rfl rfl ?_
                                                           exact WO.nil ⟨rfl, rfl⟩
                                                         refine' DT.b rfl rfl rfl ?hq ?_
                                                         case hq =>
                                                           refine WO.no rfl rfl ?_
                                                           exact WO.nil ⟨rfl, rfl⟩
                                                         refine' DT.b rfl rfl rfl ?hq ?_
                                                         case hq =>
                                                           refine WO.no rfl rfl ?_
                                                           exact WO.nil ⟨rfl, rfl⟩
                                                         refine' DT.b rfl rfl rfl ?hq ?_
                                                         case hq =>
                                                           refine WO.no rfl rfl ?_
                                                           exact WO.nil ⟨rfl, rfl⟩
                                                         refine' DT.r rfl rfl rfl ?hq ?_
                                                         case hq =>
                                                           refine WO.no rfl rfl ?_
                                                           exact WO.nil ⟨rfl, rfl⟩
                                                         refine DT.nil [_, _, _, _, _, _, _, _] rfl ?_
                                                         refine WO.no rfl rfl (WO.p rfl rfl (WO.p rfl rfl (WO.no rfl rfl (WO.p rfl rfl (WO.p rfl rfl ?_)))))
                                                         refine WO.nil ?_
                                                         refine W.ret ?_
                                                         exact fin.ret (Res.one rfl (RV.tmp rfl)) rfl))
                                               · first
                                                 | (exfalso; omega)
                                                 | (refine' DT.r rfl rfl rfl ?hq ?_
                                                    case hq =>
                                                      refine WO.no rfl rfl ?_
                                                      exact WO.nil ⟨rfl, rfl⟩
                                                    refine' DT.r rfl rfl rfl ?hq ?_
                                                    case hq =>
                                                      refine WO.no rfl rfl ?_
                                                      exact WO.nil ⟨rfl, rfl⟩
                                                    refine' DT.r rfl rfl rfl ?hq ?_
                                                    case hq =>
                                                      refine WO.p rfl rfl ?_
                                                      exact WO.nil ⟨rfl, rfl⟩
                                                    refine' DT.r rfl rfl rfl ?hq ?_
                                                    case hq =>
                                                      refine WO.p rfl rfl ?_
                                                      exact WO.nil ⟨rfl, rfl⟩
                                                    refine' DT.b rfl rfl rfl ?hq ?_
                                                    case hq =>
                                                      refine WO.no rfl rfl ?_
                                                      exact WO.nil ⟨rfl, rfl⟩
                                                    refine' DT.r rfl rfl rfl ?hq ?_
                                                    case hq =>
                                                      refine WO.no rfl rfl ?_
                                                      exact WO.nil ⟨rfl, rfl⟩
                                                    refine' DT.b rfl rfl rfl ?hq ?_
                                                    case hq =>
                                                      refine WO.no rfl rfl ?_
                                                      exact WO.nil ⟨rfl, rfl⟩
                                                    refine' DT.r rfl rfl rfl ?hq ?_
                                                    case hq =>
                                                      refine WO.no rfl rfl ?_
                                                      exact WO.nil ⟨rfl, rfl⟩
                                                    refine' DT.r rfl rfl rfl ?hq ?_
                                                    case hq =>
                                                      refine WO.p rfl rfl ?_
                                                      exact WO.nil ⟨rfl, rfl⟩
                                                    refine' DT.r rfl rfl rfl ?hq ?_
                                                    case hq =>
                                                      refine WO.p rfl rfl ?_
                                                      exact WO.nil ⟨rfl, rfl⟩
                                                    refine' DT.b rfl rfl rfl ?hq ?_
                                                    case hq =>
                                                      refine WO.no rfl rfl ?_
                                                      exact WO.nil ⟨rfl, rfl⟩
                                                    refine' DT.b rfl rfl rfl ?hq ?_
                                                    case hq =>
                                                      refine WO.no rfl rfl ?_
                                                      exact WO.nil ⟨rfl, rfl⟩
                                                    refine' DT.b rfl rfl rfl ?hq ?_
                                                    case hq =>
                                                      refine WO.no rfl rfl ?_
                                                      exact WO.nil ⟨rfl, rfl⟩
                                                    refine' DT.r rfl rfl rfl ?hq ?_
                                                    case hq =>
                                                      refine WO.no rfl rfl ?_
                                                      exact WO.nil ⟨rfl, rfl⟩
                                                    refine DT.nil [_, _, _, _, _, _, _, _] rfl ?_
                                                    refine WO.no rfl rfl (WO.p rfl rfl (WO.p rfl rfl (WO.no rfl rfl (WO.p rfl rfl (WO.p rfl rfl ?_)))))
                                                    refine WO.nil ?_
                                                    refine W.ret ?_
                                                    exact fin.ret (Res.one rfl (RV.tmp rfl)) rfl))))))))))
end Go.Proofs.Ytkiaepcklbidgaa
namespace Go.Proofs.Ytkiaepcklbidgaa
open Go Go.TH
attribute [local irreducible] W WO pt
set_option maxRecDepth 10000
set_option maxHeartbeats 4000000
/-- the first numbers of a tide, and none after -/
def oddL (xs : List Int) (k : Nat) : List Int := (List.range k).map fun (i : Nat) => xs.getD i 0
theorem oddL_len (xs : List Int) (k : Nat) : (oddL xs k).length = k := by unfold oddL; simp
theorem oddL_at {xs : List Int} {k i : Nat} (h : i < k) : (oddL xs k).getD i 0 = xs.getD i 0 := range_getD (f := fun (i : Nat) => xs.getD i 0) h
theorem odd_t {xs : List Int} {k i : Nat} (h : i < k) : (oddL xs k).take i ++ [xs.getD i 0] = (oddL xs k).take (i + 1) := range_take (f := fun (i : Nat) => xs.getD i 0) h
theorem getD_out {xs : List Int} {i : Nat} (h : xs.length ≤ i) : xs.getD i 0 = 0 := by
  rw [List.getD_eq_getElem?_getD, List.getElem?_eq_none h]; rfl
theorem odd_f {xs : List Int} {k i : Nat} (h : i < k) (h2 : xs.length ≤ i) : (oddL xs k).take i ++ [0] = (oddL xs k).take (i + 1) := by
  rw [← odd_t h, getD_out h2]
/-- a tide of just one degree too many -/
def oddF (xs : List Int) (D : Nat) : List Int := if xs.getD D 0 = 0 then (oddL xs (D + 1)).set D 1 else oddL xs (D + 1)
theorem odd_set {xs : List Int} {D : Nat} (h : xs.getD D 0 = 0) : (oddL xs (D + 1)).set D 1 = oddF xs D := by unfold oddF; rw [if_pos h]
theorem odd_keep {xs : List Int} {D : Nat} (h : ¬ xs.getD D 0 = 0) : oddL xs (D + 1) = oddF xs D := by unfold oddF; rw [if_neg h]
theorem oddF_len (xs : List Int) (D : Nat) : (oddF xs D).length = D + 1 := by unfold oddF; split <;> simp [oddL_len]
theorem oddF_last (xs : List Int) (D : Nat) : (oddF xs D).getD D 0 ≠ 0 := by
  unfold oddF
  split
  · rw [List.getD_eq_getElem?_getD, List.getElem?_set_self (by rw [oddL_len]; omega)]
    exact Int.one_ne_zero
  · rename_i h
    rwa [oddL_at (by omega)]
theorem oddL_in {xs : List Int} (hx : Tidal xs) {k : Nat} : ∀ x ∈ oddL xs k, -20 ≤ x ∧ x ≤ 20 := fun x hm => by
  unfold oddL at hm
  obtain ⟨i, _, rfl⟩ := List.mem_map.1 hm
  rcases Nat.lt_or_ge i xs.length with h | h
  · exact hx.2 _ (getD_mem h 0)
  · rw [getD_out h]; omega
theorem oddF_tidal {xs : List Int} (hx : Tidal xs) {D : Nat} (hD : D ≤ 4) : Tidal (oddF xs D) := by
  refine ⟨by rw [oddF_len]; omega, fun x hm => ?_⟩
  unfold oddF at hm
  split at hm
  · rcases List.mem_or_eq_of_mem_set hm with h | h
    · exact oddL_in hx _ h
    · subst h; omega
  · exact oddL_in hx _ hm
theorem odd_mean {m : Int} {rs : List (Int × Int × Int)} {xs : List Int} {D : Nat} (hv : VT m rs) (hD : canV m rs = (D : Int) - 1) : (meanQ m rs (offT rs (tideV (oddF xs D)))).1 ≠ 0 ∧ 1 ≤ (meanQ m rs (offT rs (tideV (oddF xs D)))).2 ∧ (meanQ m rs (offT rs (tideV (oddF xs D)))).2 ≤ 10000000000 := by
  have hn := hv.n
  have hw := wsum_lt hv (i := rs.length) (Nat.le_refl _)
  have h1 := tide_next hv hD (oddF_len xs D) (oddF_last xs D)
  unfold meanQ
  have h2 := red_den (n := msum m rs (offT rs (tideV (oddF xs D))) rs.length) (d := wsum m rs rs.length) (by omega)
  exact ⟨fun h => h1 ((red_num (by omega)).1 h), by omega, by omega⟩
theorem mulS {s q : Int} (hs : 0 ≤ s ∧ s ≤ 20000) (hq : 1 ≤ q ∧ q ≤ 10000000000) : 0 ≤ s * q ∧ s * q ≤ 200000000000000 :=
  ⟨Int.mul_nonneg hs.1 (by omega), Int.mul_le_mul (c := 20000) (d := 10000000000) hs.2 hq.2 (by omega) (by omega)⟩
theorem law_TrialFooled (w : World) (m : Int) (o v : Value) (rs : List (Int × Int × Int)) (xs : List Int) (n : Int) (hR : RdF encR 3 w.heap.size w o rs) (hX : RdF encI 1 w.heap.size w v xs) (hn6 : 0 ≤ n ∧ n ≤ 65535) : Ret Try.prog 7 [.agg #[.int .i64 m, o], v, .int .u16 n].toArray w (.bool true) := by
  refine Ret.of mixed tyTab Try.func7 rfl rfl ?_
  replace hR : RdF encR 3 (fnCx mixed tyTab Try.f7.ntmps w).B (fnCx mixed tyTab Try.f7.ntmps w).w0 o rs := hR
  replace hX : RdF encI 1 (fnCx mixed tyTab Try.f7.ntmps w).B (fnCx mixed tyTab Try.f7.ntmps w).w0 v xs := hX
  have ho := hR.sl.oc
  have hox := hX.sl.oc
  have hs1 := Int.tmod_lt_of_pos n (show (0 : Int) < 20001 by omega)
  have hs2 := Int.tmod_nonneg 20001 hn6.1
  refine W.sreg ?_
  refine WO.boxA rfl rfl (fun b1 hb1 => ?_)
  refine WO.p rfl rfl ?_
  refine WO.nil ?_
  refine W.seq ?_
  refine W.sreg ?_
  refine WO.loadA rfl rfl (Cells.own Pick.head) rfl rfl ?_
  refine WO.callR rfl Try.call34 (fun L w hi => law_fine w m o rs (hR.later hi)) rfl ?_
  refine WO.p rfl rfl (WO.p rfl rfl ?_)
  refine WO.guard_nbl rfl rfl (fun c1 => ?_) (fun c1 => ?_)
  · first
    | (exfalso; omega)
    | (refine WO.no rfl rfl (WO.no rfl rfl (WO.no rfl rfl (WO.p rfl rfl ?_)))
       refine WO.nil ?_
       refine W.cond_t rfl ?_
       refine W.sreg ?_
       refine WO.callR rfl Try.call12 (fun L w hi => law_Works w) rfl ?_
       refine WO.p rfl rfl ?_
       refine WO.nil ?_
       refine W.ret ?_
       exact fin.ret (Res.one rfl (RV.tmp rfl)) rfl)
  · first
    | (exfalso; omega)
    | (refine WO.pg rfl rfl rfl (WO.go' rfl ?_)
       refine WO.callR rfl Try.call35 (fun L w hi => law_tidal w v xs (hX.later hi)) rfl ?_
       refine WO.pg rfl rfl rfl (WO.p rfl rfl ?_)
       refine WO.nil ?_
       refine W.cond_nbl rfl (fun c2 => ?_) (fun c2 => ?_)
       · first
         | (exfalso; omega)
         | (refine W.sreg ?_
            refine WO.callR rfl Try.call12 (fun L w hi => law_Works w) rfl ?_
            refine WO.p rfl rfl ?_
            refine WO.nil ?_
            refine W.ret ?_
            exact fin.ret (Res.one rfl (RV.tmp rfl)) rfl)
       · first
         | (exfalso; omega)
         | (refine W.skip ?_
            have hv : VT m rs := VT.of (by omega)
            have hx : Tidal xs := by first | assumption | exact Decidable.not_not.1 (by assumption)
            have hn := hv.n
            obtain ⟨D, hD1, hD2, _, _⟩ := can_spec hv
            have hxl := hx.1
            have hlen : (runL rs (gT rs (tideV (oddF xs D)) (n.tmod 20001))).length = rs.length := runL_len _ _
            have hot := oddF_tidal hx (D := D) (by omega)
            have hom := odd_mean (xs := xs) hv hD1
            obtain ⟨q1, q2, hq⟩ : ∃ a b, meanQ m rs (offT rs (tideV (oddF xs D))) = (a, b) := ⟨_, _, rfl⟩
            rw [hq] at hom
            dsimp only at hom
            have hG : meanQ m rs (gX (runL rs (gT rs (tideV (oddF xs D)) (n.tmod 20001)))) = (n.tmod 20001 * q2 + q1, q2) := by rw [ground_mean hv, hq]
            have hms := mulS (s := n.tmod 20001) (q := q2) ⟨by omega, by omega⟩ hom.2
            have hto := hv.to
            refine W.sreg ?_
            refine WO.loadA rfl rfl (Cells.own Pick.head) rfl rfl ?_
            refine WO.callR (r := .tuple #[.int .i64 ((D : Int) - 1), .int .i64 0]) rfl Try.call15 (fun L w hi => by have h := c_Cancels w m o rs (hR.later hi); rw [hD1, hto] at h; exact h) rfl ?_
            refine WO.p rfl rfl (WO.p rfl rfl (WO.p rfl rfl (WO.p rfl rfl (WO.p rfl rfl ?_))))
            refine WO.nil ?_
            refine W.seq ?_
            refine W.sreg ?_
            refine WO.p rfl rfl (WO.p rfl rfl (WO.p rfl rfl ?_))
            refine WO.guard_bl rfl rfl (fun c3 => ?_) (fun c3 => ?_)
            · first
              | (exfalso; omega)
              | (refine WO.no rfl rfl (WO.no rfl rfl (WO.p rfl rfl (WO.p rfl rfl (WO.no rfl rfl (WO.no rfl rfl (WO.no rfl rfl (WO.no rfl rfl (WO.no rfl rfl (WO.no rfl rfl (WO.p rfl rfl ?_))))))))))
                 refine WO.nil ?_
                 refine W.cond_t rfl ?_
                 refine W.sreg ?_
                 refine WO.p rfl rfl ?_
                 refine WO.nil ?_
                 refine W.ret ?_
                 exact fin.ret (Res.one rfl (RV.tmp rfl)) rfl)
            · first
              | (exfalso; omega)
              | (refine WO.pg rfl rfl rfl (WO.pg rfl rfl rfl (WO.p rfl rfl (WO.p rfl rfl ?_)))
                 refine WO.guard_bl rfl rfl (fun c4 => ?_) (fun c4 => ?_)
                 · first
                   | (exfalso; omega)
                   | (refine WO.no rfl rfl (WO.no rfl rfl (WO.no rfl rfl (WO.no rfl rfl (WO.no rfl rfl (WO.no rfl rfl (WO.p rfl rfl ?_))))))
                      refine WO.nil ?_
                      refine W.cond_t rfl ?_
                      refine W.sreg ?_
                      refine WO.p rfl rfl ?_
                      refine WO.nil ?_
                      refine W.ret ?_
                      exact fin.ret (Res.one rfl (RV.tmp rfl)) rfl)
                 · first
                   | (exfalso; omega)
                   | (refine WO.pg rfl rfl rfl (WO.go' rfl (WO.fieldL rfl rfl rfl (WO.go' rfl (WO.load rfl rfl (Cell.own Pick.head rfl) rfl (WO.go' rfl ?_)))))
                      refine' WO.len (n := _) rfl rfl ?hs rfl ?_
                      case hs => (first | exact hR.sl | exact hX.sl)
                      refine WO.go' rfl (WO.ar rfl rfl rfl (by (first | (unfold in64; omega) | (unfold in64; omega))) rfl (WO.pg rfl rfl rfl (WO.p rfl rfl ?_)))
                      refine WO.nil ?_
                      refine W.cond_bl rfl (fun c5 => ?_) (fun c5 => ?_)
                      · first
                        | (exfalso; omega)
                        | (refine W.sreg ?_
                           refine WO.p rfl rfl ?_
                           refine WO.nil ?_
                           refine W.ret ?_
                           exact fin.ret (Res.one rfl (RV.tmp rfl)) rfl)
                      · first
                        | (exfalso; omega)
                        | (refine W.skip ?_
                           refine W.sreg ?_
                           refine WO.p rfl rfl ?_
                           refine WO.nil ?_
                           refine W.seq ?_
                           refine W.sreg ?_
                           refine WO.p rfl rfl ?_
                           refine WO.nil ?_
                           refine W.block ?_
                           refine W.chg (owNil (enc := encI) (e := 2) (sz := 1)) ?_
                           refine W.loop2 (fun (i : Nat) (l : Value) => i ≤ D + 1)
                             (fun (i : Nat) (l : Value) => [(10, .int .i64 (i : Int)), (9, l), (7, .int .i64 ((D : Int) - 1)), (3, .pointer (some ⟨b1, 0, none⟩)), (2, .int .u16 n), (1, v)])
                             (fun (i : Nat) (l : Value) => [pt b1 (.cells #[.int .i64 m, o] 24 (0, 0)), OwE encI 2 1 l ((oddL xs (D + 1)).take i)])
                             (fun (i : Nat) (l : Value) => D + 1 - i) 0 (.slice none 0 0)
                             (by omega) ⟨rfl, rfl, rfl, rfl, rfl, rfl, trivial⟩ (by repeat (first | exact Sub.nil | refine Sub.cons (by repeat (first | exact Pick.head | apply Pick.tail)) ?_)) ?_
                           rintro i l hi
                           refine W.seq ?_
                           refine W.sreg ?_
                           refine WO.p rfl rfl (WO.p rfl rfl (WO.ar rfl rfl rfl (by (first | (unfold in64; omega) | (unfold in64; omega))) rfl (WO.p rfl rfl ?_)))
                           refine WO.nil ?_
                           refine W.cond_bl rfl (fun c6 => ?_) (fun c6 => ?_)
                           · first
                             | (exfalso; omega)
                             | (refine W.skip ?_
                                refine W.seq ?_
                                refine W.block ?_
                                refine W.sreg ?_
                                refine WO.p rfl rfl ?_
                                refine WO.nil ?_
                                refine W.seq ?_
                                refine W.sreg ?_
                                refine WO.p rfl rfl (WO.p rfl rfl ?_)
                                refine' WO.len (n := _) rfl rfl ?hs rfl ?_
                                case hs => (first | exact hR.sl | exact hX.sl)
                                refine WO.p rfl rfl ?_
                                refine WO.nil ?_
                                refine W.cond_bl rfl (fun c7 => ?_) (fun c7 => ?_)
                                · first
                                  | (exfalso; omega)
                                  | (refine W.region ?_
                                     refine WO.p rfl rfl (WO.p rfl rfl ?_)
                                     refine' WO.indexAddr (n := _) (i := _) rfl rfl rfl ?hs ?h1 rfl ?_
                                     case hs => (first | exact hR.sl | exact hX.sl)
                                     case h1 => (first | omega | (simp; omega))
                                     refine' WO.load (v := _) rfl rfl ?hc rfl ?_
                                     case hc => (first | (refine hX.cell0 ?_ 0 ?_ <;> first | rfl | omega))
                                     refine WO.p rfl rfl ?_
                                     refine WO.nil ?_
                                     refine W.region ?_
                                     refine WO.p rfl rfl (WO.p rfl rfl ?_)
                                     refine' WO.buildSl (cs := _) rfl rfl rfl rfl ?hf rfl rfl ?hl rfl (fun v2 => ?_)
                                     case hf => (conv => lhs; simp [-List.getD_eq_getElem?_getD, fillL, vcl, wrl, TTab.pl?.lget']) <;> rfl
                                     case hl => rfl
                                     first | refine' WO.appendE (enc := encI) (m := 1) (ys := [xs.getD i 0]) encI_ok rfl rfl rfl rfl rfl (by repeat (first | exact Pick.head | apply Pick.tail)) (isSl_lit (by omega) (fun _ => ⟨_, _, rfl⟩)) (by omega) rfl (OwC.cells .head) (by rw [List.length_take, oddL_len]; omega) (by rw [List.length_take, oddL_len]; omega) rfl (fun g c => ?_) | refine' WO.appendE (enc := encI) (m := 1) (ys := [0]) encI_ok rfl rfl rfl rfl rfl (by repeat (first | exact Pick.head | apply Pick.tail)) (isSl_lit (by omega) (fun _ => ⟨_, _, rfl⟩)) (by omega) rfl (OwC.cells .head) (by rw [List.length_take, oddL_len]; omega) (by rw [List.length_take, oddL_len]; omega) rfl (fun g c => ?_)
                                     first | rw [odd_t (xs := xs) (k := D + 1) (i := i) (by omega)] | rw [odd_f (xs := xs) (k := D + 1) (i := i) (by omega) (by omega)]
                                     refine WO.p rfl rfl ?_
                                     refine WO.nil ?_
                                     refine W.region ?_
                                     refine WO.p rfl rfl (WO.ar rfl rfl rfl (by (first | (unfold in64; omega) | (unfold in64; omega))) rfl (WO.p rfl rfl ?_))
                                     refine WO.nil ?_
                                     refine' ⟨i + 1, _, ?hp, ?hmu, ⟨rfl, rfl, rfl, rfl, rfl, rfl, trivial⟩, ?hS⟩
                                     case hS => repeat (first | exact Sub.nil | refine Sub.cons (by repeat (first | exact Pick.head | apply Pick.tail)) ?_)
                                     case hp => omega
                                     case hmu => omega)
                                · first
                                  | (exfalso; omega)
                                  | (refine W.skip ?_
                                     refine W.region ?_
                                     refine WO.p rfl rfl (WO.p rfl rfl ?_)
                                     refine' WO.buildSl (cs := _) rfl rfl rfl rfl ?hf rfl rfl ?hl rfl (fun v3 => ?_)
                                     case hf => (conv => lhs; simp [-List.getD_eq_getElem?_getD, fillL, vcl, wrl, TTab.pl?.lget']) <;> rfl
                                     case hl => rfl
                                     first | refine' WO.appendE (enc := encI) (m := 1) (ys := [xs.getD i 0]) encI_ok rfl rfl rfl rfl rfl (by repeat (first | exact Pick.head | apply Pick.tail)) (isSl_lit (by omega) (fun _ => ⟨_, _, rfl⟩)) (by omega) rfl (OwC.cells .head) (by rw [List.length_take, oddL_len]; omega) (by rw [List.length_take, oddL_len]; omega) rfl (fun g c => ?_) | refine' WO.appendE (enc := encI) (m := 1) (ys := [0]) encI_ok rfl rfl rfl rfl rfl (by repeat (first | exact Pick.head | apply Pick.tail)) (isSl_lit (by omega) (fun _ => ⟨_, _, rfl⟩)) (by omega) rfl (OwC.cells .head) (by rw [List.length_take, oddL_len]; omega) (by rw [List.length_take, oddL_len]; omega) rfl (fun g c => ?_)
                                     first | rw [odd_t (xs := xs) (k := D + 1) (i := i) (by omega)] | rw [odd_f (xs := xs) (k := D + 1) (i := i) (by omega) (by omega)]
                                     refine WO.p rfl rfl ?_
                                     refine WO.nil ?_
                                     refine W.region ?_
                                     refine WO.p rfl rfl (WO.ar rfl rfl rfl (by (first | (unfold in64; omega) | (unfold in64; omega))) rfl (WO.p rfl rfl ?_))
                                     refine WO.nil ?_
                                     refine' ⟨i + 1, _, ?hp, ?hmu, ⟨rfl, rfl, rfl, rfl, rfl, rfl, trivial⟩, ?hS⟩
                                     case hS => repeat (first | exact Sub.nil | refine Sub.cons (by repeat (first | exact Pick.head | apply Pick.tail)) ?_)
                                     case hp => omega
                                     case hmu => omega))
                           · first
                             | (exfalso; omega)
                             | (refine W.exit (blk_same ?_)
                                refine W.seq ?_
                                obtain rfl : i = D + 1 := by omega
                                rw [show (oddL xs (D + 1)).take (D + 1) = oddL xs (D + 1) from List.take_of_length_le (by rw [oddL_len]; omega)]
                                refine W.fact (OwE.sl (enc := encI) (e := 2) (sz := 1) (xs := oddL xs (D + 1)) (by repeat (first | exact Pick.head | apply Pick.tail))) (fun hws => ?_)
                                rw [oddL_len] at hws
                                refine W.sreg ?_
                                refine WO.p rfl rfl (WO.p rfl rfl (WO.ar rfl rfl rfl (by (first | (unfold in64; omega) | (unfold in64; omega))) rfl ?_))
                                refine' WO.indexAddrZ (n := _) rfl rfl rfl ?hs ?h00 ?h1 rfl ?_
                                case hs => (first | exact hws)
                                case h00 => omega
                                case h1 => (first | omega | (simp; omega))
                                refine' WO.load (v := _) rfl rfl ?hc rfl ?_
                                case hc => (first | (refine owE_cellS (e := 2) (i := ((D : Int) - 1 + 1).toNat) (xs := oddL xs (D + 1)) (x := xs.getD D 0) ?_ ?_ (by rw [show ((D : Int) - 1 + 1).toNat = D by omega, oddL_at (by omega)]); (repeat (first | exact Sub.nil | refine Sub.cons (by repeat (first | exact Pick.head | apply Pick.tail)) ?_)); rw [oddL_len]; omega))
                                refine WO.p rfl rfl ?_
                                refine WO.nil ?_
                                refine W.cond_bl rfl (fun c8 => ?_) (fun c8 => ?_)
                                · first
                                  | (exfalso; omega)
                                  | (refine W.region ?_
                                     refine WO.p rfl rfl (WO.p rfl rfl (WO.ar rfl rfl rfl (by (first | (unfold in64; omega) | (unfold in64; omega))) rfl ?_))
                                     refine' WO.indexAddrZ (n := _) rfl rfl rfl ?hs ?h00 ?h1 rfl ?_
                                     case hs => (first | exact hws)
                                     case h00 => omega
                                     case h1 => (first | omega | (simp; omega))
                                     refine WO.storeE (n := 1) (i := ((D : Int) - 1 + 1).toNat) (xs := oddL xs (D + 1)) encI_ok rfl rfl rfl rfl (by repeat (first | exact Pick.head | apply Pick.tail)) (by rw [oddL_len]; omega) ?_
                                     rw [show ((D : Int) - 1 + 1).toNat = D by omega]
                                     refine WO.nil ?_
                                     first | rw [odd_set (by assumption)] | rw [odd_keep (by assumption)]
                                     refine W.sreg ?_
                                     refine WO.loadA rfl rfl (Cells.own (Pick.tail (Pick.head))) rfl rfl (WO.p rfl rfl ?_)
                                     refine WO.callR (r := .tuple #[.agg #[.int .i64 q1, .int .i64 q2], .int .i64 0]) rfl Try.call26 (fun L w hi => by have h := c_Off w m o l rs (oddF xs D) (hR.later hi) (RdF.of_ow (e := 2) encI_ok (by repeat (first | exact Pick.head | apply Pick.tail)) hi); rw [off_tidal hv hot, hq] at h; exact h) rfl ?_
                                     refine WO.p rfl rfl (WO.p rfl rfl (WO.p rfl rfl ?_))
                                     refine WO.alloc rfl rfl rfl (fun b4 hb4 => ?_)
                                     refine WO.storeA rfl rfl rfl rfl Pick.head rfl rfl (WO.p rfl rfl ?_)
                                     refine WO.nil ?_
                                     refine W.seq ?_
                                     refine W.sreg ?_
                                     refine WO.p rfl rfl (WO.p rfl rfl (WO.p rfl rfl ?_))
                                     refine WO.guard_bl rfl rfl (fun c9 => ?_) (fun c9 => ?_)
                                     · first
                                       | (exfalso; omega)
                                       | (refine WO.no rfl rfl (WO.no rfl rfl (WO.no rfl rfl (WO.p rfl rfl (WO.p rfl rfl (WO.no rfl rfl (WO.no rfl rfl (WO.no rfl rfl (WO.p rfl rfl (WO.p rfl rfl (WO.no rfl rfl (WO.no rfl rfl ?_)))))))))))
                                          refine WO.no rfl rfl (WO.p rfl rfl ?_)
                                          refine WO.nil ?_
                                          refine W.cond_t rfl ?_
                                          refine W.sreg ?_
                                          refine WO.p rfl rfl ?_
                                          refine WO.nil ?_
                                          refine W.ret ?_
                                          exact fin.ret (Res.one rfl (RV.tmp rfl)) rfl)
                                     · first
                                       | (exfalso; omega)
                                       | (refine WO.go' rfl (WO.field0 rfl rfl rfl (WO.go' rfl (WO.load rfl rfl (Cell.own Pick.head rfl) rfl (WO.pg rfl rfl rfl (WO.p rfl rfl (WO.p rfl rfl ?_))))))
                                          refine WO.guard_bl rfl rfl (fun c10 => ?_) (fun c10 => ?_)
                                          · first
                                            | (exfalso; omega)
                                            | (refine WO.no rfl rfl (WO.no rfl rfl (WO.no rfl rfl (WO.p rfl rfl (WO.p rfl rfl (WO.no rfl rfl (WO.no rfl rfl (WO.no rfl rfl (WO.p rfl rfl ?_))))))))
                                               refine WO.nil ?_
                                               refine W.cond_t rfl ?_
                                               refine W.sreg ?_
                                               refine WO.p rfl rfl ?_
                                               refine WO.nil ?_
                                               refine W.ret ?_
                                               exact fin.ret (Res.one rfl (RV.tmp rfl)) rfl)
                                          · first
                                            | (exfalso; omega)
                                            | (refine WO.go' rfl (WO.fieldL rfl rfl rfl (WO.go' rfl (WO.load rfl rfl (Cell.own Pick.head rfl) rfl (WO.pg rfl rfl rfl (WO.p rfl rfl (WO.p rfl rfl ?_))))))
                                               refine WO.guard_bl rfl rfl (fun c11 => ?_) (fun c11 => ?_)
                                               · first
                                                 | (exfalso; omega)
                                                 | (refine WO.no rfl rfl (WO.no rfl rfl (WO.no rfl rfl (WO.p rfl rfl ?_)))
                                                    refine WO.nil ?_
                                                    refine W.cond_t rfl ?_
                                                    refine W.sreg ?_
                                                    refine WO.p rfl rfl ?_
                                                    refine WO.nil ?_
                                                    refine W.ret ?_
                                                    exact fin.ret (Res.one rfl (RV.tmp rfl)) rfl)
                                               · first
                                                 | (exfalso; omega)
                                                 | (refine WO.go' rfl (WO.fieldL rfl rfl rfl (WO.go' rfl (WO.load rfl rfl (Cell.own Pick.head rfl) rfl (WO.pg rfl rfl rfl (WO.p rfl rfl ?_)))))
                                                    refine WO.nil ?_
                                                    refine W.cond_bl rfl (fun c12 => ?_) (fun c12 => ?_)
                                                    · first
                                                      | (exfalso; omega)
                                                      | (refine W.sreg ?_
                                                         refine WO.p rfl rfl ?_
                                                         refine WO.nil ?_
                                                         refine W.ret ?_
                                                         exact fin.ret (Res.one rfl (RV.tmp rfl)) rfl)
                                                    · first
                                                      | (exfalso; omega)
                                                      | (refine W.skip ?_
                                                         refine W.sreg ?_
                                                         refine WO.p rfl rfl (WO.conv64 rfl rfl rfl (by (first | (unfold in64; omega) | (unfold in64; omega))) rfl (WO.rem rfl rfl (by first | omega | assumption) rfl (WO.p rfl rfl ?_)))
                                                         refine WO.nil ?_
                                                         refine W.seq ?_
                                                         refine W.drawD 11 [.b 0 [], .b 1 [], .r 2 [], .r 3 [], .c 4 [], .c 5 [], .r 6 [], .r 7 [], .r 8 [], .a 9 14 (.cells #[.int .i64 0, .slice none 0 0] 24 (0, 0)), .s 10 []] [] (A0 := []) (Sub.refl _) (by kernel_rfl) ?_ ?_
                                                         · exact (ALok.b (ALok.b (ALok.r (ALok.r (ALok.c (ALok.c (ALok.r (ALok.r (ALok.r (ALok.cons rfl rfl rfl rfl rfl (ALok.s ALok.nil)))))))))))
                                                         refine' DT.b rfl rfl rfl ?hq ?_
                                                         case hq =>
                                                           refine WO.loadA rfl rfl (Cells.own (Pick.tail (Pick.tail (Pick.head)))) rfl rfl ?_
                                                           exact WO.nil ⟨rfl, rfl⟩
                                                         refine' DT.b rfl rfl rfl ?hq ?_
                                                         case hq =>
                                                           refine WO.loadA rfl rfl (Cells.own (Pick.tail (Pick.tail (Pick.head)))) rfl rfl ?_
                                                           exact WO.nil ⟨rfl, rfl⟩
                                                         refine' DT.r rfl rfl rfl ?hq ?_
                                                         case hq =>
                                                           refine WO.p rfl rfl ?_
                                                           exact WO.nil ⟨rfl, rfl⟩
                                                         refine' DT.r rfl rfl rfl ?hq ?_
                                                         case hq =>
                                                           refine WO.p rfl rfl ?_
                                                           exact WO.nil ⟨rfl, rfl⟩
                                                         refine DT.c [_, _, _] rfl rfl rfl rfl ?_
                                                         refine WO.call (Post := fun r Hq => Hq = [OwE encI 2 1 r (runL rs (gT rs (tideV (oddF xs D)) (n.tmod 20001)))]) rfl Try.call39 (fun L w hi => law_Ground w m (n.tmod 20001) o l rs (oddF xs D) (hR.later hi) (RdF.of_ow (e := 2) encI_ok (by repeat (first | exact Pick.head | apply Pick.tail)) hi) hv hot ⟨by omega, by omega⟩) rfl ?_
                                                         rintro gv _ rfl
                                                         refine WO.nil ⟨_, [_], rfl, rfl, (Keep.r (Keep.r (Keep.b (Keep.b Keep.nil)))), ?_⟩
                                                         refine DT.c [_, _, _, _] rfl rfl rfl rfl ?_
                                                         refine WO.call (Post := fun r Hq => ∃ x : Value × Bool × List (Int × Int × Int), (r = .tuple #[.agg #[.int .i64 m, x.1], .bool x.2.1] ∧ (x.2.1 = true → x.2.2 = withL rs (runL rs (gT rs (tideV (oddF xs D)) (n.tmod 20001))) ∧ sp20 (runL rs (gT rs (tideV (oddF xs D)) (n.tmod 20001)))) ∧ (x.2.1 = false → ¬ sp20 (runL rs (gT rs (tideV (oddF xs D)) (n.tmod 20001))))) ∧ Hq = [OwE encR 66 3 x.1 x.2.2]) rfl Try.call38 (fun L w hi => law_with w m o gv rs (runL rs (gT rs (tideV (oddF xs D)) (n.tmod 20001))) (hR.later hi) (RdF.of_ow (e := 2) encI_ok (by repeat (first | exact Pick.head | apply Pick.tail)) hi) (by omega) (by omega)) rfl ?_
                                                         rintro _ _ ⟨⟨xo, bt, rx⟩, ⟨rfl, hxt, hxf⟩, rfl⟩
                                                         dsimp only at hxt hxf ⊢
                                                         refine WO.fact (OwE.form (enc := encR) (e := 66) (sz := 3) (xs := rx) (by repeat (first | exact Pick.head | apply Pick.tail))) (fun hf => ?_)
                                                         obtain ⟨a1, c1, rfl⟩ := hf
                                                         refine WO.nil ⟨_, [_, _], rfl, rfl, (Keep.c (Keep.r (Keep.r (Keep.b (Keep.b Keep.nil))))), ?_⟩
                                                         refine' DT.r rfl rfl rfl ?hq ?_
                                                         case hq =>
                                                           refine WO.p rfl rfl ?_
                                                           exact WO.nil ⟨rfl, rfl⟩
                                                         refine' DT.r rfl rfl rfl ?hq ?_
                                                         case hq =>
                                                           refine WO.p rfl rfl ?_
                                                           exact WO.nil ⟨rfl, rfl⟩
                                                         refine' DT.r rfl rfl rfl ?hq ?_
                                                         case hq =>
                                                           refine WO.p rfl rfl ?_
                                                           exact WO.nil ⟨rfl, rfl⟩
                                                         refine DT.a (fun b5 => ?_)
                                                         refine DT.s [_, _, _, _, _, _] rfl rfl rfl ?_
                                                         refine WO.storeA rfl rfl rfl rfl Pick.head rfl rfl ?_
                                                         refine WO.nil ⟨[_, _, _], rfl, rfl, (Keep.a (Keep.r (Keep.r (Keep.r (Keep.c (Keep.c (Keep.r (Keep.r (Keep.b (Keep.b Keep.nil)))))))))), ?_⟩
                                                         refine DT.nil [_, _, _, _, _, _] rfl ?_
                                                         refine WO.p rfl rfl ?_
                                                         refine WO.nil ?_
                                                         refine W.seq ?_
                                                         refine W.sreg ?_
                                                         refine WO.p rfl rfl (WO.p rfl rfl ?_)
                                                         refine WO.nil ?_
                                                         refine W.cond rfl (fun c13 => ?_) (fun c13 => ?_)
                                                         · first
                                                           | (exfalso; omega)
                                                           | (refine W.sreg ?_
                                                              refine WO.callR rfl Try.call12 (fun L w hi => law_Works w) rfl ?_
                                                              refine WO.p rfl rfl ?_
                                                              refine WO.nil ?_
                                                              refine W.ret ?_
                                                              exact fin.ret (Res.one rfl (RV.tmp rfl)) rfl)
                                                         · first
                                                           | (exfalso; omega)
                                                           | (refine W.skip ?_
                                                              refine W.seq ?_
                                                              have hbt : bt = true := by first | assumption | (cases bt <;> simp_all)
                                                              obtain ⟨rfl, hsp⟩ := hxt hbt
                                                              have hsb := mean_SpB (g := gX (runL rs (gT rs (tideV (oddF xs D)) (n.tmod 20001)))) hv (fun i hi => by rw [gX_at]; exact hsp _ (getD_mem (by omega) 0))
                                                              rw [hG] at hsb
                                                              have hsc := hsb.2
                                                              refine W.drawD 9 [.b 0 [], .b 1 [], .c 2 [], .f 3 [], .r 4 [], .r 5 [], .r 6 [], .a 7 16 (.cells #[.int .i64 0, .int .i64 0] 36 (0, 0)), .s 8 []] [] (A0 := []) (Sub.refl _) (by kernel_rfl) ?_ ?_
                                                              · exact (ALok.b (ALok.b (ALok.c (ALok.f (ALok.r (ALok.r (ALok.r (ALok.cons rfl rfl rfl rfl rfl (ALok.s ALok.nil)))))))))
                                                              refine' DT.b rfl rfl rfl ?hq ?_
                                                              case hq =>
                                                                refine WO.loadA rfl rfl (Cells.own Pick.head) rfl rfl ?_
                                                                exact WO.nil ⟨rfl, rfl⟩
                                                              refine' DT.b rfl rfl rfl ?hq ?_
                                                              case hq =>
                                                                refine WO.loadA rfl rfl (Cells.own Pick.head) rfl rfl ?_
                                                                exact WO.nil ⟨rfl, rfl⟩
                                                              refine DT.c [_, _, _, _, _, _] rfl rfl rfl rfl ?_
                                                              refine WO.call (Post := fun r Hq => Hq = [OwE encI 2 1 r (runL rs (gT rs (tideV (oddF xs D)) (n.tmod 20001)))]) rfl Try.call40 (fun L w hi => by have h := law_True w m (.slice a1 (withL rs (runL rs (gT rs (tideV (oddF xs D)) (n.tmod 20001)))).length c1) (.slice none 0 0) (withL rs (runL rs (gT rs (tideV (oddF xs D)) (n.tmod 20001)))) [] (RdF.of_ow (e := 66) encR_ok (by repeat (first | exact Pick.head | apply Pick.tail)) hi) RdF.nil0 (with_VT hv hlen hsp) (by simp) (by simp); rw [with_true hlen] at h; exact h) rfl ?_
                                                              rintro yv _ rfl
                                                              refine WO.nil ⟨_, [_], rfl, rfl, (Keep.b (Keep.b Keep.nil)), ?_⟩
                                                              refine' DT.f [_, _, _, _, _, _, _] rfl rfl rfl rfl ?hq ?_
                                                              case hq =>
                                                                refine WO.callR (r := .tuple #[.agg #[.int .i64 (n.tmod 20001 * q2 + q1), .int .i64 q2], .int .i64 0]) rfl Try.call22 (fun L w hi => by have h := c_Mean w m (.slice a1 (withL rs (runL rs (gT rs (tideV (oddF xs D)) (n.tmod 20001)))).length c1) yv (withL rs (runL rs (gT rs (tideV (oddF xs D)) (n.tmod 20001)))) (runL rs (gT rs (tideV (oddF xs D)) (n.tmod 20001))) (RdF.of_ow (e := 66) encR_ok (by repeat (first | exact Pick.head | apply Pick.tail)) hi) (RdF.of_ow (e := 2) encI_ok (by repeat (first | exact Pick.head | apply Pick.tail)) hi); rw [with_meanR hv hlen hsp, hG] at h; exact h) rfl ?_
                                                                exact WO.nil ⟨rfl, rfl⟩
                                                              refine' DT.r rfl rfl rfl ?hq ?_
                                                              case hq =>
                                                                refine WO.p rfl rfl ?_
                                                                exact WO.nil ⟨rfl, rfl⟩
                                                              refine' DT.r rfl rfl rfl ?hq ?_
                                                              case hq =>
                                                                refine WO.p rfl rfl ?_
                                                                exact WO.nil ⟨rfl, rfl⟩
                                                              refine' DT.r rfl rfl rfl ?hq ?_
                                                              case hq =>
                                                                refine WO.p rfl rfl ?_
                                                                exact WO.nil ⟨rfl, rfl⟩
                                                              refine DT.a (fun b6 => ?_)
                                                              refine DT.s [_, _, _, _, _, _, _, _] rfl rfl rfl ?_
                                                              refine WO.storeA rfl rfl rfl rfl Pick.head rfl rfl ?_
                                                              refine WO.nil ⟨[_, _], rfl, rfl, (Keep.a (Keep.r (Keep.r (Keep.r (Keep.f (Keep.c (Keep.b (Keep.b Keep.nil)))))))), ?_⟩
                                                              refine DT.nil [_, _, _, _, _, _, _, _] rfl ?_
                                                              refine WO.p rfl rfl ?_
                                                              refine WO.nil ?_
                                                              refine W.sreg ?_
                                                              refine WO.p rfl rfl (WO.p rfl rfl (WO.p rfl rfl ?_))
                                                              refine WO.guard_bl rfl rfl (fun c14 => ?_) (fun c14 => ?_)
                                                              · first
                                                                | (exfalso; omega)
                                                                | (refine WO.go' rfl (WO.fieldL rfl rfl rfl (WO.go' rfl (WO.load rfl rfl (Cell.own Pick.head rfl) rfl (WO.go' rfl (WO.fieldL rfl rfl rfl (WO.go' rfl (WO.load rfl rfl (Cell.own (Pick.tail (Pick.tail (Pick.tail (Pick.tail (Pick.tail (Pick.head)))))) rfl) rfl (WO.pg rfl rfl rfl (WO.p rfl rfl (WO.p rfl rfl ?_))))))))))
                                                                   refine WO.guard_bl rfl rfl (fun c15 => ?_) (fun c15 => ?_)
                                                                   · first
                                                                     | (exfalso; omega)
                                                                     | (refine WO.go' rfl (WO.field0 rfl rfl rfl (WO.go' rfl (WO.load rfl rfl (Cell.own Pick.head rfl) rfl (WO.pg rfl rfl rfl (WO.go' rfl (WO.fieldL rfl rfl rfl (WO.go' rfl (WO.load rfl rfl (Cell.own (Pick.tail (Pick.tail (Pick.tail (Pick.tail (Pick.tail (Pick.head)))))) rfl) rfl (WO.go' rfl (WO.ar rfl rfl rfl (by (first | (unfold in64; omega) | (unfold in64; omega))) rfl (WO.go' rfl ?_)))))))))))
                                                                        refine WO.field0 rfl rfl rfl (WO.go' rfl (WO.load rfl rfl (Cell.own (Pick.tail (Pick.tail (Pick.tail (Pick.tail (Pick.tail (Pick.head)))))) rfl) rfl (WO.go' rfl (WO.ar rfl rfl rfl (by (first | (unfold in64; omega) | (unfold in64; omega))) rfl (WO.pg rfl rfl rfl (WO.p rfl rfl (WO.p rfl rfl ?_)))))))
                                                                        refine WO.guard_bl rfl rfl (fun c16 => ?_) (fun c16 => ?_)
                                                                        · first
                                                                          | (exfalso; omega)
                                                                          | (refine WO.go' rfl ?_
                                                                             refine WO.callR rfl Try.call12 (fun L w hi => law_Works w) rfl ?_
                                                                             refine WO.p rfl rfl (WO.p rfl rfl ?_)
                                                                             refine WO.nil ?_
                                                                             refine W.ret ?_
                                                                             exact fin.ret (Res.one rfl (RV.tmp rfl)) rfl)
                                                                        · first
                                                                          | (exfalso; omega)
                                                                          | (refine WO.no rfl rfl (WO.p rfl rfl (WO.p rfl rfl ?_))
                                                                             refine WO.nil ?_
                                                                             refine W.ret ?_
                                                                             exact fin.ret (Res.one rfl (RV.tmp rfl)) rfl))
                                                                   · first
                                                                     | (exfalso; omega)
                                                                     | (refine WO.no rfl rfl (WO.no rfl rfl (WO.no rfl rfl (WO.no rfl rfl (WO.no rfl rfl (WO.no rfl rfl (WO.no rfl rfl (WO.no rfl rfl (WO.no rfl rfl (WO.no rfl rfl (WO.p rfl rfl (WO.p rfl rfl ?_)))))))))))
                                                                        refine WO.no rfl rfl (WO.p rfl rfl (WO.p rfl rfl ?_))
                                                                        refine WO.nil ?_
                                                                        refine W.ret ?_
                                                                        exact fin.ret (Res.one rfl (RV.tmp rfl)) rfl))
                                                              · first
                                                                | (exfalso; omega)
                                                                | (refine WO.no rfl rfl (WO.no rfl rfl (WO.no rfl rfl (WO.no rfl rfl (WO.no rfl rfl (WO.p rfl rfl (WO.p rfl rfl (WO.no rfl rfl (WO.no rfl rfl (WO.no rfl rfl (WO.no rfl rfl (WO.no rfl rfl ?_)))))))))))
                                                                   refine WO.no rfl rfl (WO.no rfl rfl (WO.no rfl rfl (WO.no rfl rfl (WO.no rfl rfl (WO.p rfl rfl (WO.p rfl rfl (WO.no rfl rfl (WO.p rfl rfl (WO.p rfl rfl ?_)))))))))
                                                                   refine WO.nil ?_
                                                                   refine W.ret ?_
                                                                   exact fin.ret (Res.one rfl (RV.tmp rfl)) rfl)))))))
                                · first
                                  | (exfalso; omega)
                                  | (refine W.skip ?_
                                     first | rw [odd_set (by assumption)] | rw [odd_keep (by assumption)]
                                     refine W.sreg ?_
                                     refine WO.loadA rfl rfl (Cells.own Pick.head) rfl rfl (WO.p rfl rfl ?_)
                                     refine WO.callR (r := .tuple #[.agg #[.int .i64 q1, .int .i64 q2], .int .i64 0]) rfl Try.call26 (fun L w hi => by have h := c_Off w m o l rs (oddF xs D) (hR.later hi) (RdF.of_ow (e := 2) encI_ok (by repeat (first | exact Pick.head | apply Pick.tail)) hi); rw [off_tidal hv hot, hq] at h; exact h) rfl ?_
                                     refine WO.p rfl rfl (WO.p rfl rfl (WO.p rfl rfl ?_))
                                     refine WO.alloc rfl rfl rfl (fun b7 hb7 => ?_)
                                     refine WO.storeA rfl rfl rfl rfl Pick.head rfl rfl (WO.p rfl rfl ?_)
                                     refine WO.nil ?_
                                     refine W.seq ?_
                                     refine W.sreg ?_
                                     refine WO.p rfl rfl (WO.p rfl rfl (WO.p rfl rfl ?_))
                                     refine WO.guard_bl rfl rfl (fun c17 => ?_) (fun c17 => ?_)
                                     · first
                                       | (exfalso; omega)
                                       | (refine WO.no rfl rfl (WO.no rfl rfl (WO.no rfl rfl (WO.p rfl rfl (WO.p rfl rfl (WO.no rfl rfl (WO.no rfl rfl (WO.no rfl rfl (WO.p rfl rfl (WO.p rfl rfl (WO.no rfl rfl (WO.no rfl rfl ?_)))))))))))
                                          refine WO.no rfl rfl (WO.p rfl rfl ?_)
                                          refine WO.nil ?_
                                          refine W.cond_t rfl ?_
                                          refine W.sreg ?_
                                          refine WO.p rfl rfl ?_
                                          refine WO.nil ?_
                                          refine W.ret ?_
                                          exact fin.ret (Res.one rfl (RV.tmp rfl)) rfl)
                                     · first
                                       | (exfalso; omega)
                                       | (refine WO.go' rfl (WO.field0 rfl rfl rfl (WO.go' rfl (WO.load rfl rfl (Cell.own Pick.head rfl) rfl (WO.pg rfl rfl rfl (WO.p rfl rfl (WO.p rfl rfl ?_))))))
                                          refine WO.guard_bl rfl rfl (fun c18 => ?_) (fun c18 => ?_)
                                          · first
                                            | (exfalso; omega)
                                            | (refine WO.no rfl rfl (WO.no rfl rfl (WO.no rfl rfl (WO.p rfl rfl (WO.p rfl rfl (WO.no rfl rfl (WO.no rfl rfl (WO.no rfl rfl (WO.p rfl rfl ?_))))))))
                                               refine WO.nil ?_
                                               refine W.cond_t rfl ?_
                                               refine W.sreg ?_
                                               refine WO.p rfl rfl ?_
                                               refine WO.nil ?_
                                               refine W.ret ?_
                                               exact fin.ret (Res.one rfl (RV.tmp rfl)) rfl)
                                          · first
                                            | (exfalso; omega)
                                            | (refine WO.go' rfl (WO.fieldL rfl rfl rfl (WO.go' rfl (WO.load rfl rfl (Cell.own Pick.head rfl) rfl (WO.pg rfl rfl rfl (WO.p rfl rfl (WO.p rfl rfl ?_))))))
                                               refine WO.guard_bl rfl rfl (fun c19 => ?_) (fun c19 => ?_)
                                               · first
                                                 | (exfalso; omega)
                                                 | (refine WO.no rfl rfl (WO.no rfl rfl (WO.no rfl rfl (WO.p rfl rfl ?_)))
                                                    refine WO.nil ?_
                                                    refine W.cond_t rfl ?_
                                                    refine W.sreg ?_
                                                    refine WO.p rfl rfl ?_
                                                    refine WO.nil ?_
                                                    refine W.ret ?_
                                                    exact fin.ret (Res.one rfl (RV.tmp rfl)) rfl)
                                               · first
                                                 | (exfalso; omega)
                                                 | (refine WO.go' rfl (WO.fieldL rfl rfl rfl (WO.go' rfl (WO.load rfl rfl (Cell.own Pick.head rfl) rfl (WO.pg rfl rfl rfl (WO.p rfl rfl ?_)))))
                                                    refine WO.nil ?_
                                                    refine W.cond_bl rfl (fun c20 => ?_) (fun c20 => ?_)
                                                    · first
                                                      | (exfalso; omega)
                                                      | (refine W.sreg ?_
                                                         refine WO.p rfl rfl ?_
                                                         refine WO.nil ?_
                                                         refine W.ret ?_
                                                         exact fin.ret (Res.one rfl (RV.tmp rfl)) rfl)
                                                    · first
                                                      | (exfalso; omega)
                                                      | (refine W.skip ?_
                                                         refine W.sreg ?_
                                                         refine WO.p rfl rfl (WO.conv64 rfl rfl rfl (by (first | (unfold in64; omega) | (unfold in64; omega))) rfl (WO.rem rfl rfl (by first | omega | assumption) rfl (WO.p rfl rfl ?_)))
                                                         refine WO.nil ?_
                                                         refine W.seq ?_
                                                         refine W.drawD 11 [.b 0 [], .b 1 [], .r 2 [], .r 3 [], .c 4 [], .c 5 [], .r 6 [], .r 7 [], .r 8 [], .a 9 14 (.cells #[.int .i64 0, .slice none 0 0] 24 (0, 0)), .s 10 []] [] (A0 := []) (Sub.refl _) (by kernel_rfl) ?_ ?_
                                                         · exact (ALok.b (ALok.b (ALok.r (ALok.r (ALok.c (ALok.c (ALok.r (ALok.r (ALok.r (ALok.cons rfl rfl rfl rfl rfl (ALok.s ALok.nil)))))))))))
                                                         refine' DT.b rfl rfl rfl ?hq ?_
                                                         case hq =>
                                                           refine WO.loadA rfl rfl (Cells.own (Pick.tail (Pick.head))) rfl rfl ?_
                                                           exact WO.nil ⟨rfl, rfl⟩
                                                         refine' DT.b rfl rfl rfl ?hq ?_
                                                         case hq =>
                                                           refine WO.loadA rfl rfl (Cells.own (Pick.tail (Pick.head))) rfl rfl ?_
                                                           exact WO.nil ⟨rfl, rfl⟩
                                                         refine' DT.r rfl rfl rfl ?hq ?_
                                                         case hq =>
                                                           refine WO.p rfl rfl ?_
                                                           exact WO.nil ⟨rfl, rfl⟩
                                                         refine' DT.r rfl rfl rfl ?hq ?_
                                                         case hq =>
                                                           refine WO.p rfl rfl ?_
                                                           exact WO.nil ⟨rfl, rfl⟩
                                                         refine DT.c [_, _, _] rfl rfl rfl rfl ?_
                                                         refine WO.call (Post := fun r Hq => Hq = [OwE encI 2 1 r (runL rs (gT rs (tideV (oddF xs D)) (n.tmod 20001)))]) rfl Try.call39 (fun L w hi => law_Ground w m (n.tmod 20001) o l rs (oddF xs D) (hR.later hi) (RdF.of_ow (e := 2) encI_ok (by repeat (first | exact Pick.head | apply Pick.tail)) hi) hv hot ⟨by omega, by omega⟩) rfl ?_
                                                         rintro gv _ rfl
                                                         refine WO.nil ⟨_, [_], rfl, rfl, (Keep.r (Keep.r (Keep.b (Keep.b Keep.nil)))), ?_⟩
                                                         refine DT.c [_, _, _, _] rfl rfl rfl rfl ?_
                                                         refine WO.call (Post := fun r Hq => ∃ x : Value × Bool × List (Int × Int × Int), (r = .tuple #[.agg #[.int .i64 m, x.1], .bool x.2.1] ∧ (x.2.1 = true → x.2.2 = withL rs (runL rs (gT rs (tideV (oddF xs D)) (n.tmod 20001))) ∧ sp20 (runL rs (gT rs (tideV (oddF xs D)) (n.tmod 20001)))) ∧ (x.2.1 = false → ¬ sp20 (runL rs (gT rs (tideV (oddF xs D)) (n.tmod 20001))))) ∧ Hq = [OwE encR 66 3 x.1 x.2.2]) rfl Try.call38 (fun L w hi => law_with w m o gv rs (runL rs (gT rs (tideV (oddF xs D)) (n.tmod 20001))) (hR.later hi) (RdF.of_ow (e := 2) encI_ok (by repeat (first | exact Pick.head | apply Pick.tail)) hi) (by omega) (by omega)) rfl ?_
                                                         rintro _ _ ⟨⟨xo, bt, rx⟩, ⟨rfl, hxt, hxf⟩, rfl⟩
                                                         dsimp only at hxt hxf ⊢
                                                         refine WO.fact (OwE.form (enc := encR) (e := 66) (sz := 3) (xs := rx) (by repeat (first | exact Pick.head | apply Pick.tail))) (fun hf => ?_)
                                                         obtain ⟨a1, c1, rfl⟩ := hf
                                                         refine WO.nil ⟨_, [_, _], rfl, rfl, (Keep.c (Keep.r (Keep.r (Keep.b (Keep.b Keep.nil))))), ?_⟩
                                                         refine' DT.r rfl rfl rfl ?hq ?_
                                                         case hq =>
                                                           refine WO.p rfl rfl ?_
                                                           exact WO.nil ⟨rfl, rfl⟩
                                                         refine' DT.r rfl rfl rfl ?hq ?_
                                                         case hq =>
                                                           refine WO.p rfl rfl ?_
                                                           exact WO.nil ⟨rfl, rfl⟩
                                                         refine' DT.r rfl rfl rfl ?hq ?_
                                                         case hq =>
                                                           refine WO.p rfl rfl ?_
                                                           exact WO.nil ⟨rfl, rfl⟩
                                                         refine DT.a (fun b8 => ?_)
                                                         refine DT.s [_, _, _, _, _, _] rfl rfl rfl ?_
                                                         refine WO.storeA rfl rfl rfl rfl Pick.head rfl rfl ?_
                                                         refine WO.nil ⟨[_, _, _], rfl, rfl, (Keep.a (Keep.r (Keep.r (Keep.r (Keep.c (Keep.c (Keep.r (Keep.r (Keep.b (Keep.b Keep.nil)))))))))), ?_⟩
                                                         refine DT.nil [_, _, _, _, _, _] rfl ?_
                                                         refine WO.p rfl rfl ?_
                                                         refine WO.nil ?_
                                                         refine W.seq ?_
                                                         refine W.sreg ?_
                                                         refine WO.p rfl rfl (WO.p rfl rfl ?_)
                                                         refine WO.nil ?_
                                                         refine W.cond rfl (fun c21 => ?_) (fun c21 => ?_)
                                                         · first
                                                           | (exfalso; omega)
                                                           | (refine W.sreg ?_
                                                              refine WO.callR rfl Try.call12 (fun L w hi => law_Works w) rfl ?_
                                                              refine WO.p rfl rfl ?_
                                                              refine WO.nil ?_
                                                              refine W.ret ?_
                                                              exact fin.ret (Res.one rfl (RV.tmp rfl)) rfl)
                                                         · first
                                                           | (exfalso; omega)
                                                           | (refine W.skip ?_
                                                              refine W.seq ?_
                                                              have hbt : bt = true := by first | assumption | (cases bt <;> simp_all)
                                                              obtain ⟨rfl, hsp⟩ := hxt hbt
                                                              have hsb := mean_SpB (g := gX (runL rs (gT rs (tideV (oddF xs D)) (n.tmod 20001)))) hv (fun i hi => by rw [gX_at]; exact hsp _ (getD_mem (by omega) 0))
                                                              rw [hG] at hsb
                                                              have hsc := hsb.2
                                                              refine W.drawD 9 [.b 0 [], .b 1 [], .c 2 [], .f 3 [], .r 4 [], .r 5 [], .r 6 [], .a 7 16 (.cells #[.int .i64 0, .int .i64 0] 36 (0, 0)), .s 8 []] [] (A0 := []) (Sub.refl _) (by kernel_rfl) ?_ ?_
                                                              · exact (ALok.b (ALok.b (ALok.c (ALok.f (ALok.r (ALok.r (ALok.r (ALok.cons rfl rfl rfl rfl rfl (ALok.s ALok.nil)))))))))
                                                              refine' DT.b rfl rfl rfl ?hq ?_
                                                              case hq =>
                                                                refine WO.loadA rfl rfl (Cells.own Pick.head) rfl rfl ?_
                                                                exact WO.nil ⟨rfl, rfl⟩
                                                              refine' DT.b rfl rfl rfl ?hq ?_
                                                              case hq =>
                                                                refine WO.loadA rfl rfl (Cells.own Pick.head) rfl rfl ?_
                                                                exact WO.nil ⟨rfl, rfl⟩
                                                              refine DT.c [_, _, _, _, _, _] rfl rfl rfl rfl ?_
                                                              refine WO.call (Post := fun r Hq => Hq = [OwE encI 2 1 r (runL rs (gT rs (tideV (oddF xs D)) (n.tmod 20001)))]) rfl Try.call40 (fun L w hi => by have h := law_True w m (.slice a1 (withL rs (runL rs (gT rs (tideV (oddF xs D)) (n.tmod 20001)))).length c1) (.slice none 0 0) (withL rs (runL rs (gT rs (tideV (oddF xs D)) (n.tmod 20001)))) [] (RdF.of_ow (e := 66) encR_ok (by repeat (first | exact Pick.head | apply Pick.tail)) hi) RdF.nil0 (with_VT hv hlen hsp) (by simp) (by simp); rw [with_true hlen] at h; exact h) rfl ?_
                                                              rintro yv _ rfl
                                                              refine WO.nil ⟨_, [_], rfl, rfl, (Keep.b (Keep.b Keep.nil)), ?_⟩
                                                              refine' DT.f [_, _, _, _, _, _, _] rfl rfl rfl rfl ?hq ?_
                                                              case hq =>
                                                                refine WO.callR (r := .tuple #[.agg #[.int .i64 (n.tmod 20001 * q2 + q1), .int .i64 q2], .int .i64 0]) rfl Try.call22 (fun L w hi => by have h := c_Mean w m (.slice a1 (withL rs (runL rs (gT rs (tideV (oddF xs D)) (n.tmod 20001)))).length c1) yv (withL rs (runL rs (gT rs (tideV (oddF xs D)) (n.tmod 20001)))) (runL rs (gT rs (tideV (oddF xs D)) (n.tmod 20001))) (RdF.of_ow (e := 66) encR_ok (by repeat (first | exact Pick.head | apply Pick.tail)) hi) (RdF.of_ow (e := 2) encI_ok (by repeat (first | exact Pick.head | apply Pick.tail)) hi); rw [with_meanR hv hlen hsp, hG] at h; exact h) rfl ?_
                                                                exact WO.nil ⟨rfl, rfl⟩
                                                              refine' DT.r rfl rfl rfl ?hq ?_
                                                              case hq =>
                                                                refine WO.p rfl rfl ?_
                                                                exact WO.nil ⟨rfl, rfl⟩
                                                              refine' DT.r rfl rfl rfl ?hq ?_
                                                              case hq =>
                                                                refine WO.p rfl rfl ?_
                                                                exact WO.nil ⟨rfl, rfl⟩
                                                              refine' DT.r rfl rfl rfl ?hq ?_
                                                              case hq =>
                                                                refine WO.p rfl rfl ?_
                                                                exact WO.nil ⟨rfl, rfl⟩
                                                              refine DT.a (fun b9 => ?_)
                                                              refine DT.s [_, _, _, _, _, _, _, _] rfl rfl rfl ?_
                                                              refine WO.storeA rfl rfl rfl rfl Pick.head rfl rfl ?_
                                                              refine WO.nil ⟨[_, _], rfl, rfl, (Keep.a (Keep.r (Keep.r (Keep.r (Keep.f (Keep.c (Keep.b (Keep.b Keep.nil)))))))), ?_⟩
                                                              refine DT.nil [_, _, _, _, _, _, _, _] rfl ?_
                                                              refine WO.p rfl rfl ?_
                                                              refine WO.nil ?_
                                                              refine W.sreg ?_
                                                              refine WO.p rfl rfl (WO.p rfl rfl (WO.p rfl rfl ?_))
                                                              refine WO.guard_bl rfl rfl (fun c22 => ?_) (fun c22 => ?_)
                                                              · first
                                                                | (exfalso; omega)
                                                                | (refine WO.go' rfl (WO.fieldL rfl rfl rfl (WO.go' rfl (WO.load rfl rfl (Cell.own Pick.head rfl) rfl (WO.go' rfl (WO.fieldL rfl rfl rfl (WO.go' rfl (WO.load rfl rfl (Cell.own (Pick.tail (Pick.tail (Pick.tail (Pick.tail (Pick.tail (Pick.head)))))) rfl) rfl (WO.pg rfl rfl rfl (WO.p rfl rfl (WO.p rfl rfl ?_))))))))))
                                                                   refine WO.guard_bl rfl rfl (fun c23 => ?_) (fun c23 => ?_)
                                                                   · first
                                                                     | (exfalso; omega)
                                                                     | (refine WO.go' rfl (WO.field0 rfl rfl rfl (WO.go' rfl (WO.load rfl rfl (Cell.own Pick.head rfl) rfl (WO.pg rfl rfl rfl (WO.go' rfl (WO.fieldL rfl rfl rfl (WO.go' rfl (WO.load rfl rfl (Cell.own (Pick.tail (Pick.tail (Pick.tail (Pick.tail (Pick.tail (Pick.head)))))) rfl) rfl (WO.go' rfl (WO.ar rfl rfl rfl (by (first | (unfold in64; omega) | (unfold in64; omega))) rfl (WO.go' rfl ?_)))))))))))
                                                                        refine WO.field0 rfl rfl rfl (WO.go' rfl (WO.load rfl rfl (Cell.own (Pick.tail (Pick.tail (Pick.tail (Pick.tail (Pick.tail (Pick.head)))))) rfl) rfl (WO.go' rfl (WO.ar rfl rfl rfl (by (first | (unfold in64; omega) | (unfold in64; omega))) rfl (WO.pg rfl rfl rfl (WO.p rfl rfl (WO.p rfl rfl ?_)))))))
                                                                        refine WO.guard_bl rfl rfl (fun c24 => ?_) (fun c24 => ?_)
                                                                        · first
                                                                          | (exfalso; omega)
                                                                          | (refine WO.go' rfl ?_
                                                                             refine WO.callR rfl Try.call12 (fun L w hi => law_Works w) rfl ?_
                                                                             refine WO.p rfl rfl (WO.p rfl rfl ?_)
                                                                             refine WO.nil ?_
                                                                             refine W.ret ?_
                                                                             exact fin.ret (Res.one rfl (RV.tmp rfl)) rfl)
                                                                        · first
                                                                          | (exfalso; omega)
                                                                          | (refine WO.no rfl rfl (WO.p rfl rfl (WO.p rfl rfl ?_))
                                                                             refine WO.nil ?_
                                                                             refine W.ret ?_
                                                                             exact fin.ret (Res.one rfl (RV.tmp rfl)) rfl))
                                                                   · first
                                                                     | (exfalso; omega)
                                                                     | (refine WO.no rfl rfl (WO.no rfl rfl (WO.no rfl rfl (WO.no rfl rfl (WO.no rfl rfl (WO.no rfl rfl (WO.no rfl rfl (WO.no rfl rfl (WO.no rfl rfl (WO.no rfl rfl (WO.p rfl rfl (WO.p rfl rfl ?_)))))))))))
                                                                        refine WO.no rfl rfl (WO.p rfl rfl (WO.p rfl rfl ?_))
                                                                        refine WO.nil ?_
                                                                        refine W.ret ?_
                                                                        exact fin.ret (Res.one rfl (RV.tmp rfl)) rfl))
                                                              · first
                                                                | (exfalso; omega)
                                                                | (refine WO.no rfl rfl (WO.no rfl rfl (WO.no rfl rfl (WO.no rfl rfl (WO.no rfl rfl (WO.p rfl rfl (WO.p rfl rfl (WO.no rfl rfl (WO.no rfl rfl (WO.no rfl rfl (WO.no rfl rfl (WO.no rfl rfl ?_)))))))))))
                                                                   refine WO.no rfl rfl (WO.no rfl rfl (WO.no rfl rfl (WO.no rfl rfl (WO.no rfl rfl (WO.p rfl rfl (WO.p rfl rfl (WO.no rfl rfl (WO.p rfl rfl (WO.p rfl rfl ?_)))))))))
                                                                   refine WO.nil ?_
                                                                   refine W.ret ?_
                                                                   exact fin.ret (Res.one rfl (RV.tmp rfl)) rfl)))))))))))))
end Go.Proofs.Ytkiaepcklbidgaa
