/-
  What is proved here: the laws' own true hulls. Conditions: none; each contract states its own.
  What is proved here: the law BoxAttained, as a contract. Conditions: none.
-/
import Derived.Test.YtgihklgpehfbpaaM6
namespace Go.Proofs.Ytgihklgpehfbpaa
open Go Go.TH
attribute [local irreducible] W WO pt
set_option maxRecDepth 10000
set_option maxHeartbeats 2000000
def encU (n : Int) : List Value := [.int .u8 n]
/-- xs is within the first places of row i -/
def rowW (rows : List (List (Int × Int))) (i : Nat) (xs : List Int) : Prop := ∀ k, k < xs.length → ((rows.getD i []).getD k (0, 0)).1 ≤ xs.getD k 0 ∧ xs.getD k 0 ≤ ((rows.getD i []).getD k (0, 0)).2
theorem getD_snoc {α : Type} {l : List α} {x z : α} {k : Nat} : (l ++ [x]).getD k z = if k < l.length then l.getD k z else if k = l.length then x else z := by
  rw [List.getD_eq_getElem?_getD]
  by_cases h : k < l.length
  · rw [if_pos h, List.getElem?_append_left h, List.getD_eq_getElem?_getD]
  · rw [if_neg h, List.getElem?_append_right (by omega)]
    by_cases h2 : k = l.length
    · rw [if_pos h2, h2, Nat.sub_self]; rfl
    · rw [if_neg h2]
      obtain ⟨m, hm⟩ : ∃ m, k - l.length = m + 1 := ⟨k - l.length - 1, by omega⟩
      rw [hm]; rfl
theorem rowW_snoc {rows : List (List (Int × Int))} {i : Nat} {xs : List Int} {x : Int} {k : Nat} (h : rowW rows i xs) (hl : xs.length = k) (hx : ((rows.getD i []).getD k (0, 0)).1 ≤ x ∧ x ≤ ((rows.getD i []).getD k (0, 0)).2) : rowW rows i (xs ++ [x]) := by
  intro j hj
  simp at hj
  rw [getD_snoc]
  by_cases h1 : j < xs.length
  · rw [if_pos h1]; exact h j h1
  · obtain rfl : j = xs.length := by omega
    rw [if_neg h1, if_pos rfl, hl]; exact hx
/-- the first i rows are those of a true hull -/
def rowsW (rows : List (List (Int × Int))) (ys : List (List Int)) : Prop := ∀ i, i < ys.length → (ys.getD i []).length = (rows.getD i []).length ∧ rowW rows i (ys.getD i [])
theorem rowsW_snoc {rows : List (List (Int × Int))} {ys : List (List Int)} {xs : List Int} {i : Nat} (h : rowsW rows ys) (hl : ys.length = i) (h1 : xs.length = (rows.getD i []).length) (h2 : rowW rows i xs) : rowsW rows (ys ++ [xs]) := by
  intro j hj
  simp at hj
  rw [getD_snoc]
  by_cases h3 : j < ys.length
  · rw [if_pos h3]; exact h j h3
  · obtain rfl : j = ys.length := by omega
    rw [if_neg h3, if_pos rfl, hl]; exact ⟨h1, h2⟩
theorem rowsW_tv {rows : List (List (Int × Int))} {ys : List (List Int)} (hl : ys.length = rows.length) (h : rowsW rows ys) : TV rows ys := ⟨hl, fun i hi => (h i hi).1, fun i k hi hk => (h i hi).2 k hk⟩
theorem tmod_in {a b : Int} (ha : 0 ≤ a) (hb : 0 < b) : 0 ≤ a.tmod b ∧ a.tmod b ≤ b - 1 := by have := tmod_lt ha hb; omega
theorem law_True (w : World) (sp st : Int) (o o' : Value) (rv : List Value) (rows : List (List (Int × Int))) (by' : List Int) (hR : RdR encP 2 w.heap.size w o rv rows) (hB : RdF encU 1 w.heap.size w o' by') (hb8 : ∀ x ∈ by', 0 ≤ x ∧ x ≤ 255) (hv : HV sp st rows) :
    Ct Try.prog 29 [.agg #[.int .i64 sp, .int .i64 st, o], o'].toArray w fun v w' => ∃ Hq, (∃ x : List Value × List (List Int), TV rows x.2 ∧ Hq = [OwC 53 1 v rows.length x.1, RowsE encI 2 1 x.1 x.2]) ∧ Inv w [] Hq w' := by
  refine Ct.of mixed tyTab Try.func29 rfl rfl ?_
  replace hR : RdR encP 2 (fnCx mixed tyTab Try.f29.ntmps w).B (fnCx mixed tyTab Try.f29.ntmps w).w0 o rv rows := hR
  replace hB : RdF encU 1 (fnCx mixed tyTab Try.f29.ntmps w).B (fnCx mixed tyTab Try.f29.ntmps w).w0 o' by' := hB
  have hle := hR.sl.le
  have hlb := hB.sl.le
  have hn := hv.n
  have hm := hv.m
  have h8 : ∀ j, j < by'.length → 0 ≤ by'.getD j 0 ∧ by'.getD j 0 ≤ 255 := fun j hj => hb8 _ (getD_mem hj 0)
  refine W.sreg ?_
  refine WO.boxA rfl rfl (fun b1 hb1 => ?_)
  refine WO.p rfl rfl ?_
  refine WO.nil ?_
  refine W.sreg ?_
  refine WO.p rfl rfl ?_
  refine WO.nil ?_
  refine W.sreg ?_
  refine WO.p rfl rfl ?_
  refine WO.nil ?_
  refine W.seq ?_
  refine W.sreg ?_
  refine WO.p rfl rfl ?_
  refine WO.nil ?_
  refine W.block ?_
  refine W.chg (owcNil (e := 53) (sz := 1)) ?_
  refine W.chg (rowsNil (enc := encI) (e := 2) (sz := 1)) ?_
  refine W.loop5 (fun (i : Nat) (at' : Nat) (v : Value) (rv' : List Value) (ys : List (List Int)) => i ≤ rows.length ∧ at' ≤ 6 * i ∧ ys.length = i ∧ rowsW rows ys)
    (fun (i : Nat) (at' : Nat) (v : Value) (rv' : List Value) (ys : List (List Int)) => [(7, .int .i64 (i : Int)), (6, .int .i64 (at' : Int)), (5, v), (1, o'), (2, .pointer (some ⟨b1, 0, none⟩))])
    (fun (i : Nat) (at' : Nat) (v : Value) (rv' : List Value) (ys : List (List Int)) => [pt b1 (.cells #[.int .i64 sp, .int .i64 st, o] 24 (0, 0)), OwC 53 1 v i rv', RowsE encI 2 1 rv' ys])
    (fun (i : Nat) (at' : Nat) (v : Value) (rv' : List Value) (ys : List (List Int)) => rows.length - i) 0 0 (.slice none 0 0) [] []
    (by exact ⟨by omega, by omega, rfl, fun j hj => by simp at hj⟩) ⟨rfl, rfl, rfl, rfl, rfl, trivial⟩ (by repeat (first | exact Sub.nil | refine Sub.cons (by repeat (first | exact Pick.head | apply Pick.tail)) ?_)) ?_
  rintro i at' v rv' ys ⟨hi, hat, hyl, hW⟩
  refine W.seq ?_
  refine W.sreg ?_
  refine WO.p rfl rfl (WO.fieldL rfl rfl rfl (WO.load rfl rfl (Cell.own Pick.head rfl) rfl ?_))
  refine' WO.len (n := _) rfl rfl ?hs rfl ?_
  case hs => (first | exact hR.sl | exact hB.sl | (refine (hR.row _ ?_).sl; omega))
  refine WO.p rfl rfl ?_
  refine WO.nil ?_
  refine W.cond_bl rfl (fun c1 => ?_) (fun c1 => ?_)
  · first
    | (exfalso; omega)
    | (refine W.skip ?_
       refine W.seq ?_
       refine W.block ?_
       refine W.sreg ?_
       refine WO.p rfl rfl ?_
       refine WO.nil ?_
       refine W.seq ?_
       refine W.sreg ?_
       refine WO.p rfl rfl ?_
       refine WO.nil ?_
       refine W.block ?_
       refine W.chg (owNil (enc := encI) (e := 2) (sz := 1)) ?_
       refine W.loop4 (fun (k : Nat) (at2 : Nat) (r : Value) (xs : List Int) => k ≤ (rows.getD i []).length ∧ at2 ≤ at' + k ∧ xs.length = k ∧ rowW rows i xs)
         (fun (k : Nat) (at2 : Nat) (r : Value) (xs : List Int) => [(9, .int .i64 (k : Int)), (8, r), (7, .int .i64 (i : Int)), (6, .int .i64 (at2 : Int)), (5, v), (1, o'), (2, .pointer (some ⟨b1, 0, none⟩))])
         (fun (k : Nat) (at2 : Nat) (r : Value) (xs : List Int) => [pt b1 (.cells #[.int .i64 sp, .int .i64 st, o] 24 (0, 0)), OwE encI 2 1 r xs, OwC 53 1 v i rv', RowsE encI 2 1 rv' ys])
         (fun (k : Nat) (at2 : Nat) (r : Value) (xs : List Int) => (rows.getD i []).length - k) 0 at' (.slice none 0 0) []
         (by exact ⟨by omega, by omega, rfl, fun j hj => by simp at hj⟩) ⟨rfl, rfl, rfl, rfl, rfl, rfl, rfl, trivial⟩ (by repeat (first | exact Sub.nil | refine Sub.cons (by repeat (first | exact Pick.head | apply Pick.tail)) ?_)) ?_
       rintro k at2 r xs ⟨hk, hat2, hxl, hxW⟩
       have hlk := (hR.row i (by omega)).sl.le
       have hlk2 := hv.eq i (by omega)
       have hok := hv.ok i k (by omega)
       refine W.seq ?_
       refine W.sreg ?_
       refine WO.p rfl rfl (WO.fieldL rfl rfl rfl (WO.load rfl rfl (Cell.own Pick.head rfl) rfl (WO.p rfl rfl ?_)))
       refine' WO.indexAddr (n := _) (i := _) rfl rfl rfl ?hs ?h1 rfl ?_
       case hs => (first | exact hR.sl | exact hB.sl | (refine (hR.row _ ?_).sl; omega))
       case h1 => (first | omega | (simp; omega))
       refine' WO.load (v := _) rfl rfl ?hc rfl ?_
       case hc => (first | (refine hR.cellV ?_; omega) | (refine hB.cell0 ?_ 0 ?_ <;> first | rfl | omega))
       refine' WO.len (n := _) rfl rfl ?hs rfl ?_
       case hs => (first | exact hR.sl | exact hB.sl | (refine (hR.row _ ?_).sl; omega))
       refine WO.p rfl rfl ?_
       refine WO.nil ?_
       refine W.cond_bl rfl (fun c2 => ?_) (fun c2 => ?_)
       · first
         | (exfalso; omega)
         | (refine W.skip ?_
            refine W.seq ?_
            refine W.block ?_
            have hok := hok (by omega)
            refine W.sreg ?_
            refine WO.fieldL rfl rfl rfl (WO.load rfl rfl (Cell.own Pick.head rfl) rfl (WO.p rfl rfl ?_))
            refine' WO.indexAddr (n := _) (i := _) rfl rfl rfl ?hs ?h1 rfl ?_
            case hs => (first | exact hR.sl | exact hB.sl | (refine (hR.row _ ?_).sl; omega))
            case h1 => (first | omega | (simp; omega))
            refine' WO.load (v := _) rfl rfl ?hc rfl ?_
            case hc => (first | (refine hR.cellV ?_; omega) | (refine hB.cell0 ?_ 0 ?_ <;> first | rfl | omega))
            refine WO.p rfl rfl ?_
            refine' WO.indexAddr (n := _) (i := _) rfl rfl rfl ?hs ?h1 rfl ?_
            case hs => (first | exact hR.sl | exact hB.sl | (refine (hR.row _ ?_).sl; omega))
            case h1 => (first | omega | (simp; omega))
            refine' WO.loadA (vs := _) rfl rfl ?hc ?hl rfl ?_
            case hc => (first | (refine (hR.row _ ?_).cells ?_ (0, 0) <;> omega))
            case hl => rfl
            refine WO.alloc rfl rfl rfl (fun b2 hb2 => ?_)
            refine WO.storeA rfl rfl rfl rfl Pick.head rfl rfl ?_
            refine WO.nil ?_
            refine W.sreg ?_
            refine WO.field0 rfl rfl rfl (WO.load rfl rfl (Cell.own Pick.head rfl) rfl (WO.p rfl rfl ?_))
            refine WO.nil ?_
            refine W.seq ?_
            refine W.sreg ?_
            refine WO.p rfl rfl ?_
            refine' WO.len (n := _) rfl rfl ?hs rfl ?_
            case hs => (first | exact hR.sl | exact hB.sl | (refine (hR.row _ ?_).sl; omega))
            refine WO.p rfl rfl ?_
            refine WO.nil ?_
            refine W.cond_bl rfl (fun c3 => ?_) (fun c3 => ?_)
            · first
              | (exfalso; omega)
              | (have hq := tmod_in (a := (at2 : Int)) (b := (by'.length : Int)) (by omega) (by omega)
                 have hu := h8 ((at2 : Int).tmod (by'.length : Int)).toNat (by omega)
                 have hr := tmod_in (a := by'.getD ((at2 : Int).tmod (by'.length : Int)).toNat 0) (b := ((rows.getD i []).getD k (0, 0)).2 - ((rows.getD i []).getD k (0, 0)).1 + 1) (by omega) (by omega)
                 refine W.drawD 16 [.r 0 [], .r 1 [], .r 2 [], .r 3 [], .r 4 [], .r 5 [], .r 6 [], .b 7 [], .r 8 [], .r 9 [], .b 10 [], .r 11 [], .b 12 [], .r 13 [], .r 14 [], .r 15 []] [] (A0 := []) (Sub.refl _) (by kernel_rfl) ?_ ?_
                 · exact (ALok.r (ALok.r (ALok.r (ALok.r (ALok.r (ALok.r (ALok.r (ALok.b (ALok.r (ALok.r (ALok.b (ALok.r (ALok.b (ALok.r (ALok.r (ALok.r ALok.nil))))))))))))))))
                 refine' DT.r rfl rfl rfl ?hq ?_
                 case hq =>
                   refine WO.p rfl rfl ?_
                   exact WO.nil ⟨rfl, rfl⟩
                 refine' DT.r rfl rfl rfl ?hq ?_
                 case hq =>
                   refine WO.p rfl rfl ?_
                   exact WO.nil ⟨rfl, rfl⟩
                 refine' DT.r rfl rfl rfl ?hq ?_
                 case hq =>
                   refine WO.p rfl rfl ?_
                   exact WO.nil ⟨rfl, rfl⟩
                 refine' DT.r rfl rfl rfl ?hq ?_
                 case hq =>
                   refine WO.p rfl rfl ?_
                   exact WO.nil ⟨rfl, rfl⟩
                 refine' DT.r rfl rfl rfl ?hq ?_
                 case hq =>
                   refine' WO.len (n := _) rfl rfl ?hs rfl ?_
                   case hs => (first | exact hR.sl | exact hB.sl | (refine (hR.row _ ?_).sl; omega))
                   exact WO.nil ⟨rfl, rfl⟩
                 refine' DT.r rfl rfl rfl ?hq ?_
                 case hq =>
                   refine WO.rem rfl rfl (by first | omega | assumption) rfl ?_
                   exact WO.nil ⟨rfl, rfl⟩
                 refine' DT.r rfl rfl rfl ?hq ?_
                 case hq =>
                   refine' WO.indexAddrZ (n := _) rfl rfl rfl ?hs ?h00 ?h1 rfl ?_
                   case hs => (first | exact hR.sl | exact hB.sl | (refine (hR.row _ ?_).sl; omega))
                   case h00 => omega
                   case h1 => (first | omega | (simp; omega))
                   exact WO.nil ⟨rfl, rfl⟩
                 refine' DT.b rfl rfl rfl ?hq ?_
                 case hq =>
                   refine' WO.load (v := _) rfl rfl ?hc rfl ?_
                   case hc => (first | (refine hR.cellV ?_; omega) | (refine hB.cell0 ?_ 0 ?_ <;> first | rfl | omega))
                   exact WO.nil ⟨rfl, rfl⟩
                 refine' DT.r rfl rfl rfl ?hq ?_
                 case hq =>
                   refine WO.conv64 rfl rfl rfl (by (first | (unfold in64; omega) | (unfold in64; omega))) rfl ?_
                   exact WO.nil ⟨rfl, rfl⟩
                 refine' DT.r rfl rfl rfl ?hq ?_
                 case hq =>
                   refine WO.fieldL rfl rfl rfl ?_
                   exact WO.nil ⟨rfl, rfl⟩
                 refine' DT.b rfl rfl rfl ?hq ?_
                 case hq =>
                   refine WO.load rfl rfl (Cell.own Pick.head rfl) rfl ?_
                   exact WO.nil ⟨rfl, rfl⟩
                 refine' DT.r rfl rfl rfl ?hq ?_
                 case hq =>
                   refine WO.field0 rfl rfl rfl ?_
                   exact WO.nil ⟨rfl, rfl⟩
                 refine' DT.b rfl rfl rfl ?hq ?_
                 case hq =>
                   refine WO.load rfl rfl (Cell.own Pick.head rfl) rfl ?_
                   exact WO.nil ⟨rfl, rfl⟩
                 refine' DT.r rfl rfl rfl ?hq ?_
                 case hq =>
                   refine WO.ar rfl rfl rfl (by (first | (unfold in64; omega) | (unfold in64; omega))) rfl ?_
                   exact WO.nil ⟨rfl, rfl⟩
                 refine' DT.r rfl rfl rfl ?hq ?_
                 case hq =>
                   refine WO.ar rfl rfl rfl (by (first | (unfold in64; omega) | (unfold in64; omega))) rfl ?_
                   exact WO.nil ⟨rfl, rfl⟩
                 refine' DT.r rfl rfl rfl ?hq ?_
                 case hq =>
                   refine WO.rem rfl rfl (by first | omega | assumption) rfl ?_
                   exact WO.nil ⟨rfl, rfl⟩
                 refine DT.nil [_, _, _, _, _] rfl ?_
                 refine WO.ar rfl rfl rfl (by (first | (unfold in64; omega) | (unfold in64; omega))) rfl (WO.p rfl rfl ?_)
                 refine WO.nil ?_
                 refine W.sreg ?_
                 refine WO.p rfl rfl (WO.p rfl rfl ?_)
                 refine' WO.buildSl (cs := _) rfl rfl rfl rfl ?hf rfl rfl ?hl rfl (fun v3 => ?_)
                 case hf => (conv => lhs; simp [-List.getD_eq_getElem?_getD, fillL, vcl, wrl, TTab.pl?.lget']) <;> rfl
                 case hl => rfl
                 first | refine' WO.appendE (enc := encI) (m := 1) (ys := [((rows.getD i []).getD k (0, 0)).1]) encI_ok rfl rfl rfl rfl rfl (by repeat (first | exact Pick.head | apply Pick.tail)) (isSl_lit (by omega)) (by omega) rfl (OwC.cells .head) (by omega) (by omega) rfl (fun g c => ?_) | refine' WO.appendE (enc := encI) (m := 1) (ys := [((rows.getD i []).getD k (0, 0)).1 + (by'.getD ((at2 : Int).tmod (by'.length : Int)).toNat 0).tmod (((rows.getD i []).getD k (0, 0)).2 - ((rows.getD i []).getD k (0, 0)).1 + 1)]) encI_ok rfl rfl rfl rfl rfl (by repeat (first | exact Pick.head | apply Pick.tail)) (isSl_lit (by omega)) (by omega) rfl (OwC.cells .head) (by omega) (by omega) rfl (fun g c => ?_)
                 refine WO.p rfl rfl ?_
                 refine WO.nil ?_
                 refine W.region ?_
                 refine WO.p rfl rfl (WO.ar rfl rfl rfl (by (first | (unfold in64; omega) | (unfold in64; omega))) rfl (WO.p rfl rfl ?_))
                 refine WO.nil ?_
                 refine W.region ?_
                 refine WO.p rfl rfl (WO.ar rfl rfl rfl (by (first | (unfold in64; omega) | (unfold in64; omega))) rfl (WO.p rfl rfl ?_))
                 refine WO.nil ?_
                 refine' ⟨k + 1, at2 + 1, _, _, ?hp, ?hmu, ⟨rfl, rfl, rfl, rfl, rfl, rfl, rfl, trivial⟩, ?hS⟩
                 case hS => repeat (first | exact Sub.nil | refine Sub.cons (by repeat (first | exact Pick.head | apply Pick.tail)) ?_)
                 case hp => exact ⟨by omega, by omega, by rw [List.length_append, hxl]; rfl, rowW_snoc hxW hxl ⟨by omega, by omega⟩⟩
                 case hmu => omega)
            · first
              | (exfalso; omega)
              | (refine W.skip ?_
                 refine W.sreg ?_
                 refine WO.p rfl rfl (WO.p rfl rfl ?_)
                 refine' WO.buildSl (cs := _) rfl rfl rfl rfl ?hf rfl rfl ?hl rfl (fun v4 => ?_)
                 case hf => (conv => lhs; simp [-List.getD_eq_getElem?_getD, fillL, vcl, wrl, TTab.pl?.lget']) <;> rfl
                 case hl => rfl
                 first | refine' WO.appendE (enc := encI) (m := 1) (ys := [((rows.getD i []).getD k (0, 0)).1]) encI_ok rfl rfl rfl rfl rfl (by repeat (first | exact Pick.head | apply Pick.tail)) (isSl_lit (by omega)) (by omega) rfl (OwC.cells .head) (by omega) (by omega) rfl (fun g c => ?_) | refine' WO.appendE (enc := encI) (m := 1) (ys := [((rows.getD i []).getD k (0, 0)).1 + (by'.getD ((at2 : Int).tmod (by'.length : Int)).toNat 0).tmod (((rows.getD i []).getD k (0, 0)).2 - ((rows.getD i []).getD k (0, 0)).1 + 1)]) encI_ok rfl rfl rfl rfl rfl (by repeat (first | exact Pick.head | apply Pick.tail)) (isSl_lit (by omega)) (by omega) rfl (OwC.cells .head) (by omega) (by omega) rfl (fun g c => ?_)
                 refine WO.p rfl rfl ?_
                 refine WO.nil ?_
                 refine W.region ?_
                 refine WO.p rfl rfl (WO.ar rfl rfl rfl (by (first | (unfold in64; omega) | (unfold in64; omega))) rfl (WO.p rfl rfl ?_))
                 refine WO.nil ?_
                 refine W.region ?_
                 refine WO.p rfl rfl (WO.ar rfl rfl rfl (by (first | (unfold in64; omega) | (unfold in64; omega))) rfl (WO.p rfl rfl ?_))
                 refine WO.nil ?_
                 refine' ⟨k + 1, at2 + 1, _, _, ?hp, ?hmu, ⟨rfl, rfl, rfl, rfl, rfl, rfl, rfl, trivial⟩, ?hS⟩
                 case hS => repeat (first | exact Sub.nil | refine Sub.cons (by repeat (first | exact Pick.head | apply Pick.tail)) ?_)
                 case hp => exact ⟨by omega, by omega, by rw [List.length_append, hxl]; rfl, rowW_snoc hxW hxl ⟨by omega, by omega⟩⟩
                 case hmu => omega))
       · first
         | (exfalso; omega)
         | (refine W.exit (blk_same ?_)
            have exl : xs.length = (rows.getD i []).length := by omega
            refine W.fact (OwE.form (enc := encI) (e := 2) (sz := 1) (by repeat (first | exact Pick.head | apply Pick.tail))) (fun hf => ?_)
            obtain ⟨a, c, rfl⟩ := hf
            refine W.region ?_
            refine WO.p rfl rfl (WO.p rfl rfl ?_)
            refine' WO.buildSl (cs := _) rfl rfl rfl rfl ?hf rfl rfl ?hl rfl (fun v5 => ?_)
            case hf => (conv => lhs; simp [-List.getD_eq_getElem?_getD, fillL, vcl, wrl, TTab.pl?.lget']) <;> rfl
            case hl => rfl
            refine' WO.append (m := 1) (news := [.slice a xs.length c]) rfl rfl rfl rfl rfl (by repeat (first | exact Pick.head | apply Pick.tail)) (isSl_lit (by omega)) (by omega) (OwC.cells .head) rfl (by simp [Value.oneCell']) (by omega) (by omega) rfl (fun g c' => ?_)
            refine WO.p rfl rfl ?_
            refine WO.nil ?_
            refine W.chg (rowsSnoc (enc := encI) (e := 2) (sz := 1) (by repeat (first | exact Pick.head | apply Pick.tail)) (by repeat (first | exact Pick.head | apply Pick.tail))) ?_
            refine W.region ?_
            refine WO.p rfl rfl (WO.ar rfl rfl rfl (by (first | (unfold in64; omega) | (unfold in64; omega))) rfl (WO.p rfl rfl ?_))
            refine WO.nil ?_
            refine' ⟨i + 1, _, _, _, _, ?hp, ?hmu, ⟨rfl, rfl, rfl, rfl, rfl, trivial⟩, ?hS⟩
            case hS => repeat (first | exact Sub.nil | refine Sub.cons (by repeat (first | exact Pick.head | apply Pick.tail)) ?_)
            case hp => exact ⟨by omega, by omega, by rw [List.length_append, hyl]; rfl, rowsW_snoc hW hyl exl hxW⟩
            case hmu => omega))
  · first
    | (exfalso; omega)
    | (refine W.exit (blk_same ?_)
       refine W.keep (H' := [OwC 53 1 v i rv', RowsE encI 2 1 rv' ys]) (.cons (by repeat (first | exact Pick.head | apply Pick.tail)) (.cons (by repeat (first | exact Pick.head | apply Pick.tail)) .nil)) ?_
       obtain rfl : i = rows.length := by omega
       refine W.sreg ?_
       refine WO.p rfl rfl (WO.p rfl rfl ?_)
       refine WO.nil ?_
       refine W.ret ?_
       exact fin.ret (Res.one rfl (RV.tmp rfl)) ⟨(rv', ys), rowsW_tv hyl hW, rfl⟩)
end Go.Proofs.Ytgihklgpehfbpaa
namespace Go.Proofs.Ytgihklgpehfbpaa
open Go Go.TH
attribute [local irreducible] W WO pt
set_option maxRecDepth 10000
set_option maxHeartbeats 4000000
section
variable {sp st what num den : Int} {high : Bool} {rows : List (List (Int × Int))} {ys zs : List (List Int)}
theorem end_isB (hv : HV sp st rows) (hw : 0 ≤ what ∧ what ≤ 2) (high : Bool) : isB (endV sp st what high rows) = true := by
  obtain ⟨ys, he⟩ := exists_end hv hw high
  rw [← endV_eq hv he]; exact val_isB hv he.tv
theorem end_less (hv : HV sp st rows) (hw : 0 ≤ what ∧ what ≤ 2) : lessQ (endV sp st what true rows) (endV sp st what false rows) = false := by
  obtain ⟨ys, he⟩ := exists_end hv hw true
  obtain ⟨zs, hz⟩ := exists_end hv hw false
  rw [← endV_eq hv he, ← endV_eq hv hz]
  have hb := he.best zs hz.tv
  have hl := less_val (what := what) hv he.tv hz.tv
  simp only [sgn, if_true, Int.one_mul] at hb
  by_cases h : lessQ (valQ sp st ys what) (valQ sp st zs what) = true
  · have := hl.1 h; omega
  · simpa using h
theorem sgn_le {s den num a d a' d' : Int} (hd : 0 ≤ d) (hd' : 0 < d') (hden : 0 ≤ den) (h1 : s * (a * d' - a' * d) ≤ 0) (h2 : s * (den * a' - num * d') ≤ 0) : s * (den * a - num * d) ≤ 0 := by
  have e : (s * (den * a - num * d)) * d' = den * (s * (a * d' - a' * d)) + d * (s * (den * a' - num * d')) := by
    simp only [Int.mul_sub, Int.sub_mul, Int.mul_comm, Int.mul_left_comm]
    omega
  have x1 : den * (s * (a * d' - a' * d)) ≤ den * 0 := Int.mul_le_mul_of_nonneg_left h1 hden
  have x2 : d * (s * (den * a' - num * d')) ≤ d * 0 := Int.mul_le_mul_of_nonneg_left h2 hd
  rw [Int.mul_zero] at x1 x2
  have x3 : (s * (den * a - num * d)) * d' ≤ 0 * d' := by rw [e, Int.zero_mul]; omega
  exact Int.le_of_mul_le_mul_right x3 hd'
/-- what CheckBound answers, said of an end -/
theorem chk_end (hv : HV sp st rows) (hw : 0 ≤ what ∧ what ≤ 2) (hb : isB (num, den) = true) (he : IsEnd sp st what high rows ys) : chkBound sp st what num den high rows = 0 ↔ sgn high * (den * tN sp st ys what - num * tD st ys what) ≤ 0 := by
  obtain ⟨b1, b2, _⟩ := isB_p hb
  have e1 : chkBound sp st what num den high rows = 0 ↔ sgn high * partS what sp st num den high rows rows.length ≤ 0 := by
    have h0 := hv.to
    rw [chkBound, if_neg (by rw [h0]; simp), if_neg (by omega), if_neg (by rw [hb]; simp)]
    cases high
    · simp only [sgn, if_false, Bool.false_eq_true, false_and, false_or, true_and]
      split <;> constructor <;> intro h <;> first | omega | (exfalso; omega)
    · simp only [sgn, if_true, true_and, Bool.true_eq_false, false_and, or_false, Int.one_mul]
      split <;> constructor <;> intro h <;> first | omega | (exfalso; omega)
  rw [e1]
  constructor
  · intro h; exact Int.le_trans (ex_max hv he.tv hw) h
  · intro h
    have tz := exH_tv (what := what) (num := num) (den := den) (high := high) hv
    rw [← ex_exH hv hw]
    obtain ⟨_, a2, _⟩ := tN_bound hv he.tv what
    obtain ⟨_, c2, _⟩ := tN_bound hv tz what
    exact sgn_le (by omega) a2 (by omega) (he.best _ tz) h
theorem chk_high (hv : HV sp st rows) (hw : 0 ≤ what ∧ what ≤ 2) (hb : isB (num, den) = true) : chkBound sp st what num den true rows = 0 ↔ lessQ (num, den) (endV sp st what true rows) = false := by
  obtain ⟨ys, he⟩ := exists_end hv hw true
  obtain ⟨b1, b2, _⟩ := isB_p hb
  have hl := (less_bound (what := what) hv he.tv b1 b2).1
  rw [chk_end hv hw hb he, ← endV_eq hv he]
  simp only [sgn, if_true, Int.one_mul]
  cases hx : lessQ (num, den) (valQ sp st ys what)
  · rw [hx] at hl; simp only [Bool.false_eq_true, false_iff] at hl; simp only [iff_true]; omega
  · rw [hx] at hl; simp only [true_iff] at hl; simp only [Bool.true_eq_false, iff_false]; omega
theorem chk_low (hv : HV sp st rows) (hw : 0 ≤ what ∧ what ≤ 2) (hb : isB (num, den) = true) : chkBound sp st what num den false rows = 0 ↔ lessQ (endV sp st what false rows) (num, den) = false := by
  obtain ⟨ys, he⟩ := exists_end hv hw false
  obtain ⟨b1, b2, _⟩ := isB_p hb
  have hl := (less_bound (what := what) hv he.tv b1 b2).2
  rw [chk_end hv hw hb he, ← endV_eq hv he]
  simp only [sgn, if_false, Bool.false_eq_true]
  cases hx : lessQ (valQ sp st ys what) (num, den)
  · rw [hx] at hl; simp only [Bool.false_eq_true, false_iff] at hl; simp only [iff_true]; omega
  · rw [hx] at hl; simp only [true_iff] at hl; simp only [Bool.true_eq_false, iff_false]; omega
theorem lessQ_irr {a : Int × Int} (h : isB a = true) : lessQ a a = false := by
  obtain ⟨x, y⟩ := a
  obtain ⟨b1, b2, _⟩ := isB_p h
  have := lessQ_iff (a := (x, y)) (b := (x, y)) b1 b2 b1 b2
  cases hx : lessQ (x, y) (x, y)
  · rfl
  · have := this.1 hx; omega
theorem chk_ends (hv : HV sp st rows) (hw : 0 ≤ what ∧ what ≤ 2) (high : Bool) {a b : Int} (h : endV sp st what high rows = (a, b)) : chkBound sp st what a b high rows = 0 := by
  have hb := end_isB hv hw high
  rw [h] at hb
  cases high
  · rw [chk_low hv hw hb, h]; exact lessQ_irr hb
  · rw [chk_high hv hw hb, h]; exact lessQ_irr hb
theorem ne29f (a b : Int) : EqT Try.prog .neq 29 (.agg #[.int .i64 a, .int .i64 b]) (.agg #[.int .i64 a, .int .i64 b]) (.bool false) := by
  have := ne29 a b a b
  rwa [show bl ((a, b) ≠ (a, b)) = false from bl_f.2 (by simp)] at this
theorem eq_ch {x : Int} {q : Bool} (h : x = 0 ↔ q = false) : (bl (x = 0) == !q) = true := by
  by_cases hx : x = 0
  · rw [h.1 hx, bl_t.2 hx]; rfl
  · rw [bl_f.2 hx]; cases q
    · exact absurd (h.2 rfl) hx
    · rfl
theorem plan_0 (hv : HV sp st rows) (hw : 0 ≤ what ∧ what ≤ 2) : planE sp st rows what = 0 := by
  unfold planE; rw [if_neg (by rw [hv.to]; simp), if_neg (by omega)]
theorem val_end (hv : HV sp st rows) (hw : 0 ≤ what ∧ what ≤ 2) (he : IsEnd sp st what high rows ys) {a b : Int} (h : endV sp st what high rows = (a, b)) : valR sp st rows ys what = .tuple #[.agg #[.int .i64 a, .int .i64 b], .int .i64 0] := by
  rw [← valR_o (by rw [TV.to hv he.tv]; simp) (by rw [plan_0 hv hw]; simp), endV_eq hv he, h]; rfl
end
theorem law_BoxAttained (w : World) (sp st n num den : Int) (o : Value) (rv : List Value) (rows : List (List (Int × Int))) (hR : RdR encP 2 w.heap.size w o rv rows) (hn8 : 0 ≤ n ∧ n ≤ 255) :
    Ret Try.prog 5 [.agg #[.int .i64 sp, .int .i64 st, o], .int .u8 n, .agg #[.int .i64 num, .int .i64 den]].toArray w (.bool true) := by
  refine Ret.of mixed tyTab Try.func5 rfl rfl ?_
  replace hR : RdR encP 2 (fnCx mixed tyTab Try.f5.ntmps w).B (fnCx mixed tyTab Try.f5.ntmps w).w0 o rv rows := hR
  have hw : 0 ≤ n.tmod 3 ∧ n.tmod 3 ≤ 2 := tmod_in hn8.1 (by omega)
  refine W.sreg ?_
  refine WO.boxA rfl rfl (fun b1 hb1 => ?_)
  refine WO.boxA rfl rfl (fun b2 hb2 => ?_)
  refine WO.p rfl rfl ?_
  refine WO.nil ?_
  refine W.seq ?_
  refine W.sreg ?_
  refine WO.loadA rfl rfl (Cells.own (Pick.tail (Pick.head))) rfl rfl ?_
  refine WO.callR (r := .bool (!grt rows [] && decide (chkHull sp st rows = 0))) rfl Try.call24 (fun L w hi => law_fine w sp st o rv rows (hR.later hi)) rfl ?_
  refine WO.p rfl rfl ?_
  refine WO.nil ?_
  refine W.cond rfl (fun c1 => ?_) (fun c1 => ?_)
  · first
    | (exfalso; omega)
    | (refine W.sreg ?_
       refine WO.callR rfl Try.call13 (fun L w hi => law_Works w) rfl ?_
       refine WO.p rfl rfl ?_
       refine WO.nil ?_
       refine W.ret ?_
       exact fin.ret (Res.one rfl (RV.tmp rfl)) rfl)
  · first
    | (exfalso; omega)
    | (refine W.skip ?_
       refine W.sreg ?_
       refine WO.p rfl rfl (WO.conv64 rfl rfl rfl (by (first | (unfold in64; omega))) rfl (WO.rem rfl rfl (by first | omega | assumption) rfl (WO.p rfl rfl ?_)))
       refine WO.nil ?_
       have hv : HV sp st rows := HV.of (by simp at c1; exact c1.2)
       obtain ⟨a, b, hlo⟩ : ∃ a b, endV sp st (n.tmod 3) false rows = (a, b) := ⟨_, _, rfl⟩
       obtain ⟨c, d, hhi⟩ : ∃ c d, endV sp st (n.tmod 3) true rows = (c, d) := ⟨_, _, rfl⟩
       have hbl := end_isB hv hw false
       rw [hlo] at hbl
       have hbh := end_isB hv hw true
       rw [hhi] at hbh
       have hle := end_less hv hw
       rw [hlo, hhi] at hle
       refine W.sreg ?_
       refine WO.loadA rfl rfl (Cells.own (Pick.tail (Pick.head))) rfl rfl (WO.p rfl rfl ?_)
       refine WO.callR (r := .tuple #[.agg #[.int .i64 a, .int .i64 b, .int .i64 c, .int .i64 d], .int .i64 0]) rfl Try.call25 (fun L w hi => by have h := c_Span w sp st (n.tmod 3) o rv rows (hR.later hi); rw [← spanR_0 (by rw [plan_0 hv hw]; simp), hlo, hhi] at h; exact h) rfl ?_
       refine WO.p rfl rfl (WO.p rfl rfl (WO.p rfl rfl ?_))
       refine WO.alloc rfl rfl rfl (fun b3 hb3 => ?_)
       refine WO.storeA rfl rfl rfl rfl Pick.head rfl rfl (WO.p rfl rfl ?_)
       refine WO.nil ?_
       refine W.seq ?_
       refine W.sreg ?_
       refine WO.p rfl rfl (WO.p rfl rfl (WO.p rfl rfl ?_))
       refine WO.guard_bl rfl rfl (fun c2 => ?_) (fun c2 => ?_)
       · first
         | (exfalso; omega)
         | (refine WO.no rfl rfl (WO.no rfl rfl (WO.no rfl rfl (WO.no rfl rfl (WO.p rfl rfl (WO.p rfl rfl (WO.no rfl rfl (WO.no rfl rfl (WO.no rfl rfl (WO.no rfl rfl (WO.p rfl rfl (WO.p rfl rfl ?_)))))))))))
            refine WO.no rfl rfl (WO.no rfl rfl (WO.no rfl rfl (WO.no rfl rfl (WO.no rfl rfl (WO.p rfl rfl ?_)))))
            refine WO.nil ?_
            refine W.cond_t rfl ?_
            refine W.sreg ?_
            refine WO.p rfl rfl ?_
            refine WO.nil ?_
            refine W.ret ?_
            exact fin.ret (Res.one rfl (RV.tmp rfl)) rfl)
       · first
         | (exfalso; omega)
         | (refine WO.go' rfl (WO.field0 rfl rfl rfl (WO.go' rfl (WO.loadA rfl rfl (Cells.ownAt (n := 2) Pick.head rfl) rfl rfl (WO.go' rfl ?_))))
            refine WO.callR (r := .bool true) rfl Try.call26 (fun L w hi => by have h := ref_IsBound w a b; rw [hbl] at h; exact h) rfl ?_
            refine WO.pg rfl rfl rfl (WO.p rfl rfl (WO.p rfl rfl (WO.go' rfl (WO.fieldL rfl rfl rfl (WO.go' rfl (WO.loadA rfl rfl (Cells.ownAt (n := 2) Pick.head rfl) rfl rfl (WO.go' rfl ?_)))))))
            refine WO.callR (r := .bool true) rfl Try.call26 (fun L w hi => by have h := ref_IsBound w c d; rw [hbh] at h; exact h) rfl ?_
            refine WO.pg rfl rfl rfl (WO.p rfl rfl (WO.p rfl rfl (WO.go' rfl (WO.fieldL rfl rfl rfl (WO.go' rfl (WO.loadA rfl rfl (Cells.ownAt (n := 2) Pick.head rfl) rfl rfl (WO.go' rfl (WO.field0 rfl rfl rfl (WO.go' rfl (WO.loadA rfl rfl (Cells.ownAt (n := 2) Pick.head rfl) rfl rfl (WO.go' rfl ?_)))))))))))
            refine WO.callR (r := .bool false) rfl Try.call27 (fun L w hi => by have h := ref_Less w c d a b (isB_p hbh).1 (isB_p hbh).2.1 (isB_p hbl).1 (isB_p hbl).2.1 (isB_p hbh).2.2.2.1 (isB_p hbl).2.2.2.1 (isB_p hbh).2.2.1 (isB_p hbl).2.2.1; rw [hle] at h; exact h) rfl ?_
            refine WO.p rfl rfl ?_
            refine WO.nil ?_
            refine W.cond_f rfl ?_
            refine W.skip ?_
            refine W.sreg ?_
            refine WO.loadA rfl rfl (Cells.own (Pick.tail (Pick.tail (Pick.head)))) rfl rfl (WO.p rfl rfl ?_)
            refine WO.call (Post := fun v Hq => ∃ x : Value × List Value × List (List Int), (v = .tuple #[x.1, .int .i64 0] ∧ IsEnd sp st (n.tmod 3) false rows x.2.2) ∧ Hq = [OwC 53 1 x.1 x.2.2.length x.2.1, RowsE encI 2 1 x.2.1 x.2.2]) rfl Try.call28 (fun L w hi => (c_End w sp st (n.tmod 3) false o rv rows (hR.later hi)).mono (fun v w' ⟨Hq, ⟨x, ⟨e1, e2, e3⟩, e4⟩, e5⟩ => by rw [plan_0 hv hw] at e1; exact ⟨Hq, ⟨x, ⟨e1, e2 (plan_0 hv hw)⟩, e4⟩, e5⟩)) rfl ?_
            rintro _ _ ⟨⟨v1, rv1, ys1⟩, ⟨rfl, he1⟩, rfl⟩
            refine WO.p rfl rfl (WO.p rfl rfl (WO.p rfl rfl (WO.p rfl rfl (WO.p rfl rfl ?_))))
            refine WO.nil ?_
            refine W.sreg ?_
            refine WO.loadA rfl rfl (Cells.own (Pick.tail (Pick.tail (Pick.tail (Pick.tail (Pick.head)))))) rfl rfl (WO.p rfl rfl ?_)
            refine WO.call (Post := fun v Hq => ∃ x : Value × List Value × List (List Int), (v = .tuple #[x.1, .int .i64 0] ∧ IsEnd sp st (n.tmod 3) true rows x.2.2) ∧ Hq = [OwC 53 1 x.1 x.2.2.length x.2.1, RowsE encI 2 1 x.2.1 x.2.2]) rfl Try.call28 (fun L w hi => (c_End w sp st (n.tmod 3) true o rv rows (hR.later hi)).mono (fun v w' ⟨Hq, ⟨x, ⟨e1, e2, e3⟩, e4⟩, e5⟩ => by rw [plan_0 hv hw] at e1; exact ⟨Hq, ⟨x, ⟨e1, e2 (plan_0 hv hw)⟩, e4⟩, e5⟩)) rfl ?_
            rintro _ _ ⟨⟨v2, rv2, ys2⟩, ⟨rfl, he2⟩, rfl⟩
            refine WO.p rfl rfl (WO.p rfl rfl (WO.p rfl rfl (WO.p rfl rfl (WO.p rfl rfl ?_))))
            refine WO.nil ?_
            refine W.sreg ?_
            refine WO.loadA rfl rfl (Cells.own (Pick.tail (Pick.tail (Pick.tail (Pick.tail (Pick.tail (Pick.tail (Pick.head)))))))) rfl rfl (WO.p rfl rfl (WO.p rfl rfl ?_))
            refine WO.callR (r := .tuple #[.agg #[.int .i64 a, .int .i64 b], .int .i64 0]) rfl Try.call17 (fun L w hi => by have h := ref_Value w sp st o v1 rv rv1 rows ys1 (n.tmod 3) (hR.later hi) (RdR.of_ow (e := 2) (e' := 53) (n := ys1.length) encI_ok (by repeat (first | exact Pick.head | apply Pick.tail)) (by repeat (first | exact Pick.head | apply Pick.tail)) hi); rw [val_end hv hw he1 hlo] at h; exact h) rfl ?_
            refine WO.p rfl rfl (WO.p rfl rfl (WO.p rfl rfl ?_))
            refine WO.alloc rfl rfl rfl (fun b4 hb4 => ?_)
            refine WO.storeA rfl rfl rfl rfl Pick.head rfl rfl (WO.p rfl rfl ?_)
            refine WO.nil ?_
            refine W.sreg ?_
            refine WO.loadA rfl rfl (Cells.own (Pick.tail (Pick.tail (Pick.tail (Pick.tail (Pick.tail (Pick.tail (Pick.tail (Pick.head))))))))) rfl rfl (WO.p rfl rfl (WO.p rfl rfl ?_))
            refine WO.callR (r := .tuple #[.agg #[.int .i64 c, .int .i64 d], .int .i64 0]) rfl Try.call17 (fun L w hi => by have h := ref_Value w sp st o v2 rv rv2 rows ys2 (n.tmod 3) (hR.later hi) (RdR.of_ow (e := 2) (e' := 53) (n := ys2.length) encI_ok (by repeat (first | exact Pick.head | apply Pick.tail)) (by repeat (first | exact Pick.head | apply Pick.tail)) hi); rw [val_end hv hw he2 hhi] at h; exact h) rfl ?_
            refine WO.p rfl rfl (WO.p rfl rfl (WO.p rfl rfl ?_))
            refine WO.alloc rfl rfl rfl (fun b5 hb5 => ?_)
            refine WO.storeA rfl rfl rfl rfl Pick.head rfl rfl (WO.p rfl rfl ?_)
            refine WO.nil ?_
            refine W.seq ?_
            refine W.sreg ?_
            refine WO.p rfl rfl (WO.p rfl rfl (WO.p rfl rfl ?_))
            refine WO.guard_bl rfl rfl (fun c3 => ?_) (fun c3 => ?_)
            · first
              | (exfalso; omega)
              | (refine WO.no rfl rfl (WO.no rfl rfl (WO.p rfl rfl (WO.p rfl rfl (WO.no rfl rfl (WO.no rfl rfl (WO.p rfl rfl (WO.p rfl rfl (WO.no rfl rfl (WO.no rfl rfl (WO.p rfl rfl (WO.p rfl rfl ?_)))))))))))
                 refine WO.no rfl rfl (WO.no rfl rfl (WO.no rfl rfl (WO.no rfl rfl (WO.p rfl rfl (WO.p rfl rfl (WO.no rfl rfl (WO.no rfl rfl (WO.no rfl rfl (WO.no rfl rfl (WO.p rfl rfl (WO.p rfl rfl ?_)))))))))))
                 refine WO.no rfl rfl (WO.no rfl rfl (WO.no rfl rfl (WO.no rfl rfl (WO.no rfl rfl (WO.no rfl rfl (WO.p rfl rfl (WO.p rfl rfl (WO.no rfl rfl (WO.no rfl rfl (WO.no rfl rfl (WO.no rfl rfl ?_)))))))))))
                 refine WO.no rfl rfl (WO.no rfl rfl (WO.p rfl rfl ?_))
                 refine WO.nil ?_
                 refine W.cond_t rfl ?_
                 refine W.sreg ?_
                 refine WO.p rfl rfl ?_
                 refine WO.nil ?_
                 refine W.ret ?_
                 exact fin.ret (Res.one rfl (RV.tmp rfl)) rfl)
            · first
              | (exfalso; omega)
              | (refine WO.pg rfl rfl rfl (WO.pg rfl rfl rfl (WO.p rfl rfl (WO.p rfl rfl ?_)))
                 refine WO.guard_bl rfl rfl (fun c4 => ?_) (fun c4 => ?_)
                 · first
                   | (exfalso; omega)
                   | (refine WO.no rfl rfl (WO.no rfl rfl (WO.p rfl rfl (WO.p rfl rfl (WO.no rfl rfl (WO.no rfl rfl (WO.p rfl rfl (WO.p rfl rfl (WO.no rfl rfl (WO.no rfl rfl (WO.no rfl rfl (WO.no rfl rfl ?_)))))))))))
                      refine WO.p rfl rfl (WO.p rfl rfl (WO.no rfl rfl (WO.no rfl rfl (WO.no rfl rfl (WO.no rfl rfl (WO.p rfl rfl (WO.p rfl rfl (WO.no rfl rfl (WO.no rfl rfl (WO.no rfl rfl (WO.no rfl rfl ?_)))))))))))
                      refine WO.no rfl rfl (WO.no rfl rfl (WO.p rfl rfl (WO.p rfl rfl (WO.no rfl rfl (WO.no rfl rfl (WO.no rfl rfl (WO.no rfl rfl (WO.no rfl rfl (WO.no rfl rfl (WO.p rfl rfl ?_))))))))))
                      refine WO.nil ?_
                      refine W.cond_t rfl ?_
                      refine W.sreg ?_
                      refine WO.p rfl rfl ?_
                      refine WO.nil ?_
                      refine W.ret ?_
                      exact fin.ret (Res.one rfl (RV.tmp rfl)) rfl)
                 · first
                   | (exfalso; omega)
                   | (refine WO.pg rfl rfl rfl (WO.pg rfl rfl rfl (WO.p rfl rfl (WO.p rfl rfl ?_)))
                      refine WO.guard_bl rfl rfl (fun c5 => ?_) (fun c5 => ?_)
                      · first
                        | (exfalso; omega)
                        | (refine WO.no rfl rfl (WO.no rfl rfl (WO.p rfl rfl (WO.p rfl rfl (WO.no rfl rfl (WO.no rfl rfl (WO.no rfl rfl (WO.no rfl rfl (WO.p rfl rfl (WO.p rfl rfl (WO.no rfl rfl (WO.no rfl rfl ?_)))))))))))
                           refine WO.no rfl rfl (WO.no rfl rfl (WO.p rfl rfl (WO.p rfl rfl (WO.no rfl rfl (WO.no rfl rfl (WO.no rfl rfl (WO.no rfl rfl (WO.no rfl rfl (WO.no rfl rfl (WO.p rfl rfl (WO.p rfl rfl ?_)))))))))))
                           refine WO.no rfl rfl (WO.no rfl rfl (WO.no rfl rfl (WO.no rfl rfl (WO.no rfl rfl (WO.no rfl rfl (WO.p rfl rfl ?_))))))
                           refine WO.nil ?_
                           refine W.cond_t rfl ?_
                           refine W.sreg ?_
                           refine WO.p rfl rfl ?_
                           refine WO.nil ?_
                           refine W.ret ?_
                           exact fin.ret (Res.one rfl (RV.tmp rfl)) rfl)
                      · first
                        | (exfalso; omega)
                        | (refine WO.pg rfl rfl rfl (WO.pg rfl rfl rfl (WO.p rfl rfl (WO.p rfl rfl ?_)))
                           refine WO.guard_bl rfl rfl (fun c6 => ?_) (fun c6 => ?_)
                           · first
                             | (exfalso; omega)
                             | (refine WO.no rfl rfl (WO.no rfl rfl (WO.no rfl rfl (WO.no rfl rfl (WO.p rfl rfl (WO.p rfl rfl (WO.no rfl rfl (WO.no rfl rfl (WO.no rfl rfl (WO.no rfl rfl (WO.p rfl rfl (WO.p rfl rfl ?_)))))))))))
                                refine WO.no rfl rfl (WO.no rfl rfl (WO.no rfl rfl (WO.no rfl rfl (WO.no rfl rfl (WO.no rfl rfl (WO.p rfl rfl (WO.p rfl rfl (WO.no rfl rfl (WO.no rfl rfl (WO.no rfl rfl (WO.no rfl rfl ?_)))))))))))
                                refine WO.no rfl rfl (WO.no rfl rfl (WO.p rfl rfl ?_))
                                refine WO.nil ?_
                                refine W.cond_t rfl ?_
                                refine W.sreg ?_
                                refine WO.p rfl rfl ?_
                                refine WO.nil ?_
                                refine W.ret ?_
                                exact fin.ret (Res.one rfl (RV.tmp rfl)) rfl)
                           · first
                             | (exfalso; omega)
                             | (refine WO.go' rfl (WO.loadA rfl rfl (Cells.own (Pick.tail (Pick.head))) rfl rfl (WO.go' rfl (WO.field0 rfl rfl rfl (WO.go' rfl (WO.loadA rfl rfl (Cells.ownAt (n := 2) (Pick.tail (Pick.tail (Pick.tail (Pick.tail (Pick.tail (Pick.tail (Pick.head))))))) rfl) rfl rfl (WO.go' rfl ?_))))))
                                refine WO.eqT rfl rfl (ne29f _ _) rfl ?_
                                refine WO.p rfl rfl (WO.p rfl rfl (WO.go' rfl (WO.loadA rfl rfl (Cells.own Pick.head) rfl rfl (WO.go' rfl (WO.fieldL rfl rfl rfl (WO.go' rfl (WO.loadA rfl rfl (Cells.ownAt (n := 2) (Pick.tail (Pick.tail (Pick.tail (Pick.tail (Pick.tail (Pick.tail (Pick.head))))))) rfl) rfl rfl (WO.go' rfl ?_))))))))
                                refine WO.eqT rfl rfl (ne29f _ _) rfl ?_
                                refine WO.p rfl rfl (WO.p rfl rfl (WO.go' rfl (WO.loadA rfl rfl (Cells.own (Pick.tail (Pick.tail (Pick.tail (Pick.tail (Pick.tail (Pick.tail (Pick.tail (Pick.tail (Pick.head)))))))))) rfl rfl (WO.pg rfl rfl rfl (WO.go' rfl (WO.field0 rfl rfl rfl (WO.go' rfl (WO.loadA rfl rfl (Cells.ownAt (n := 2) (Pick.tail (Pick.tail (Pick.tail (Pick.tail (Pick.tail (Pick.tail (Pick.head))))))) rfl) rfl rfl (WO.go' rfl ?_)))))))))
                                refine WO.callR (r := .int .i64 0) rfl Try.call22 (fun L w hi => by have h := c_CheckBound w sp st (n.tmod 3) a b false o rv rows (hR.later hi); rw [chk_ends hv hw false hlo] at h; exact h) rfl ?_
                                refine WO.pg rfl rfl rfl (WO.p rfl rfl (WO.p rfl rfl ?_))
                                refine WO.guard_bl rfl rfl (fun c7 => ?_) (fun c7 => ?_)
                                · first
                                  | (exfalso; omega)
                                  | (refine WO.no rfl rfl (WO.no rfl rfl (WO.no rfl rfl (WO.no rfl rfl (WO.no rfl rfl (WO.no rfl rfl (WO.p rfl rfl ?_))))))
                                     refine WO.nil ?_
                                     refine W.cond_t rfl ?_
                                     refine W.sreg ?_
                                     refine WO.p rfl rfl ?_
                                     refine WO.nil ?_
                                     refine W.ret ?_
                                     exact fin.ret (Res.one rfl (RV.tmp rfl)) rfl)
                                · first
                                  | (exfalso; omega)
                                  | (refine WO.go' rfl (WO.loadA rfl rfl (Cells.own (Pick.tail (Pick.tail (Pick.tail (Pick.tail (Pick.tail (Pick.tail (Pick.tail (Pick.tail (Pick.head)))))))))) rfl rfl (WO.pg rfl rfl rfl (WO.go' rfl (WO.fieldL rfl rfl rfl (WO.go' rfl (WO.loadA rfl rfl (Cells.ownAt (n := 2) (Pick.tail (Pick.tail (Pick.tail (Pick.tail (Pick.tail (Pick.tail (Pick.head))))))) rfl) rfl rfl (WO.go' rfl ?_)))))))
                                     refine WO.callR (r := .int .i64 0) rfl Try.call22 (fun L w hi => by have h := c_CheckBound w sp st (n.tmod 3) c d true o rv rows (hR.later hi); rw [chk_ends hv hw true hhi] at h; exact h) rfl ?_
                                     refine WO.pg rfl rfl rfl (WO.p rfl rfl ?_)
                                     refine WO.nil ?_
                                     refine W.cond_bl rfl (fun c8 => ?_) (fun c8 => ?_)
                                     · first
                                       | (exfalso; omega)
                                       | (refine W.sreg ?_
                                          refine WO.p rfl rfl ?_
                                          refine WO.nil ?_
                                          refine W.ret ?_
                                          exact fin.ret (Res.one rfl (RV.tmp rfl)) rfl)
                                     · first
                                       | (exfalso; omega)
                                       | (refine W.skip ?_
                                          refine W.seq ?_
                                          refine W.sreg ?_
                                          refine WO.loadA rfl rfl (Cells.own (Pick.tail (Pick.tail (Pick.tail (Pick.tail (Pick.tail (Pick.tail (Pick.tail (Pick.head))))))))) rfl rfl ?_
                                          refine WO.callR (r := .bool (isB (num, den))) rfl Try.call26 (fun L w hi => ref_IsBound w num den) rfl ?_
                                          refine WO.p rfl rfl ?_
                                          refine WO.nil ?_
                                          refine W.cond rfl (fun c9 => ?_) (fun c9 => ?_)
                                          · first
                                            | (exfalso; omega)
                                            | (refine W.sreg ?_
                                               refine WO.callR rfl Try.call13 (fun L w hi => law_Works w) rfl ?_
                                               refine WO.p rfl rfl ?_
                                               refine WO.nil ?_
                                               refine W.ret ?_
                                               exact fin.ret (Res.one rfl (RV.tmp rfl)) rfl)
                                          · first
                                            | (exfalso; omega)
                                            | (refine W.skip ?_
                                               refine W.seq ?_
                                               have hbb : isB (num, den) = true := (fun (hh : (!isB (num, den)) = false) => by simpa using hh) (by assumption)
                                               have hx1 := chk_high hv hw hbb
                                               have hx2 := chk_low hv hw hbb
                                               rw [hhi] at hx1
                                               rw [hlo] at hx2
                                               refine W.drawD 7 [.b 0 [], .r 1 [], .b 2 [], .b 3 [], .b 4 [], .r 5 [], .b 6 []] [] (A0 := []) (Sub.refl _) (by kernel_rfl) ?_ ?_
                                               · exact (ALok.b (ALok.r (ALok.b (ALok.b (ALok.b (ALok.r (ALok.b ALok.nil)))))))
                                               refine' DT.b rfl rfl rfl ?hq ?_
                                               case hq =>
                                                 refine WO.loadA rfl rfl (Cells.own (Pick.tail (Pick.tail (Pick.tail (Pick.tail (Pick.tail (Pick.tail (Pick.tail (Pick.tail (Pick.head)))))))))) rfl rfl ?_
                                                 exact WO.nil ⟨rfl, rfl⟩
                                               refine' DT.r rfl rfl rfl ?hq ?_
                                               case hq =>
                                                 refine WO.p rfl rfl ?_
                                                 exact WO.nil ⟨rfl, rfl⟩
                                               refine' DT.b rfl rfl rfl ?hq ?_
                                               case hq =>
                                                 refine WO.loadA rfl rfl (Cells.own (Pick.tail (Pick.tail (Pick.tail (Pick.tail (Pick.tail (Pick.tail (Pick.tail (Pick.head))))))))) rfl rfl ?_
                                                 exact WO.nil ⟨rfl, rfl⟩
                                               refine' DT.b rfl rfl rfl ?hq ?_
                                               case hq =>
                                                 refine WO.callR (r := .int .i64 (chkBound sp st (n.tmod 3) num den true rows)) rfl Try.call22 (fun L w hi => c_CheckBound w sp st (n.tmod 3) num den true o rv rows (hR.later hi)) rfl ?_
                                                 exact WO.nil ⟨rfl, rfl⟩
                                               refine' DT.b rfl rfl rfl ?hq ?_
                                               case hq =>
                                                 refine WO.loadA rfl rfl (Cells.own (Pick.tail (Pick.tail (Pick.tail (Pick.tail (Pick.tail (Pick.tail (Pick.tail (Pick.tail (Pick.head)))))))))) rfl rfl ?_
                                                 exact WO.nil ⟨rfl, rfl⟩
                                               refine' DT.r rfl rfl rfl ?hq ?_
                                               case hq =>
                                                 refine WO.p rfl rfl ?_
                                                 exact WO.nil ⟨rfl, rfl⟩
                                               refine' DT.b rfl rfl rfl ?hq ?_
                                               case hq =>
                                                 refine WO.loadA rfl rfl (Cells.own (Pick.tail (Pick.tail (Pick.tail (Pick.tail (Pick.tail (Pick.tail (Pick.tail (Pick.head))))))))) rfl rfl ?_
                                                 exact WO.nil ⟨rfl, rfl⟩
                                               refine DT.nil [_, _, _, _, _, _, _, _, _] rfl ?_
                                               refine WO.callR (r := .int .i64 (chkBound sp st (n.tmod 3) num den false rows)) rfl Try.call22 (fun L w hi => c_CheckBound w sp st (n.tmod 3) num den false o rv rows (hR.later hi)) rfl ?_
                                               refine WO.p rfl rfl (WO.p rfl rfl ?_)
                                               refine WO.nil ?_
                                               refine W.sreg ?_
                                               refine WO.p rfl rfl (WO.p rfl rfl (WO.loadA rfl rfl (Cells.own (Pick.tail (Pick.tail (Pick.tail (Pick.tail (Pick.tail (Pick.tail (Pick.tail (Pick.head))))))))) rfl rfl (WO.fieldL rfl rfl rfl (WO.loadA rfl rfl (Cells.ownAt (n := 2) (Pick.tail (Pick.tail (Pick.tail (Pick.tail (Pick.tail (Pick.tail (Pick.head))))))) rfl) rfl rfl ?_))))
                                               refine WO.callR (r := .bool (lessQ (num, den) (c, d))) rfl Try.call27 (fun L w hi => ref_Less w num den c d (isB_p hbb).1 (isB_p hbb).2.1 (isB_p hbh).1 (isB_p hbh).2.1 (isB_p hbb).2.2.2.1 (isB_p hbh).2.2.2.1 (isB_p hbb).2.2.1 (isB_p hbh).2.2.1) rfl ?_
                                               refine WO.p rfl rfl ?_
                                               refine WO.eqB (r := true) rfl rfl rfl ?_ rfl ?_
                                               · exact congrArg some (eq_ch hx1)
                                               refine WO.p rfl rfl (WO.pg rfl rfl rfl (WO.pg rfl rfl rfl (WO.go' rfl (WO.field0 rfl rfl rfl (WO.go' rfl (WO.loadA rfl rfl (Cells.ownAt (n := 2) (Pick.tail (Pick.tail (Pick.tail (Pick.tail (Pick.tail (Pick.tail (Pick.head))))))) rfl) rfl rfl (WO.go' rfl (WO.loadA rfl rfl (Cells.own (Pick.tail (Pick.tail (Pick.tail (Pick.tail (Pick.tail (Pick.tail (Pick.tail (Pick.head))))))))) rfl rfl (WO.go' rfl ?_)))))))))
                                               refine WO.callR (r := .bool (lessQ (a, b) (num, den))) rfl Try.call27 (fun L w hi => ref_Less w a b num den (isB_p hbl).1 (isB_p hbl).2.1 (isB_p hbb).1 (isB_p hbb).2.1 (isB_p hbl).2.2.2.1 (isB_p hbb).2.2.2.1 (isB_p hbl).2.2.1 (isB_p hbb).2.2.1) rfl ?_
                                               refine WO.pg rfl rfl rfl (WO.go' rfl ?_)
                                               refine WO.eqB (r := true) rfl rfl rfl ?_ rfl ?_
                                               · exact congrArg some (eq_ch hx2)
                                               refine WO.p rfl rfl (WO.p rfl rfl (WO.go' rfl ?_))
                                               refine WO.callR rfl Try.call13 (fun L w hi => law_Works w) rfl ?_
                                               refine WO.p rfl rfl (WO.p rfl rfl ?_)
                                               refine WO.nil ?_
                                               refine W.ret ?_
                                               exact fin.ret (Res.one rfl (RV.tmp rfl)) rfl)))))))))
end Go.Proofs.Ytgihklgpehfbpaa
