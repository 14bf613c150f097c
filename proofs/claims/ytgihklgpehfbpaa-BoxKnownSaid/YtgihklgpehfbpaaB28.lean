/-
  What is proved here: the program's hull at an end. Conditions: none; each contract states its own.
-/
import Derived.Test.YtgihklgpehfbpaaB27
namespace Go.Proofs.Ytgihklgpehfbpaa
open Go Go.TH
attribute [local irreducible] W WO pt
set_option maxRecDepth 10000
set_option maxHeartbeats 2000000
theorem fill_set {rv : List Value} {n i : Nat} (z u : Value) (hl : rv.length = i) (hi : i < n) : (rv ++ List.replicate (n - i) z).set i u = (rv ++ [u]) ++ List.replicate (n - (i + 1)) z := by
  obtain ⟨m, hm⟩ : ∃ m, n - i = m + 1 := ⟨n - i - 1, by omega⟩
  rw [hm, show n - (i + 1) = m by omega, List.set_append_right _ _ (by omega), hl, Nat.sub_self, List.replicate_succ, List.set_cons_zero]; simp
theorem fill_get {rv : List Value} {i : Nat} (z u : Value) (m : Nat) (hl : rv.length = i) : ((rv ++ [u]) ++ List.replicate m z)[i]? = some u := by
  rw [List.append_assoc, List.getElem?_append_right (by omega), hl, Nat.sub_self]; rfl
theorem c_End (w : World) (sp st what : Int) (high : Bool) (o : Value) (rv : List Value) (rows : List (List (Int × Int))) (hR : RdR encP 2 w.heap.size w o rv rows) :
    Ct Try.prog 28 [.agg #[.int .i64 sp, .int .i64 st, o], .int .i64 what, .bool high].toArray w fun v w' => ∃ Hq, (∃ x : Value × List Value × List (List Int), (v = .tuple #[x.1, .int .i64 (planE sp st rows what)] ∧ (planE sp st rows what = 0 → IsEnd sp st what high rows x.2.2) ∧ (planE sp st rows what ≠ 0 → x.2.2 = [])) ∧ Hq = [OwC 53 1 x.1 x.2.2.length x.2.1, RowsE encI 2 1 x.2.1 x.2.2]) ∧ Inv w [] Hq w' := by
  refine Ct.ofI mixed tyTab Try.func28 rfl rfl ?_
  replace hR : RdR encP 2 (fnCx mixed tyTab Try.f28.ntmps w).B (fnCx mixed tyTab Try.f28.ntmps w).w0 o rv rows := hR
  refine W.sreg ?_
  refine WO.boxA rfl rfl (fun b1 hb1 => ?_)
  refine WO.p rfl rfl (WO.p rfl rfl ?_)
  refine WO.nil ?_
  refine W.sreg ?_
  refine WO.loadA rfl rfl (Cells.own Pick.head) rfl rfl (WO.p rfl rfl ?_)
  refine WO.call (Post := fun v Hq => ∃ pv, v = .tuple #[pv, .int .i64 (planE sp st rows what)] ∧ Hq = [PtrP pv (planE sp st rows what) (planCs sp st o what) 89]) rfl Try.call41 (fun L w hi => c_newPlan w sp st o rv rows what (hR.later hi)) rfl ?_
  rintro _ _ ⟨pv, rfl, rfl⟩
  refine WO.p rfl rfl (WO.p rfl rfl (WO.p rfl rfl (WO.p rfl rfl (WO.p rfl rfl ?_))))
  refine WO.nil ?_
  refine W.seq ?_
  refine W.sreg ?_
  refine WO.p rfl rfl (WO.p rfl rfl ?_)
  refine WO.nil ?_
  refine W.cond_bl rfl (fun c1 => ?_) (fun c1 => ?_)
  · first
    | (exfalso; omega)
    | (refine W.sreg ?_
       refine WO.p rfl rfl (WO.p rfl rfl (WO.p rfl rfl ?_))
       refine WO.nil ?_
       refine W.ret ?_
       first | exact fin.ret (Res.two rfl (RV.tmp rfl) (RV.tmp rfl)) ⟨(_, [], []), ⟨rfl, fun h => absurd h (by assumption), fun _ => rfl⟩, fun h hs => Sub.sat (.cons .head (.cons .head .nil)) (owcNil _ (rowsNil h hs))⟩ | exact fin.ret (Res.two rfl (RV.tmp rfl) (RV.tmp rfl)) ⟨(_, rv', ys), ⟨by rw [Decidable.not_not.1 (by assumption : ¬ planE sp st rows what ≠ 0)], fun _ => he, fun h => absurd h (by assumption)⟩, fun h hs => by dsimp only; rw [hyl]; exact Sub.sat (.cons (by repeat (first | exact Pick.head | apply Pick.tail)) (.cons (by repeat (first | exact Pick.head | apply Pick.tail)) .nil)) hs⟩)
  · first
    | (exfalso; omega)
    | (refine W.skip ?_
       refine W.sreg ?_
       refine WO.p rfl rfl ?_
       refine WO.nil ?_
       refine W.seq ?_
       refine W.sreg ?_
       refine WO.p rfl rfl ?_
       refine WO.nil ?_
       refine W.cond rfl (fun c2 => ?_) (fun c2 => ?_)
       · first
         | (exfalso; omega)
         | (refine W.region ?_
            refine WO.p rfl rfl ?_
            refine WO.nil ?_
            have hpo := planE_ok (sp := sp) (st := st) (rows := rows) (what := what) (by omega)
            have hn := hpo.1.n
            have hm := hpo.1.m
            refine W.chgE (PtrP.open (by repeat (first | exact Pick.head | apply Pick.tail)) (by omega)) ?_
            rintro pb rfl
            refine W.sreg ?_
            refine WO.p rfl rfl (WO.p rfl rfl ?_)
            refine WO.call (Post := fun v Hq => ∃ x : Value × List Value × List (List Int), (v = .tuple #[x.1, .agg (encP (endV sp st what high rows)).toArray] ∧ IsEnd sp st what high rows x.2.2) ∧ Hq = [OwC 53 1 x.1 rows.length x.2.1, RowsE encI 2 1 x.2.1 x.2.2]) rfl Try.call50 (fun L w hi => by have h := c_end w ⟨pb, 0, none⟩ sp st what high o rv rows (RdC.own (b := pb) (by repeat (first | exact Pick.head | apply Pick.tail)) hi) (hR.later hi) hpo.1 hpo.2; first | (rw [sgn_t (by assumption)] at h; exact h) | (rw [sgn_f (by assumption)] at h; exact h)) rfl ?_
            rintro _ _ ⟨⟨v1, rv1, ys⟩, ⟨rfl, he⟩, rfl⟩
            have hyl : ys.length = rows.length := he.tv.len
            have hyr : ∀ i, i < ys.length → (ys.getD i []).length = (rows.getD 0 []).length := fun i h => (he.tv.row i h).trans (hpo.1.eq i (by omega))
            refine WO.fact (RowsE.rowsLen (by repeat (first | exact Pick.head | apply Pick.tail))) (fun hrl => ?_)
            refine WO.fact (OwC.sl (by repeat (first | exact Pick.head | apply Pick.tail))) (fun hos => ?_)
            have hos' : IsSl v1 rows.length := hos
            have hrl' : rv1.length = ys.length := hrl
            clear hos hrl
            refine WO.p rfl rfl (WO.p rfl rfl (WO.p rfl rfl ?_))
            refine WO.alloc rfl rfl rfl (fun b2 hb2 => ?_)
            refine WO.p rfl rfl (WO.storeA rfl rfl rfl rfl Pick.head rfl rfl ?_)
            refine WO.nil ?_
            refine W.sreg ?_
            refine WO.p rfl rfl ?_
            refine' WO.len (n := _) rfl rfl ?hs rfl ?_
            case hs => (first | exact hos' | exact hrs | (refine isSl_lit ?_; omega))
            refine WO.makeOw rfl rfl rfl rfl rfl (by omega) (by omega) rfl (fun mb => ?_)
            refine WO.p rfl rfl ?_
            refine WO.nil ?_
            refine W.seq ?_
            refine W.sreg ?_
            refine WO.p rfl rfl ?_
            refine' WO.len (n := _) rfl rfl ?hs rfl ?_
            case hs => (first | exact hos' | exact hrs | (refine isSl_lit ?_; omega))
            refine WO.p rfl rfl ?_
            refine WO.nil ?_
            refine W.block ?_
            refine W.chg (rowsNil (enc := encI) (e := 2) (sz := 1)) ?_
            refine W.loop2 (fun (i : Nat) (rv' : List Value) => i ≤ rows.length ∧ rv'.length = i)
              (fun (i : Nat) (rv' : List Value) => [(37, .int .i64 (i : Int)), (36, .int .i64 (rows.length : Int)), (35, v1), (13, .slice (some ⟨mb, 0, none⟩) rows.length rows.length)])
              (fun (i : Nat) (rv' : List Value) => [OwC 53 1 (.slice (some ⟨mb, 0, none⟩) rows.length rows.length) rows.length (rv' ++ List.replicate (rows.length - i) (.slice none 0 0)), RowsE encI 2 1 rv' (ys.take i), OwC 53 1 v1 rows.length rv1, RowsE encI 2 1 rv1 ys])
              (fun (i : Nat) (rv' : List Value) => rows.length - i) 0 []
              (by exact ⟨by omega, rfl⟩) ⟨rfl, rfl, rfl, rfl, trivial⟩ (by repeat (first | exact Sub.nil | refine Sub.cons (by repeat (first | exact Pick.head | apply Pick.tail)) ?_)) ?_
            rintro i rv' ⟨hi, hl⟩
            refine W.sreg ?_
            refine WO.p rfl rfl ?_
            refine WO.nil ?_
            refine W.seq ?_
            refine W.cond_bl rfl (fun c3 => ?_) (fun c3 => ?_)
            · first
              | (exfalso; omega)
              | (refine W.skip ?_
                 refine W.seq ?_
                 refine W.block ?_
                 refine W.sreg ?_
                 refine WO.p rfl rfl ?_
                 refine' WO.indexAddr (n := _) (i := _) rfl rfl rfl ?hs ?h1 rfl ?_
                 case hs => (first | exact hos' | exact hrs | (refine isSl_lit ?_; omega))
                 case h1 => (first | omega | (simp; omega))
                 refine' WO.load (v := _) rfl rfl ?hc rfl ?_
                 case hc => (first | (refine OwC.cell1s (e := 53) (v := v1) (n := rows.length) (cs := rv1) ?_ ?_; (repeat (first | exact Sub.nil | refine Sub.cons (by repeat (first | exact Pick.head | apply Pick.tail)) ?_)); omega) | (refine OwC.cell1g (e := 53) (v := .slice (some ⟨mb, 0, none⟩) rows.length rows.length) (n := rows.length) (u := .slice (some ⟨lb, 0, none⟩) (ys.getD i []).length (ys.getD i []).length) (cs := (rv' ++ [.slice (some ⟨lb, 0, none⟩) (ys.getD i []).length (ys.getD i []).length]) ++ List.replicate (rows.length - (i + 1)) (.slice none 0 0)) ?_ (fill_get _ _ _ hl); (repeat (first | exact Sub.nil | refine Sub.cons (by repeat (first | exact Pick.head | apply Pick.tail)) ?_))))
                 refine WO.p rfl rfl (WO.p rfl rfl ?_)
                 refine WO.nil ?_
                 have hyi := hyr i (by omega)
                 refine W.fact (RowsE.rowSl (rv := rv1) (xss := ys) (enc := encI) (e := 2) (sz := 1) (by repeat (first | exact Pick.head | apply Pick.tail)) (i := i) (by omega)) (fun hrs => ?_)
                 refine W.sreg ?_
                 refine WO.p rfl rfl (WO.p rfl rfl (WO.p rfl rfl ?_))
                 refine' WO.len (n := _) rfl rfl ?hs rfl ?_
                 case hs => (first | exact hos' | exact hrs | (refine isSl_lit ?_; omega))
                 refine WO.makeI rfl rfl rfl rfl (by omega) (by omega) rfl (fun lb => ?_)
                 refine' WO.indexAddr (n := _) (i := _) rfl rfl rfl ?hs ?h1 rfl ?_
                 case hs => (first | exact hos' | exact hrs | (refine isSl_lit ?_; omega))
                 case h1 => (first | omega | (simp; omega))
                 refine WO.storeOw (e := 53) (n := rows.length) (cs := rv' ++ List.replicate (rows.length - i) (.slice none 0 0)) rfl rfl rfl rfl (by repeat (first | exact Pick.head | apply Pick.tail)) (by rw [List.length_append, List.length_replicate]; omega) ?_
                 rw [fill_set _ _ hl (by omega)]
                 refine WO.nil ?_
                 refine W.region ?_
                 refine WO.p rfl rfl (WO.p rfl rfl ?_)
                 refine' WO.indexAddr (n := _) (i := _) rfl rfl rfl ?hs ?h1 rfl ?_
                 case hs => (first | exact hos' | exact hrs | (refine isSl_lit ?_; omega))
                 case h1 => (first | omega | (simp; omega))
                 refine' WO.load (v := _) rfl rfl ?hc rfl ?_
                 case hc => (first | (refine OwC.cell1s (e := 53) (v := v1) (n := rows.length) (cs := rv1) ?_ ?_; (repeat (first | exact Sub.nil | refine Sub.cons (by repeat (first | exact Pick.head | apply Pick.tail)) ?_)); omega) | (refine OwC.cell1g (e := 53) (v := .slice (some ⟨mb, 0, none⟩) rows.length rows.length) (n := rows.length) (u := .slice (some ⟨lb, 0, none⟩) (ys.getD i []).length (ys.getD i []).length) (cs := (rv' ++ [.slice (some ⟨lb, 0, none⟩) (ys.getD i []).length (ys.getD i []).length]) ++ List.replicate (rows.length - (i + 1)) (.slice none 0 0)) ?_ (fill_get _ _ _ hl); (repeat (first | exact Sub.nil | refine Sub.cons (by repeat (first | exact Pick.head | apply Pick.tail)) ?_))))
                 refine WO.p rfl rfl ?_
                 refine WO.copyE (ys := ys.getD i []) encI_ok rfl rfl rfl (by repeat (first | exact Pick.head | apply Pick.tail)) (by rw [List.length_replicate]; exact hrs) (by rw [List.length_replicate]; omega) (by rw [List.length_replicate]) (RowsE.cellsRow (rv := rv1) (xss := ys) (e := 2) (sz := 1) (by repeat (first | exact Pick.head | apply Pick.tail)) (by omega)) rfl ?_
                 refine WO.nil ?_
                 refine W.chg (rowsSnoc (enc := encI) (e := 2) (sz := 1) (rv := rv') (xss := ys.take i) (xs := ys.getD i []) (r := .slice (some ⟨lb, 0, none⟩) (ys.getD i []).length (ys.getD i []).length) (by repeat (first | exact Pick.head | apply Pick.tail)) (by repeat (first | exact Pick.head | apply Pick.tail))) ?_
                 rw [← take_succ_getD (by omega) []]
                 refine W.region ?_
                 refine WO.ar rfl rfl rfl (by (first | (unfold in64; omega))) rfl (WO.p rfl rfl ?_)
                 refine WO.nil ?_
                 refine' ⟨i + 1, (rv' ++ [.slice (some ⟨lb, 0, none⟩) (ys.getD i []).length (ys.getD i []).length]), ?hp, ?hmu, ⟨rfl, rfl, rfl, rfl, trivial⟩, ?hS⟩
                 case hS => repeat (first | exact Sub.nil | refine Sub.cons (by repeat (first | exact Pick.head | apply Pick.tail)) ?_)
                 case hp => exact ⟨by omega, by rw [List.length_append, hl]; rfl⟩
                 case hmu => omega)
            · first
              | (exfalso; omega)
              | (refine W.exit (blk_same ?_)
                 have ei : i = rows.length := by omega
                 rw [ei, Nat.sub_self, List.replicate_zero, List.append_nil, List.take_of_length_le (by omega)]
                 refine W.sreg ?_
                 refine WO.p rfl rfl (WO.p rfl rfl (WO.p rfl rfl ?_))
                 refine WO.nil ?_
                 refine W.ret ?_
                 first | exact fin.ret (Res.two rfl (RV.tmp rfl) (RV.tmp rfl)) ⟨(_, [], []), ⟨rfl, fun h => absurd h (by assumption), fun _ => rfl⟩, fun h hs => Sub.sat (.cons .head (.cons .head .nil)) (owcNil _ (rowsNil h hs))⟩ | exact fin.ret (Res.two rfl (RV.tmp rfl) (RV.tmp rfl)) ⟨(_, rv', ys), ⟨by rw [Decidable.not_not.1 (by assumption : ¬ planE sp st rows what ≠ 0)], fun _ => he, fun h => absurd h (by assumption)⟩, fun h hs => by dsimp only; rw [hyl]; exact Sub.sat (.cons (by repeat (first | exact Pick.head | apply Pick.tail)) (.cons (by repeat (first | exact Pick.head | apply Pick.tail)) .nil)) hs⟩))
       · first
         | (exfalso; omega)
         | (refine W.skip ?_
            have hpo := planE_ok (sp := sp) (st := st) (rows := rows) (what := what) (by omega)
            have hn := hpo.1.n
            have hm := hpo.1.m
            refine W.chgE (PtrP.open (by repeat (first | exact Pick.head | apply Pick.tail)) (by omega)) ?_
            rintro pb rfl
            refine W.sreg ?_
            refine WO.p rfl rfl (WO.p rfl rfl ?_)
            refine WO.call (Post := fun v Hq => ∃ x : Value × List Value × List (List Int), (v = .tuple #[x.1, .agg (encP (endV sp st what high rows)).toArray] ∧ IsEnd sp st what high rows x.2.2) ∧ Hq = [OwC 53 1 x.1 rows.length x.2.1, RowsE encI 2 1 x.2.1 x.2.2]) rfl Try.call50 (fun L w hi => by have h := c_end w ⟨pb, 0, none⟩ sp st what high o rv rows (RdC.own (b := pb) (by repeat (first | exact Pick.head | apply Pick.tail)) hi) (hR.later hi) hpo.1 hpo.2; first | (rw [sgn_t (by assumption)] at h; exact h) | (rw [sgn_f (by assumption)] at h; exact h)) rfl ?_
            rintro _ _ ⟨⟨v1, rv1, ys⟩, ⟨rfl, he⟩, rfl⟩
            have hyl : ys.length = rows.length := he.tv.len
            have hyr : ∀ i, i < ys.length → (ys.getD i []).length = (rows.getD 0 []).length := fun i h => (he.tv.row i h).trans (hpo.1.eq i (by omega))
            refine WO.fact (RowsE.rowsLen (by repeat (first | exact Pick.head | apply Pick.tail))) (fun hrl => ?_)
            refine WO.fact (OwC.sl (by repeat (first | exact Pick.head | apply Pick.tail))) (fun hos => ?_)
            have hos' : IsSl v1 rows.length := hos
            have hrl' : rv1.length = ys.length := hrl
            clear hos hrl
            refine WO.p rfl rfl (WO.p rfl rfl (WO.p rfl rfl ?_))
            refine WO.alloc rfl rfl rfl (fun b3 hb3 => ?_)
            refine WO.p rfl rfl (WO.storeA rfl rfl rfl rfl Pick.head rfl rfl ?_)
            refine WO.nil ?_
            refine W.sreg ?_
            refine WO.p rfl rfl ?_
            refine' WO.len (n := _) rfl rfl ?hs rfl ?_
            case hs => (first | exact hos' | exact hrs | (refine isSl_lit ?_; omega))
            refine WO.makeOw rfl rfl rfl rfl rfl (by omega) (by omega) rfl (fun mb => ?_)
            refine WO.p rfl rfl ?_
            refine WO.nil ?_
            refine W.seq ?_
            refine W.sreg ?_
            refine WO.p rfl rfl ?_
            refine' WO.len (n := _) rfl rfl ?hs rfl ?_
            case hs => (first | exact hos' | exact hrs | (refine isSl_lit ?_; omega))
            refine WO.p rfl rfl ?_
            refine WO.nil ?_
            refine W.block ?_
            refine W.chg (rowsNil (enc := encI) (e := 2) (sz := 1)) ?_
            refine W.loop2 (fun (i : Nat) (rv' : List Value) => i ≤ rows.length ∧ rv'.length = i)
              (fun (i : Nat) (rv' : List Value) => [(37, .int .i64 (i : Int)), (36, .int .i64 (rows.length : Int)), (35, v1), (13, .slice (some ⟨mb, 0, none⟩) rows.length rows.length)])
              (fun (i : Nat) (rv' : List Value) => [OwC 53 1 (.slice (some ⟨mb, 0, none⟩) rows.length rows.length) rows.length (rv' ++ List.replicate (rows.length - i) (.slice none 0 0)), RowsE encI 2 1 rv' (ys.take i), OwC 53 1 v1 rows.length rv1, RowsE encI 2 1 rv1 ys])
              (fun (i : Nat) (rv' : List Value) => rows.length - i) 0 []
              (by exact ⟨by omega, rfl⟩) ⟨rfl, rfl, rfl, rfl, trivial⟩ (by repeat (first | exact Sub.nil | refine Sub.cons (by repeat (first | exact Pick.head | apply Pick.tail)) ?_)) ?_
            rintro i rv' ⟨hi, hl⟩
            refine W.sreg ?_
            refine WO.p rfl rfl ?_
            refine WO.nil ?_
            refine W.seq ?_
            refine W.cond_bl rfl (fun c4 => ?_) (fun c4 => ?_)
            · first
              | (exfalso; omega)
              | (refine W.skip ?_
                 refine W.seq ?_
                 refine W.block ?_
                 refine W.sreg ?_
                 refine WO.p rfl rfl ?_
                 refine' WO.indexAddr (n := _) (i := _) rfl rfl rfl ?hs ?h1 rfl ?_
                 case hs => (first | exact hos' | exact hrs | (refine isSl_lit ?_; omega))
                 case h1 => (first | omega | (simp; omega))
                 refine' WO.load (v := _) rfl rfl ?hc rfl ?_
                 case hc => (first | (refine OwC.cell1s (e := 53) (v := v1) (n := rows.length) (cs := rv1) ?_ ?_; (repeat (first | exact Sub.nil | refine Sub.cons (by repeat (first | exact Pick.head | apply Pick.tail)) ?_)); omega) | (refine OwC.cell1g (e := 53) (v := .slice (some ⟨mb, 0, none⟩) rows.length rows.length) (n := rows.length) (u := .slice (some ⟨lb, 0, none⟩) (ys.getD i []).length (ys.getD i []).length) (cs := (rv' ++ [.slice (some ⟨lb, 0, none⟩) (ys.getD i []).length (ys.getD i []).length]) ++ List.replicate (rows.length - (i + 1)) (.slice none 0 0)) ?_ (fill_get _ _ _ hl); (repeat (first | exact Sub.nil | refine Sub.cons (by repeat (first | exact Pick.head | apply Pick.tail)) ?_))))
                 refine WO.p rfl rfl (WO.p rfl rfl ?_)
                 refine WO.nil ?_
                 have hyi := hyr i (by omega)
                 refine W.fact (RowsE.rowSl (rv := rv1) (xss := ys) (enc := encI) (e := 2) (sz := 1) (by repeat (first | exact Pick.head | apply Pick.tail)) (i := i) (by omega)) (fun hrs => ?_)
                 refine W.sreg ?_
                 refine WO.p rfl rfl (WO.p rfl rfl (WO.p rfl rfl ?_))
                 refine' WO.len (n := _) rfl rfl ?hs rfl ?_
                 case hs => (first | exact hos' | exact hrs | (refine isSl_lit ?_; omega))
                 refine WO.makeI rfl rfl rfl rfl (by omega) (by omega) rfl (fun lb => ?_)
                 refine' WO.indexAddr (n := _) (i := _) rfl rfl rfl ?hs ?h1 rfl ?_
                 case hs => (first | exact hos' | exact hrs | (refine isSl_lit ?_; omega))
                 case h1 => (first | omega | (simp; omega))
                 refine WO.storeOw (e := 53) (n := rows.length) (cs := rv' ++ List.replicate (rows.length - i) (.slice none 0 0)) rfl rfl rfl rfl (by repeat (first | exact Pick.head | apply Pick.tail)) (by rw [List.length_append, List.length_replicate]; omega) ?_
                 rw [fill_set _ _ hl (by omega)]
                 refine WO.nil ?_
                 refine W.region ?_
                 refine WO.p rfl rfl (WO.p rfl rfl ?_)
                 refine' WO.indexAddr (n := _) (i := _) rfl rfl rfl ?hs ?h1 rfl ?_
                 case hs => (first | exact hos' | exact hrs | (refine isSl_lit ?_; omega))
                 case h1 => (first | omega | (simp; omega))
                 refine' WO.load (v := _) rfl rfl ?hc rfl ?_
                 case hc => (first | (refine OwC.cell1s (e := 53) (v := v1) (n := rows.length) (cs := rv1) ?_ ?_; (repeat (first | exact Sub.nil | refine Sub.cons (by repeat (first | exact Pick.head | apply Pick.tail)) ?_)); omega) | (refine OwC.cell1g (e := 53) (v := .slice (some ⟨mb, 0, none⟩) rows.length rows.length) (n := rows.length) (u := .slice (some ⟨lb, 0, none⟩) (ys.getD i []).length (ys.getD i []).length) (cs := (rv' ++ [.slice (some ⟨lb, 0, none⟩) (ys.getD i []).length (ys.getD i []).length]) ++ List.replicate (rows.length - (i + 1)) (.slice none 0 0)) ?_ (fill_get _ _ _ hl); (repeat (first | exact Sub.nil | refine Sub.cons (by repeat (first | exact Pick.head | apply Pick.tail)) ?_))))
                 refine WO.p rfl rfl ?_
                 refine WO.copyE (ys := ys.getD i []) encI_ok rfl rfl rfl (by repeat (first | exact Pick.head | apply Pick.tail)) (by rw [List.length_replicate]; exact hrs) (by rw [List.length_replicate]; omega) (by rw [List.length_replicate]) (RowsE.cellsRow (rv := rv1) (xss := ys) (e := 2) (sz := 1) (by repeat (first | exact Pick.head | apply Pick.tail)) (by omega)) rfl ?_
                 refine WO.nil ?_
                 refine W.chg (rowsSnoc (enc := encI) (e := 2) (sz := 1) (rv := rv') (xss := ys.take i) (xs := ys.getD i []) (r := .slice (some ⟨lb, 0, none⟩) (ys.getD i []).length (ys.getD i []).length) (by repeat (first | exact Pick.head | apply Pick.tail)) (by repeat (first | exact Pick.head | apply Pick.tail))) ?_
                 rw [← take_succ_getD (by omega) []]
                 refine W.region ?_
                 refine WO.ar rfl rfl rfl (by (first | (unfold in64; omega))) rfl (WO.p rfl rfl ?_)
                 refine WO.nil ?_
                 refine' ⟨i + 1, (rv' ++ [.slice (some ⟨lb, 0, none⟩) (ys.getD i []).length (ys.getD i []).length]), ?hp, ?hmu, ⟨rfl, rfl, rfl, rfl, trivial⟩, ?hS⟩
                 case hS => repeat (first | exact Sub.nil | refine Sub.cons (by repeat (first | exact Pick.head | apply Pick.tail)) ?_)
                 case hp => exact ⟨by omega, by rw [List.length_append, hl]; rfl⟩
                 case hmu => omega)
            · first
              | (exfalso; omega)
              | (refine W.exit (blk_same ?_)
                 have ei : i = rows.length := by omega
                 rw [ei, Nat.sub_self, List.replicate_zero, List.append_nil, List.take_of_length_le (by omega)]
                 refine W.sreg ?_
                 refine WO.p rfl rfl (WO.p rfl rfl (WO.p rfl rfl ?_))
                 refine WO.nil ?_
                 refine W.ret ?_
                 first | exact fin.ret (Res.two rfl (RV.tmp rfl) (RV.tmp rfl)) ⟨(_, [], []), ⟨rfl, fun h => absurd h (by assumption), fun _ => rfl⟩, fun h hs => Sub.sat (.cons .head (.cons .head .nil)) (owcNil _ (rowsNil h hs))⟩ | exact fin.ret (Res.two rfl (RV.tmp rfl) (RV.tmp rfl)) ⟨(_, rv', ys), ⟨by rw [Decidable.not_not.1 (by assumption : ¬ planE sp st rows what ≠ 0)], fun _ => he, fun h => absurd h (by assumption)⟩, fun h hs => by dsimp only; rw [hyl]; exact Sub.sat (.cons (by repeat (first | exact Pick.head | apply Pick.tail)) (.cons (by repeat (first | exact Pick.head | apply Pick.tail)) .nil)) hs⟩)))
end Go.Proofs.Ytgihklgpehfbpaa

