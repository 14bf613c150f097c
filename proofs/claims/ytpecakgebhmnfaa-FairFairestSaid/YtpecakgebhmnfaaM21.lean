/-
  What is proved here: all lines, as the reference lists them. Conditions: none; each contract states its own.
  What is proved here: how many lines there are; the fairest line of the reference. Conditions: none; each contract states its own.
  What is proved here: both fairest lines are the same. Conditions: none; each contract states its own.
  What is proved here: the law of the fairest line. Conditions: none; each contract states its own.
-/
import Derived.Test.YtpecakgebhmnfaaM4
import Derived.Test.YtpecakgebhmnfaaM20
import Derived.Test.YtpecakgebhmnfaaM6
set_option linter.unusedVariables false
set_option linter.unusedSimpArgs false
namespace Go.Proofs.Ytpecakgebhmnfaa
open Go Go.TH
attribute [local irreducible] W WO pt
set_option maxRecDepth 10000
set_option maxHeartbeats 1000000
def LinP (l : List (Int × Int)) (bs : List Int) (x : Value × List Value) : List HP := [OwC 25 1 x.1 (linB l bs).length x.2, RowsE encI 2 1 x.2 (linB l bs)]
def LinC (m : Nat) : Prop := ∀ (l : List (Int × Int)) (bs : List Int) (o : Value) (t : Int) (v : Value) (w : World) (B : Nat), B ≤ w.heap.size → RdF encP 2 B w o l → OkS l → l.length ≤ 24 → bs.length + m = l.length → (linB l bs).length ≤ 1500 →
  CtH Try.prog 45 [.agg #[o, .int .i64 t], v] w [OwE encI 2 1 v bs] B (fun r Hq => ∃ x : Value × List Value, r = x.1 ∧ Hq = LinP l bs x)
theorem ref_lines_0 : LinC 0 := by
  intro l bs o t v u0 B hB hR hg h24 hm hlim
  refine CtH.ofI (X := Value × List Value) (p := fun x r => r = x.1) (Hx := LinP l bs) mixed tyTab hB Try.func45 rfl rfl (fun M hM => ?_)
  replace hR : RdF encP 2 (itCx mixed tyTab Try.f45.ntmps u0 M B hB hM).B (itCx mixed tyTab Try.f45.ntmps u0 M B hB hM).w0 o l := hR
  refine W.fact (OwE.form (enc := encI) (e := 2) (sz := 1) (v := v) (xs := bs) Pick.head) (fun hf => ?_)
  refine W.fact (OwE.sl (enc := encI) (e := 2) (sz := 1) (v := v) (xs := bs) Pick.head) (fun hbs => ?_)
  obtain ⟨a, c, rfl⟩ := hf
  have hoc := hR.sl.oc
  have e1 : linB l bs = [bs] := by unfold linB; rw [List.drop_eq_nil_of_le (by omega)]; simp [lin]
  refine W.sreg ?_
  refine WO.boxA rfl rfl (fun b1 hb1 => ?_)
  refine WO.p rfl rfl ?_
  refine WO.nil ?_
  refine W.sreg ?_
  refine WO.p rfl rfl ?_
  refine' WO.len (n := _) rfl rfl ?hs rfl ?_
  case hs => (first | first | exact hbs | exact hR.sl)
  refine WO.p rfl rfl ?_
  refine WO.nil ?_
  refine W.seq ?_
  refine W.sreg ?_
  refine WO.p rfl rfl (WO.field0 rfl rfl rfl (WO.load rfl rfl (Cell.own Pick.head rfl) rfl ?_))
  refine' WO.len (n := _) rfl rfl ?hs rfl ?_
  case hs => (first | exact hR.sl)
  refine WO.p rfl rfl ?_
  refine WO.nil ?_
  refine W.cond_bl rfl (fun c1 => ?_) (fun c1 => ?_)
  · first
    | (exfalso; omega)
    | (refine W.sreg ?_
       refine WO.p rfl rfl ?_
       refine' WO.buildSl (cs := _) rfl rfl rfl rfl ?hf rfl rfl ?hl rfl (fun v2 => ?_)
       case hf => (conv => lhs; simp [-List.getD_eq_getElem?_getD, fillL, vcl, wrl, TTab.pl?.lget']) <;> rfl
       case hl => rfl
       refine WO.p rfl rfl ?_
       refine WO.nil ?_
       refine W.ret ?_
       refine fin.ret (Res.one rfl (RV.tmp rfl)) ⟨(_, [.slice a bs.length c]), rfl, fun h hs => ?_⟩
       have h2 := rowsSnoc (enc := encI) (e := 2) (sz := 1) (rv := []) (xss := []) (r := .slice a bs.length c) (xs := bs) Pick.head (by repeat (first | exact Pick.head | apply Pick.tail)) h (rowsNil (enc := encI) (e := 2) (sz := 1) h hs)
       unfold LinP; rw [e1]; exact Sub.sat (.cons (by repeat (first | exact Pick.head | apply Pick.tail)) (.cons .head .nil)) h2)
  · first
    | (exfalso; omega)
    | (refine W.skip ?_
       refine W.sreg ?_
       refine WO.p rfl rfl ?_
       refine WO.nil ?_
       refine W.seq ?_
       refine W.sreg ?_
       refine WO.field0 rfl rfl rfl (WO.load rfl rfl (Cell.own Pick.head rfl) rfl (WO.p rfl rfl ?_))
       refine' WO.indexAddr (n := _) (i := _) rfl rfl rfl ?hs ?h1 rfl ?_
       case hs => (first | first | exact hbs | exact hR.sl)
       case h1 => (first | omega | (simp; omega))
       refine WO.field0 rfl rfl rfl ?_
       refine' WO.load (v := _) rfl rfl ?hc rfl ?_
       case hc => skip
       refine WO.p rfl rfl ?_
       refine WO.nil ?_
       refine W.block ?_
       (exfalso; omega))
theorem ref_lines_step {m : Nat} (ih : LinC m) : LinC (m + 1) := by
  intro l bs o t v u0 B hB hR hg h24 hm hlim
  refine CtH.ofI (X := Value × List Value) (p := fun x r => r = x.1) (Hx := LinP l bs) mixed tyTab hB Try.func45 rfl rfl (fun M hM => ?_)
  replace hR : RdF encP 2 (itCx mixed tyTab Try.f45.ntmps u0 M B hB hM).B (itCx mixed tyTab Try.f45.ntmps u0 M B hB hM).w0 o l := hR
  refine W.fact (OwE.sl (enc := encI) (e := 2) (sz := 1) (v := v) (xs := bs) Pick.head) (fun hbs => ?_)
  have hoc := hR.sl.oc
  have hgk := hg _ (getD_mem (i := bs.length) (by omega) (0, 0))
  have hw := wid_ok hgk
  unfold OkG at hgk
  refine W.sreg ?_
  refine WO.boxA rfl rfl (fun b1 hb1 => ?_)
  refine WO.p rfl rfl ?_
  refine WO.nil ?_
  refine W.sreg ?_
  refine WO.p rfl rfl ?_
  refine' WO.len (n := _) rfl rfl ?hs rfl ?_
  case hs => (first | exact hbs)
  refine WO.p rfl rfl ?_
  refine WO.nil ?_
  refine W.seq ?_
  refine W.sreg ?_
  refine WO.p rfl rfl (WO.field0 rfl rfl rfl (WO.load rfl rfl (Cell.own Pick.head rfl) rfl ?_))
  refine' WO.len (n := _) rfl rfl ?hs rfl ?_
  case hs => (first | exact hR.sl)
  refine WO.p rfl rfl ?_
  refine WO.nil ?_
  refine W.cond_bl rfl (fun c1 => ?_) (fun c1 => ?_)
  · first
    | (exfalso; omega)
    | (refine W.sreg ?_
       refine WO.p rfl rfl ?_
       refine' WO.buildSl (cs := _) rfl rfl rfl rfl ?hf rfl rfl ?hl rfl (fun v2 => ?_)
       case hf => (conv => lhs; simp [-List.getD_eq_getElem?_getD, fillL, vcl, wrl, TTab.pl?.lget']) <;> rfl
       case hl => rfl
       refine WO.p rfl rfl ?_
       refine WO.nil ?_
       refine W.ret ?_
       refine fin.ret (Res.one rfl (RV.tmp rfl)) ⟨(x, rv), rfl, fun h hs => ?_⟩
       unfold LinP; rw [← hye]; exact Sub.sat (by repeat (first | exact Sub.nil | refine Sub.cons (by repeat (first | exact Pick.head | apply Pick.tail)) ?_)) hs)
  · first
    | (exfalso; omega)
    | (refine W.skip ?_
       refine W.sreg ?_
       refine WO.p rfl rfl ?_
       refine WO.nil ?_
       refine W.seq ?_
       refine W.sreg ?_
       refine WO.field0 rfl rfl rfl (WO.load rfl rfl (Cell.own Pick.head rfl) rfl (WO.p rfl rfl ?_))
       refine' WO.indexAddr (n := _) (i := _) rfl rfl rfl ?hs ?h1 rfl ?_
       case hs => (first | exact hR.sl)
       case h1 => (first | omega | (simp; omega))
       refine WO.field0 rfl rfl rfl ?_
       refine' WO.load (v := _) rfl rfl ?hc rfl ?_
       case hc => (first | (refine hR.cell0 (i := bs.length) ?_ (0, 0) ?_ <;> first | rfl | omega))
       refine WO.p rfl rfl ?_
       refine WO.nil ?_
       refine W.block ?_
       refine W.chg (rowsNil (enc := encI) (e := 2) (sz := 1)) ?_
       refine W.chg (owcNil (e := 25) (sz := 1)) ?_
       refine W.loop4 (fun (z : Int) (x : Value) (rv : List Value) (yss : List (List Int)) => (l.getD bs.length (0, 0)).1 ≤ z ∧ z ≤ (l.getD bs.length (0, 0)).2 + 1 ∧ yss = linTo l bs (z - (l.getD bs.length (0, 0)).1).toNat)
         (fun (z : Int) (x : Value) (rv : List Value) (yss : List (List Int)) => [(7, .int .i64 z), (6, x), (5, .int .i64 (bs.length : Int)), (2, .pointer (some ⟨b1, 0, none⟩)), (1, v)])
         (fun (z : Int) (x : Value) (rv : List Value) (yss : List (List Int)) => [OwC 25 1 x yss.length rv, RowsE encI 2 1 rv yss, OwE encI 2 1 v bs, pt b1 (.cells #[o, .int .i64 t] 24 (0, 0))])
         (fun (z : Int) (x : Value) (rv : List Value) (yss : List (List Int)) => ((l.getD bs.length (0, 0)).2 + 1 - z).toNat) _ (.slice none 0 0) [] []
         (by exact ⟨by omega, by omega, by rw [show ((l.getD bs.length (0, 0)).1 - (l.getD bs.length (0, 0)).1).toNat = 0 by omega]; rfl⟩) ⟨rfl, rfl, rfl, rfl, rfl, trivial⟩ (by repeat (first | exact Sub.nil | refine Sub.cons (by repeat (first | exact Pick.head | apply Pick.tail)) ?_)) ?_
       rintro z x rv yss ⟨hz1, hz2, hys⟩
       refine W.seq ?_
       refine W.sreg ?_
       refine WO.p rfl rfl (WO.field0 rfl rfl rfl (WO.load rfl rfl (Cell.own (Pick.tail (Pick.tail (Pick.tail (Pick.head)))) rfl) rfl (WO.p rfl rfl ?_)))
       refine' WO.indexAddr (n := _) (i := _) rfl rfl rfl ?hs ?h1 rfl ?_
       case hs => (first | exact hR.sl)
       case h1 => (first | omega | (simp; omega))
       refine WO.field rfl rfl rfl ?_
       refine' WO.load (v := _) rfl rfl ?hc rfl ?_
       case hc => (first | (refine hR.cellAt (i := bs.length) ?_ (0, 0) ?_ <;> first | rfl | omega))
       refine WO.p rfl rfl ?_
       refine WO.nil ?_
       refine W.cond_bl rfl (fun c2 => ?_) (fun c2 => ?_)
       · first
         | (exfalso; omega)
         | (refine W.skip ?_
            refine W.seq ?_
            refine W.block ?_
            obtain ⟨k, hk⟩ : ∃ k : Nat, z = (l.getD bs.length (0, 0)).1 + (k : Int) := ⟨(z - (l.getD bs.length (0, 0)).1).toNat, by omega⟩
            have hnew : (linB l (bs ++ [(l.getD bs.length (0, 0)).1 + (k : Int)])).length + yss.length ≤ 1500 := by rw [hys, show (z - (l.getD bs.length (0, 0)).1).toNat = k by omega, Nat.add_comm, ← List.length_append, ← linTo_succ]; rw [← linTo_all (l := l) (bs := bs) (by omega)] at hlim; exact Nat.le_trans (linTo_mono l bs (by omega)) hlim
            refine DB.W.drawB 9 [.r 0 [], .b 1 [], .r 3 [], .r 5 []] [.c 2 [], .c 4 [], .a 6 39 (fun b => OwC 2 1 (.slice (some ⟨b, 0, none⟩) 1 1) 1 [.int .i64 z]) (fun b => .slice (some ⟨b, 0, none⟩) 1 1), .c 7 [], .c 8 []] [] (A0 := [_]) (H0 := [_, _, _]) (.cons .head (.cons .head (.cons .head (.cons .head .nil)))) (by kernel_rfl) ?_
            refine' DB.QB.r rfl rfl rfl ?hq ?_
            case hq =>
              refine WO.p rfl rfl ?_
              exact WO.nil ⟨rfl, rfl⟩
            refine' DB.QB.b rfl rfl rfl ?hq ?_
            case hq =>
              refine WO.loadA rfl rfl (Cells.own (Pick.tail (Pick.tail (Pick.head)))) rfl rfl ?_
              exact WO.nil ⟨rfl, rfl⟩
            refine' DB.QB.r rfl rfl rfl ?hq ?_
            case hq =>
              refine WO.p rfl rfl ?_
              exact WO.nil ⟨rfl, rfl⟩
            refine' DB.QB.r rfl rfl rfl ?hq ?_
            case hq =>
              refine WO.p rfl rfl ?_
              exact WO.nil ⟨rfl, rfl⟩
            refine DB.QB.nil ?_ ?_
            · refine (DB.ALok.r (DB.ALok.b (DB.ALok.r (DB.ALok.r (DB.ALok.c (DB.ALok.c (DB.ALok.n rfl rfl rfl ?_ (DB.ALok.c (DB.ALok.c DB.ALok.nil)))))))))
              · skip
                refine' WO.buildSl (cs := _) rfl rfl rfl rfl ?hf rfl rfl ?hl rfl (fun v3 => ?_)
                case hf => (conv => lhs; simp [-List.getD_eq_getElem?_getD, fillL, vcl, wrl, TTab.pl?.lget']) <;> rfl
                case hl => rfl
                exact WO.nil ⟨_, rfl, rfl⟩
            refine DB.DT.c [_, _, _, _] rfl rfl rfl rfl ?_
            refine WO.buildSl0 rfl rfl (fun b0 => ?_)
            refine WO.nil ⟨_, [_, _], rfl, rfl, (DB.Keep.r (DB.Keep.r (DB.Keep.b (DB.Keep.r DB.Keep.nil)))), ?_⟩
            refine DB.DT.c [_, _, _, _, _] rfl rfl rfl rfl ?_
            refine WO.appendEZ (enc := encI) (m := bs.length) (xs := []) (ys := bs) encI_ok rfl rfl rfl rfl rfl Pick.head hbs rfl (OwC.cells (by repeat (first | exact Pick.head | apply Pick.tail))) (by simp only [List.length_nil]; omega) (by simp only [List.length_nil]; omega) rfl (fun v1 => ?_)
            refine WO.nil ⟨_, [_, _], rfl, rfl, (DB.Keep.c (DB.Keep.r (DB.Keep.r (DB.Keep.b (DB.Keep.r DB.Keep.nil))))), ?_⟩
            refine DB.DT.a (fun v4 => ?_)
            refine DB.DT.c [_, _, _, _, _, _] rfl rfl rfl rfl ?_
            refine' WO.appendE (enc := encI) (m := 1) (xs := [] ++ bs) (ys := [z]) encI_ok rfl rfl rfl rfl rfl (by repeat (first | exact Pick.head | apply Pick.tail)) (isSl_lit (by omega) (fun _ => ⟨_, _, rfl⟩)) (by omega) rfl (OwC.cells (by repeat (first | exact Pick.head | apply Pick.tail))) (by rw [List.nil_append]; omega) (by rw [List.nil_append]; omega) rfl (fun g c => ?_)
            refine WO.nil ⟨_, [_, _, _], rfl, rfl, (DB.Keep.a (DB.Keep.c (DB.Keep.c (DB.Keep.r (DB.Keep.r (DB.Keep.b (DB.Keep.r DB.Keep.nil))))))), ?_⟩
            refine DB.DT.c [_, _, _, _, _, _] rfl rfl rfl rfl ?_
            have hLm : (linB l (bs ++ [z])).length + yss.length ≤ 1500 := by rw [hk]; exact hnew
            refine WO.callH1 (A := OwE encI 2 1 (.slice (some ⟨g, 0, none⟩) (([] ++ bs).length + 1) c) (bs ++ [z])) (Post := fun r Hq => ∃ x : Value × List Value, r = x.1 ∧ Hq = LinP l (bs ++ [z]) x) rfl Try.call45 Pick.head (fun L w hi hB2 => ?hsp) rfl ?_
            case hsp => (have q1 : RdF encP 2 (itCx mixed tyTab Try.f45.ntmps u0 M B hB hM).B w o l := hR.agree hi.keepB; have q2 : (bs ++ [z]).length + m = l.length := (by simp; omega); have q3 : (linB l (bs ++ [z])).length ≤ 1500 := (by omega); exact ih l (bs ++ [z]) o t (.slice (some ⟨g, 0, none⟩) (([] ++ bs).length + 1) c) w B hB2 q1 hg h24 q2 q3)
            rintro r2 _ ⟨⟨x2, rv2⟩, rfl, rfl⟩
            refine WO.fact (OwC.sl (e := 25) (sz := 1) (n := (linB l (bs ++ [z])).length) (v := r2) (cs := rv2) Pick.head) (fun h2s => ?_)
            refine WO.fact (RowsE.ocF (enc := encI) (e := 2) (sz := 1) (rv := rv2) (xss := linB l (bs ++ [z])) (Pick.tail Pick.head)) (fun h2o => ?_)
            refine WO.nil ⟨_, [_, _, _, _], rfl, rfl, (DB.Keep.c (DB.Keep.a (DB.Keep.c (DB.Keep.c (DB.Keep.r (DB.Keep.r (DB.Keep.b (DB.Keep.r DB.Keep.nil)))))))), ?_⟩
            refine DB.DT.nil [_, _, _, _, _, _, _] rfl ?_
            refine WO.appendN (m := (linB l (bs ++ [z])).length) (news := rv2) rfl rfl rfl rfl rfl (p := by repeat (first | exact Pick.head | apply Pick.tail)) h2s (OwC.cells Pick.head) (by rw [h2o.1]; omega) h2o.2 (by omega) (by omega) rfl (fun x' => ?_)
            refine WO.p rfl rfl ?_
            refine WO.nil ?_
            refine W.chg (rowsApp (enc := encI) (e := 2) (sz := 1) (rv := rv) (xss := yss) (rv' := rv2) (xss' := linB l (bs ++ [z])) (by repeat (first | exact Pick.head | apply Pick.tail)) (by repeat (first | exact Pick.head | apply Pick.tail))) ?_
            rw [← List.length_append]
            refine W.region ?_
            refine WO.p rfl rfl (WO.ar rfl rfl rfl (by (first | (unfold in64; omega) | (unfold in64; omega))) rfl (WO.p rfl rfl ?_))
            refine WO.nil ?_
            refine' ⟨_, _, _, _, ?hp, ?hmu, ⟨rfl, rfl, rfl, rfl, rfl, trivial⟩, ?hS⟩
            case hS => repeat (first | exact Sub.nil | refine Sub.cons (by repeat (first | exact Pick.head | apply Pick.tail)) ?_)
            case hp => exact ⟨by omega, by omega, by rw [hys, show (z + 1 - (l.getD bs.length (0, 0)).1).toNat = (z - (l.getD bs.length (0, 0)).1).toNat + 1 by omega, linTo_succ, show (l.getD bs.length (0, 0)).1 + (((z - (l.getD bs.length (0, 0)).1).toNat : Nat) : Int) = z by omega]⟩
            case hmu => omega)
       · first
         | (exfalso; omega)
         | (refine W.exit (blk_same ?_)
            have hye : yss = linB l bs := by rw [hys, ← linTo_all (l := l) (bs := bs) (by omega), show (z - (l.getD bs.length (0, 0)).1).toNat = wid (l.getD bs.length (0, 0)) by omega]
            refine W.sreg ?_
            refine WO.p rfl rfl (WO.p rfl rfl ?_)
            refine WO.nil ?_
            refine W.ret ?_
            refine fin.ret (Res.one rfl (RV.tmp rfl)) ⟨(x, rv), rfl, fun h hs => ?_⟩
            unfold LinP; rw [← hye]; exact Sub.sat (by repeat (first | exact Sub.nil | refine Sub.cons (by repeat (first | exact Pick.head | apply Pick.tail)) ?_)) hs))
theorem ref_lines : ∀ m, LinC m
  | 0 => ref_lines_0
  | m + 1 => ref_lines_step (ref_lines m)
theorem linB_nil (l : List (Int × Int)) : linB l [] = lin l := by
  unfold linB
  simp
theorem LinP_nil (l : List (Int × Int)) (x : Value × List Value) : LinP l [] x = [OwC 25 1 x.1 (lin l).length x.2, RowsE encI 2 1 x.2 (lin l)] := by unfold LinP; rw [linB_nil]
end Go.Proofs.Ytpecakgebhmnfaa
namespace Go.Proofs.Ytpecakgebhmnfaa
open Go Go.TH
attribute [local irreducible] W WO pt
set_option maxRecDepth 10000
set_option maxHeartbeats 1000000
def manyL (l : List (Int × Int)) : Nat := l.foldl (fun n r => min 1000000 (n * wid r)) 1
theorem many_fold {l : List (Int × Int)} (hg : OkS l) : ∀ n, 1 ≤ n → n ≤ 1000000 → l.foldl (fun n r => min 1000000 (n * wid r)) n = min 1000000 (n * (lin l).length) := by
  induction l with
  | nil => intro n h1 h2; simp [lin]; omega
  | cons r rs ih =>
    intro n h1 h2
    have hw := wid_ok (hg r (by simp))
    have hp := lin_pos (l := rs) (fun q hq => hg q (by simp [hq]))
    rw [List.foldl_cons, ih (fun q hq => hg q (by simp [hq])), lin_len_cons, ← Nat.mul_assoc]
    · generalize n * wid r = a
      rcases Nat.le_total a 1000000 with h | h
      · rw [Nat.min_eq_right h]
      · rw [Nat.min_eq_left h]
        have q1 : 1000000 * 1 ≤ 1000000 * (lin rs).length := Nat.mul_le_mul_left _ hp
        have q2 : a * 1 ≤ a * (lin rs).length := Nat.mul_le_mul_left _ hp
        omega
    · have := Nat.mul_le_mul h1 hw.1; omega
    · omega
theorem many_eq {l : List (Int × Int)} (hg : OkS l) : manyL l = min 1000000 (lin l).length := by
  unfold manyL; rw [many_fold hg 1 (by omega) (by omega), Nat.one_mul]
theorem manyTo_bd {l : List (Int × Int)} (n : Nat) (h : n ≤ l.length) : manyL (l.take n) ≤ 1000000 := by
  cases n with
  | zero => simp [manyL]
  | succ n => unfold manyL; rw [take_succ_getD (by omega) (0, 0), List.foldl_append]; simp only [List.foldl_cons, List.foldl_nil]; omega
theorem many_succ {l : List (Int × Int)} {n : Nat} (h : n < l.length) : manyL (l.take (n + 1)) = min 1000000 (manyL (l.take n) * wid (l.getD n (0, 0))) := by
  unfold manyL; rw [take_succ_getD h (0, 0), List.foldl_append]; rfl
theorem ref_Many (w : World) (v : Value) (l : List (Int × Int)) (t : Int) (hR : RdF encP 2 w.heap.size w v l) (hg : OkS l) : Ret Try.prog 42 [.agg #[v, .int .i64 t]].toArray w (.int .i64 (manyL l : Int)) := by
  refine Ret.of mixed tyTab Try.func42 rfl rfl ?_
  replace hR : RdF encP 2 (fnCx mixed tyTab Try.f42.ntmps w).B (fnCx mixed tyTab Try.f42.ntmps w).w0 v l := hR
  have hle := hR.sl.le
  have hoc := hR.sl.oc
  refine W.sreg ?_
  refine WO.boxA rfl rfl (fun b1 hb1 => ?_)
  refine WO.p rfl rfl ?_
  refine WO.nil ?_
  refine W.sreg ?_
  refine WO.p rfl rfl ?_
  refine WO.nil ?_
  refine W.seq ?_
  refine W.sreg ?_
  refine WO.p rfl rfl ?_
  refine WO.nil ?_
  refine W.block ?_
  refine W.loop (fun (i : Nat) => i ≤ l.length)
    (fun (i : Nat) => [(4, .int .i64 (i : Int)), (3, .int .i64 (manyL (l.take i) : Int)), (1, .pointer (some ⟨b1, 0, none⟩))])
    (fun (i : Nat) => [pt b1 (.cells #[v, .int .i64 t] 24 (0, 0))])
    (fun (i : Nat) => l.length - i) 0
    (by omega) ⟨rfl, rfl, rfl, trivial⟩ (by repeat (first | exact Sub.nil | refine Sub.cons (by repeat (first | exact Pick.head | apply Pick.tail)) ?_)) ?_
  rintro i hi
  refine W.seq ?_
  refine W.sreg ?_
  refine WO.p rfl rfl (WO.field0 rfl rfl rfl (WO.load rfl rfl (Cell.own Pick.head rfl) rfl ?_))
  refine' WO.len (n := _) rfl rfl ?hs rfl ?_
  case hs => (first | exact hR.sl)
  refine WO.p rfl rfl ?_
  refine WO.nil ?_
  refine W.cond_bl rfl (fun c1 => ?_) (fun c1 => ?_)
  · first
    | (exfalso; omega)
    | (refine W.skip ?_
       refine W.seq ?_
       refine W.block ?_
       have hgi := hg _ (getD_mem (i := i) (by omega) (0, 0))
       have hw := wid_ok hgi
       have hb := manyTo_bd (l := l) i (by omega)
       unfold OkG at hgi
       have hm5 := Nat.mul_le_mul hb hw.2.1
       refine W.drawD 15 [.r 0 [], .r 1 [], .b 2 [], .r 3 [], .r 4 [], .r 5 [], .b 6 [], .r 7 [], .b 8 [], .r 9 [], .r 10 [], .r 11 [], .b 12 [], .r 13 [], .r 14 []] [] (A0 := []) (Sub.refl _) (by kernel_rfl) ?_ ?_
       · exact (ALok.r (ALok.r (ALok.b (ALok.r (ALok.r (ALok.r (ALok.b (ALok.r (ALok.b (ALok.r (ALok.r (ALok.r (ALok.b (ALok.r (ALok.r ALok.nil)))))))))))))))
       refine' DT.r rfl rfl rfl ?hq ?_
       case hq =>
         refine WO.p rfl rfl ?_
         exact WO.nil ⟨rfl, rfl⟩
       refine' DT.r rfl rfl rfl ?hq ?_
       case hq =>
         refine WO.field0 rfl rfl rfl ?_
         exact WO.nil ⟨rfl, rfl⟩
       refine' DT.b rfl rfl rfl ?hq ?_
       case hq =>
         refine WO.load rfl rfl (Cell.own Pick.head rfl) rfl ?_
         exact WO.nil ⟨rfl, rfl⟩
       refine' DT.r rfl rfl rfl ?hq ?_
       case hq =>
         refine WO.p rfl rfl ?_
         exact WO.nil ⟨rfl, rfl⟩
       refine' DT.r rfl rfl rfl ?hq ?_
       case hq =>
         refine' WO.indexAddr (n := _) (i := _) rfl rfl rfl ?hs ?h1 rfl ?_
         case hs => (first | exact hR.sl)
         case h1 => (first | omega | (simp; omega))
         exact WO.nil ⟨rfl, rfl⟩
       refine' DT.r rfl rfl rfl ?hq ?_
       case hq =>
         refine WO.field rfl rfl rfl ?_
         exact WO.nil ⟨rfl, rfl⟩
       refine' DT.b rfl rfl rfl ?hq ?_
       case hq =>
         refine' WO.load (v := _) rfl rfl ?hc rfl ?_
         case hc => (first | (refine hR.cell0 (i := i) ?_ (0, 0) ?_ <;> first | rfl | omega) | (refine hR.cellAt (i := i) ?_ (0, 0) ?_ <;> first | rfl | omega))
         exact WO.nil ⟨rfl, rfl⟩
       refine' DT.r rfl rfl rfl ?hq ?_
       case hq =>
         refine WO.field0 rfl rfl rfl ?_
         exact WO.nil ⟨rfl, rfl⟩
       refine' DT.b rfl rfl rfl ?hq ?_
       case hq =>
         refine WO.load rfl rfl (Cell.own Pick.head rfl) rfl ?_
         exact WO.nil ⟨rfl, rfl⟩
       refine' DT.r rfl rfl rfl ?hq ?_
       case hq =>
         refine WO.p rfl rfl ?_
         exact WO.nil ⟨rfl, rfl⟩
       refine' DT.r rfl rfl rfl ?hq ?_
       case hq =>
         refine' WO.indexAddr (n := _) (i := _) rfl rfl rfl ?hs ?h1 rfl ?_
         case hs => (first | exact hR.sl)
         case h1 => (first | omega | (simp; omega))
         exact WO.nil ⟨rfl, rfl⟩
       refine' DT.r rfl rfl rfl ?hq ?_
       case hq =>
         refine WO.field0 rfl rfl rfl ?_
         exact WO.nil ⟨rfl, rfl⟩
       refine' DT.b rfl rfl rfl ?hq ?_
       case hq =>
         refine' WO.load (v := _) rfl rfl ?hc rfl ?_
         case hc => (first | (refine hR.cell0 (i := i) ?_ (0, 0) ?_ <;> first | rfl | omega) | (refine hR.cellAt (i := i) ?_ (0, 0) ?_ <;> first | rfl | omega))
         exact WO.nil ⟨rfl, rfl⟩
       refine' DT.r rfl rfl rfl ?hq ?_
       case hq =>
         refine WO.ar rfl rfl rfl (by (first | (unfold in64; omega) | (unfold in64; omega))) rfl ?_
         exact WO.nil ⟨rfl, rfl⟩
       refine' DT.r rfl rfl rfl ?hq ?_
       case hq =>
         refine WO.ar rfl rfl rfl (by (first | (unfold in64; omega) | (unfold in64; omega))) rfl ?_
         exact WO.nil ⟨rfl, rfl⟩
       refine DT.nil [_] rfl ?_
       refine WO.mulZ (a := manyL (l.take i)) (b := wid (l.getD i (0, 0))) rfl rfl (by omega) (by omega) rfl ?_
       refine WO.min2 rfl rfl rfl ?_
       rw [show min (1000000 : Int) ((manyL (l.take i) * wid (l.getD i (0, 0)) : Nat) : Int) = (manyL (l.take (i + 1)) : Int) by rw [many_succ (by omega)]; omega]
       refine WO.p rfl rfl ?_
       refine WO.nil ?_
       refine W.region ?_
       refine WO.p rfl rfl (WO.ar rfl rfl rfl (by (first | (unfold in64; omega) | (unfold in64; omega))) rfl (WO.p rfl rfl ?_))
       refine WO.nil ?_
       refine' ⟨i + 1, ?hp, ?hmu, ⟨rfl, rfl, rfl, trivial⟩, ?hS⟩
       case hS => repeat (first | exact Sub.nil | refine Sub.cons (by repeat (first | exact Pick.head | apply Pick.tail)) ?_)
       case hp => omega
       case hmu => omega)
  · first
    | (exfalso; omega)
    | (refine W.exit (blk_same ?_)
       refine W.sreg ?_
       refine WO.p rfl rfl (WO.p rfl rfl ?_)
       refine WO.nil ?_
       refine W.ret ?_
       rw [show l.take i = l by rw [show i = l.length by omega, List.take_length]]
       exact fin.ret (Res.one rfl (RV.tmp rfl)) rfl)
/-- do spots have more lines than a statement tries, or are they too many? -/
def largeP (l : List (Int × Int)) (t : Int) : Prop := 40 < l.length ∨ (chkF l t = 0 ∧ 1500 < (lin l).length)
instance (l : List (Int × Int)) (t : Int) : Decidable (largeP l t) := by unfold largeP; infer_instance
theorem law_large (w : World) (v : Value) (l : List (Int × Int)) (t : Int) (hR : RdF encP 2 w.heap.size w v l) : Ret Try.prog 20 [.agg #[v, .int .i64 t]].toArray w (.bool (bl (largeP l t))) := by
  refine Ret.of mixed tyTab Try.func20 rfl rfl ?_
  replace hR : RdF encP 2 (fnCx mixed tyTab Try.f20.ntmps w).B (fnCx mixed tyTab Try.f20.ntmps w).w0 v l := hR
  have hoc := hR.sl.oc
  refine W.sreg ?_
  refine WO.boxA rfl rfl (fun b1 hb1 => ?_)
  refine WO.p rfl rfl ?_
  refine WO.nil ?_
  refine W.sreg ?_
  refine WO.field0 rfl rfl rfl (WO.load rfl rfl (Cell.own Pick.head rfl) rfl ?_)
  refine' WO.len (n := _) rfl rfl ?hs rfl ?_
  case hs => (first | exact hR.sl)
  refine WO.p rfl rfl (WO.p rfl rfl ?_)
  refine WO.guard_bl rfl rfl (fun c1 => ?_) (fun c1 => ?_)
  · first
    | (exfalso; omega)
    | (refine WO.no rfl rfl (WO.no rfl rfl (WO.no rfl rfl (WO.no rfl rfl (WO.no rfl rfl (WO.no rfl rfl (WO.no rfl rfl (WO.no rfl rfl (WO.p rfl rfl (WO.p rfl rfl ?_)))))))))
       refine WO.nil ?_
       refine W.ret ?_
       refine fin.ret (Res.one rfl (RV.tmp rfl)) (congrArg Value.bool ?_)
       first | exact (bl_t.2 (by unfold largeP; omega)).symm | exact (bl_f.2 (by unfold largeP; omega)).symm | (rw [bl_eq, bl_eq, decide_eq_decide]; unfold largeP; omega))
  · first
    | (exfalso; omega)
    | (refine WO.go' rfl (WO.loadA rfl rfl (Cells.own Pick.head) rfl rfl (WO.go' rfl ?_))
       refine WO.callR rfl Try.call19 (fun L w hi => ref_CheckSpots w v l t (hR.later hi)) rfl ?_
       refine WO.pg rfl rfl rfl (WO.pg rfl rfl rfl ?_)
       refine WO.guard_bl rfl rfl (fun c2 => ?_) (fun c2 => ?_)
       · first
         | (exfalso; omega)
         | (refine WO.go' rfl (WO.loadA rfl rfl (Cells.own Pick.head) rfl rfl (WO.go' rfl ?_))
            have hcf := chkF0.1 (show chkF l t = 0 by omega)
            have hme := many_eq hcf.2.2
            refine WO.callR rfl Try.call42 (fun L w hi => ref_Many w v l t (hR.later hi) hcf.2.2) rfl ?_
            refine WO.pg rfl rfl rfl (WO.pg rfl rfl rfl (WO.p rfl rfl (WO.p rfl rfl ?_)))
            refine WO.nil ?_
            refine W.ret ?_
            refine fin.ret (Res.one rfl (RV.tmp rfl)) (congrArg Value.bool ?_)
            first | exact (bl_t.2 (by unfold largeP; omega)).symm | exact (bl_f.2 (by unfold largeP; omega)).symm | (rw [bl_eq, bl_eq, decide_eq_decide]; unfold largeP; omega))
       · first
         | (exfalso; omega)
         | (refine WO.no rfl rfl (WO.no rfl rfl (WO.no rfl rfl (WO.pg rfl rfl rfl (WO.p rfl rfl (WO.p rfl rfl ?_)))))
            refine WO.nil ?_
            refine W.ret ?_
            refine fin.ret (Res.one rfl (RV.tmp rfl)) (congrArg Value.bool ?_)
            first | exact (bl_t.2 (by unfold largeP; omega)).symm | exact (bl_f.2 (by unfold largeP; omega)).symm | (rw [bl_eq, bl_eq, decide_eq_decide]; unfold largeP; omega)))
/-- the place of the fairest line -/
def rfI (l : List (Int × Int)) (t : Int) (n : Nat) : Nat := (lst (fun i => costL t ((lin l).getD i [])) (n - 1)).1
def rfL (l : List (Int × Int)) (t : Int) : List Int := if chkF l t = 0 then (lin l).getD (rfI l t (lin l).length) [] else []
def rfC (l : List (Int × Int)) (t : Int) : Int := if chkF l t = 0 then costL t (rfL l t) else 0
theorem rfI_le {l : List (Int × Int)} {t : Int} {n : Nat} : rfI l t n ≤ n - 1 := (lst_spec _ _).1
theorem rfI_yes {l : List (Int × Int)} {t : Int} {n : Nat} (h : costL t ((lin l).getD n []) < costL t ((lin l).getD (rfI l t n) [])) : rfI l t (n + 1) = n := by
  cases n with
  | zero => exact absurd h (by show ¬ (costL t ((lin l).getD 0 []) < costL t ((lin l).getD 0 [])); omega)
  | succ n =>
    have e := (lst_spec (fun i => costL t ((lin l).getD i [])) n).2.1
    show (lst _ (n + 1)).1 = n + 1
    rw [lst_yes]
    rw [e]; exact h
theorem rfI_no {l : List (Int × Int)} {t : Int} {n : Nat} (h : ¬ costL t ((lin l).getD n []) < costL t ((lin l).getD (rfI l t n) [])) : rfI l t (n + 1) = rfI l t n := by
  cases n with
  | zero => rfl
  | succ n =>
    have e := (lst_spec (fun i => costL t ((lin l).getD i [])) n).2.1
    show (lst _ (n + 1)).1 = (lst _ n).1
    rw [lst_no]
    rw [e]; exact h
theorem lin_get {l : List (Int × Int)} {i : Nat} (h : i < (lin l).length) : InS l ((lin l).getD i []) := mem_lin.1 (getD_mem h [])
theorem ref_Fairest (w : World) (v : Value) (l : List (Int × Int)) (t : Int) (hR : RdF encP 2 w.heap.size w v l) (hlg : ¬ largeP l t) : Ct Try.prog 22 [.agg #[v, .int .i64 t]].toArray w fun r w' => ∃ Hq, (∃ rv : Value, r = .tuple #[rv, .int .i64 (rfC l t), .int .i64 (chkF l t)] ∧ Hq = [OwE encI 2 1 rv (rfL l t)]) ∧ Inv w [] Hq w' := by
  refine Ct.ofI (X := Value) (p := fun rv r => r = .tuple #[rv, .int .i64 (rfC l t), .int .i64 (chkF l t)]) (Hx := fun rv => [OwE encI 2 1 rv (rfL l t)]) mixed tyTab Try.func22 rfl rfl ?_
  replace hR : RdF encP 2 (fnCx mixed tyTab Try.f22.ntmps w).B (fnCx mixed tyTab Try.f22.ntmps w).w0 v l := hR
  have hoc := hR.sl.oc
  refine W.sreg ?_
  refine WO.boxA rfl rfl (fun b1 hb1 => ?_)
  refine WO.p rfl rfl (WO.p rfl rfl (WO.p rfl rfl ?_))
  refine WO.nil ?_
  refine W.seq ?_
  refine W.sreg ?_
  refine WO.loadA rfl rfl (Cells.own Pick.head) rfl rfl ?_
  refine WO.callR rfl Try.call19 (fun L w hi => ref_CheckSpots w v l t (hR.later hi)) rfl ?_
  refine WO.p rfl rfl ?_
  refine WO.nil ?_
  refine W.cond_bl rfl (fun c1 => ?_) (fun c1 => ?_)
  · first
    | (exfalso; omega)
    | (refine W.sreg ?_
       refine WO.loadA rfl rfl (Cells.own Pick.head) rfl rfl ?_
       refine WO.callR rfl Try.call19 (fun L w hi => ref_CheckSpots w v l t (hR.later hi)) rfl ?_
       refine WO.p rfl rfl (WO.p rfl rfl (WO.p rfl rfl ?_))
       refine WO.nil ?_
       refine W.ret ?_
       first | (have e1 : rfL l t = [] := if_neg (by assumption); have e2 : rfC l t = 0 := if_neg (by assumption); rw [e1, e2]; refine fin.ret (Res.three rfl (RV.tmp rfl) (RV.tmp rfl) (RV.tmp rfl)) ⟨_, rfl, fun h hs => ?_⟩; exact Sub.sat (.cons .head .nil) (owNil (enc := encI) (e := 2) (sz := 1) h hs)) | (have e1 : rfL l t = (lin l).getD b [] := (by rw [hb]; exact if_pos (show chkF l t = 0 by omega)); have e2 : rfC l t = costL t ((lin l).getD b []) := (by rw [← e1]; exact if_pos (show chkF l t = 0 by omega)); have e3 : chkF l t = 0 := (by omega); rw [e1, e2, e3]; exact fin.ret (Res.three rfl (RV.tmp rfl) (RV.tmp rfl) (RV.tmp rfl)) ⟨_, rfl, fun h hs => Sub.sat (.cons .head .nil) (Pick.rowIn (enc := encI) (e := 2) (sz := 1) (rv := rv) (xss := lin l) (i := b) (by repeat (first | exact Pick.head | apply Pick.tail)) hbl h hs)⟩))
  · first
    | (exfalso; omega)
    | (refine W.skip ?_
       have hcf := chkF0.1 (show chkF l t = 0 by omega)
       have hlim : (lin l).length ≤ 1500 := by unfold largeP at hlg; omega
       have hp := lin_pos hcf.2.2
       refine W.sreg ?_
       refine WO.loadA rfl rfl (Cells.own Pick.head) rfl rfl ?_
       refine WO.chg (owNil (enc := encI) (e := 2) (sz := 1)) ?_
       refine WO.callH1 (A := OwE encI 2 1 (.slice none 0 0) []) (Post := fun r Hq => ∃ x : Value × List Value, r = x.1 ∧ Hq = LinP l [] x) rfl Try.call45 Pick.head (fun L w hi hB2 => ?hsp) rfl ?_
       case hsp => (have q1 : RdF encP 2 _ w v l := hR.agree hi.keepB; have q3 : (linB l []).length ≤ 1500 := (by rw [linB_nil]; exact hlim); exact ref_lines l.length l [] v t (.slice none 0 0) w _ hB2 q1 hcf.2.2 hcf.1.2 (by simp) q3)
       rintro ov _ ⟨⟨x2, rv⟩, rfl, rfl⟩
       rw [LinP_nil]
       refine WO.p rfl rfl ?_
       refine WO.nil ?_
       refine W.fact (OwC.sl (e := 25) (sz := 1) (v := ov) (by repeat (first | exact Pick.head | apply Pick.tail))) (fun hsl => ?_)
       refine W.fact (RowsE.rowsLen (enc := encI) (e := 2) (sz := 1) (rv := rv) (by repeat (first | exact Pick.head | apply Pick.tail))) (fun hrl => ?_)
       refine W.sreg ?_
       refine WO.p rfl rfl ?_
       refine WO.nil ?_
       refine W.seq ?_
       refine W.sreg ?_
       refine WO.p rfl rfl ?_
       refine WO.nil ?_
       refine W.block ?_
       refine W.loop2 (fun (i : Nat) (b : Nat) => i ≤ (lin l).length ∧ b = rfI l t i)
         (fun (i : Nat) (b : Nat) => [(7, .int .i64 (i : Int)), (6, .int .i64 (b : Int)), (5, ov), (1, .pointer (some ⟨b1, 0, none⟩))])
         (fun (i : Nat) (b : Nat) => [pt b1 (.cells #[v, .int .i64 t] 24 (0, 0)), OwC 25 1 ov (lin l).length rv, RowsE encI 2 1 rv (lin l)])
         (fun (i : Nat) (b : Nat) => (lin l).length - i) 0 0
         (by exact ⟨by omega, rfl⟩) ⟨rfl, rfl, rfl, rfl, trivial⟩ (by repeat (first | exact Sub.nil | refine Sub.cons (by repeat (first | exact Pick.head | apply Pick.tail)) ?_)) ?_
       rintro i b ⟨hi, hb⟩
       refine W.seq ?_
       refine W.sreg ?_
       refine WO.p rfl rfl (WO.p rfl rfl ?_)
       refine' WO.len (n := _) rfl rfl ?hs rfl ?_
       case hs => (first | exact hsl)
       refine WO.p rfl rfl ?_
       refine WO.nil ?_
       refine W.cond_bl rfl (fun c2 => ?_) (fun c2 => ?_)
       · first
         | (exfalso; omega)
         | (refine W.skip ?_
            refine W.seq ?_
            refine W.block ?_
            refine W.seq ?_
            have hbl : b < (lin l).length := by have := rfI_le (l := l) (t := t) (n := i); omega
            have hin := lin_get (l := l) (i := i) (by omega)
            have hinb := lin_get (l := l) (i := b) hbl
            have hbd := mea_bd (InS.ok hin hcf.2.2)
            refine W.drawD 11 [.b 0 [], .r 1 [], .r 2 [], .r 3 [], .b 4 [], .b 5 [], .b 6 [], .r 7 [], .r 8 [], .r 9 [], .b 10 []] [] (A0 := []) (Sub.refl _) (by kernel_rfl) ?_ ?_
            · exact (ALok.b (ALok.r (ALok.r (ALok.r (ALok.b (ALok.b (ALok.b (ALok.r (ALok.r (ALok.r (ALok.b ALok.nil)))))))))))
            refine' DT.b rfl rfl rfl ?hq ?_
            case hq =>
              refine WO.loadA rfl rfl (Cells.own Pick.head) rfl rfl ?_
              exact WO.nil ⟨rfl, rfl⟩
            refine' DT.r rfl rfl rfl ?hq ?_
            case hq =>
              refine WO.p rfl rfl ?_
              exact WO.nil ⟨rfl, rfl⟩
            refine' DT.r rfl rfl rfl ?hq ?_
            case hq =>
              refine WO.p rfl rfl ?_
              exact WO.nil ⟨rfl, rfl⟩
            refine' DT.r rfl rfl rfl ?hq ?_
            case hq =>
              refine' WO.indexAddr (n := _) (i := _) rfl rfl rfl ?hs ?h1 rfl ?_
              case hs => (first | exact hsl)
              case h1 => (first | omega | (simp; omega))
              exact WO.nil ⟨rfl, rfl⟩
            refine' DT.b rfl rfl rfl ?hq ?_
            case hq =>
              refine' WO.load (v := _) rfl rfl ?hc rfl ?_
              case hc => (first | (refine OwC.cell1g (e := 25) (n := (lin l).length) (cs := rv) (u := rv.getD i undef) ?_ (getD_some (by omega) _); exact (by repeat (first | exact Sub.nil | refine Sub.cons (by repeat (first | exact Pick.head | apply Pick.tail)) ?_))))
              exact WO.nil ⟨rfl, rfl⟩
            refine' DT.b rfl rfl rfl ?hq ?_
            case hq =>
              refine WO.callR rfl Try.call34 (fun L w hi => ref_Cost w v (rv.getD i undef) l t ((lin l).getD i []) hoc ((RdR.of_ow (e := 2) (e' := 25) (n := (lin l).length) encI_ok (by repeat (first | exact Pick.head | apply Pick.tail)) (by repeat (first | exact Pick.head | apply Pick.tail)) hi).row' i (by omega)) (InS.ok hin hcf.2.2) (by rw [hin.1]; omega) hcf.2.1) rfl ?_
              exact WO.nil ⟨rfl, rfl⟩
            refine' DT.b rfl rfl rfl ?hq ?_
            case hq =>
              refine WO.loadA rfl rfl (Cells.own Pick.head) rfl rfl ?_
              exact WO.nil ⟨rfl, rfl⟩
            refine' DT.r rfl rfl rfl ?hq ?_
            case hq =>
              refine WO.p rfl rfl ?_
              exact WO.nil ⟨rfl, rfl⟩
            refine' DT.r rfl rfl rfl ?hq ?_
            case hq =>
              refine WO.p rfl rfl ?_
              exact WO.nil ⟨rfl, rfl⟩
            refine' DT.r rfl rfl rfl ?hq ?_
            case hq =>
              refine' WO.indexAddr (n := _) (i := _) rfl rfl rfl ?hs ?h1 rfl ?_
              case hs => (first | exact hsl)
              case h1 => (first | omega | (simp; omega))
              exact WO.nil ⟨rfl, rfl⟩
            refine' DT.b rfl rfl rfl ?hq ?_
            case hq =>
              refine' WO.load (v := _) rfl rfl ?hc rfl ?_
              case hc => (first | (refine OwC.cell1g (e := 25) (n := (lin l).length) (cs := rv) (u := rv.getD b undef) ?_ (getD_some (by omega) _); exact (by repeat (first | exact Sub.nil | refine Sub.cons (by repeat (first | exact Pick.head | apply Pick.tail)) ?_))))
              exact WO.nil ⟨rfl, rfl⟩
            refine DT.nil [_, _, _] rfl ?_
            refine WO.callR rfl Try.call34 (fun L w hi => ref_Cost w v (rv.getD b undef) l t ((lin l).getD b []) hoc ((RdR.of_ow (e := 2) (e' := 25) (n := (lin l).length) encI_ok (by repeat (first | exact Pick.head | apply Pick.tail)) (by repeat (first | exact Pick.head | apply Pick.tail)) hi).row' b hbl) (InS.ok hinb hcf.2.2) (by rw [hinb.1]; omega) hcf.2.1) rfl ?_
            refine WO.p rfl rfl ?_
            refine WO.nil ?_
            refine W.cond_bl rfl (fun c3 => ?_) (fun c3 => ?_)
            · first
              | (exfalso; omega)
              | (refine W.region ?_
                 refine WO.p rfl rfl (WO.p rfl rfl ?_)
                 refine WO.nil ?_
                 refine W.region ?_
                 refine WO.p rfl rfl (WO.ar rfl rfl rfl (by (first | (unfold in64; omega) | (unfold in64; omega))) rfl (WO.p rfl rfl ?_))
                 refine WO.nil ?_
                 refine' ⟨i + 1, _, ?hp, ?hmu, ⟨rfl, rfl, rfl, rfl, trivial⟩, ?hS⟩
                 case hS => repeat (first | exact Sub.nil | refine Sub.cons (by repeat (first | exact Pick.head | apply Pick.tail)) ?_)
                 case hp => exact ⟨by omega, by first | (rw [rfI_yes (by rw [← hb]; assumption)]; done) | (rw [rfI_no (by rw [← hb]; assumption)]; exact hb)⟩
                 case hmu => omega)
            · first
              | (exfalso; omega)
              | (refine W.skip ?_
                 refine W.region ?_
                 refine WO.p rfl rfl (WO.ar rfl rfl rfl (by (first | (unfold in64; omega) | (unfold in64; omega))) rfl (WO.p rfl rfl ?_))
                 refine WO.nil ?_
                 refine' ⟨i + 1, _, ?hp, ?hmu, ⟨rfl, rfl, rfl, rfl, trivial⟩, ?hS⟩
                 case hS => repeat (first | exact Sub.nil | refine Sub.cons (by repeat (first | exact Pick.head | apply Pick.tail)) ?_)
                 case hp => exact ⟨by omega, by first | (rw [rfI_yes (by rw [← hb]; assumption)]; done) | (rw [rfI_no (by rw [← hb]; assumption)]; exact hb)⟩
                 case hmu => omega))
       · first
         | (exfalso; omega)
         | (refine W.exit (blk_same ?_)
            refine W.seq ?_
            obtain rfl : i = (lin l).length := by omega
            have hbl : b < (lin l).length := by have := rfI_le (l := l) (t := t) (n := (lin l).length); omega
            have hinb := lin_get (l := l) (i := b) hbl
            refine W.drawD 10 [.r 0 [], .r 1 [], .r 2 [], .b 3 [], .b 4 [], .r 5 [], .r 6 [], .r 7 [], .b 8 [], .b 9 []] [] (A0 := []) (Sub.refl _) (by kernel_rfl) ?_ ?_
            · exact (ALok.r (ALok.r (ALok.r (ALok.b (ALok.b (ALok.r (ALok.r (ALok.r (ALok.b (ALok.b ALok.nil))))))))))
            refine' DT.r rfl rfl rfl ?hq ?_
            case hq =>
              refine WO.p rfl rfl ?_
              exact WO.nil ⟨rfl, rfl⟩
            refine' DT.r rfl rfl rfl ?hq ?_
            case hq =>
              refine WO.p rfl rfl ?_
              exact WO.nil ⟨rfl, rfl⟩
            refine' DT.r rfl rfl rfl ?hq ?_
            case hq =>
              refine' WO.indexAddr (n := _) (i := _) rfl rfl rfl ?hs ?h1 rfl ?_
              case hs => (first | exact hsl)
              case h1 => (first | omega | (simp; omega))
              exact WO.nil ⟨rfl, rfl⟩
            refine' DT.b rfl rfl rfl ?hq ?_
            case hq =>
              refine' WO.load (v := _) rfl rfl ?hc rfl ?_
              case hc => (first | (refine OwC.cell1g (e := 25) (n := (lin l).length) (cs := rv) (u := rv.getD b undef) ?_ (getD_some (by omega) _); exact (by repeat (first | exact Sub.nil | refine Sub.cons (by repeat (first | exact Pick.head | apply Pick.tail)) ?_))))
              exact WO.nil ⟨rfl, rfl⟩
            refine' DT.b rfl rfl rfl ?hq ?_
            case hq =>
              refine WO.loadA rfl rfl (Cells.own Pick.head) rfl rfl ?_
              exact WO.nil ⟨rfl, rfl⟩
            refine' DT.r rfl rfl rfl ?hq ?_
            case hq =>
              refine WO.p rfl rfl ?_
              exact WO.nil ⟨rfl, rfl⟩
            refine' DT.r rfl rfl rfl ?hq ?_
            case hq =>
              refine WO.p rfl rfl ?_
              exact WO.nil ⟨rfl, rfl⟩
            refine' DT.r rfl rfl rfl ?hq ?_
            case hq =>
              refine' WO.indexAddr (n := _) (i := _) rfl rfl rfl ?hs ?h1 rfl ?_
              case hs => (first | exact hsl)
              case h1 => (first | omega | (simp; omega))
              exact WO.nil ⟨rfl, rfl⟩
            refine' DT.b rfl rfl rfl ?hq ?_
            case hq =>
              refine' WO.load (v := _) rfl rfl ?hc rfl ?_
              case hc => (first | (refine OwC.cell1g (e := 25) (n := (lin l).length) (cs := rv) (u := rv.getD b undef) ?_ (getD_some (by omega) _); exact (by repeat (first | exact Sub.nil | refine Sub.cons (by repeat (first | exact Pick.head | apply Pick.tail)) ?_))))
              exact WO.nil ⟨rfl, rfl⟩
            refine' DT.b rfl rfl rfl ?hq ?_
            case hq =>
              refine WO.callR rfl Try.call34 (fun L w hi => ref_Cost w v (rv.getD b undef) l t ((lin l).getD b []) hoc ((RdR.of_ow (e := 2) (e' := 25) (n := (lin l).length) encI_ok (by repeat (first | exact Pick.head | apply Pick.tail)) (by repeat (first | exact Pick.head | apply Pick.tail)) hi).row' b hbl) (InS.ok hinb hcf.2.2) (by rw [hinb.1]; omega) hcf.2.1) rfl ?_
              exact WO.nil ⟨rfl, rfl⟩
            refine DT.nil [_, _, _] rfl ?_
            refine WO.p rfl rfl (WO.p rfl rfl (WO.p rfl rfl ?_))
            refine WO.nil ?_
            refine W.ret ?_
            first | (have e1 : rfL l t = [] := if_neg (by assumption); have e2 : rfC l t = 0 := if_neg (by assumption); rw [e1, e2]; refine fin.ret (Res.three rfl (RV.tmp rfl) (RV.tmp rfl) (RV.tmp rfl)) ⟨_, rfl, fun h hs => ?_⟩; exact Sub.sat (.cons .head .nil) (owNil (enc := encI) (e := 2) (sz := 1) h hs)) | (have e1 : rfL l t = (lin l).getD b [] := (by rw [hb]; exact if_pos (show chkF l t = 0 by omega)); have e2 : rfC l t = costL t ((lin l).getD b []) := (by rw [← e1]; exact if_pos (show chkF l t = 0 by omega)); have e3 : chkF l t = 0 := (by omega); rw [e1, e2, e3]; exact fin.ret (Res.three rfl (RV.tmp rfl) (RV.tmp rfl) (RV.tmp rfl)) ⟨_, rfl, fun h hs => Sub.sat (.cons .head .nil) (Pick.rowIn (enc := encI) (e := 2) (sz := 1) (rv := rv) (xss := lin l) (i := b) (by repeat (first | exact Pick.head | apply Pick.tail)) hbl h hs)⟩)))
end Go.Proofs.Ytpecakgebhmnfaa
namespace Go.Proofs.Ytpecakgebhmnfaa
open Go Go.TH
attribute [local irreducible] W WO pt
set_option maxRecDepth 10000
set_option maxHeartbeats 1000000
theorem fa_rf (l : List (Int × Int)) (t : Int) : faL l t = rfL l t ∧ faC l t = rfC l t := by
  by_cases h : chkF l t = 0
  · have hcf := chkF0.1 h
    have h1 := best_fm (B := 1) (T := t) hcf.2.2 hcf.1.1
    have h2 := IsFM.at_ (f := costL t) (z := []) (lin_pos hcf.2.2)
    have e : costG 1 t = costL t := funext (costG_1 t)
    rw [e] at h1
    have e1 := h1.1.unique h2
    have e2 : rfL l t = bestL 1 t l := by unfold rfL; rw [if_pos h, e1]; rfl
    have e3 : rfC l t = bestC 1 t l := by unfold rfC; rw [if_pos h, e2]; exact h1.2
    exact ⟨by rw [e2]; exact if_pos h, by rw [e3]; exact if_pos h⟩
  · exact ⟨by unfold faL rfL; rw [if_neg h, if_neg h], by unfold faC rfC; rw [if_neg h, if_neg h]⟩
end Go.Proofs.Ytpecakgebhmnfaa
namespace Go.Proofs.Ytpecakgebhmnfaa
open Go Go.TH
attribute [local irreducible] W WO pt
set_option maxRecDepth 10000
set_option maxHeartbeats 1000000
theorem law_FairFairest (w : World) (o : Value) (l : List (Int × Int)) (t : Int) (hR : RdF encP 2 w.heap.size w o l) : Ret Try.prog 4 [.agg #[o, .int .i64 t]].toArray w (.bool true) := by
  refine Ret.of mixed tyTab Try.func4 rfl rfl ?_
  replace hR : RdF encP 2 (fnCx mixed tyTab Try.f4.ntmps w).B (fnCx mixed tyTab Try.f4.ntmps w).w0 o l := hR
  have hoc := hR.sl.oc
  have hfr := fa_rf l t
  refine W.sreg ?_
  refine WO.boxA rfl rfl (fun b1 hb1 => ?_)
  refine WO.p rfl rfl ?_
  refine WO.nil ?_
  refine W.seq ?_
  refine W.sreg ?_
  refine WO.loadA rfl rfl (Cells.own Pick.head) rfl rfl ?_
  refine WO.callR rfl Try.call20 (fun L w hi => law_large w o l t (hR.later hi)) rfl ?_
  refine WO.nil ?_
  refine W.cond_bl rfl (fun c1 => ?_) (fun c1 => ?_)
  · first
    | (exfalso; omega)
    | (refine W.sreg ?_
       refine WO.callR rfl Try.call13 (fun L w hi => l_Works w) rfl ?_
       refine WO.p rfl rfl ?_
       refine WO.nil ?_
       refine W.ret ?_
       exact fin.ret (Res.one rfl (RV.tmp rfl)) rfl)
  · first
    | (exfalso; omega)
    | (refine W.skip ?_
       refine W.sreg ?_
       refine WO.loadA rfl rfl (Cells.own Pick.head) rfl rfl ?_
       refine WO.call rfl Try.call21 (fun L w hi => c_Fairest w o l t (hR.later hi)) rfl ?_
       rintro _ _ ⟨r1, rfl, rfl⟩
       refine WO.p rfl rfl (WO.p rfl rfl (WO.p rfl rfl (WO.p rfl rfl (WO.p rfl rfl (WO.p rfl rfl (WO.p rfl rfl ?_))))))
       refine WO.nil ?_
       refine W.sreg ?_
       refine WO.loadA rfl rfl (Cells.own (Pick.tail (Pick.head))) rfl rfl ?_
       refine WO.call rfl Try.call22 (fun L w hi => ref_Fairest w o l t (hR.later hi) (by assumption)) rfl ?_
       rintro _ _ ⟨r2, rfl, rfl⟩
       rw [← hfr.1, ← hfr.2]
       refine WO.p rfl rfl (WO.p rfl rfl (WO.p rfl rfl (WO.p rfl rfl (WO.p rfl rfl (WO.p rfl rfl (WO.p rfl rfl ?_))))))
       refine WO.nil ?_
       refine W.sreg ?_
       refine WO.p rfl rfl (WO.p rfl rfl ?_)
       refine WO.callR (r := .bool true) rfl Try.call23 (fun L w hi => longs_t (law_longs w r1 r2 (faL l t) (faL l t) (RdF.of_ow (e := 2) encI_ok (by repeat (first | exact Pick.head | apply Pick.tail)) hi) (RdF.of_ow (e := 2) encI_ok (by repeat (first | exact Pick.head | apply Pick.tail)) hi)) rfl) rfl ?_
       refine WO.p rfl rfl (WO.pg rfl rfl rfl (WO.pg rfl rfl rfl (WO.pg rfl rfl rfl (WO.p rfl rfl (WO.p rfl rfl ?_)))))
       refine WO.guard_bl rfl rfl (fun c2 => ?_) (fun c2 => ?_)
       · first
         | (exfalso; omega)
         | (refine WO.pg rfl rfl rfl (WO.pg rfl rfl rfl (WO.pg rfl rfl rfl (WO.p rfl rfl (WO.p rfl rfl ?_))))
            refine WO.guard_bl rfl rfl (fun c3 => ?_) (fun c3 => ?_)
            · first
              | (exfalso; omega)
              | (refine WO.go' rfl ?_
                 refine WO.callR rfl Try.call13 (fun L w hi => l_Works w) rfl ?_
                 refine WO.p rfl rfl (WO.p rfl rfl ?_)
                 refine WO.nil ?_
                 refine W.ret ?_
                 exact fin.ret (Res.one rfl (RV.tmp rfl)) rfl)
            · first
              | (exfalso; omega)
              | (refine WO.no rfl rfl (WO.p rfl rfl (WO.p rfl rfl ?_))
                 refine WO.nil ?_
                 refine W.ret ?_
                 exact fin.ret (Res.one rfl (RV.tmp rfl)) rfl))
       · first
         | (exfalso; omega)
         | (refine WO.no rfl rfl (WO.no rfl rfl (WO.no rfl rfl (WO.p rfl rfl (WO.p rfl rfl (WO.no rfl rfl (WO.p rfl rfl (WO.p rfl rfl ?_)))))))
            refine WO.nil ?_
            refine W.ret ?_
            exact fin.ret (Res.one rfl (RV.tmp rfl)) rfl))
end Go.Proofs.Ytpecakgebhmnfaa
