/-
  What is proved here: all lines, as the reference lists them. Conditions: none; each contract states its own.
  What is proved here: how many lines there are; the fairest line of the reference. Conditions: none; each contract states its own.
  What is proved here: the reference: where lines with few changes can go. Conditions: none; each contract states its own.
  What is proved here: plain law: both ways to tell where lines can go agree. Conditions: none; each theorem states its own.
  What is proved here: the law of spreads. Conditions: none; each contract states its own.
-/
import Derived.Test.YtpecakgebhmnfaaM4
import Derived.Test.YtpecakgebhmnfaaM20
import Derived.Test.YtpecakgebhmnfaaM6
set_option linter.unusedVariables false
set_option linter.unusedSimpArgs false
namespace Go.Proofs.Ytpecakgebhmnfaa
open Go Go.TH
attribute [local irreducible] W WO pt
set_option maxRecDepth 10000
set_option maxHeartbeats 1000000
def LinP (l : List (Int × Int)) (bs : List Int) (x : Value × List Value) : List HP := [OwC 25 1 x.1 (linB l bs).length x.2, RowsE encI 2 1 x.2 (linB l bs)]
def LinC (m : Nat) : Prop := ∀ (l : List (Int × Int)) (bs : List Int) (o : Value) (t : Int) (v : Value) (w : World) (B : Nat), B ≤ w.heap.size → RdF encP 2 B w o l → OkS l → l.length ≤ 24 → bs.length + m = l.length → (linB l bs).length ≤ 1500 →
  CtH Try.prog 45 [.agg #[o, .int .i64 t], v] w [OwE encI 2 1 v bs] B (fun r Hq => ∃ x : Value × List Value, r = x.1 ∧ Hq = LinP l bs x)
theorem ref_lines_0 : LinC 0 := by
  intro l bs o t v u0 B hB hR hg h24 hm hlim
  refine CtH.ofI (X := Value × List Value) (p := fun x r => r = x.1) (Hx := LinP l bs) mixed tyTab hB Try.func45 rfl rfl (fun M hM => ?_)
  replace hR : RdF encP 2 (itCx mixed tyTab Try.f45.ntmps u0 M B hB hM).B (itCx mixed tyTab Try.f45.ntmps u0 M B hB hM).w0 o l := hR
  refine W.fact (OwE.form (enc := encI) (e := 2) (sz := 1) (v := v) (xs := bs) Pick.head) (fun hf => ?_)
  refine W.fact (OwE.sl (enc := encI) (e := 2) (sz := 1) (v := v) (xs := bs) Pick.head) (fun hbs => ?_)
  obtain ⟨a, c, rfl⟩ := hf
  have hoc := hR.sl.oc
  have e1 : linB l bs = [bs] := by unfold linB; rw [List.drop_eq_nil_of_le (by omega)]; simp [lin]
  refine W.sreg ?_
  refine WO.boxA rfl rfl (fun b1 hb1 => ?_)
  refine WO.p rfl rfl ?_
  refine WO.nil ?_
  refine W.sreg ?_
  refine WO.p rfl rfl ?_
  refine' WO.len (n := _) rfl rfl ?hs rfl ?_
  case hs => (first | first | exact hbs | exact hR.sl)
  refine WO.p rfl rfl ?_
  refine WO.nil ?_
  refine W.seq ?_
  refine W.sreg ?_
  refine WO.p rfl rfl (WO.field0 rfl rfl rfl (WO.load rfl rfl (Cell.own Pick.head rfl) rfl ?_))
  refine' WO.len (n := _) rfl rfl ?hs rfl ?_
  case hs => (first | exact hR.sl)
  refine WO.p rfl rfl ?_
  refine WO.nil ?_
  refine W.cond_bl rfl (fun c1 => ?_) (fun c1 => ?_)
  · first
    | (exfalso; omega)
    | (refine W.sreg ?_
       refine WO.p rfl rfl ?_
       refine' WO.buildSl (cs := _) rfl rfl rfl rfl ?hf rfl rfl ?hl rfl (fun v2 => ?_)
       case hf => (conv => lhs; simp [-List.getD_eq_getElem?_getD, fillL, vcl, wrl, TTab.pl?.lget']) <;> rfl
       case hl => rfl
       refine WO.p rfl rfl ?_
       refine WO.nil ?_
       refine W.ret ?_
       refine fin.ret (Res.one rfl (RV.tmp rfl)) ⟨(_, [.slice a bs.length c]), rfl, fun h hs => ?_⟩
       have h2 := rowsSnoc (enc := encI) (e := 2) (sz := 1) (rv := []) (xss := []) (r := .slice a bs.length c) (xs := bs) Pick.head (by repeat (first | exact Pick.head | apply Pick.tail)) h (rowsNil (enc := encI) (e := 2) (sz := 1) h hs)
       unfold LinP; rw [e1]; exact Sub.sat (.cons (by repeat (first | exact Pick.head | apply Pick.tail)) (.cons .head .nil)) h2)
  · first
    | (exfalso; omega)
    | (refine W.skip ?_
       refine W.sreg ?_
       refine WO.p rfl rfl ?_
       refine WO.nil ?_
       refine W.seq ?_
       refine W.sreg ?_
       refine WO.field0 rfl rfl rfl (WO.load rfl rfl (Cell.own Pick.head rfl) rfl (WO.p rfl rfl ?_))
       refine' WO.indexAddr (n := _) (i := _) rfl rfl rfl ?hs ?h1 rfl ?_
       case hs => (first | first | exact hbs | exact hR.sl)
       case h1 => (first | omega | (simp; omega))
       refine WO.field0 rfl rfl rfl ?_
       refine' WO.load (v := _) rfl rfl ?hc rfl ?_
       case hc => skip
       refine WO.p rfl rfl ?_
       refine WO.nil ?_
       refine W.block ?_
       (exfalso; omega))
theorem ref_lines_step {m : Nat} (ih : LinC m) : LinC (m + 1) := by
  intro l bs o t v u0 B hB hR hg h24 hm hlim
  refine CtH.ofI (X := Value × List Value) (p := fun x r => r = x.1) (Hx := LinP l bs) mixed tyTab hB Try.func45 rfl rfl (fun M hM => ?_)
  replace hR : RdF encP 2 (itCx mixed tyTab Try.f45.ntmps u0 M B hB hM).B (itCx mixed tyTab Try.f45.ntmps u0 M B hB hM).w0 o l := hR
  refine W.fact (OwE.sl (enc := encI) (e := 2) (sz := 1) (v := v) (xs := bs) Pick.head) (fun hbs => ?_)
  have hoc := hR.sl.oc
  have hgk := hg _ (getD_mem (i := bs.length) (by omega) (0, 0))
  have hw := wid_ok hgk
  unfold OkG at hgk
  refine W.sreg ?_
  refine WO.boxA rfl rfl (fun b1 hb1 => ?_)
  refine WO.p rfl rfl ?_
  refine WO.nil ?_
  refine W.sreg ?_
  refine WO.p rfl rfl ?_
  refine' WO.len (n := _) rfl rfl ?hs rfl ?_
  case hs => (first | exact hbs)
  refine WO.p rfl rfl ?_
  refine WO.nil ?_
  refine W.seq ?_
  refine W.sreg ?_
  refine WO.p rfl rfl (WO.field0 rfl rfl rfl (WO.load rfl rfl (Cell.own Pick.head rfl) rfl ?_))
  refine' WO.len (n := _) rfl rfl ?hs rfl ?_
  case hs => (first | exact hR.sl)
  refine WO.p rfl rfl ?_
  refine WO.nil ?_
  refine W.cond_bl rfl (fun c1 => ?_) (fun c1 => ?_)
  · first
    | (exfalso; omega)
    | (refine W.sreg ?_
       refine WO.p rfl rfl ?_
       refine' WO.buildSl (cs := _) rfl rfl rfl rfl ?hf rfl rfl ?hl rfl (fun v2 => ?_)
       case hf => (conv => lhs; simp [-List.getD_eq_getElem?_getD, fillL, vcl, wrl, TTab.pl?.lget']) <;> rfl
       case hl => rfl
       refine WO.p rfl rfl ?_
       refine WO.nil ?_
       refine W.ret ?_
       refine fin.ret (Res.one rfl (RV.tmp rfl)) ⟨(x, rv), rfl, fun h hs => ?_⟩
       unfold LinP; rw [← hye]; exact Sub.sat (by repeat (first | exact Sub.nil | refine Sub.cons (by repeat (first | exact Pick.head | apply Pick.tail)) ?_)) hs)
  · first
    | (exfalso; omega)
    | (refine W.skip ?_
       refine W.sreg ?_
       refine WO.p rfl rfl ?_
       refine WO.nil ?_
       refine W.seq ?_
       refine W.sreg ?_
       refine WO.field0 rfl rfl rfl (WO.load rfl rfl (Cell.own Pick.head rfl) rfl (WO.p rfl rfl ?_))
       refine' WO.indexAddr (n := _) (i := _) rfl rfl rfl ?hs ?h1 rfl ?_
       case hs => (first | exact hR.sl)
       case h1 => (first | omega | (simp; omega))
       refine WO.field0 rfl rfl rfl ?_
       refine' WO.load (v := _) rfl rfl ?hc rfl ?_
       case hc => (first | (refine hR.cell0 (i := bs.length) ?_ (0, 0) ?_ <;> first | rfl | omega))
       refine WO.p rfl rfl ?_
       refine WO.nil ?_
       refine W.block ?_
       refine W.chg (rowsNil (enc := encI) (e := 2) (sz := 1)) ?_
       refine W.chg (owcNil (e := 25) (sz := 1)) ?_
       refine W.loop4 (fun (z : Int) (x : Value) (rv : List Value) (yss : List (List Int)) => (l.getD bs.length (0, 0)).1 ≤ z ∧ z ≤ (l.getD bs.length (0, 0)).2 + 1 ∧ yss = linTo l bs (z - (l.getD bs.length (0, 0)).1).toNat)
         (fun (z : Int) (x : Value) (rv : List Value) (yss : List (List Int)) => [(7, .int .i64 z), (6, x), (5, .int .i64 (bs.length : Int)), (2, .pointer (some ⟨b1, 0, none⟩)), (1, v)])
         (fun (z : Int) (x : Value) (rv : List Value) (yss : List (List Int)) => [OwC 25 1 x yss.length rv, RowsE encI 2 1 rv yss, OwE encI 2 1 v bs, pt b1 (.cells #[o, .int .i64 t] 24 (0, 0))])
         (fun (z : Int) (x : Value) (rv : List Value) (yss : List (List Int)) => ((l.getD bs.length (0, 0)).2 + 1 - z).toNat) _ (.slice none 0 0) [] []
         (by exact ⟨by omega, by omega, by rw [show ((l.getD bs.length (0, 0)).1 - (l.getD bs.length (0, 0)).1).toNat = 0 by omega]; rfl⟩) ⟨rfl, rfl, rfl, rfl, rfl, trivial⟩ (by repeat (first | exact Sub.nil | refine Sub.cons (by repeat (first | exact Pick.head | apply Pick.tail)) ?_)) ?_
       rintro z x rv yss ⟨hz1, hz2, hys⟩
       refine W.seq ?_
       refine W.sreg ?_
       refine WO.p rfl rfl (WO.field0 rfl rfl rfl (WO.load rfl rfl (Cell.own (Pick.tail (Pick.tail (Pick.tail (Pick.head)))) rfl) rfl (WO.p rfl rfl ?_)))
       refine' WO.indexAddr (n := _) (i := _) rfl rfl rfl ?hs ?h1 rfl ?_
       case hs => (first | exact hR.sl)
       case h1 => (first | omega | (simp; omega))
       refine WO.field rfl rfl rfl ?_
       refine' WO.load (v := _) rfl rfl ?hc rfl ?_
       case hc => (first | (refine hR.cellAt (i := bs.length) ?_ (0, 0) ?_ <;> first | rfl | omega))
       refine WO.p rfl rfl ?_
       refine WO.nil ?_
       refine W.cond_bl rfl (fun c2 => ?_) (fun c2 => ?_)
       · first
         | (exfalso; omega)
         | (refine W.skip ?_
            refine W.seq ?_
            refine W.block ?_
            obtain ⟨k, hk⟩ : ∃ k : Nat, z = (l.getD bs.length (0, 0)).1 + (k : Int) := ⟨(z - (l.getD bs.length (0, 0)).1).toNat, by omega⟩
            have hnew : (linB l (bs ++ [(l.getD bs.length (0, 0)).1 + (k : Int)])).length + yss.length ≤ 1500 := by rw [hys, show (z - (l.getD bs.length (0, 0)).1).toNat = k by omega, Nat.add_comm, ← List.length_append, ← linTo_succ]; rw [← linTo_all (l := l) (bs := bs) (by omega)] at hlim; exact Nat.le_trans (linTo_mono l bs (by omega)) hlim
            refine DB.W.drawB 9 [.r 0 [], .b 1 [], .r 3 [], .r 5 []] [.c 2 [], .c 4 [], .a 6 39 (fun b => OwC 2 1 (.slice (some ⟨b, 0, none⟩) 1 1) 1 [.int .i64 z]) (fun b => .slice (some ⟨b, 0, none⟩) 1 1), .c 7 [], .c 8 []] [] (A0 := [_]) (H0 := [_, _, _]) (.cons .head (.cons .head (.cons .head (.cons .head .nil)))) (by kernel_rfl) ?_
            refine' DB.QB.r rfl rfl rfl ?hq ?_
            case hq =>
              refine WO.p rfl rfl ?_
              exact WO.nil ⟨rfl, rfl⟩
            refine' DB.QB.b rfl rfl rfl ?hq ?_
            case hq =>
              refine WO.loadA rfl rfl (Cells.own (Pick.tail (Pick.tail (Pick.head)))) rfl rfl ?_
              exact WO.nil ⟨rfl, rfl⟩
            refine' DB.QB.r rfl rfl rfl ?hq ?_
            case hq =>
              refine WO.p rfl rfl ?_
              exact WO.nil ⟨rfl, rfl⟩
            refine' DB.QB.r rfl rfl rfl ?hq ?_
            case hq =>
              refine WO.p rfl rfl ?_
              exact WO.nil ⟨rfl, rfl⟩
            refine DB.QB.nil ?_ ?_
            · refine (DB.ALok.r (DB.ALok.b (DB.ALok.r (DB.ALok.r (DB.ALok.c (DB.ALok.c (DB.ALok.n rfl rfl rfl ?_ (DB.ALok.c (DB.ALok.c DB.ALok.nil)))))))))
              · skip
                refine' WO.buildSl (cs := _) rfl rfl rfl rfl ?hf rfl rfl ?hl rfl (fun v3 => ?_)
                case hf => (conv => lhs; simp [-List.getD_eq_getElem?_getD, fillL, vcl, wrl, TTab.pl?.lget']) <;> rfl
                case hl => rfl
                exact WO.nil ⟨_, rfl, rfl⟩
            refine DB.DT.c [_, _, _, _] rfl rfl rfl rfl ?_
            refine WO.buildSl0 rfl rfl (fun b0 => ?_)
            refine WO.nil ⟨_, [_, _], rfl, rfl, (DB.Keep.r (DB.Keep.r (DB.Keep.b (DB.Keep.r DB.Keep.nil)))), ?_⟩
            refine DB.DT.c [_, _, _, _, _] rfl rfl rfl rfl ?_
            refine WO.appendEZ (enc := encI) (m := bs.length) (xs := []) (ys := bs) encI_ok rfl rfl rfl rfl rfl Pick.head hbs rfl (OwC.cells (by repeat (first | exact Pick.head | apply Pick.tail))) (by simp only [List.length_nil]; omega) (by simp only [List.length_nil]; omega) rfl (fun v1 => ?_)
            refine WO.nil ⟨_, [_, _], rfl, rfl, (DB.Keep.c (DB.Keep.r (DB.Keep.r (DB.Keep.b (DB.Keep.r DB.Keep.nil))))), ?_⟩
            refine DB.DT.a (fun v4 => ?_)
            refine DB.DT.c [_, _, _, _, _, _] rfl rfl rfl rfl ?_
            refine' WO.appendE (enc := encI) (m := 1) (xs := [] ++ bs) (ys := [z]) encI_ok rfl rfl rfl rfl rfl (by repeat (first | exact Pick.head | apply Pick.tail)) (isSl_lit (by omega) (fun _ => ⟨_, _, rfl⟩)) (by omega) rfl (OwC.cells (by repeat (first | exact Pick.head | apply Pick.tail))) (by rw [List.nil_append]; omega) (by rw [List.nil_append]; omega) rfl (fun g c => ?_)
            refine WO.nil ⟨_, [_, _, _], rfl, rfl, (DB.Keep.a (DB.Keep.c (DB.Keep.c (DB.Keep.r (DB.Keep.r (DB.Keep.b (DB.Keep.r DB.Keep.nil))))))), ?_⟩
            refine DB.DT.c [_, _, _, _, _, _] rfl rfl rfl rfl ?_
            have hLm : (linB l (bs ++ [z])).length + yss.length ≤ 1500 := by rw [hk]; exact hnew
            refine WO.callH1 (A := OwE encI 2 1 (.slice (some ⟨g, 0, none⟩) (([] ++ bs).length + 1) c) (bs ++ [z])) (Post := fun r Hq => ∃ x : Value × List Value, r = x.1 ∧ Hq = LinP l (bs ++ [z]) x) rfl Try.call45 Pick.head (fun L w hi hB2 => ?hsp) rfl ?_
            case hsp => (have q1 : RdF encP 2 (itCx mixed tyTab Try.f45.ntmps u0 M B hB hM).B w o l := hR.agree hi.keepB; have q2 : (bs ++ [z]).length + m = l.length := (by simp; omega); have q3 : (linB l (bs ++ [z])).length ≤ 1500 := (by omega); exact ih l (bs ++ [z]) o t (.slice (some ⟨g, 0, none⟩) (([] ++ bs).length + 1) c) w B hB2 q1 hg h24 q2 q3)
            rintro r2 _ ⟨⟨x2, rv2⟩, rfl, rfl⟩
            refine WO.fact (OwC.sl (e := 25) (sz := 1) (n := (linB l (bs ++ [z])).length) (v := r2) (cs := rv2) Pick.head) (fun h2s => ?_)
            refine WO.fact (RowsE.ocF (enc := encI) (e := 2) (sz := 1) (rv := rv2) (xss := linB l (bs ++ [z])) (Pick.tail Pick.head)) (fun h2o => ?_)
            refine WO.nil ⟨_, [_, _, _, _], rfl, rfl, (DB.Keep.c (DB.Keep.a (DB.Keep.c (DB.Keep.c (DB.Keep.r (DB.Keep.r (DB.Keep.b (DB.Keep.r DB.Keep.nil)))))))), ?_⟩
            refine DB.DT.nil [_, _, _, _, _, _, _] rfl ?_
            refine WO.appendN (m := (linB l (bs ++ [z])).length) (news := rv2) rfl rfl rfl rfl rfl (p := by repeat (first | exact Pick.head | apply Pick.tail)) h2s (OwC.cells Pick.head) (by rw [h2o.1]; omega) h2o.2 (by omega) (by omega) rfl (fun x' => ?_)
            refine WO.p rfl rfl ?_
            refine WO.nil ?_
            refine W.chg (rowsApp (enc := encI) (e := 2) (sz := 1) (rv := rv) (xss := yss) (rv' := rv2) (xss' := linB l (bs ++ [z])) (by repeat (first | exact Pick.head | apply Pick.tail)) (by repeat (first | exact Pick.head | apply Pick.tail))) ?_
            rw [← List.length_append]
            refine W.region ?_
            refine WO.p rfl rfl (WO.ar rfl rfl rfl (by (first | (unfold in64; omega) | (unfold in64; omega))) rfl (WO.p rfl rfl ?_))
            refine WO.nil ?_
            refine' ⟨_, _, _, _, ?hp, ?hmu, ⟨rfl, rfl, rfl, rfl, rfl, trivial⟩, ?hS⟩
            case hS => repeat (first | exact Sub.nil | refine Sub.cons (by repeat (first | exact Pick.head | apply Pick.tail)) ?_)
            case hp => exact ⟨by omega, by omega, by rw [hys, show (z + 1 - (l.getD bs.length (0, 0)).1).toNat = (z - (l.getD bs.length (0, 0)).1).toNat + 1 by omega, linTo_succ, show (l.getD bs.length (0, 0)).1 + (((z - (l.getD bs.length (0, 0)).1).toNat : Nat) : Int) = z by omega]⟩
            case hmu => omega)
       · first
         | (exfalso; omega)
         | (refine W.exit (blk_same ?_)
            have hye : yss = linB l bs := by rw [hys, ← linTo_all (l := l) (bs := bs) (by omega), show (z - (l.getD bs.length (0, 0)).1).toNat = wid (l.getD bs.length (0, 0)) by omega]
            refine W.sreg ?_
            refine WO.p rfl rfl (WO.p rfl rfl ?_)
            refine WO.nil ?_
            refine W.ret ?_
            refine fin.ret (Res.one rfl (RV.tmp rfl)) ⟨(x, rv), rfl, fun h hs => ?_⟩
            unfold LinP; rw [← hye]; exact Sub.sat (by repeat (first | exact Sub.nil | refine Sub.cons (by repeat (first | exact Pick.head | apply Pick.tail)) ?_)) hs))
theorem ref_lines : ∀ m, LinC m
  | 0 => ref_lines_0
  | m + 1 => ref_lines_step (ref_lines m)
theorem linB_nil (l : List (Int × Int)) : linB l [] = lin l := by
  unfold linB
  simp
theorem LinP_nil (l : List (Int × Int)) (x : Value × List Value) : LinP l [] x = [OwC 25 1 x.1 (lin l).length x.2, RowsE encI 2 1 x.2 (lin l)] := by unfold LinP; rw [linB_nil]
end Go.Proofs.Ytpecakgebhmnfaa
namespace Go.Proofs.Ytpecakgebhmnfaa
open Go Go.TH
attribute [local irreducible] W WO pt
set_option maxRecDepth 10000
set_option maxHeartbeats 1000000
def manyL (l : List (Int × Int)) : Nat := l.foldl (fun n r => min 1000000 (n * wid r)) 1
theorem many_fold {l : List (Int × Int)} (hg : OkS l) : ∀ n, 1 ≤ n → n ≤ 1000000 → l.foldl (fun n r => min 1000000 (n * wid r)) n = min 1000000 (n * (lin l).length) := by
  induction l with
  | nil => intro n h1 h2; simp [lin]; omega
  | cons r rs ih =>
    intro n h1 h2
    have hw := wid_ok (hg r (by simp))
    have hp := lin_pos (l := rs) (fun q hq => hg q (by simp [hq]))
    rw [List.foldl_cons, ih (fun q hq => hg q (by simp [hq])), lin_len_cons, ← Nat.mul_assoc]
    · generalize n * wid r = a
      rcases Nat.le_total a 1000000 with h | h
      · rw [Nat.min_eq_right h]
      · rw [Nat.min_eq_left h]
        have q1 : 1000000 * 1 ≤ 1000000 * (lin rs).length := Nat.mul_le_mul_left _ hp
        have q2 : a * 1 ≤ a * (lin rs).length := Nat.mul_le_mul_left _ hp
        omega
    · have := Nat.mul_le_mul h1 hw.1; omega
    · omega
theorem many_eq {l : List (Int × Int)} (hg : OkS l) : manyL l = min 1000000 (lin l).length := by
  unfold manyL; rw [many_fold hg 1 (by omega) (by omega), Nat.one_mul]
theorem manyTo_bd {l : List (Int × Int)} (n : Nat) (h : n ≤ l.length) : manyL (l.take n) ≤ 1000000 := by
  cases n with
  | zero => simp [manyL]
  | succ n => unfold manyL; rw [take_succ_getD (by omega) (0, 0), List.foldl_append]; simp only [List.foldl_cons, List.foldl_nil]; omega
theorem many_succ {l : List (Int × Int)} {n : Nat} (h : n < l.length) : manyL (l.take (n + 1)) = min 1000000 (manyL (l.take n) * wid (l.getD n (0, 0))) := by
  unfold manyL; rw [take_succ_getD h (0, 0), List.foldl_append]; rfl
theorem ref_Many (w : World) (v : Value) (l : List (Int × Int)) (t : Int) (hR : RdF encP 2 w.heap.size w v l) (hg : OkS l) : Ret Try.prog 42 [.agg #[v, .int .i64 t]].toArray w (.int .i64 (manyL l : Int)) := by
  refine Ret.of mixed tyTab Try.func42 rfl rfl ?_
  replace hR : RdF encP 2 (fnCx mixed tyTab Try.f42.ntmps w).B (fnCx mixed tyTab Try.f42.ntmps w).w0 v l := hR
  have hle := hR.sl.le
  have hoc := hR.sl.oc
  refine W.sreg ?_
  refine WO.boxA rfl rfl (fun b1 hb1 => ?_)
  refine WO.p rfl rfl ?_
  refine WO.nil ?_
  refine W.sreg ?_
  refine WO.p rfl rfl ?_
  refine WO.nil ?_
  refine W.seq ?_
  refine W.sreg ?_
  refine WO.p rfl rfl ?_
  refine WO.nil ?_
  refine W.block ?_
  refine W.loop (fun (i : Nat) => i ≤ l.length)
    (fun (i : Nat) => [(4, .int .i64 (i : Int)), (3, .int .i64 (manyL (l.take i) : Int)), (1, .pointer (some ⟨b1, 0, none⟩))])
    (fun (i : Nat) => [pt b1 (.cells #[v, .int .i64 t] 24 (0, 0))])
    (fun (i : Nat) => l.length - i) 0
    (by omega) ⟨rfl, rfl, rfl, trivial⟩ (by repeat (first | exact Sub.nil | refine Sub.cons (by repeat (first | exact Pick.head | apply Pick.tail)) ?_)) ?_
  rintro i hi
  refine W.seq ?_
  refine W.sreg ?_
  refine WO.p rfl rfl (WO.field0 rfl rfl rfl (WO.load rfl rfl (Cell.own Pick.head rfl) rfl ?_))
  refine' WO.len (n := _) rfl rfl ?hs rfl ?_
  case hs => (first | exact hR.sl)
  refine WO.p rfl rfl ?_
  refine WO.nil ?_
  refine W.cond_bl rfl (fun c1 => ?_) (fun c1 => ?_)
  · first
    | (exfalso; omega)
    | (refine W.skip ?_
       refine W.seq ?_
       refine W.block ?_
       have hgi := hg _ (getD_mem (i := i) (by omega) (0, 0))
       have hw := wid_ok hgi
       have hb := manyTo_bd (l := l) i (by omega)
       unfold OkG at hgi
       have hm5 := Nat.mul_le_mul hb hw.2.1
       refine W.drawD 15 [.r 0 [], .r 1 [], .b 2 [], .r 3 [], .r 4 [], .r 5 [], .b 6 [], .r 7 [], .b 8 [], .r 9 [], .r 10 [], .r 11 [], .b 12 [], .r 13 [], .r 14 []] [] (A0 := []) (Sub.refl _) (by kernel_rfl) ?_ ?_
       · exact (ALok.r (ALok.r (ALok.b (ALok.r (ALok.r (ALok.r (ALok.b (ALok.r (ALok.b (ALok.r (ALok.r (ALok.r (ALok.b (ALok.r (ALok.r ALok.nil)))))))))))))))
       refine' DT.r rfl rfl rfl ?hq ?_
       case hq =>
         refine WO.p rfl rfl ?_
         exact WO.nil ⟨rfl, rfl⟩
       refine' DT.r rfl rfl rfl ?hq ?_
       case hq =>
         refine WO.field0 rfl rfl rfl ?_
         exact WO.nil ⟨rfl, rfl⟩
       refine' DT.b rfl rfl rfl ?hq ?_
       case hq =>
         refine WO.load rfl rfl (Cell.own Pick.head rfl) rfl ?_
         exact WO.nil ⟨rfl, rfl⟩
       refine' DT.r rfl rfl rfl ?hq ?_
       case hq =>
         refine WO.p rfl rfl ?_
         exact WO.nil ⟨rfl, rfl⟩
       refine' DT.r rfl rfl rfl ?hq ?_
       case hq =>
         refine' WO.indexAddr (n := _) (i := _) rfl rfl rfl ?hs ?h1 rfl ?_
         case hs => (first | exact hR.sl)
         case h1 => (first | omega | (simp; omega))
         exact WO.nil ⟨rfl, rfl⟩
       refine' DT.r rfl rfl rfl ?hq ?_
       case hq =>
         refine WO.field rfl rfl rfl ?_
         exact WO.nil ⟨rfl, rfl⟩
       refine' DT.b rfl rfl rfl ?hq ?_
       case hq =>
         refine' WO.load (v := _) rfl rfl ?hc rfl ?_
         case hc => (first | (refine hR.cell0 (i := i) ?_ (0, 0) ?_ <;> first | rfl | omega) | (refine hR.cellAt (i := i) ?_ (0, 0) ?_ <;> first | rfl | omega))
         exact WO.nil ⟨rfl, rfl⟩
       refine' DT.r rfl rfl rfl ?hq ?_
       case hq =>
         refine WO.field0 rfl rfl rfl ?_
         exact WO.nil ⟨rfl, rfl⟩
       refine' DT.b rfl rfl rfl ?hq ?_
       case hq =>
         refine WO.load rfl rfl (Cell.own Pick.head rfl) rfl ?_
         exact WO.nil ⟨rfl, rfl⟩
       refine' DT.r rfl rfl rfl ?hq ?_
       case hq =>
         refine WO.p rfl rfl ?_
         exact WO.nil ⟨rfl, rfl⟩
       refine' DT.r rfl rfl rfl ?hq ?_
       case hq =>
         refine' WO.indexAddr (n := _) (i := _) rfl rfl rfl ?hs ?h1 rfl ?_
         case hs => (first | exact hR.sl)
         case h1 => (first | omega | (simp; omega))
         exact WO.nil ⟨rfl, rfl⟩
       refine' DT.r rfl rfl rfl ?hq ?_
       case hq =>
         refine WO.field0 rfl rfl rfl ?_
         exact WO.nil ⟨rfl, rfl⟩
       refine' DT.b rfl rfl rfl ?hq ?_
       case hq =>
         refine' WO.load (v := _) rfl rfl ?hc rfl ?_
         case hc => (first | (refine hR.cell0 (i := i) ?_ (0, 0) ?_ <;> first | rfl | omega) | (refine hR.cellAt (i := i) ?_ (0, 0) ?_ <;> first | rfl | omega))
         exact WO.nil ⟨rfl, rfl⟩
       refine' DT.r rfl rfl rfl ?hq ?_
       case hq =>
         refine WO.ar rfl rfl rfl (by (first | (unfold in64; omega) | (unfold in64; omega))) rfl ?_
         exact WO.nil ⟨rfl, rfl⟩
       refine' DT.r rfl rfl rfl ?hq ?_
       case hq =>
         refine WO.ar rfl rfl rfl (by (first | (unfold in64; omega) | (unfold in64; omega))) rfl ?_
         exact WO.nil ⟨rfl, rfl⟩
       refine DT.nil [_] rfl ?_
       refine WO.mulZ (a := manyL (l.take i)) (b := wid (l.getD i (0, 0))) rfl rfl (by omega) (by omega) rfl ?_
       refine WO.min2 rfl rfl rfl ?_
       rw [show min (1000000 : Int) ((manyL (l.take i) * wid (l.getD i (0, 0)) : Nat) : Int) = (manyL (l.take (i + 1)) : Int) by rw [many_succ (by omega)]; omega]
       refine WO.p rfl rfl ?_
       refine WO.nil ?_
       refine W.region ?_
       refine WO.p rfl rfl (WO.ar rfl rfl rfl (by (first | (unfold in64; omega) | (unfold in64; omega))) rfl (WO.p rfl rfl ?_))
       refine WO.nil ?_
       refine' ⟨i + 1, ?hp, ?hmu, ⟨rfl, rfl, rfl, trivial⟩, ?hS⟩
       case hS => repeat (first | exact Sub.nil | refine Sub.cons (by repeat (first | exact Pick.head | apply Pick.tail)) ?_)
       case hp => omega
       case hmu => omega)
  · first
    | (exfalso; omega)
    | (refine W.exit (blk_same ?_)
       refine W.sreg ?_
       refine WO.p rfl rfl (WO.p rfl rfl ?_)
       refine WO.nil ?_
       refine W.ret ?_
       rw [show l.take i = l by rw [show i = l.length by omega, List.take_length]]
       exact fin.ret (Res.one rfl (RV.tmp rfl)) rfl)
/-- do spots have more lines than a statement tries, or are they too many? -/
def largeP (l : List (Int × Int)) (t : Int) : Prop := 40 < l.length ∨ (chkF l t = 0 ∧ 1500 < (lin l).length)
instance (l : List (Int × Int)) (t : Int) : Decidable (largeP l t) := by unfold largeP; infer_instance
theorem law_large (w : World) (v : Value) (l : List (Int × Int)) (t : Int) (hR : RdF encP 2 w.heap.size w v l) : Ret Try.prog 20 [.agg #[v, .int .i64 t]].toArray w (.bool (bl (largeP l t))) := by
  refine Ret.of mixed tyTab Try.func20 rfl rfl ?_
  replace hR : RdF encP 2 (fnCx mixed tyTab Try.f20.ntmps w).B (fnCx mixed tyTab Try.f20.ntmps w).w0 v l := hR
  have hoc := hR.sl.oc
  refine W.sreg ?_
  refine WO.boxA rfl rfl (fun b1 hb1 => ?_)
  refine WO.p rfl rfl ?_
  refine WO.nil ?_
  refine W.sreg ?_
  refine WO.field0 rfl rfl rfl (WO.load rfl rfl (Cell.own Pick.head rfl) rfl ?_)
  refine' WO.len (n := _) rfl rfl ?hs rfl ?_
  case hs => (first | exact hR.sl)
  refine WO.p rfl rfl (WO.p rfl rfl ?_)
  refine WO.guard_bl rfl rfl (fun c1 => ?_) (fun c1 => ?_)
  · first
    | (exfalso; omega)
    | (refine WO.no rfl rfl (WO.no rfl rfl (WO.no rfl rfl (WO.no rfl rfl (WO.no rfl rfl (WO.no rfl rfl (WO.no rfl rfl (WO.no rfl rfl (WO.p rfl rfl (WO.p rfl rfl ?_)))))))))
       refine WO.nil ?_
       refine W.ret ?_
       refine fin.ret (Res.one rfl (RV.tmp rfl)) (congrArg Value.bool ?_)
       first | exact (bl_t.2 (by unfold largeP; omega)).symm | exact (bl_f.2 (by unfold largeP; omega)).symm | (rw [bl_eq, bl_eq, decide_eq_decide]; unfold largeP; omega))
  · first
    | (exfalso; omega)
    | (refine WO.go' rfl (WO.loadA rfl rfl (Cells.own Pick.head) rfl rfl (WO.go' rfl ?_))
       refine WO.callR rfl Try.call19 (fun L w hi => ref_CheckSpots w v l t (hR.later hi)) rfl ?_
       refine WO.pg rfl rfl rfl (WO.pg rfl rfl rfl ?_)
       refine WO.guard_bl rfl rfl (fun c2 => ?_) (fun c2 => ?_)
       · first
         | (exfalso; omega)
         | (refine WO.go' rfl (WO.loadA rfl rfl (Cells.own Pick.head) rfl rfl (WO.go' rfl ?_))
            have hcf := chkF0.1 (show chkF l t = 0 by omega)
            have hme := many_eq hcf.2.2
            refine WO.callR rfl Try.call42 (fun L w hi => ref_Many w v l t (hR.later hi) hcf.2.2) rfl ?_
            refine WO.pg rfl rfl rfl (WO.pg rfl rfl rfl (WO.p rfl rfl (WO.p rfl rfl ?_)))
            refine WO.nil ?_
            refine W.ret ?_
            refine fin.ret (Res.one rfl (RV.tmp rfl)) (congrArg Value.bool ?_)
            first | exact (bl_t.2 (by unfold largeP; omega)).symm | exact (bl_f.2 (by unfold largeP; omega)).symm | (rw [bl_eq, bl_eq, decide_eq_decide]; unfold largeP; omega))
       · first
         | (exfalso; omega)
         | (refine WO.no rfl rfl (WO.no rfl rfl (WO.no rfl rfl (WO.pg rfl rfl rfl (WO.p rfl rfl (WO.p rfl rfl ?_)))))
            refine WO.nil ?_
            refine W.ret ?_
            refine fin.ret (Res.one rfl (RV.tmp rfl)) (congrArg Value.bool ?_)
            first | exact (bl_t.2 (by unfold largeP; omega)).symm | exact (bl_f.2 (by unfold largeP; omega)).symm | (rw [bl_eq, bl_eq, decide_eq_decide]; unfold largeP; omega)))
/-- the place of the fairest line -/
def rfI (l : List (Int × Int)) (t : Int) (n : Nat) : Nat := (lst (fun i => costL t ((lin l).getD i [])) (n - 1)).1
def rfL (l : List (Int × Int)) (t : Int) : List Int := if chkF l t = 0 then (lin l).getD (rfI l t (lin l).length) [] else []
def rfC (l : List (Int × Int)) (t : Int) : Int := if chkF l t = 0 then costL t (rfL l t) else 0
theorem rfI_le {l : List (Int × Int)} {t : Int} {n : Nat} : rfI l t n ≤ n - 1 := (lst_spec _ _).1
theorem rfI_yes {l : List (Int × Int)} {t : Int} {n : Nat} (h : costL t ((lin l).getD n []) < costL t ((lin l).getD (rfI l t n) [])) : rfI l t (n + 1) = n := by
  cases n with
  | zero => exact absurd h (by show ¬ (costL t ((lin l).getD 0 []) < costL t ((lin l).getD 0 [])); omega)
  | succ n =>
    have e := (lst_spec (fun i => costL t ((lin l).getD i [])) n).2.1
    show (lst _ (n + 1)).1 = n + 1
    rw [lst_yes]
    rw [e]; exact h
theorem rfI_no {l : List (Int × Int)} {t : Int} {n : Nat} (h : ¬ costL t ((lin l).getD n []) < costL t ((lin l).getD (rfI l t n) [])) : rfI l t (n + 1) = rfI l t n := by
  cases n with
  | zero => rfl
  | succ n =>
    have e := (lst_spec (fun i => costL t ((lin l).getD i [])) n).2.1
    show (lst _ (n + 1)).1 = (lst _ n).1
    rw [lst_no]
    rw [e]; exact h
theorem lin_get {l : List (Int × Int)} {i : Nat} (h : i < (lin l).length) : InS l ((lin l).getD i []) := mem_lin.1 (getD_mem h [])
theorem ref_Fairest (w : World) (v : Value) (l : List (Int × Int)) (t : Int) (hR : RdF encP 2 w.heap.size w v l) (hlg : ¬ largeP l t) : Ct Try.prog 22 [.agg #[v, .int .i64 t]].toArray w fun r w' => ∃ Hq, (∃ rv : Value, r = .tuple #[rv, .int .i64 (rfC l t), .int .i64 (chkF l t)] ∧ Hq = [OwE encI 2 1 rv (rfL l t)]) ∧ Inv w [] Hq w' := by
  refine Ct.ofI (X := Value) (p := fun rv r => r = .tuple #[rv, .int .i64 (rfC l t), .int .i64 (chkF l t)]) (Hx := fun rv => [OwE encI 2 1 rv (rfL l t)]) mixed tyTab Try.func22 rfl rfl ?_
  replace hR : RdF encP 2 (fnCx mixed tyTab Try.f22.ntmps w).B (fnCx mixed tyTab Try.f22.ntmps w).w0 v l := hR
  have hoc := hR.sl.oc
  refine W.sreg ?_
  refine WO.boxA rfl rfl (fun b1 hb1 => ?_)
  refine WO.p rfl rfl (WO.p rfl rfl (WO.p rfl rfl ?_))
  refine WO.nil ?_
  refine W.seq ?_
  refine W.sreg ?_
  refine WO.loadA rfl rfl (Cells.own Pick.head) rfl rfl ?_
  refine WO.callR rfl Try.call19 (fun L w hi => ref_CheckSpots w v l t (hR.later hi)) rfl ?_
  refine WO.p rfl rfl ?_
  refine WO.nil ?_
  refine W.cond_bl rfl (fun c1 => ?_) (fun c1 => ?_)
  · first
    | (exfalso; omega)
    | (refine W.sreg ?_
       refine WO.loadA rfl rfl (Cells.own Pick.head) rfl rfl ?_
       refine WO.callR rfl Try.call19 (fun L w hi => ref_CheckSpots w v l t (hR.later hi)) rfl ?_
       refine WO.p rfl rfl (WO.p rfl rfl (WO.p rfl rfl ?_))
       refine WO.nil ?_
       refine W.ret ?_
       first | (have e1 : rfL l t = [] := if_neg (by assumption); have e2 : rfC l t = 0 := if_neg (by assumption); rw [e1, e2]; refine fin.ret (Res.three rfl (RV.tmp rfl) (RV.tmp rfl) (RV.tmp rfl)) ⟨_, rfl, fun h hs => ?_⟩; exact Sub.sat (.cons .head .nil) (owNil (enc := encI) (e := 2) (sz := 1) h hs)) | (have e1 : rfL l t = (lin l).getD b [] := (by rw [hb]; exact if_pos (show chkF l t = 0 by omega)); have e2 : rfC l t = costL t ((lin l).getD b []) := (by rw [← e1]; exact if_pos (show chkF l t = 0 by omega)); have e3 : chkF l t = 0 := (by omega); rw [e1, e2, e3]; exact fin.ret (Res.three rfl (RV.tmp rfl) (RV.tmp rfl) (RV.tmp rfl)) ⟨_, rfl, fun h hs => Sub.sat (.cons .head .nil) (Pick.rowIn (enc := encI) (e := 2) (sz := 1) (rv := rv) (xss := lin l) (i := b) (by repeat (first | exact Pick.head | apply Pick.tail)) hbl h hs)⟩))
  · first
    | (exfalso; omega)
    | (refine W.skip ?_
       have hcf := chkF0.1 (show chkF l t = 0 by omega)
       have hlim : (lin l).length ≤ 1500 := by unfold largeP at hlg; omega
       have hp := lin_pos hcf.2.2
       refine W.sreg ?_
       refine WO.loadA rfl rfl (Cells.own Pick.head) rfl rfl ?_
       refine WO.chg (owNil (enc := encI) (e := 2) (sz := 1)) ?_
       refine WO.callH1 (A := OwE encI 2 1 (.slice none 0 0) []) (Post := fun r Hq => ∃ x : Value × List Value, r = x.1 ∧ Hq = LinP l [] x) rfl Try.call45 Pick.head (fun L w hi hB2 => ?hsp) rfl ?_
       case hsp => (have q1 : RdF encP 2 _ w v l := hR.agree hi.keepB; have q3 : (linB l []).length ≤ 1500 := (by rw [linB_nil]; exact hlim); exact ref_lines l.length l [] v t (.slice none 0 0) w _ hB2 q1 hcf.2.2 hcf.1.2 (by simp) q3)
       rintro ov _ ⟨⟨x2, rv⟩, rfl, rfl⟩
       rw [LinP_nil]
       refine WO.p rfl rfl ?_
       refine WO.nil ?_
       refine W.fact (OwC.sl (e := 25) (sz := 1) (v := ov) (by repeat (first | exact Pick.head | apply Pick.tail))) (fun hsl => ?_)
       refine W.fact (RowsE.rowsLen (enc := encI) (e := 2) (sz := 1) (rv := rv) (by repeat (first | exact Pick.head | apply Pick.tail))) (fun hrl => ?_)
       refine W.sreg ?_
       refine WO.p rfl rfl ?_
       refine WO.nil ?_
       refine W.seq ?_
       refine W.sreg ?_
       refine WO.p rfl rfl ?_
       refine WO.nil ?_
       refine W.block ?_
       refine W.loop2 (fun (i : Nat) (b : Nat) => i ≤ (lin l).length ∧ b = rfI l t i)
         (fun (i : Nat) (b : Nat) => [(7, .int .i64 (i : Int)), (6, .int .i64 (b : Int)), (5, ov), (1, .pointer (some ⟨b1, 0, none⟩))])
         (fun (i : Nat) (b : Nat) => [pt b1 (.cells #[v, .int .i64 t] 24 (0, 0)), OwC 25 1 ov (lin l).length rv, RowsE encI 2 1 rv (lin l)])
         (fun (i : Nat) (b : Nat) => (lin l).length - i) 0 0
         (by exact ⟨by omega, rfl⟩) ⟨rfl, rfl, rfl, rfl, trivial⟩ (by repeat (first | exact Sub.nil | refine Sub.cons (by repeat (first | exact Pick.head | apply Pick.tail)) ?_)) ?_
       rintro i b ⟨hi, hb⟩
       refine W.seq ?_
       refine W.sreg ?_
       refine WO.p rfl rfl (WO.p rfl rfl ?_)
       refine' WO.len (n := _) rfl rfl ?hs rfl ?_
       case hs => (first | exact hsl)
       refine WO.p rfl rfl ?_
       refine WO.nil ?_
       refine W.cond_bl rfl (fun c2 => ?_) (fun c2 => ?_)
       · first
         | (exfalso; omega)
         | (refine W.skip ?_
            refine W.seq ?_
            refine W.block ?_
            refine W.seq ?_
            have hbl : b < (lin l).length := by have := rfI_le (l := l) (t := t) (n := i); omega
            have hin := lin_get (l := l) (i := i) (by omega)
            have hinb := lin_get (l := l) (i := b) hbl
            have hbd := mea_bd (InS.ok hin hcf.2.2)
            refine W.drawD 11 [.b 0 [], .r 1 [], .r 2 [], .r 3 [], .b 4 [], .b 5 [], .b 6 [], .r 7 [], .r 8 [], .r 9 [], .b 10 []] [] (A0 := []) (Sub.refl _) (by kernel_rfl) ?_ ?_
            · exact (ALok.b (ALok.r (ALok.r (ALok.r (ALok.b (ALok.b (ALok.b (ALok.r (ALok.r (ALok.r (ALok.b ALok.nil)))))))))))
            refine' DT.b rfl rfl rfl ?hq ?_
            case hq =>
              refine WO.loadA rfl rfl (Cells.own Pick.head) rfl rfl ?_
              exact WO.nil ⟨rfl, rfl⟩
            refine' DT.r rfl rfl rfl ?hq ?_
            case hq =>
              refine WO.p rfl rfl ?_
              exact WO.nil ⟨rfl, rfl⟩
            refine' DT.r rfl rfl rfl ?hq ?_
            case hq =>
              refine WO.p rfl rfl ?_
              exact WO.nil ⟨rfl, rfl⟩
            refine' DT.r rfl rfl rfl ?hq ?_
            case hq =>
              refine' WO.indexAddr (n := _) (i := _) rfl rfl rfl ?hs ?h1 rfl ?_
              case hs => (first | exact hsl)
              case h1 => (first | omega | (simp; omega))
              exact WO.nil ⟨rfl, rfl⟩
            refine' DT.b rfl rfl rfl ?hq ?_
            case hq =>
              refine' WO.load (v := _) rfl rfl ?hc rfl ?_
              case hc => (first | (refine OwC.cell1g (e := 25) (n := (lin l).length) (cs := rv) (u := rv.getD i undef) ?_ (getD_some (by omega) _); exact (by repeat (first | exact Sub.nil | refine Sub.cons (by repeat (first | exact Pick.head | apply Pick.tail)) ?_))))
              exact WO.nil ⟨rfl, rfl⟩
            refine' DT.b rfl rfl rfl ?hq ?_
            case hq =>
              refine WO.callR rfl Try.call34 (fun L w hi => ref_Cost w v (rv.getD i undef) l t ((lin l).getD i []) hoc ((RdR.of_ow (e := 2) (e' := 25) (n := (lin l).length) encI_ok (by repeat (first | exact Pick.head | apply Pick.tail)) (by repeat (first | exact Pick.head | apply Pick.tail)) hi).row' i (by omega)) (InS.ok hin hcf.2.2) (by rw [hin.1]; omega) hcf.2.1) rfl ?_
              exact WO.nil ⟨rfl, rfl⟩
            refine' DT.b rfl rfl rfl ?hq ?_
            case hq =>
              refine WO.loadA rfl rfl (Cells.own Pick.head) rfl rfl ?_
              exact WO.nil ⟨rfl, rfl⟩
            refine' DT.r rfl rfl rfl ?hq ?_
            case hq =>
              refine WO.p rfl rfl ?_
              exact WO.nil ⟨rfl, rfl⟩
            refine' DT.r rfl rfl rfl ?hq ?_
            case hq =>
              refine WO.p rfl rfl ?_
              exact WO.nil ⟨rfl, rfl⟩
            refine' DT.r rfl rfl rfl ?hq ?_
            case hq =>
              refine' WO.indexAddr (n := _) (i := _) rfl rfl rfl ?hs ?h1 rfl ?_
              case hs => (first | exact hsl)
              case h1 => (first | omega | (simp; omega))
              exact WO.nil ⟨rfl, rfl⟩
            refine' DT.b rfl rfl rfl ?hq ?_
            case hq =>
              refine' WO.load (v := _) rfl rfl ?hc rfl ?_
              case hc => (first | (refine OwC.cell1g (e := 25) (n := (lin l).length) (cs := rv) (u := rv.getD b undef) ?_ (getD_some (by omega) _); exact (by repeat (first | exact Sub.nil | refine Sub.cons (by repeat (first | exact Pick.head | apply Pick.tail)) ?_))))
              exact WO.nil ⟨rfl, rfl⟩
            refine DT.nil [_, _, _] rfl ?_
            refine WO.callR rfl Try.call34 (fun L w hi => ref_Cost w v (rv.getD b undef) l t ((lin l).getD b []) hoc ((RdR.of_ow (e := 2) (e' := 25) (n := (lin l).length) encI_ok (by repeat (first | exact Pick.head | apply Pick.tail)) (by repeat (first | exact Pick.head | apply Pick.tail)) hi).row' b hbl) (InS.ok hinb hcf.2.2) (by rw [hinb.1]; omega) hcf.2.1) rfl ?_
            refine WO.p rfl rfl ?_
            refine WO.nil ?_
            refine W.cond_bl rfl (fun c3 => ?_) (fun c3 => ?_)
            · first
              | (exfalso; omega)
              | (refine W.region ?_
                 refine WO.p rfl rfl (WO.p rfl rfl ?_)
                 refine WO.nil ?_
                 refine W.region ?_
                 refine WO.p rfl rfl (WO.ar rfl rfl rfl (by (first | (unfold in64; omega) | (unfold in64; omega))) rfl (WO.p rfl rfl ?_))
                 refine WO.nil ?_
                 refine' ⟨i + 1, _, ?hp, ?hmu, ⟨rfl, rfl, rfl, rfl, trivial⟩, ?hS⟩
                 case hS => repeat (first | exact Sub.nil | refine Sub.cons (by repeat (first | exact Pick.head | apply Pick.tail)) ?_)
                 case hp => exact ⟨by omega, by first | (rw [rfI_yes (by rw [← hb]; assumption)]; done) | (rw [rfI_no (by rw [← hb]; assumption)]; exact hb)⟩
                 case hmu => omega)
            · first
              | (exfalso; omega)
              | (refine W.skip ?_
                 refine W.region ?_
                 refine WO.p rfl rfl (WO.ar rfl rfl rfl (by (first | (unfold in64; omega) | (unfold in64; omega))) rfl (WO.p rfl rfl ?_))
                 refine WO.nil ?_
                 refine' ⟨i + 1, _, ?hp, ?hmu, ⟨rfl, rfl, rfl, rfl, trivial⟩, ?hS⟩
                 case hS => repeat (first | exact Sub.nil | refine Sub.cons (by repeat (first | exact Pick.head | apply Pick.tail)) ?_)
                 case hp => exact ⟨by omega, by first | (rw [rfI_yes (by rw [← hb]; assumption)]; done) | (rw [rfI_no (by rw [← hb]; assumption)]; exact hb)⟩
                 case hmu => omega))
       · first
         | (exfalso; omega)
         | (refine W.exit (blk_same ?_)
            refine W.seq ?_
            obtain rfl : i = (lin l).length := by omega
            have hbl : b < (lin l).length := by have := rfI_le (l := l) (t := t) (n := (lin l).length); omega
            have hinb := lin_get (l := l) (i := b) hbl
            refine W.drawD 10 [.r 0 [], .r 1 [], .r 2 [], .b 3 [], .b 4 [], .r 5 [], .r 6 [], .r 7 [], .b 8 [], .b 9 []] [] (A0 := []) (Sub.refl _) (by kernel_rfl) ?_ ?_
            · exact (ALok.r (ALok.r (ALok.r (ALok.b (ALok.b (ALok.r (ALok.r (ALok.r (ALok.b (ALok.b ALok.nil))))))))))
            refine' DT.r rfl rfl rfl ?hq ?_
            case hq =>
              refine WO.p rfl rfl ?_
              exact WO.nil ⟨rfl, rfl⟩
            refine' DT.r rfl rfl rfl ?hq ?_
            case hq =>
              refine WO.p rfl rfl ?_
              exact WO.nil ⟨rfl, rfl⟩
            refine' DT.r rfl rfl rfl ?hq ?_
            case hq =>
              refine' WO.indexAddr (n := _) (i := _) rfl rfl rfl ?hs ?h1 rfl ?_
              case hs => (first | exact hsl)
              case h1 => (first | omega | (simp; omega))
              exact WO.nil ⟨rfl, rfl⟩
            refine' DT.b rfl rfl rfl ?hq ?_
            case hq =>
              refine' WO.load (v := _) rfl rfl ?hc rfl ?_
              case hc => (first | (refine OwC.cell1g (e := 25) (n := (lin l).length) (cs := rv) (u := rv.getD b undef) ?_ (getD_some (by omega) _); exact (by repeat (first | exact Sub.nil | refine Sub.cons (by repeat (first | exact Pick.head | apply Pick.tail)) ?_))))
              exact WO.nil ⟨rfl, rfl⟩
            refine' DT.b rfl rfl rfl ?hq ?_
            case hq =>
              refine WO.loadA rfl rfl (Cells.own Pick.head) rfl rfl ?_
              exact WO.nil ⟨rfl, rfl⟩
            refine' DT.r rfl rfl rfl ?hq ?_
            case hq =>
              refine WO.p rfl rfl ?_
              exact WO.nil ⟨rfl, rfl⟩
            refine' DT.r rfl rfl rfl ?hq ?_
            case hq =>
              refine WO.p rfl rfl ?_
              exact WO.nil ⟨rfl, rfl⟩
            refine' DT.r rfl rfl rfl ?hq ?_
            case hq =>
              refine' WO.indexAddr (n := _) (i := _) rfl rfl rfl ?hs ?h1 rfl ?_
              case hs => (first | exact hsl)
              case h1 => (first | omega | (simp; omega))
              exact WO.nil ⟨rfl, rfl⟩
            refine' DT.b rfl rfl rfl ?hq ?_
            case hq =>
              refine' WO.load (v := _) rfl rfl ?hc rfl ?_
              case hc => (first | (refine OwC.cell1g (e := 25) (n := (lin l).length) (cs := rv) (u := rv.getD b undef) ?_ (getD_some (by omega) _); exact (by repeat (first | exact Sub.nil | refine Sub.cons (by repeat (first | exact Pick.head | apply Pick.tail)) ?_))))
              exact WO.nil ⟨rfl, rfl⟩
            refine' DT.b rfl rfl rfl ?hq ?_
            case hq =>
              refine WO.callR rfl Try.call34 (fun L w hi => ref_Cost w v (rv.getD b undef) l t ((lin l).getD b []) hoc ((RdR.of_ow (e := 2) (e' := 25) (n := (lin l).length) encI_ok (by repeat (first | exact Pick.head | apply Pick.tail)) (by repeat (first | exact Pick.head | apply Pick.tail)) hi).row' b hbl) (InS.ok hinb hcf.2.2) (by rw [hinb.1]; omega) hcf.2.1) rfl ?_
              exact WO.nil ⟨rfl, rfl⟩
            refine DT.nil [_, _, _] rfl ?_
            refine WO.p rfl rfl (WO.p rfl rfl (WO.p rfl rfl ?_))
            refine WO.nil ?_
            refine W.ret ?_
            first | (have e1 : rfL l t = [] := if_neg (by assumption); have e2 : rfC l t = 0 := if_neg (by assumption); rw [e1, e2]; refine fin.ret (Res.three rfl (RV.tmp rfl) (RV.tmp rfl) (RV.tmp rfl)) ⟨_, rfl, fun h hs => ?_⟩; exact Sub.sat (.cons .head .nil) (owNil (enc := encI) (e := 2) (sz := 1) h hs)) | (have e1 : rfL l t = (lin l).getD b [] := (by rw [hb]; exact if_pos (show chkF l t = 0 by omega)); have e2 : rfC l t = costL t ((lin l).getD b []) := (by rw [← e1]; exact if_pos (show chkF l t = 0 by omega)); have e3 : chkF l t = 0 := (by omega); rw [e1, e2, e3]; exact fin.ret (Res.three rfl (RV.tmp rfl) (RV.tmp rfl) (RV.tmp rfl)) ⟨_, rfl, fun h hs => Sub.sat (.cons .head .nil) (Pick.rowIn (enc := encI) (e := 2) (sz := 1) (rv := rv) (xss := lin l) (i := b) (by repeat (first | exact Pick.head | apply Pick.tail)) hbl h hs)⟩)))
end Go.Proofs.Ytpecakgebhmnfaa
namespace Go.Proofs.Ytpecakgebhmnfaa
open Go Go.TH
attribute [local irreducible] W WO pt
set_option maxRecDepth 10000
set_option maxHeartbeats 1000000
theorem rowS_cell {C : Cx Try.prog} {H : List HP} {e i k : Nat} {rv : List Value} {xss : List (List Int)} {x : Int} (s : Sub H [RowsE encI e 1 rv xss]) (hi : i < xss.length) (hk : k < (xss.getD i []).length) (hx : x = (xss.getD i []).getD k 0) : Cell C H (elt (rv.getD i undef) k 1) (.int .i64 x) := by
  cases s with
  | cons p _ => exact RowsE.cell0 encI_ok p hi hk 0 (by rw [hx]; rfl)
theorem owP_cell0 {C : Cx Try.prog} {H : List HP} {e k : Nat} {v : Value} {xs : List (Int × Int)} {x : Int} (s : Sub H [OwE encP e 2 v xs]) (hk : k < xs.length) (hx : x = (xs.getD k (0, 0)).1) : Cell C H (elt v k 2) (.int .i64 x) := by
  cases s with
  | cons p _ => exact OwE.cell0 encP_ok p hk (0, 0) (by rw [hx]; rfl)
theorem owP_cell1 {C : Cx Try.prog} {H : List HP} {e k : Nat} {v : Value} {xs : List (Int × Int)} {x : Int} (s : Sub H [OwE encP e 2 v xs]) (hk : k < xs.length) (hx : x = (xs.getD k (0, 0)).2) : Cell C H (prt (elt v k 2) 1) (.int .i64 x) := by
  cases s with
  | cons p _ => exact OwE.cellAt encP_ok p hk (0, 0) (by rw [hx]; rfl)
/-- ranges that are made wide enough for a line: the first k of them -/
def mgTo (o : List (Int × Int)) (x : List Int) (k : Nat) : List (Int × Int) := (List.range o.length).map fun j => if j < k then (min (o.getD j (0, 0)).1 (x.getD j 0), max (o.getD j (0, 0)).2 (x.getD j 0)) else o.getD j (0, 0)
theorem mgTo_len (o : List (Int × Int)) (x : List Int) (k : Nat) : (mgTo o x k).length = o.length := by simp [mgTo]
theorem mgTo_getD {o : List (Int × Int)} {x : List Int} {k j : Nat} (h : j < o.length) : (mgTo o x k).getD j (0, 0) = if j < k then (min (o.getD j (0, 0)).1 (x.getD j 0), max (o.getD j (0, 0)).2 (x.getD j 0)) else o.getD j (0, 0) := by
  unfold mgTo
  rw [List.getD_eq_getElem?_getD, List.getElem?_map, List.getElem?_range h]; rfl
theorem ext_getD {α : Type} {a b : List α} (z : α) (hl : a.length = b.length) (h : ∀ i, i < a.length → a.getD i z = b.getD i z) : a = b := by
  refine List.ext_getElem hl fun i h1 h2 => ?_
  have := h i h1
  rwa [List.getD_eq_getElem?_getD, List.getD_eq_getElem?_getD, List.getElem?_eq_getElem h1, List.getElem?_eq_getElem h2] at this
theorem mgTo_zero (o : List (Int × Int)) (x : List Int) : mgTo o x 0 = o := by
  refine ext_getD (0, 0) (mgTo_len _ _ _) fun i h => ?_
  rw [mgTo_len] at h
  rw [mgTo_getD h, if_neg (by omega)]
theorem getD_setP {xs : List (Int × Int)} {k j : Nat} {y : Int × Int} (h : j < xs.length) : (xs.set k y).getD j (0, 0) = if k = j then y else xs.getD j (0, 0) := by
  rw [List.getD_eq_getElem?_getD, List.getElem?_set]
  by_cases e : k = j
  · subst e; rw [if_pos rfl, if_pos rfl, if_pos h]; rfl
  · rw [if_neg e, if_neg e, List.getD_eq_getElem?_getD]
theorem mgTo_succ {o : List (Int × Int)} {x : List Int} {k : Nat} (h : k < o.length) : mgTo o x (k + 1) = (mgTo o x k).set k (min (o.getD k (0, 0)).1 (x.getD k 0), max (o.getD k (0, 0)).2 (x.getD k 0)) := by
  refine ext_getD (0, 0) (by rw [List.length_set, mgTo_len, mgTo_len]) fun j hj => ?_
  rw [mgTo_len] at hj
  rw [mgTo_getD hj, getD_setP (by rw [mgTo_len]; exact hj)]
  by_cases e : k = j
  · subst e; rw [if_pos (by omega), if_pos rfl]
  · rw [if_neg e, mgTo_getD hj]
    by_cases e2 : j < k
    · rw [if_pos (by omega), if_pos e2]
    · rw [if_neg (by omega), if_neg e2]
def oneL (x : List Int) : List (Int × Int) := x.map fun y => (y, y)
/-- what is made of ranges by a line -/
def rsS (ch : Int) (o : List (Int × Int)) (x : List Int) : List (Int × Int) := if ch < (chL x : Int) then o else mgTo (if o.length = 0 then oneL x else o) x x.length
def rsL (l : List (Int × Int)) (ch : Int) (n : Nat) : List (Int × Int) := ((lin l).take n).foldl (rsS ch) []
theorem rsL_succ {l : List (Int × Int)} {ch : Int} {n : Nat} (h : n < (lin l).length) : rsL l ch (n + 1) = rsS ch (rsL l ch n) ((lin l).getD n []) := by
  unfold rsL; rw [take_succ_getD h [], List.foldl_append]; rfl
def rpE (l : List (Int × Int)) (t ch : Int) : Int := if chkF l t ≠ 0 then chkF l t else if ch < 0 then 3 else if (rsL l ch (lin l).length).length = 0 then 17 else 0
def rpL (l : List (Int × Int)) (t ch : Int) : List (Int × Int) := if rpE l t ch = 0 then rsL l ch (lin l).length else []
theorem rpE_bad {l : List (Int × Int)} {t ch : Int} (h : chkF l t ≠ 0) : rpE l t ch = chkF l t := if_pos h
theorem rpE_neg {l : List (Int × Int)} {t ch : Int} (h : ¬ chkF l t ≠ 0) (g : ch < 0) : rpE l t ch = 3 := by unfold rpE; rw [if_neg h, if_pos g]
theorem rpE_17 {l : List (Int × Int)} {t ch : Int} (h : chkF l t = 0) (g : ¬ ch < 0) (k : (rsL l ch (lin l).length).length = 0) : rpE l t ch = 17 := by unfold rpE; rw [if_neg (by omega), if_neg g, if_pos k]
theorem rpE_0 {l : List (Int × Int)} {t ch : Int} (h : chkF l t = 0) (g : ¬ ch < 0) (k : ¬ (rsL l ch (lin l).length).length = 0) : rpE l t ch = 0 := by unfold rpE; rw [if_neg (by omega), if_neg g, if_neg k]
theorem rpL_ne {l : List (Int × Int)} {t ch : Int} (h : rpE l t ch ≠ 0) : rpL l t ch = [] := if_neg h
theorem rpL_0 {l : List (Int × Int)} {t ch : Int} (h : rpE l t ch = 0) : rpL l t ch = rsL l ch (lin l).length := if_pos h
theorem oneL_len (x : List Int) : (oneL x).length = x.length := by simp [oneL]
theorem rsS_skip {ch : Int} {o : List (Int × Int)} {x : List Int} (h : ch < (chL x : Int)) : rsS ch o x = o := if_pos h
theorem rsS_new {ch : Int} {o : List (Int × Int)} {x : List Int} (h : ¬ ch < (chL x : Int)) (g : o.length = 0) : rsS ch o x = mgTo (oneL x) x x.length := by unfold rsS; rw [if_neg h, if_pos g]
theorem rsS_on {ch : Int} {o : List (Int × Int)} {x : List Int} (h : ¬ ch < (chL x : Int)) (g : ¬ o.length = 0) : rsS ch o x = mgTo o x x.length := by unfold rsS; rw [if_neg h, if_neg g]
abbrev Prs := List (Int × Int)
def bas (o : Prs) (x : List Int) : Prs := if o.length = 0 then oneL x else o
theorem bas_0 {o : Prs} {x : List Int} (h : o.length = 0) : bas o x = oneL x := if_pos h
theorem bas_1 {o : Prs} {x : List Int} (h : ¬ o.length = 0) : bas o x = o := if_neg h
theorem rsS_bas {ch : Int} {o : Prs} {x : List Int} (h : ¬ ch < (chL x : Int)) : rsS ch o x = mgTo (bas o x) x x.length := if_neg h
theorem mg_next {b m : Prs} {x : List Int} {k : Nat} (hm : m = mgTo b x k) (h : k < b.length) : m.set k (min (m.getD k (0, 0)).1 (x.getD k 0), max (m.getD k (0, 0)).2 (x.getD k 0)) = mgTo b x (k + 1) := by
  have e : m.getD k (0, 0) = b.getD k (0, 0) := by rw [hm, mgTo_getD h, if_neg (by omega)]
  rw [mgTo_succ h, e, hm]
theorem isNone_0 {a : Option Addr} {n c : Nat} {ov : Value} (h : ov = .slice a n c) (g : n = 0 → ov = .slice none 0 0) (hs : IsSl ov n) : a.isNone = true ↔ n = 0 := by
  subst h
  constructor
  · intro h1
    rcases Nat.eq_zero_or_pos n with e | e
    · exact e
    · rw [isSl_some hs e] at h1; cases h1
  · intro e
    have := g e
    injection this with e1 e2 e3
    subst e1; rfl
theorem owTo {e : Nat} {v : Value} {o m : Prs} {H H' : List HP} (h : o = m) (pk : Pick (OwE encP e 2 v o) H H') : ∀ h, sat H h → sat (OwE encP e 2 v m :: H') h := fun g hs => by subst h; exact pk.sat hs
theorem ref_Spread (w : World) (v : Value) (l : List (Int × Int)) (t ch : Int) (hR : RdF encP 2 w.heap.size w v l) (hlg : ¬ largeP l t) : Ct Try.prog 30 [.agg #[v, .int .i64 t], .int .i64 ch].toArray w fun r w' => ∃ Hq, (∃ rv : Value, r = .tuple #[rv, .int .i64 (rpE l t ch)] ∧ Hq = [OwE encP 51 2 rv (rpL l t ch)]) ∧ Inv w [] Hq w' := by
  refine Ct.ofI (X := Value) (p := fun rv r => r = .tuple #[rv, .int .i64 (rpE l t ch)]) (Hx := fun rv => [OwE encP 51 2 rv (rpL l t ch)]) mixed tyTab Try.func30 rfl rfl ?_
  replace hR : RdF encP 2 (fnCx mixed tyTab Try.f30.ntmps w).B (fnCx mixed tyTab Try.f30.ntmps w).w0 v l := hR
  have hoc := hR.sl.oc
  refine W.sreg ?_
  refine WO.boxA rfl rfl (fun b1 hb1 => ?_)
  refine WO.p rfl rfl (WO.p rfl rfl ?_)
  refine WO.nil ?_
  refine W.seq ?_
  refine W.sreg ?_
  refine WO.loadA rfl rfl (Cells.own Pick.head) rfl rfl ?_
  refine WO.callR rfl Try.call19 (fun L w hi => ref_CheckSpots w v l t (hR.later hi)) rfl ?_
  refine WO.p rfl rfl ?_
  refine WO.nil ?_
  refine W.cond_bl rfl (fun c1 => ?_) (fun c1 => ?_)
  · first
    | (exfalso; omega)
    | (refine W.sreg ?_
       refine WO.loadA rfl rfl (Cells.own Pick.head) rfl rfl ?_
       refine WO.callR rfl Try.call19 (fun L w hi => ref_CheckSpots w v l t (hR.later hi)) rfl ?_
       refine WO.p rfl rfl (WO.p rfl rfl ?_)
       refine WO.nil ?_
       refine W.ret ?_
       first | (have e1 := rpE_bad (ch := ch) (show chkF l t ≠ 0 by assumption); have e2 : rpL l t ch = [] := rpL_ne (by rw [e1]; assumption); rw [e1, e2]; exact fin.ret (Res.two rfl (RV.tmp rfl) (RV.tmp rfl)) ⟨_, rfl, fun h hs => Sub.sat (.cons .head .nil) (owNil (enc := encP) (e := 51) (sz := 2) h hs)⟩) | (have e1 := rpE_neg (t := t) (show ¬ chkF l t ≠ 0 by omega) (show ch < 0 by omega); have e2 : rpL l t ch = [] := rpL_ne (by rw [e1]; omega); rw [e1, e2]; exact fin.ret (Res.two rfl (RV.tmp rfl) (RV.tmp rfl)) ⟨_, rfl, fun h hs => Sub.sat (.cons .head .nil) (owNil (enc := encP) (e := 51) (sz := 2) h hs)⟩) | (have q0 := hnn.1 (by assumption); have e1 := rpE_17 (l := l) (t := t) (ch := ch) (by omega) (by omega) (by rw [← ho]; exact q0); have e2 : rpL l t ch = [] := rpL_ne (by rw [e1]; omega); rw [e1, e2]; exact fin.ret (Res.two rfl (RV.tmp rfl) (RV.tmp rfl)) ⟨_, rfl, fun h hs => Sub.sat (.cons .head .nil) (owNil (enc := encP) (e := 51) (sz := 2) h hs)⟩) | (have q9 : oa.isNone = false := (by assumption); have q0 : ¬ o.length = 0 := (fun e => by rw [hnn.2 e] at q9; cases q9); have e1 := rpE_0 (l := l) (t := t) (ch := ch) (by omega) (by omega) (by rw [← ho]; exact q0); have e2 := rpL_0 e1; rw [e1, e2, ← ho]; exact fin.ret (Res.two rfl (RV.tmp rfl) (RV.tmp rfl)) ⟨_, rfl, fun h hs => Sub.sat (.cons (by repeat (first | exact Pick.head | apply Pick.tail)) .nil) hs⟩))
  · first
    | (exfalso; omega)
    | (refine W.skip ?_
       refine W.seq ?_
       refine W.sreg ?_
       refine WO.p rfl rfl (WO.p rfl rfl ?_)
       refine WO.nil ?_
       refine W.cond_bl rfl (fun c2 => ?_) (fun c2 => ?_)
       · first
         | (exfalso; omega)
         | (refine W.sreg ?_
            refine WO.p rfl rfl (WO.p rfl rfl ?_)
            refine WO.nil ?_
            refine W.ret ?_
            first | (have e1 := rpE_bad (ch := ch) (show chkF l t ≠ 0 by assumption); have e2 : rpL l t ch = [] := rpL_ne (by rw [e1]; assumption); rw [e1, e2]; exact fin.ret (Res.two rfl (RV.tmp rfl) (RV.tmp rfl)) ⟨_, rfl, fun h hs => Sub.sat (.cons .head .nil) (owNil (enc := encP) (e := 51) (sz := 2) h hs)⟩) | (have e1 := rpE_neg (t := t) (show ¬ chkF l t ≠ 0 by omega) (show ch < 0 by omega); have e2 : rpL l t ch = [] := rpL_ne (by rw [e1]; omega); rw [e1, e2]; exact fin.ret (Res.two rfl (RV.tmp rfl) (RV.tmp rfl)) ⟨_, rfl, fun h hs => Sub.sat (.cons .head .nil) (owNil (enc := encP) (e := 51) (sz := 2) h hs)⟩) | (have q0 := hnn.1 (by assumption); have e1 := rpE_17 (l := l) (t := t) (ch := ch) (by omega) (by omega) (by rw [← ho]; exact q0); have e2 : rpL l t ch = [] := rpL_ne (by rw [e1]; omega); rw [e1, e2]; exact fin.ret (Res.two rfl (RV.tmp rfl) (RV.tmp rfl)) ⟨_, rfl, fun h hs => Sub.sat (.cons .head .nil) (owNil (enc := encP) (e := 51) (sz := 2) h hs)⟩) | (have q9 : oa.isNone = false := (by assumption); have q0 : ¬ o.length = 0 := (fun e => by rw [hnn.2 e] at q9; cases q9); have e1 := rpE_0 (l := l) (t := t) (ch := ch) (by omega) (by omega) (by rw [← ho]; exact q0); have e2 := rpL_0 e1; rw [e1, e2, ← ho]; exact fin.ret (Res.two rfl (RV.tmp rfl) (RV.tmp rfl)) ⟨_, rfl, fun h hs => Sub.sat (.cons (by repeat (first | exact Pick.head | apply Pick.tail)) .nil) hs⟩))
       · first
         | (exfalso; omega)
         | (refine W.skip ?_
            have hcf := chkF0.1 (show chkF l t = 0 by omega)
            have hlim : (lin l).length ≤ 1500 := by unfold largeP at hlg; omega
            have hp := lin_pos hcf.2.2
            refine W.sreg ?_
            refine WO.loadA rfl rfl (Cells.own Pick.head) rfl rfl ?_
            refine WO.chg (owNil (enc := encI) (e := 2) (sz := 1)) ?_
            refine WO.callH1 (A := OwE encI 2 1 (.slice none 0 0) []) (Post := fun r Hq => ∃ x : Value × List Value, r = x.1 ∧ Hq = LinP l [] x) rfl Try.call45 Pick.head (fun L w hi hB2 => ?hsp) rfl ?_
            case hsp => (have q1 : RdF encP 2 _ w v l := hR.agree hi.keepB; have q3 : (linB l []).length ≤ 1500 := (by rw [linB_nil]; exact hlim); exact ref_lines l.length l [] v t (.slice none 0 0) w _ hB2 q1 hcf.2.2 hcf.1.2 (by simp) q3)
            rintro lv _ ⟨⟨x2, rv⟩, rfl, rfl⟩
            rw [LinP_nil]
            refine WO.p rfl rfl ?_
            refine WO.nil ?_
            refine W.fact (OwC.sl (e := 25) (sz := 1) (v := lv) (by repeat (first | exact Pick.head | apply Pick.tail))) (fun hsl => ?_)
            refine W.fact (RowsE.rowsLen (enc := encI) (e := 2) (sz := 1) (rv := rv) (by repeat (first | exact Pick.head | apply Pick.tail))) (fun hrl => ?_)
            refine W.sreg ?_
            refine WO.p rfl rfl ?_
            refine WO.nil ?_
            refine W.seq ?_
            refine W.sreg ?_
            refine WO.p rfl rfl ?_
            refine WO.nil ?_
            refine W.block ?_
            refine W.chg (owNil (enc := encP) (e := 51) (sz := 2)) ?_
            refine W.loop3 (fun (i : Nat) (ov : Value) (o : Prs) => i ≤ (lin l).length ∧ o = rsL l ch i ∧ (o.length = 0 → ov = .slice none 0 0) ∧ (o.length = 0 ∨ o.length = l.length))
              (fun (i : Nat) (ov : Value) (o : Prs) => [(1, .int .i64 ch), (6, lv), (7, ov), (8, .int .i64 (i : Int))])
              (fun (i : Nat) (ov : Value) (o : Prs) => [OwE encP 51 2 ov o, OwC 25 1 lv (lin l).length rv, RowsE encI 2 1 rv (lin l)])
              (fun (i : Nat) (ov : Value) (o : Prs) => (lin l).length - i) 0 (.slice none 0 0) []
              (by exact ⟨by omega, rfl, fun _ => rfl, .inl rfl⟩) ⟨rfl, rfl, rfl, rfl, trivial⟩ (by repeat (first | exact Sub.nil | refine Sub.cons (by repeat (first | exact Pick.head | apply Pick.tail)) ?_)) ?_
            rintro i ov o ⟨hi, ho, hnil, hol⟩
            refine W.seq ?_
            refine W.sreg ?_
            refine WO.p rfl rfl (WO.p rfl rfl ?_)
            refine' WO.len (n := _) rfl rfl ?hs rfl ?_
            case hs => (first | exact hsl)
            refine WO.p rfl rfl ?_
            refine WO.nil ?_
            refine W.cond_bl rfl (fun c3 => ?_) (fun c3 => ?_)
            · first
              | (exfalso; omega)
              | (refine W.skip ?_
                 refine W.seq ?_
                 refine W.block ?_
                 have hin := lin_get (l := l) (i := i) (by omega)
                 obtain ⟨x, hx⟩ : ∃ x, x = (lin l).getD i [] := ⟨_, rfl⟩
                 rw [← hx] at hin
                 have hxl : x.length = l.length := hin.1
                 refine W.fact (RowsE.rowSl (enc := encI) (e := 2) (sz := 1) (rv := rv) (xss := lin l) (i := i) (by repeat (first | exact Pick.head | apply Pick.tail)) (by omega)) (fun hrs => ?_)
                 rw [← hx] at hrs
                 refine W.fact (OwE.form (enc := encP) (e := 51) (sz := 2) (v := ov) (by repeat (first | exact Pick.head | apply Pick.tail))) (fun hof => ?_)
                 obtain ⟨oa, oc, hov⟩ := hof
                 refine W.fact (OwE.sl (enc := encP) (e := 51) (sz := 2) (v := ov) (by repeat (first | exact Pick.head | apply Pick.tail))) (fun hosl => ?_)
                 have hnn := isNone_0 hov (fun h => hnil h) hosl
                 refine W.sreg ?_
                 refine WO.p rfl rfl (WO.p rfl rfl ?_)
                 refine' WO.indexAddr (n := _) (i := _) rfl rfl rfl ?hs ?h1 rfl ?_
                 case hs => (first | exact hsl)
                 case h1 => (first | omega | (simp; omega))
                 refine' WO.load (v := _) rfl rfl ?hc rfl ?_
                 case hc => (first | (refine OwC.cell1g (e := 25) (n := (lin l).length) (cs := rv) (u := rv.getD i undef) ?_ (getD_some (by omega) _); exact (by repeat (first | exact Sub.nil | refine Sub.cons (by repeat (first | exact Pick.head | apply Pick.tail)) ?_))))
                 refine WO.callR rfl Try.call39 (fun L w hi => ref_measure w (rv.getD i undef) x (by rw [hx]; exact (RdR.of_ow (e := 2) (e' := 25) (n := (lin l).length) encI_ok (by repeat (first | exact Pick.head | apply Pick.tail)) (by repeat (first | exact Pick.head | apply Pick.tail)) hi).row' i (by omega)) (InS.ok hin hcf.2.2) (by omega)) rfl ?_
                 refine WO.p rfl rfl (WO.p rfl rfl (WO.p rfl rfl (WO.p rfl rfl (WO.p rfl rfl ?_))))
                 refine WO.nil ?_
                 refine W.seq ?_
                 refine W.sreg ?_
                 refine WO.p rfl rfl (WO.p rfl rfl (WO.p rfl rfl ?_))
                 refine WO.nil ?_
                 refine W.cond_bl rfl (fun c4 => ?_) (fun c4 => ?_)
                 · first
                   | (exfalso; omega)
                   | (refine W.exit (blk_same ?_)
                      refine W.region ?_
                      refine WO.p rfl rfl (WO.ar rfl rfl rfl (by (first | (unfold in64; omega) | (unfold in64; omega))) rfl (WO.p rfl rfl ?_))
                      refine WO.nil ?_
                      refine' ⟨i + 1, _, _, ?hp, ?hmu, ⟨rfl, rfl, rfl, rfl, trivial⟩, ?hS⟩
                      case hS => repeat (first | exact Sub.nil | refine Sub.cons (by repeat (first | exact Pick.head | apply Pick.tail)) ?_)
                      case hp => first | exact ⟨by omega, by rw [rsL_succ (by omega), ← ho, ← hx]; exact (rsS_skip (by omega)).symm, hnil, hol⟩ | (have hm2 : m = rsL l ch (i + 1) := (by rw [rsL_succ (by omega), ← ho, ← hx, rsS_bas (by omega), hm, show k = x.length by omega]); exact ⟨by omega, hm2, fun e => absurd e (by rw [hm, mgTo_len]; omega), .inr (by rw [hm, mgTo_len]; omega)⟩)
                      case hmu => omega)
                 · first
                   | (exfalso; omega)
                   | (refine W.skip ?_
                      refine W.seq ?_
                      refine W.sreg ?_
                      refine WO.p rfl rfl ?_
                      refine WO.eqT (u := ov) rfl rfl (by rw [hov]; exact nil22 _ _ _) rfl ?_
                      refine WO.nil ?_
                      refine W.cond rfl (fun c5 => ?_) (fun c5 => ?_)
                      · first
                        | (exfalso; omega)
                        | (refine W.sreg ?_
                           refine WO.p rfl rfl ?_
                           refine WO.nil ?_
                           refine W.block ?_
                           rw [List.eq_nil_of_length_eq_zero (show o.length = 0 from hnn.1 (by assumption))]
                           refine W.loop2 (fun (k : Nat) (ov2 : Value) => k ≤ x.length)
                             (fun (k : Nat) (ov2 : Value) => [(1, .int .i64 ch), (6, lv), (7, ov2), (8, .int .i64 (i : Int)), (11, .int .i64 (k : Int))])
                             (fun (k : Nat) (ov2 : Value) => [OwE encP 51 2 ov2 ((oneL x).take k), OwC 25 1 lv (lin l).length rv, RowsE encI 2 1 rv (lin l)])
                             (fun (k : Nat) (ov2 : Value) => x.length - k) 0 _
                             (by omega) ⟨rfl, rfl, rfl, rfl, rfl, trivial⟩ (by repeat (first | exact Sub.nil | refine Sub.cons (by repeat (first | exact Pick.head | apply Pick.tail)) ?_)) ?_
                           rintro k ov2 hk
                           refine W.seq ?_
                           refine W.sreg ?_
                           refine WO.p rfl rfl (WO.p rfl rfl (WO.p rfl rfl ?_))
                           refine' WO.indexAddr (n := _) (i := _) rfl rfl rfl ?hs ?h1 rfl ?_
                           case hs => (first | exact hsl)
                           case h1 => (first | omega | (simp; omega))
                           refine' WO.load (v := _) rfl rfl ?hc rfl ?_
                           case hc => (first | (refine OwC.cell1g (e := 25) (n := (lin l).length) (cs := rv) (u := rv.getD i undef) ?_ (getD_some (by omega) _); exact (by repeat (first | exact Sub.nil | refine Sub.cons (by repeat (first | exact Pick.head | apply Pick.tail)) ?_))))
                           refine' WO.len (n := _) rfl rfl ?hs rfl ?_
                           case hs => (first | exact hrs)
                           refine WO.p rfl rfl ?_
                           refine WO.nil ?_
                           refine W.cond_bl rfl (fun c6 => ?_) (fun c6 => ?_)
                           · first
                             | (exfalso; omega)
                             | (refine W.skip ?_
                                refine W.seq ?_
                                refine W.block ?_
                                refine W.drawD 17 [.r 0 [], .r 1 [], .r 2 [], .r 3 [], .b 4 [], .r 5 [], .r 6 [], .b 7 [], .r 8 [], .r 9 [], .r 10 [], .b 11 [], .r 12 [], .r 13 [], .b 14 [], .r 15 [], .c 16 []] [] (A0 := [_]) (H0 := [_, _]) (.cons .head (.cons .head (.cons .head .nil))) (by kernel_rfl) ?_ ?_
                                · exact (ALok.r (ALok.r (ALok.r (ALok.r (ALok.b (ALok.r (ALok.r (ALok.b (ALok.r (ALok.r (ALok.r (ALok.b (ALok.r (ALok.r (ALok.b (ALok.r (ALok.c ALok.nil)))))))))))))))))
                                refine' DT.r rfl rfl rfl ?hq ?_
                                case hq =>
                                  refine WO.p rfl rfl ?_
                                  exact WO.nil ⟨rfl, rfl⟩
                                refine' DT.r rfl rfl rfl ?hq ?_
                                case hq =>
                                  refine WO.p rfl rfl ?_
                                  exact WO.nil ⟨rfl, rfl⟩
                                refine' DT.r rfl rfl rfl ?hq ?_
                                case hq =>
                                  refine WO.p rfl rfl ?_
                                  exact WO.nil ⟨rfl, rfl⟩
                                refine' DT.r rfl rfl rfl ?hq ?_
                                case hq =>
                                  refine' WO.indexAddr (n := _) (i := _) rfl rfl rfl ?hs ?h1 rfl ?_
                                  case hs => (first | exact hsl)
                                  case h1 => (first | omega | (simp; omega))
                                  exact WO.nil ⟨rfl, rfl⟩
                                refine' DT.b rfl rfl rfl ?hq ?_
                                case hq =>
                                  refine' WO.load (v := _) rfl rfl ?hc rfl ?_
                                  case hc => (first | (refine OwC.cell1g (e := 25) (n := (lin l).length) (cs := rv) (u := rv.getD i undef) ?_ (getD_some (by omega) _); exact (by repeat (first | exact Sub.nil | refine Sub.cons (by repeat (first | exact Pick.head | apply Pick.tail)) ?_))))
                                  exact WO.nil ⟨rfl, rfl⟩
                                refine' DT.r rfl rfl rfl ?hq ?_
                                case hq =>
                                  refine WO.p rfl rfl ?_
                                  exact WO.nil ⟨rfl, rfl⟩
                                refine' DT.r rfl rfl rfl ?hq ?_
                                case hq =>
                                  refine' WO.indexAddr (n := _) (i := _) rfl rfl rfl ?hs ?h1 rfl ?_
                                  case hs => (first | exact hrs)
                                  case h1 => (first | omega | (simp; omega))
                                  exact WO.nil ⟨rfl, rfl⟩
                                refine' DT.b rfl rfl rfl ?hq ?_
                                case hq =>
                                  refine' WO.load (v := _) rfl rfl ?hc rfl ?_
                                  case hc => (first | (refine rowS_cell (e := 2) (i := i) (k := k) (rv := rv) (xss := lin l) (x := x.getD k 0) ?_ (by omega) (by rw [← hx]; omega) (by rw [← hx]); exact (by repeat (first | exact Sub.nil | refine Sub.cons (by repeat (first | exact Pick.head | apply Pick.tail)) ?_))))
                                  exact WO.nil ⟨rfl, rfl⟩
                                refine' DT.r rfl rfl rfl ?hq ?_
                                case hq =>
                                  refine WO.p rfl rfl ?_
                                  exact WO.nil ⟨rfl, rfl⟩
                                refine' DT.r rfl rfl rfl ?hq ?_
                                case hq =>
                                  refine WO.p rfl rfl ?_
                                  exact WO.nil ⟨rfl, rfl⟩
                                refine' DT.r rfl rfl rfl ?hq ?_
                                case hq =>
                                  refine' WO.indexAddr (n := _) (i := _) rfl rfl rfl ?hs ?h1 rfl ?_
                                  case hs => (first | exact hsl)
                                  case h1 => (first | omega | (simp; omega))
                                  exact WO.nil ⟨rfl, rfl⟩
                                refine' DT.b rfl rfl rfl ?hq ?_
                                case hq =>
                                  refine' WO.load (v := _) rfl rfl ?hc rfl ?_
                                  case hc => (first | (refine OwC.cell1g (e := 25) (n := (lin l).length) (cs := rv) (u := rv.getD i undef) ?_ (getD_some (by omega) _); exact (by repeat (first | exact Sub.nil | refine Sub.cons (by repeat (first | exact Pick.head | apply Pick.tail)) ?_))))
                                  exact WO.nil ⟨rfl, rfl⟩
                                refine' DT.r rfl rfl rfl ?hq ?_
                                case hq =>
                                  refine WO.p rfl rfl ?_
                                  exact WO.nil ⟨rfl, rfl⟩
                                refine' DT.r rfl rfl rfl ?hq ?_
                                case hq =>
                                  refine' WO.indexAddr (n := _) (i := _) rfl rfl rfl ?hs ?h1 rfl ?_
                                  case hs => (first | exact hrs)
                                  case h1 => (first | omega | (simp; omega))
                                  exact WO.nil ⟨rfl, rfl⟩
                                refine' DT.b rfl rfl rfl ?hq ?_
                                case hq =>
                                  refine' WO.load (v := _) rfl rfl ?hc rfl ?_
                                  case hc => (first | (refine rowS_cell (e := 2) (i := i) (k := k) (rv := rv) (xss := lin l) (x := x.getD k 0) ?_ (by omega) (by rw [← hx]; omega) (by rw [← hx]); exact (by repeat (first | exact Sub.nil | refine Sub.cons (by repeat (first | exact Pick.head | apply Pick.tail)) ?_))))
                                  exact WO.nil ⟨rfl, rfl⟩
                                refine' DT.r rfl rfl rfl ?hq ?_
                                case hq =>
                                  refine' WO.build (cs := _) rfl rfl rfl ?hf rfl ?_
                                  case hf => (conv => lhs; simp [-List.getD_eq_getElem?_getD, fillL, vcl, wrl, TTab.pl?.lget']) <;> rfl
                                  exact WO.nil ⟨rfl, rfl⟩
                                refine DT.c [_, _, _] rfl rfl rfl rfl ?_
                                refine' WO.buildSl (cs := _) rfl rfl rfl rfl ?hf rfl rfl ?hl rfl (fun v2 => ?_)
                                case hf => (conv => lhs; simp [-List.getD_eq_getElem?_getD, fillL, vcl, wrl, TTab.pl?.lget']) <;> rfl
                                case hl => rfl
                                refine WO.nil ⟨_, [_, _], rfl, rfl, (Keep.r (Keep.b (Keep.r (Keep.r (Keep.b (Keep.r (Keep.r (Keep.r (Keep.b (Keep.r (Keep.r (Keep.b (Keep.r (Keep.r (Keep.r (Keep.r Keep.nil)))))))))))))))), ?_⟩
                                refine DT.nil [_, _, _, _] rfl ?_
                                refine' WO.appendE (enc := encP) (m := 1) (xs := (oneL x).take k) (ys := [(x.getD k 0, x.getD k 0)]) encP_ok rfl rfl rfl rfl rfl (by repeat (first | exact Pick.head | apply Pick.tail)) (isSl_lit (by omega) (fun _ => ⟨_, _, rfl⟩)) (by omega) rfl (OwC.cells .head) (by rw [List.length_take, oneL_len]; omega) (by rw [List.length_take, oneL_len]; omega) rfl (fun g c => ?_)
                                rw [show (oneL x).take k ++ [(x.getD k 0, x.getD k 0)] = (oneL x).take (k + 1) by rw [take_succ_getD (i := k) (by rw [oneL_len]; omega) (0, 0)]; congr 1; unfold oneL; simp [List.getD_eq_getElem?_getD, List.getElem?_map, List.getElem?_eq_getElem (show k < x.length by omega)]]
                                refine WO.p rfl rfl ?_
                                refine WO.nil ?_
                                refine W.region ?_
                                refine WO.p rfl rfl (WO.ar rfl rfl rfl (by (first | (unfold in64; omega) | (unfold in64; omega))) rfl (WO.p rfl rfl ?_))
                                refine WO.nil ?_
                                refine' ⟨k + 1, _, ?hp, ?hmu, ⟨rfl, rfl, rfl, rfl, rfl, trivial⟩, ?hS⟩
                                case hS => repeat (first | exact Sub.nil | refine Sub.cons (by repeat (first | exact Pick.head | apply Pick.tail)) ?_)
                                case hp => omega
                                case hmu => omega)
                           · first
                             | (exfalso; omega)
                             | (refine W.exit (blk_same ?_)
                                have hbl : (bas o x).length = x.length := by unfold bas; split; exact oneL_len x; omega
                                refine W.sreg ?_
                                refine WO.p rfl rfl ?_
                                refine WO.nil ?_
                                refine W.block ?_
                                refine W.chg (owTo (m := mgTo (bas o x) x 0) ?he (by repeat (first | exact Pick.head | apply Pick.tail))) ?_
                                case he => first | (have q0 := hnn.1 (by assumption); rw [mgTo_zero, bas_0 q0, List.take_of_length_le (by rw [oneL_len]; omega)]; done) | (have q1 : oa.isNone = false := (by assumption); rw [mgTo_zero, bas_1 (fun e => by rw [hnn.2 e] at q1; cases q1)]; done)
                                refine W.loop3 (fun (k : Nat) (ov3 : Value) (m : Prs) => k ≤ x.length ∧ m = mgTo (bas o x) x k)
                                  (fun (k : Nat) (ov3 : Value) (m : Prs) => [(1, .int .i64 ch), (6, lv), (7, ov3), (8, .int .i64 (i : Int)), (12, .int .i64 (k : Int))])
                                  (fun (k : Nat) (ov3 : Value) (m : Prs) => [OwE encP 51 2 ov3 m, OwC 25 1 lv (lin l).length rv, RowsE encI 2 1 rv (lin l)])
                                  (fun (k : Nat) (ov3 : Value) (m : Prs) => x.length - k) 0 _ (mgTo (bas o x) x 0)
                                  (by exact ⟨by omega, rfl⟩) ⟨rfl, rfl, rfl, rfl, rfl, trivial⟩ (by repeat (first | exact Sub.nil | refine Sub.cons (by repeat (first | exact Pick.head | apply Pick.tail)) ?_)) ?_
                                rintro k ov3 m ⟨hk, hm⟩
                                refine W.seq ?_
                                refine W.sreg ?_
                                refine WO.p rfl rfl (WO.p rfl rfl (WO.p rfl rfl ?_))
                                refine' WO.indexAddr (n := _) (i := _) rfl rfl rfl ?hs ?h1 rfl ?_
                                case hs => (first | exact hsl)
                                case h1 => (first | omega | (simp; omega))
                                refine' WO.load (v := _) rfl rfl ?hc rfl ?_
                                case hc => (first | (refine OwC.cell1g (e := 25) (n := (lin l).length) (cs := rv) (u := rv.getD i undef) ?_ (getD_some (by omega) _); exact (by repeat (first | exact Sub.nil | refine Sub.cons (by repeat (first | exact Pick.head | apply Pick.tail)) ?_))))
                                refine' WO.len (n := _) rfl rfl ?hs rfl ?_
                                case hs => (first | exact hrs)
                                refine WO.p rfl rfl ?_
                                refine WO.nil ?_
                                refine W.cond_bl rfl (fun c7 => ?_) (fun c7 => ?_)
                                · first
                                  | (exfalso; omega)
                                  | (refine W.skip ?_
                                     refine W.seq ?_
                                     refine W.block ?_
                                     refine W.fact (OwE.sl (enc := encP) (e := 51) (sz := 2) (v := ov3) (by repeat (first | exact Pick.head | apply Pick.tail))) (fun hos3 => ?_)
                                     have hml : m.length = x.length := by rw [hm, mgTo_len, hbl]
                                     refine W.drawD 29 [.r 0 [], .r 1 [], .r 2 [], .r 3 [], .r 4 [], .r 5 [], .f 6 [], .r 7 [], .r 8 [], .r 9 [], .b 10 [], .r 11 [], .r 12 [], .b 13 [], .r 14 [], .r 15 [], .r 16 [], .r 17 [], .r 18 [], .f 19 [], .r 20 [], .r 21 [], .r 22 [], .b 23 [], .r 24 [], .r 25 [], .b 26 [], .r 27 [], .r 28 []] [] (A0 := [_]) (H0 := [_, _]) (.cons .head (.cons .head (.cons .head .nil))) (by kernel_rfl) ?_ ?_
                                     · exact (ALok.r (ALok.r (ALok.r (ALok.r (ALok.r (ALok.r (ALok.f (ALok.r (ALok.r (ALok.r (ALok.b (ALok.r (ALok.r (ALok.b (ALok.r (ALok.r (ALok.r (ALok.r (ALok.r (ALok.f (ALok.r (ALok.r (ALok.r (ALok.b (ALok.r (ALok.r (ALok.b (ALok.r (ALok.r ALok.nil)))))))))))))))))))))))))))))
                                     refine' DT.r rfl rfl rfl ?hq ?_
                                     case hq =>
                                       refine WO.p rfl rfl ?_
                                       exact WO.nil ⟨rfl, rfl⟩
                                     refine' DT.r rfl rfl rfl ?hq ?_
                                     case hq =>
                                       refine WO.p rfl rfl ?_
                                       exact WO.nil ⟨rfl, rfl⟩
                                     refine' DT.r rfl rfl rfl ?hq ?_
                                     case hq =>
                                       refine WO.p rfl rfl ?_
                                       exact WO.nil ⟨rfl, rfl⟩
                                     refine' DT.r rfl rfl rfl ?hq ?_
                                     case hq =>
                                       refine WO.p rfl rfl ?_
                                       exact WO.nil ⟨rfl, rfl⟩
                                     refine' DT.r rfl rfl rfl ?hq ?_
                                     case hq =>
                                       refine' WO.indexAddr (n := _) (i := _) rfl rfl rfl ?hs ?h1 rfl ?_
                                       case hs => (first | exact hos3)
                                       case h1 => (first | omega | (simp; omega))
                                       exact WO.nil ⟨rfl, rfl⟩
                                     refine' DT.r rfl rfl rfl ?hq ?_
                                     case hq =>
                                       refine WO.field0 rfl rfl rfl ?_
                                       exact WO.nil ⟨rfl, rfl⟩
                                     refine' DT.f [_, _, _] rfl rfl rfl rfl ?hq ?_
                                     case hq =>
                                       refine' WO.load (v := _) rfl rfl ?hc rfl ?_
                                       case hc => (first | (refine owP_cell0 (e := 51) (k := k) (xs := m) (x := (m.getD k (0, 0)).1) ?_ (by omega) rfl; exact (by repeat (first | exact Sub.nil | refine Sub.cons (by repeat (first | exact Pick.head | apply Pick.tail)) ?_))))
                                       exact WO.nil ⟨rfl, rfl⟩
                                     refine' DT.r rfl rfl rfl ?hq ?_
                                     case hq =>
                                       refine WO.p rfl rfl ?_
                                       exact WO.nil ⟨rfl, rfl⟩
                                     refine' DT.r rfl rfl rfl ?hq ?_
                                     case hq =>
                                       refine WO.p rfl rfl ?_
                                       exact WO.nil ⟨rfl, rfl⟩
                                     refine' DT.r rfl rfl rfl ?hq ?_
                                     case hq =>
                                       refine' WO.indexAddr (n := _) (i := _) rfl rfl rfl ?hs ?h1 rfl ?_
                                       case hs => (first | exact hsl)
                                       case h1 => (first | omega | (simp; omega))
                                       exact WO.nil ⟨rfl, rfl⟩
                                     refine' DT.b rfl rfl rfl ?hq ?_
                                     case hq =>
                                       refine' WO.load (v := _) rfl rfl ?hc rfl ?_
                                       case hc => (first | (refine OwC.cell1g (e := 25) (n := (lin l).length) (cs := rv) (u := rv.getD i undef) ?_ (getD_some (by omega) _); exact (by repeat (first | exact Sub.nil | refine Sub.cons (by repeat (first | exact Pick.head | apply Pick.tail)) ?_))))
                                       exact WO.nil ⟨rfl, rfl⟩
                                     refine' DT.r rfl rfl rfl ?hq ?_
                                     case hq =>
                                       refine WO.p rfl rfl ?_
                                       exact WO.nil ⟨rfl, rfl⟩
                                     refine' DT.r rfl rfl rfl ?hq ?_
                                     case hq =>
                                       refine' WO.indexAddr (n := _) (i := _) rfl rfl rfl ?hs ?h1 rfl ?_
                                       case hs => (first | exact hrs)
                                       case h1 => (first | omega | (simp; omega))
                                       exact WO.nil ⟨rfl, rfl⟩
                                     refine' DT.b rfl rfl rfl ?hq ?_
                                     case hq =>
                                       refine' WO.load (v := _) rfl rfl ?hc rfl ?_
                                       case hc => (first | (refine rowS_cell (e := 2) (i := i) (k := k) (rv := rv) (xss := lin l) (x := x.getD k 0) ?_ (by omega) (by rw [← hx]; omega) (by rw [← hx]); exact (by repeat (first | exact Sub.nil | refine Sub.cons (by repeat (first | exact Pick.head | apply Pick.tail)) ?_))))
                                       exact WO.nil ⟨rfl, rfl⟩
                                     refine' DT.r rfl rfl rfl ?hq ?_
                                     case hq =>
                                       refine WO.min2 rfl rfl rfl ?_
                                       exact WO.nil ⟨rfl, rfl⟩
                                     refine' DT.r rfl rfl rfl ?hq ?_
                                     case hq =>
                                       refine WO.p rfl rfl ?_
                                       exact WO.nil ⟨rfl, rfl⟩
                                     refine' DT.r rfl rfl rfl ?hq ?_
                                     case hq =>
                                       refine WO.p rfl rfl ?_
                                       exact WO.nil ⟨rfl, rfl⟩
                                     refine' DT.r rfl rfl rfl ?hq ?_
                                     case hq =>
                                       refine' WO.indexAddr (n := _) (i := _) rfl rfl rfl ?hs ?h1 rfl ?_
                                       case hs => (first | exact hos3)
                                       case h1 => (first | omega | (simp; omega))
                                       exact WO.nil ⟨rfl, rfl⟩
                                     refine' DT.r rfl rfl rfl ?hq ?_
                                     case hq =>
                                       refine WO.field rfl rfl rfl ?_
                                       exact WO.nil ⟨rfl, rfl⟩
                                     refine' DT.f [_, _, _] rfl rfl rfl rfl ?hq ?_
                                     case hq =>
                                       refine' WO.load (v := _) rfl rfl ?hc rfl ?_
                                       case hc => (first | (refine owP_cell1 (e := 51) (k := k) (xs := m) (x := (m.getD k (0, 0)).2) ?_ (by omega) rfl; exact (by repeat (first | exact Sub.nil | refine Sub.cons (by repeat (first | exact Pick.head | apply Pick.tail)) ?_))))
                                       exact WO.nil ⟨rfl, rfl⟩
                                     refine' DT.r rfl rfl rfl ?hq ?_
                                     case hq =>
                                       refine WO.p rfl rfl ?_
                                       exact WO.nil ⟨rfl, rfl⟩
                                     refine' DT.r rfl rfl rfl ?hq ?_
                                     case hq =>
                                       refine WO.p rfl rfl ?_
                                       exact WO.nil ⟨rfl, rfl⟩
                                     refine' DT.r rfl rfl rfl ?hq ?_
                                     case hq =>
                                       refine' WO.indexAddr (n := _) (i := _) rfl rfl rfl ?hs ?h1 rfl ?_
                                       case hs => (first | exact hsl)
                                       case h1 => (first | omega | (simp; omega))
                                       exact WO.nil ⟨rfl, rfl⟩
                                     refine' DT.b rfl rfl rfl ?hq ?_
                                     case hq =>
                                       refine' WO.load (v := _) rfl rfl ?hc rfl ?_
                                       case hc => (first | (refine OwC.cell1g (e := 25) (n := (lin l).length) (cs := rv) (u := rv.getD i undef) ?_ (getD_some (by omega) _); exact (by repeat (first | exact Sub.nil | refine Sub.cons (by repeat (first | exact Pick.head | apply Pick.tail)) ?_))))
                                       exact WO.nil ⟨rfl, rfl⟩
                                     refine' DT.r rfl rfl rfl ?hq ?_
                                     case hq =>
                                       refine WO.p rfl rfl ?_
                                       exact WO.nil ⟨rfl, rfl⟩
                                     refine' DT.r rfl rfl rfl ?hq ?_
                                     case hq =>
                                       refine' WO.indexAddr (n := _) (i := _) rfl rfl rfl ?hs ?h1 rfl ?_
                                       case hs => (first | exact hrs)
                                       case h1 => (first | omega | (simp; omega))
                                       exact WO.nil ⟨rfl, rfl⟩
                                     refine' DT.b rfl rfl rfl ?hq ?_
                                     case hq =>
                                       refine' WO.load (v := _) rfl rfl ?hc rfl ?_
                                       case hc => (first | (refine rowS_cell (e := 2) (i := i) (k := k) (rv := rv) (xss := lin l) (x := x.getD k 0) ?_ (by omega) (by rw [← hx]; omega) (by rw [← hx]); exact (by repeat (first | exact Sub.nil | refine Sub.cons (by repeat (first | exact Pick.head | apply Pick.tail)) ?_))))
                                       exact WO.nil ⟨rfl, rfl⟩
                                     refine' DT.r rfl rfl rfl ?hq ?_
                                     case hq =>
                                       refine WO.max2 rfl rfl rfl ?_
                                       exact WO.nil ⟨rfl, rfl⟩
                                     refine' DT.r rfl rfl rfl ?hq ?_
                                     case hq =>
                                       refine' WO.build (cs := _) rfl rfl rfl ?hf rfl ?_
                                       case hf => (conv => lhs; simp [-List.getD_eq_getElem?_getD, fillL, vcl, wrl, TTab.pl?.lget']) <;> rfl
                                       exact WO.nil ⟨rfl, rfl⟩
                                     refine DT.nil [_, _, _] rfl ?_
                                     refine' WO.indexAddr (n := _) (i := _) rfl rfl rfl ?hs ?h1 rfl ?_
                                     case hs => (first | exact hos3)
                                     case h1 => (first | omega | (simp; omega))
                                     refine WO.storeEN (n := (min (m.getD k (0, 0)).1 (x.getD k 0), max (m.getD k (0, 0)).2 (x.getD k 0))) (i := k) encP_ok rfl rfl rfl rfl (by repeat (first | exact Pick.head | apply Pick.tail)) (by omega) ?_
                                     refine WO.nil ?_
                                     refine W.region ?_
                                     refine WO.p rfl rfl (WO.ar rfl rfl rfl (by (first | (unfold in64; omega) | (unfold in64; omega))) rfl (WO.p rfl rfl ?_))
                                     refine WO.nil ?_
                                     refine' ⟨k + 1, _, _, ?hp, ?hmu, ⟨rfl, rfl, rfl, rfl, rfl, trivial⟩, ?hS⟩
                                     case hS => repeat (first | exact Sub.nil | refine Sub.cons (by repeat (first | exact Pick.head | apply Pick.tail)) ?_)
                                     case hp => exact ⟨by omega, mg_next hm (by omega)⟩
                                     case hmu => omega)
                                · first
                                  | (exfalso; omega)
                                  | (refine W.exit (blk_same ?_)
                                     refine W.region ?_
                                     refine WO.p rfl rfl (WO.ar rfl rfl rfl (by (first | (unfold in64; omega) | (unfold in64; omega))) rfl (WO.p rfl rfl ?_))
                                     refine WO.nil ?_
                                     refine' ⟨i + 1, _, _, ?hp, ?hmu, ⟨rfl, rfl, rfl, rfl, trivial⟩, ?hS⟩
                                     case hS => repeat (first | exact Sub.nil | refine Sub.cons (by repeat (first | exact Pick.head | apply Pick.tail)) ?_)
                                     case hp => first | exact ⟨by omega, by rw [rsL_succ (by omega), ← ho, ← hx]; exact (rsS_skip (by omega)).symm, hnil, hol⟩ | (have hm2 : m = rsL l ch (i + 1) := (by rw [rsL_succ (by omega), ← ho, ← hx, rsS_bas (by omega), hm, show k = x.length by omega]); exact ⟨by omega, hm2, fun e => absurd e (by rw [hm, mgTo_len]; omega), .inr (by rw [hm, mgTo_len]; omega)⟩)
                                     case hmu => omega)))
                      · first
                        | (exfalso; omega)
                        | (refine W.skip ?_
                           have hbl : (bas o x).length = x.length := by unfold bas; split; exact oneL_len x; omega
                           refine W.sreg ?_
                           refine WO.p rfl rfl ?_
                           refine WO.nil ?_
                           refine W.block ?_
                           refine W.chg (owTo (m := mgTo (bas o x) x 0) ?he (by repeat (first | exact Pick.head | apply Pick.tail))) ?_
                           case he => first | (have q0 := hnn.1 (by assumption); rw [mgTo_zero, bas_0 q0, List.take_of_length_le (by rw [oneL_len]; omega)]; done) | (have q1 : oa.isNone = false := (by assumption); rw [mgTo_zero, bas_1 (fun e => by rw [hnn.2 e] at q1; cases q1)]; done)
                           refine W.loop3 (fun (k : Nat) (ov3 : Value) (m : Prs) => k ≤ x.length ∧ m = mgTo (bas o x) x k)
                             (fun (k : Nat) (ov3 : Value) (m : Prs) => [(1, .int .i64 ch), (6, lv), (7, ov3), (8, .int .i64 (i : Int)), (12, .int .i64 (k : Int))])
                             (fun (k : Nat) (ov3 : Value) (m : Prs) => [OwE encP 51 2 ov3 m, OwC 25 1 lv (lin l).length rv, RowsE encI 2 1 rv (lin l)])
                             (fun (k : Nat) (ov3 : Value) (m : Prs) => x.length - k) 0 _ (mgTo (bas o x) x 0)
                             (by exact ⟨by omega, rfl⟩) ⟨rfl, rfl, rfl, rfl, rfl, trivial⟩ (by repeat (first | exact Sub.nil | refine Sub.cons (by repeat (first | exact Pick.head | apply Pick.tail)) ?_)) ?_
                           rintro k ov3 m ⟨hk, hm⟩
                           refine W.seq ?_
                           refine W.sreg ?_
                           refine WO.p rfl rfl (WO.p rfl rfl (WO.p rfl rfl ?_))
                           refine' WO.indexAddr (n := _) (i := _) rfl rfl rfl ?hs ?h1 rfl ?_
                           case hs => (first | exact hsl)
                           case h1 => (first | omega | (simp; omega))
                           refine' WO.load (v := _) rfl rfl ?hc rfl ?_
                           case hc => (first | (refine OwC.cell1g (e := 25) (n := (lin l).length) (cs := rv) (u := rv.getD i undef) ?_ (getD_some (by omega) _); exact (by repeat (first | exact Sub.nil | refine Sub.cons (by repeat (first | exact Pick.head | apply Pick.tail)) ?_))))
                           refine' WO.len (n := _) rfl rfl ?hs rfl ?_
                           case hs => (first | exact hrs)
                           refine WO.p rfl rfl ?_
                           refine WO.nil ?_
                           refine W.cond_bl rfl (fun c8 => ?_) (fun c8 => ?_)
                           · first
                             | (exfalso; omega)
                             | (refine W.skip ?_
                                refine W.seq ?_
                                refine W.block ?_
                                refine W.fact (OwE.sl (enc := encP) (e := 51) (sz := 2) (v := ov3) (by repeat (first | exact Pick.head | apply Pick.tail))) (fun hos3 => ?_)
                                have hml : m.length = x.length := by rw [hm, mgTo_len, hbl]
                                refine W.drawD 29 [.r 0 [], .r 1 [], .r 2 [], .r 3 [], .r 4 [], .r 5 [], .f 6 [], .r 7 [], .r 8 [], .r 9 [], .b 10 [], .r 11 [], .r 12 [], .b 13 [], .r 14 [], .r 15 [], .r 16 [], .r 17 [], .r 18 [], .f 19 [], .r 20 [], .r 21 [], .r 22 [], .b 23 [], .r 24 [], .r 25 [], .b 26 [], .r 27 [], .r 28 []] [] (A0 := [_]) (H0 := [_, _]) (.cons .head (.cons .head (.cons .head .nil))) (by kernel_rfl) ?_ ?_
                                · exact (ALok.r (ALok.r (ALok.r (ALok.r (ALok.r (ALok.r (ALok.f (ALok.r (ALok.r (ALok.r (ALok.b (ALok.r (ALok.r (ALok.b (ALok.r (ALok.r (ALok.r (ALok.r (ALok.r (ALok.f (ALok.r (ALok.r (ALok.r (ALok.b (ALok.r (ALok.r (ALok.b (ALok.r (ALok.r ALok.nil)))))))))))))))))))))))))))))
                                refine' DT.r rfl rfl rfl ?hq ?_
                                case hq =>
                                  refine WO.p rfl rfl ?_
                                  exact WO.nil ⟨rfl, rfl⟩
                                refine' DT.r rfl rfl rfl ?hq ?_
                                case hq =>
                                  refine WO.p rfl rfl ?_
                                  exact WO.nil ⟨rfl, rfl⟩
                                refine' DT.r rfl rfl rfl ?hq ?_
                                case hq =>
                                  refine WO.p rfl rfl ?_
                                  exact WO.nil ⟨rfl, rfl⟩
                                refine' DT.r rfl rfl rfl ?hq ?_
                                case hq =>
                                  refine WO.p rfl rfl ?_
                                  exact WO.nil ⟨rfl, rfl⟩
                                refine' DT.r rfl rfl rfl ?hq ?_
                                case hq =>
                                  refine' WO.indexAddr (n := _) (i := _) rfl rfl rfl ?hs ?h1 rfl ?_
                                  case hs => (first | exact hos3)
                                  case h1 => (first | omega | (simp; omega))
                                  exact WO.nil ⟨rfl, rfl⟩
                                refine' DT.r rfl rfl rfl ?hq ?_
                                case hq =>
                                  refine WO.field0 rfl rfl rfl ?_
                                  exact WO.nil ⟨rfl, rfl⟩
                                refine' DT.f [_, _, _] rfl rfl rfl rfl ?hq ?_
                                case hq =>
                                  refine' WO.load (v := _) rfl rfl ?hc rfl ?_
                                  case hc => (first | (refine owP_cell0 (e := 51) (k := k) (xs := m) (x := (m.getD k (0, 0)).1) ?_ (by omega) rfl; exact (by repeat (first | exact Sub.nil | refine Sub.cons (by repeat (first | exact Pick.head | apply Pick.tail)) ?_))))
                                  exact WO.nil ⟨rfl, rfl⟩
                                refine' DT.r rfl rfl rfl ?hq ?_
                                case hq =>
                                  refine WO.p rfl rfl ?_
                                  exact WO.nil ⟨rfl, rfl⟩
                                refine' DT.r rfl rfl rfl ?hq ?_
                                case hq =>
                                  refine WO.p rfl rfl ?_
                                  exact WO.nil ⟨rfl, rfl⟩
                                refine' DT.r rfl rfl rfl ?hq ?_
                                case hq =>
                                  refine' WO.indexAddr (n := _) (i := _) rfl rfl rfl ?hs ?h1 rfl ?_
                                  case hs => (first | exact hsl)
                                  case h1 => (first | omega | (simp; omega))
                                  exact WO.nil ⟨rfl, rfl⟩
                                refine' DT.b rfl rfl rfl ?hq ?_
                                case hq =>
                                  refine' WO.load (v := _) rfl rfl ?hc rfl ?_
                                  case hc => (first | (refine OwC.cell1g (e := 25) (n := (lin l).length) (cs := rv) (u := rv.getD i undef) ?_ (getD_some (by omega) _); exact (by repeat (first | exact Sub.nil | refine Sub.cons (by repeat (first | exact Pick.head | apply Pick.tail)) ?_))))
                                  exact WO.nil ⟨rfl, rfl⟩
                                refine' DT.r rfl rfl rfl ?hq ?_
                                case hq =>
                                  refine WO.p rfl rfl ?_
                                  exact WO.nil ⟨rfl, rfl⟩
                                refine' DT.r rfl rfl rfl ?hq ?_
                                case hq =>
                                  refine' WO.indexAddr (n := _) (i := _) rfl rfl rfl ?hs ?h1 rfl ?_
                                  case hs => (first | exact hrs)
                                  case h1 => (first | omega | (simp; omega))
                                  exact WO.nil ⟨rfl, rfl⟩
                                refine' DT.b rfl rfl rfl ?hq ?_
                                case hq =>
                                  refine' WO.load (v := _) rfl rfl ?hc rfl ?_
                                  case hc => (first | (refine rowS_cell (e := 2) (i := i) (k := k) (rv := rv) (xss := lin l) (x := x.getD k 0) ?_ (by omega) (by rw [← hx]; omega) (by rw [← hx]); exact (by repeat (first | exact Sub.nil | refine Sub.cons (by repeat (first | exact Pick.head | apply Pick.tail)) ?_))))
                                  exact WO.nil ⟨rfl, rfl⟩
                                refine' DT.r rfl rfl rfl ?hq ?_
                                case hq =>
                                  refine WO.min2 rfl rfl rfl ?_
                                  exact WO.nil ⟨rfl, rfl⟩
                                refine' DT.r rfl rfl rfl ?hq ?_
                                case hq =>
                                  refine WO.p rfl rfl ?_
                                  exact WO.nil ⟨rfl, rfl⟩
                                refine' DT.r rfl rfl rfl ?hq ?_
                                case hq =>
                                  refine WO.p rfl rfl ?_
                                  exact WO.nil ⟨rfl, rfl⟩
                                refine' DT.r rfl rfl rfl ?hq ?_
                                case hq =>
                                  refine' WO.indexAddr (n := _) (i := _) rfl rfl rfl ?hs ?h1 rfl ?_
                                  case hs => (first | exact hos3)
                                  case h1 => (first | omega | (simp; omega))
                                  exact WO.nil ⟨rfl, rfl⟩
                                refine' DT.r rfl rfl rfl ?hq ?_
                                case hq =>
                                  refine WO.field rfl rfl rfl ?_
                                  exact WO.nil ⟨rfl, rfl⟩
                                refine' DT.f [_, _, _] rfl rfl rfl rfl ?hq ?_
                                case hq =>
                                  refine' WO.load (v := _) rfl rfl ?hc rfl ?_
                                  case hc => (first | (refine owP_cell1 (e := 51) (k := k) (xs := m) (x := (m.getD k (0, 0)).2) ?_ (by omega) rfl; exact (by repeat (first | exact Sub.nil | refine Sub.cons (by repeat (first | exact Pick.head | apply Pick.tail)) ?_))))
                                  exact WO.nil ⟨rfl, rfl⟩
                                refine' DT.r rfl rfl rfl ?hq ?_
                                case hq =>
                                  refine WO.p rfl rfl ?_
                                  exact WO.nil ⟨rfl, rfl⟩
                                refine' DT.r rfl rfl rfl ?hq ?_
                                case hq =>
                                  refine WO.p rfl rfl ?_
                                  exact WO.nil ⟨rfl, rfl⟩
                                refine' DT.r rfl rfl rfl ?hq ?_
                                case hq =>
                                  refine' WO.indexAddr (n := _) (i := _) rfl rfl rfl ?hs ?h1 rfl ?_
                                  case hs => (first | exact hsl)
                                  case h1 => (first | omega | (simp; omega))
                                  exact WO.nil ⟨rfl, rfl⟩
                                refine' DT.b rfl rfl rfl ?hq ?_
                                case hq =>
                                  refine' WO.load (v := _) rfl rfl ?hc rfl ?_
                                  case hc => (first | (refine OwC.cell1g (e := 25) (n := (lin l).length) (cs := rv) (u := rv.getD i undef) ?_ (getD_some (by omega) _); exact (by repeat (first | exact Sub.nil | refine Sub.cons (by repeat (first | exact Pick.head | apply Pick.tail)) ?_))))
                                  exact WO.nil ⟨rfl, rfl⟩
                                refine' DT.r rfl rfl rfl ?hq ?_
                                case hq =>
                                  refine WO.p rfl rfl ?_
                                  exact WO.nil ⟨rfl, rfl⟩
                                refine' DT.r rfl rfl rfl ?hq ?_
                                case hq =>
                                  refine' WO.indexAddr (n := _) (i := _) rfl rfl rfl ?hs ?h1 rfl ?_
                                  case hs => (first | exact hrs)
                                  case h1 => (first | omega | (simp; omega))
                                  exact WO.nil ⟨rfl, rfl⟩
                                refine' DT.b rfl rfl rfl ?hq ?_
                                case hq =>
                                  refine' WO.load (v := _) rfl rfl ?hc rfl ?_
                                  case hc => (first | (refine rowS_cell (e := 2) (i := i) (k := k) (rv := rv) (xss := lin l) (x := x.getD k 0) ?_ (by omega) (by rw [← hx]; omega) (by rw [← hx]); exact (by repeat (first | exact Sub.nil | refine Sub.cons (by repeat (first | exact Pick.head | apply Pick.tail)) ?_))))
                                  exact WO.nil ⟨rfl, rfl⟩
                                refine' DT.r rfl rfl rfl ?hq ?_
                                case hq =>
                                  refine WO.max2 rfl rfl rfl ?_
                                  exact WO.nil ⟨rfl, rfl⟩
                                refine' DT.r rfl rfl rfl ?hq ?_
                                case hq =>
                                  refine' WO.build (cs := _) rfl rfl rfl ?hf rfl ?_
                                  case hf => (conv => lhs; simp [-List.getD_eq_getElem?_getD, fillL, vcl, wrl, TTab.pl?.lget']) <;> rfl
                                  exact WO.nil ⟨rfl, rfl⟩
                                refine DT.nil [_, _, _] rfl ?_
                                refine' WO.indexAddr (n := _) (i := _) rfl rfl rfl ?hs ?h1 rfl ?_
                                case hs => (first | exact hos3)
                                case h1 => (first | omega | (simp; omega))
                                refine WO.storeEN (n := (min (m.getD k (0, 0)).1 (x.getD k 0), max (m.getD k (0, 0)).2 (x.getD k 0))) (i := k) encP_ok rfl rfl rfl rfl (by repeat (first | exact Pick.head | apply Pick.tail)) (by omega) ?_
                                refine WO.nil ?_
                                refine W.region ?_
                                refine WO.p rfl rfl (WO.ar rfl rfl rfl (by (first | (unfold in64; omega) | (unfold in64; omega))) rfl (WO.p rfl rfl ?_))
                                refine WO.nil ?_
                                refine' ⟨k + 1, _, _, ?hp, ?hmu, ⟨rfl, rfl, rfl, rfl, rfl, trivial⟩, ?hS⟩
                                case hS => repeat (first | exact Sub.nil | refine Sub.cons (by repeat (first | exact Pick.head | apply Pick.tail)) ?_)
                                case hp => exact ⟨by omega, mg_next hm (by omega)⟩
                                case hmu => omega)
                           · first
                             | (exfalso; omega)
                             | (refine W.exit (blk_same ?_)
                                refine W.region ?_
                                refine WO.p rfl rfl (WO.ar rfl rfl rfl (by (first | (unfold in64; omega) | (unfold in64; omega))) rfl (WO.p rfl rfl ?_))
                                refine WO.nil ?_
                                refine' ⟨i + 1, _, _, ?hp, ?hmu, ⟨rfl, rfl, rfl, rfl, trivial⟩, ?hS⟩
                                case hS => repeat (first | exact Sub.nil | refine Sub.cons (by repeat (first | exact Pick.head | apply Pick.tail)) ?_)
                                case hp => first | exact ⟨by omega, by rw [rsL_succ (by omega), ← ho, ← hx]; exact (rsS_skip (by omega)).symm, hnil, hol⟩ | (have hm2 : m = rsL l ch (i + 1) := (by rw [rsL_succ (by omega), ← ho, ← hx, rsS_bas (by omega), hm, show k = x.length by omega]); exact ⟨by omega, hm2, fun e => absurd e (by rw [hm, mgTo_len]; omega), .inr (by rw [hm, mgTo_len]; omega)⟩)
                                case hmu => omega))))
            · first
              | (exfalso; omega)
              | (refine W.exit (blk_same ?_)
                 refine W.seq ?_
                 obtain rfl : i = (lin l).length := by omega
                 refine W.fact (OwE.form (enc := encP) (e := 51) (sz := 2) (v := ov) (by repeat (first | exact Pick.head | apply Pick.tail))) (fun hof => ?_)
                 obtain ⟨oa, oc, hov⟩ := hof
                 refine W.fact (OwE.sl (enc := encP) (e := 51) (sz := 2) (v := ov) (by repeat (first | exact Pick.head | apply Pick.tail))) (fun hosl => ?_)
                 have hnn := isNone_0 hov (fun h => hnil h) hosl
                 refine W.sreg ?_
                 refine WO.p rfl rfl ?_
                 refine WO.eqT (u := ov) rfl rfl (by rw [hov]; exact nil22 _ _ _) rfl ?_
                 refine WO.nil ?_
                 refine W.cond rfl (fun c9 => ?_) (fun c9 => ?_)
                 · first
                   | (exfalso; omega)
                   | (refine W.sreg ?_
                      refine WO.p rfl rfl (WO.p rfl rfl ?_)
                      refine WO.nil ?_
                      refine W.ret ?_
                      first | (have e1 := rpE_bad (ch := ch) (show chkF l t ≠ 0 by assumption); have e2 : rpL l t ch = [] := rpL_ne (by rw [e1]; assumption); rw [e1, e2]; exact fin.ret (Res.two rfl (RV.tmp rfl) (RV.tmp rfl)) ⟨_, rfl, fun h hs => Sub.sat (.cons .head .nil) (owNil (enc := encP) (e := 51) (sz := 2) h hs)⟩) | (have e1 := rpE_neg (t := t) (show ¬ chkF l t ≠ 0 by omega) (show ch < 0 by omega); have e2 : rpL l t ch = [] := rpL_ne (by rw [e1]; omega); rw [e1, e2]; exact fin.ret (Res.two rfl (RV.tmp rfl) (RV.tmp rfl)) ⟨_, rfl, fun h hs => Sub.sat (.cons .head .nil) (owNil (enc := encP) (e := 51) (sz := 2) h hs)⟩) | (have q0 := hnn.1 (by assumption); have e1 := rpE_17 (l := l) (t := t) (ch := ch) (by omega) (by omega) (by rw [← ho]; exact q0); have e2 : rpL l t ch = [] := rpL_ne (by rw [e1]; omega); rw [e1, e2]; exact fin.ret (Res.two rfl (RV.tmp rfl) (RV.tmp rfl)) ⟨_, rfl, fun h hs => Sub.sat (.cons .head .nil) (owNil (enc := encP) (e := 51) (sz := 2) h hs)⟩) | (have q9 : oa.isNone = false := (by assumption); have q0 : ¬ o.length = 0 := (fun e => by rw [hnn.2 e] at q9; cases q9); have e1 := rpE_0 (l := l) (t := t) (ch := ch) (by omega) (by omega) (by rw [← ho]; exact q0); have e2 := rpL_0 e1; rw [e1, e2, ← ho]; exact fin.ret (Res.two rfl (RV.tmp rfl) (RV.tmp rfl)) ⟨_, rfl, fun h hs => Sub.sat (.cons (by repeat (first | exact Pick.head | apply Pick.tail)) .nil) hs⟩))
                 · first
                   | (exfalso; omega)
                   | (refine W.skip ?_
                      refine W.sreg ?_
                      refine WO.p rfl rfl (WO.p rfl rfl (WO.p rfl rfl ?_))
                      refine WO.nil ?_
                      refine W.ret ?_
                      first | (have e1 := rpE_bad (ch := ch) (show chkF l t ≠ 0 by assumption); have e2 : rpL l t ch = [] := rpL_ne (by rw [e1]; assumption); rw [e1, e2]; exact fin.ret (Res.two rfl (RV.tmp rfl) (RV.tmp rfl)) ⟨_, rfl, fun h hs => Sub.sat (.cons .head .nil) (owNil (enc := encP) (e := 51) (sz := 2) h hs)⟩) | (have e1 := rpE_neg (t := t) (show ¬ chkF l t ≠ 0 by omega) (show ch < 0 by omega); have e2 : rpL l t ch = [] := rpL_ne (by rw [e1]; omega); rw [e1, e2]; exact fin.ret (Res.two rfl (RV.tmp rfl) (RV.tmp rfl)) ⟨_, rfl, fun h hs => Sub.sat (.cons .head .nil) (owNil (enc := encP) (e := 51) (sz := 2) h hs)⟩) | (have q0 := hnn.1 (by assumption); have e1 := rpE_17 (l := l) (t := t) (ch := ch) (by omega) (by omega) (by rw [← ho]; exact q0); have e2 : rpL l t ch = [] := rpL_ne (by rw [e1]; omega); rw [e1, e2]; exact fin.ret (Res.two rfl (RV.tmp rfl) (RV.tmp rfl)) ⟨_, rfl, fun h hs => Sub.sat (.cons .head .nil) (owNil (enc := encP) (e := 51) (sz := 2) h hs)⟩) | (have q9 : oa.isNone = false := (by assumption); have q0 : ¬ o.length = 0 := (fun e => by rw [hnn.2 e] at q9; cases q9); have e1 := rpE_0 (l := l) (t := t) (ch := ch) (by omega) (by omega) (by rw [← ho]; exact q0); have e2 := rpL_0 e1; rw [e1, e2, ← ho]; exact fin.ret (Res.two rfl (RV.tmp rfl) (RV.tmp rfl)) ⟨_, rfl, fun h hs => Sub.sat (.cons (by repeat (first | exact Pick.head | apply Pick.tail)) .nil) hs⟩)))))
end Go.Proofs.Ytpecakgebhmnfaa
namespace Go.Proofs.Ytpecakgebhmnfaa
open Go Go.TH
set_option maxRecDepth 10000
set_option maxHeartbeats 1000000
/-- the span of what lines have at a spot -/
def Spn (S : List Int → Prop) (i : Nat) (p : Int × Int) : Prop := (∀ x, S x → p.1 ≤ x.getD i 0 ∧ x.getD i 0 ≤ p.2) ∧ (∃ x, S x ∧ x.getD i 0 = p.1) ∧ ∃ x, S x ∧ x.getD i 0 = p.2
theorem Spn.unique {S : List Int → Prop} {i : Nat} {p q : Int × Int} (h : Spn S i p) (g : Spn S i q) : p = q := by
  obtain ⟨h1, ⟨a, ha, ea⟩, b, hb, eb⟩ := h
  obtain ⟨g1, ⟨c, hc, ec⟩, d, hd, ed⟩ := g
  have a1 := g1 a ha
  have b1 := g1 b hb
  have c1 := h1 c hc
  have d1 := h1 d hd
  exact Prod.ext (by omega) (by omega)
theorem Spn.congr {S S' : List Int → Prop} {i : Nat} {p : Int × Int} (h : Spn S i p) (e : ∀ x, S x ↔ S' x) : Spn S' i p :=
  ⟨fun x hx => h.1 x ((e x).2 hx), by obtain ⟨x, hx, g⟩ := h.2.1; exact ⟨x, (e x).1 hx, g⟩, by obtain ⟨x, hx, g⟩ := h.2.2; exact ⟨x, (e x).1 hx, g⟩⟩
/-- the lines within spots with few changes -/
def Few (l : Prs) (ch : Int) (x : List Int) : Prop := InS l x ∧ (chL x : Int) ≤ ch
theorem fl_spec (ok : Nat → Prop) [DecidablePred ok] : ∀ n, ((∀ k, k < n → ¬ ok k) ∧ fl ok n = (-1, -1)) ∨ ∃ a b : Nat, fl ok n = ((a : Int), (b : Int)) ∧ ok a ∧ ok b ∧ a < n ∧ b < n ∧ ∀ k, k < n → ok k → a ≤ k ∧ k ≤ b
  | 0 => .inl ⟨fun k h => by omega, rfl⟩
  | n + 1 => by
    by_cases h : ok n
    · rcases fl_spec ok n with ⟨h1, h2⟩ | ⟨a, b, h2, h3, h4, h5, h6, h7⟩
      · refine .inr ⟨n, n, fl_yes1 h (by rw [h2]; decide), h, h, by omega, by omega, fun k hk hok => ?_⟩
        rcases Nat.lt_or_ge k n with g | g
        · exact absurd hok (h1 k g)
        · omega
      · refine .inr ⟨a, n, by rw [fl_yes2 h (by rw [h2]; simp only; omega), h2], h3, h, by omega, by omega, fun k hk hok => ?_⟩
        rcases Nat.lt_or_ge k n with g | g
        · have := h7 k g hok; omega
        · omega
    · rw [fl_no h]
      rcases fl_spec ok n with ⟨h1, h2⟩ | ⟨a, b, h2, h3, h4, h5, h6, h7⟩
      · refine .inl ⟨fun k hk => ?_, h2⟩
        rcases Nat.lt_or_ge k n with g | g
        · exact h1 k g
        · rw [show k = n by omega]; exact h
      · refine .inr ⟨a, b, h2, h3, h4, by omega, by omega, fun k hk hok => ?_⟩
        rcases Nat.lt_or_ge k n with g | g
        · exact h7 k g hok
        · rw [show k = n by omega] at hok; exact absurd hok h
theorem costG_ch (x : List Int) : costG 0 1 x = (chL x : Int) := by unfold costG; omega
theorem bestC_le {l : Prs} {ch : Int} (hg : OkS l) (hn : 1 ≤ l.length) : bestC 0 1 l ≤ ch ↔ ∃ x, Few l ch x := by
  have h := best_fm (B := 0) (T := 1) hg hn
  rw [← h.2, costG_ch]
  constructor
  · intro g; exact ⟨_, mem_lin.1 h.1.mem, g⟩
  · rintro ⟨x, hx, g⟩
    have := h.1.le x (mem_lin.2 hx)
    rw [costG_ch, costG_ch] at this
    omega
theorem InS_set {l : Prs} {x : List Int} {i : Nat} {y : Int} (hi : i < l.length) (hy : (l.getD i (0, 0)).1 ≤ y ∧ y ≤ (l.getD i (0, 0)).2) : InS (l.set i (y, y)) x ↔ InS l x ∧ x.getD i 0 = y := by
  constructor
  · rintro ⟨h1, h2⟩
    rw [List.length_set] at h1 h2
    have e := h2 i hi
    rw [getD_setP hi, if_pos rfl] at e
    refine ⟨⟨h1, fun j hj => ?_⟩, by simp only at e; omega⟩
    have := h2 j hj
    rw [getD_setP hj] at this
    by_cases g : i = j
    · subst g; rw [if_pos rfl] at this; simp only at this; omega
    · rw [if_neg g] at this; exact this
  · rintro ⟨⟨h1, h2⟩, h3⟩
    refine ⟨by rw [List.length_set]; exact h1, fun j hj => ?_⟩
    rw [List.length_set] at hj
    rw [getD_setP hj]
    by_cases g : i = j
    · subst g; rw [if_pos rfl]; simp only; omega
    · rw [if_neg g]; exact h2 j hj
theorem okK_iff {l : Prs} {ch : Int} (hg : OkS l) {i k : Nat} (hi : i < l.length) (hk : k < wid (l.getD i (0, 0))) : okK l ch i k ↔ ∃ x, Few l ch x ∧ x.getD i 0 = (l.getD i (0, 0)).1 + (k : Int) := by
  have hgi := hg _ (getD_mem hi (0, 0))
  have hw := wid_ok hgi
  unfold OkG at hgi
  unfold okK
  rw [bestC_le (OkS.set hg (by omega)) (by rw [List.length_set]; omega)]
  unfold Few
  constructor
  · rintro ⟨x, h1, h2⟩
    rw [InS_set hi (by omega)] at h1
    exact ⟨x, ⟨h1.1, h2⟩, h1.2⟩
  · rintro ⟨x, ⟨h1, h2⟩, h3⟩
    exact ⟨x, (InS_set hi (by omega)).2 ⟨h1, h3⟩, h2⟩
theorem Few.ix {l : Prs} {ch : Int} (hg : OkS l) {x : List Int} (h : Few l ch x) {i : Nat} (hi : i < l.length) : ∃ k : Nat, k < wid (l.getD i (0, 0)) ∧ x.getD i 0 = (l.getD i (0, 0)).1 + (k : Int) ∧ okK l ch i k := by
  have hgi := hg _ (getD_mem hi (0, 0))
  have hw := wid_ok hgi
  have hx := h.1.2 i hi
  refine ⟨(x.getD i 0 - (l.getD i (0, 0)).1).toNat, by omega, by omega, ?_⟩
  rw [okK_iff hg hi (by omega)]
  exact ⟨x, h, by omega⟩
theorem flI_spec {l : Prs} {ch : Int} (hg : OkS l) {i : Nat} (hi : i < l.length) : ((¬ ∃ x, Few l ch x) ∧ (flI l ch i).1 < 0) ∨ (0 ≤ (flI l ch i).1 ∧ Spn (Few l ch) i ((l.getD i (0, 0)).1 + (flI l ch i).1, (l.getD i (0, 0)).1 + (flI l ch i).2)) := by
  rcases fl_spec (okK l ch i) (wid (l.getD i (0, 0))) with ⟨h1, h2⟩ | ⟨a, b, h2, h3, h4, h5, h6, h7⟩
  · refine .inl ⟨fun ⟨x, hx⟩ => ?_, by unfold flI; rw [h2]; decide⟩
    obtain ⟨k, hk, _, ho⟩ := hx.ix hg hi
    exact h1 k hk ho
  · refine .inr ⟨by unfold flI; rw [h2]; simp only; omega, ?_⟩
    unfold flI
    rw [h2]
    refine ⟨fun x hx => ?_, ?_, ?_⟩
    · obtain ⟨k, hk, e, ho⟩ := hx.ix hg hi
      have := h7 k hk ho
      simp only; omega
    · exact (okK_iff hg hi h5).1 h3
    · exact (okK_iff hg hi h6).1 h4
theorem AllF_iff {l : Prs} {ch : Int} (hg : OkS l) (hn : 1 ≤ l.length) : AllF l ch l.length ↔ ∃ x, Few l ch x := by
  constructor
  · intro h
    have h0 := h 0 (by omega)
    rcases flI_spec (ch := ch) hg (show 0 < l.length by omega) with ⟨_, g⟩ | ⟨_, g⟩
    · omega
    · obtain ⟨x, hx, _⟩ := g.2.1; exact ⟨x, hx⟩
  · intro h i hi
    rcases flI_spec (ch := ch) hg hi with ⟨g, _⟩ | ⟨g, _⟩
    · exact absurd h g
    · exact g
theorem oneL_getD {x : List Int} {i : Nat} (h : i < x.length) : (oneL x).getD i (0, 0) = (x.getD i 0, x.getD i 0) := by
  unfold oneL
  simp [List.getD_eq_getElem?_getD, List.getElem?_map, List.getElem?_eq_getElem h]
theorem rsL_spec {l : Prs} {ch : Int} (hl1 : 1 ≤ l.length) : ∀ n, n ≤ (lin l).length → ((∀ j, j < n → ¬ Few l ch ((lin l).getD j [])) ∧ rsL l ch n = []) ∨ ((rsL l ch n).length = l.length ∧ ∃ j, j < n ∧ Few l ch ((lin l).getD j []) ∧ ∀ i, i < l.length → Spn (fun x => ∃ j, j < n ∧ x = (lin l).getD j [] ∧ Few l ch x) i ((rsL l ch n).getD i (0, 0)))
  | 0, _ => .inl ⟨fun j h => by omega, rfl⟩
  | n + 1, hn => by
    have hin := lin_get (l := l) (i := n) (by omega)
    have ih := rsL_spec (l := l) (ch := ch) hl1 n (by omega)
    rw [rsL_succ (by omega)]
    obtain ⟨x, hx⟩ : ∃ x, x = (lin l).getD n [] := ⟨_, rfl⟩
    rw [← hx] at hin ⊢
    have hxl : x.length = l.length := hin.1
    by_cases c : ch < (chL x : Int)
    · have hnf : ¬ Few l ch x := fun h => by have := h.2; omega
      rw [rsS_skip c]
      rcases ih with ⟨h1, h2⟩ | ⟨h1, j, hj, h2, h3⟩
      · refine .inl ⟨fun j hj => ?_, h2⟩
        rcases Nat.lt_or_ge j n with g | g
        · exact h1 j g
        · rw [show j = n by omega, ← hx]; exact hnf
      · refine .inr ⟨h1, j, by omega, h2, fun i hi => (h3 i hi).congr fun y => ⟨fun ⟨k, hk, e, f⟩ => ⟨k, by omega, e, f⟩, fun ⟨k, hk, e, f⟩ => ⟨k, ?_, e, f⟩⟩⟩
        rcases Nat.lt_or_ge k n with g | g
        · exact g
        · rw [show k = n by omega, ← hx] at e; subst e; exact absurd f hnf
    · have hf : Few l ch x := ⟨hin, by omega⟩
      rw [rsS_bas c]
      rcases ih with ⟨h1, h2⟩ | ⟨h1, j, hj, h2, h3⟩
      · rw [h2, bas_0 rfl]
        refine .inr ⟨by rw [mgTo_len, oneL_len, hxl], n, by omega, by rw [← hx]; exact hf, fun i hi => ?_⟩
        rw [mgTo_getD (by rw [oneL_len]; omega), if_pos (by omega), oneL_getD (by omega)]
        refine ⟨fun y hy => ?_, ⟨x, ⟨n, by omega, hx, hf⟩, ?_⟩, ⟨x, ⟨n, by omega, hx, hf⟩, ?_⟩⟩
        · obtain ⟨k, hk, e, f⟩ := hy
          rcases Nat.lt_or_ge k n with g | g
          · rw [e] at f; exact absurd f (h1 k g)
          · rw [show k = n by omega, ← hx] at e; subst e; simp only; omega
        · simp only; omega
        · simp only; omega
      · rw [bas_1 (by omega)]
        refine .inr ⟨by rw [mgTo_len]; exact h1, n, by omega, by rw [← hx]; exact hf, fun i hi => ?_⟩
        have hs := h3 i hi
        rw [mgTo_getD (by omega), if_pos (by omega)]
        obtain ⟨p, hp⟩ : ∃ p, p = (rsL l ch n).getD i (0, 0) := ⟨_, rfl⟩
        rw [← hp] at hs ⊢
        obtain ⟨s1, ⟨a, ⟨ja, ha1, ha2, ha3⟩, ea⟩, b, ⟨jb, hb1, hb2, hb3⟩, eb⟩ := hs
        refine ⟨fun y hy => ?_, ?_, ?_⟩
        · obtain ⟨k, hk, e, f⟩ := hy
          rcases Nat.lt_or_ge k n with g | g
          · have := s1 y ⟨k, g, e, f⟩; simp only; omega
          · rw [show k = n by omega, ← hx] at e; subst e; simp only; omega
        · by_cases q : p.1 ≤ x.getD i 0
          · exact ⟨a, ⟨ja, by omega, ha2, ha3⟩, by simp only; omega⟩
          · exact ⟨x, ⟨n, by omega, hx, hf⟩, by simp only; omega⟩
        · by_cases q : x.getD i 0 ≤ p.2
          · exact ⟨b, ⟨jb, by omega, hb2, hb3⟩, by simp only; omega⟩
          · exact ⟨x, ⟨n, by omega, hx, hf⟩, by simp only; omega⟩
theorem few_at {l : Prs} {ch : Int} {x : List Int} : Few l ch x ↔ ∃ j, j < (lin l).length ∧ x = (lin l).getD j [] ∧ Few l ch x := by
  constructor
  · intro h
    obtain ⟨j, hj, e⟩ := List.mem_iff_getElem.1 (mem_lin.2 h.1)
    refine ⟨j, hj, ?_, h⟩
    rw [List.getD_eq_getElem?_getD, List.getElem?_eq_getElem hj, ← e]; rfl
  · rintro ⟨_, _, _, h⟩; exact h
theorem rs_all {l : Prs} {ch : Int} (hn : 1 ≤ l.length) : ((¬ ∃ x, Few l ch x) ∧ rsL l ch (lin l).length = []) ∨ ((∃ x, Few l ch x) ∧ (rsL l ch (lin l).length).length = l.length ∧ ∀ i, i < l.length → Spn (Few l ch) i ((rsL l ch (lin l).length).getD i (0, 0))) := by
  rcases rsL_spec (l := l) (ch := ch) hn _ (Nat.le_refl _) with ⟨h1, h2⟩ | ⟨h1, j, hj, h2, h3⟩
  · refine .inl ⟨fun ⟨x, hx⟩ => ?_, h2⟩
    obtain ⟨j, hj, e, _⟩ := few_at.1 hx
    exact h1 j hj (by rw [← e]; exact hx)
  · exact .inr ⟨⟨_, h2⟩, h1, fun i hi => (h3 i hi).congr fun x => few_at.symm⟩
theorem out_rs {l : Prs} {ch : Int} (hg : OkS l) (hn : 1 ≤ l.length) (hx : ∃ x, Few l ch x) : outL l ch l.length = rsL l ch (lin l).length := by
  rcases rs_all (l := l) (ch := ch) hn with ⟨h, _⟩ | ⟨_, h1, h2⟩
  · exact absurd hx h
  · refine ext_getD (0, 0) (by rw [outL_len, h1]) fun i hi => ?_
    rw [outL_len] at hi
    rcases flI_spec (ch := ch) hg hi with ⟨g, _⟩ | ⟨_, g⟩
    · exact absurd hx g
    · have e : (outL l ch l.length).getD i (0, 0) = ((l.getD i (0, 0)).1 + (flI l ch i).1, (l.getD i (0, 0)).1 + (flI l ch i).2) := by
        unfold outL
        rw [List.getD_eq_getElem?_getD, List.getElem?_map, List.getElem?_range hi]; rfl
      rw [e]
      exact g.unique (h2 i hi)
theorem sp_rp (l : Prs) (t ch : Int) : spE l t ch = rpE l t ch ∧ spL l t ch = rpL l t ch := by
  by_cases h : chkF l t = 0
  · have hcf := chkF0.1 h
    by_cases g : ch < 0
    · have e1 := spE_neg (t := t) (show ¬ chkF l t ≠ 0 by omega) g
      have e2 := rpE_neg (t := t) (show ¬ chkF l t ≠ 0 by omega) g
      exact ⟨by rw [e1, e2], by rw [spL_ne (by omega), rpL_ne (by omega)]⟩
    · by_cases k : ∃ x, Few l ch x
      · have e1 := spE_0 h g ((AllF_iff hcf.2.2 hcf.1.1).2 k)
        have e2 : rpE l t ch = 0 := by
          rcases rs_all (l := l) (ch := ch) hcf.1.1 with ⟨q, _⟩ | ⟨_, q, _⟩
          · exact absurd k q
          · exact rpE_0 h g (by omega)
        exact ⟨by rw [e1, e2], by rw [spL_0 e1, rpL_0 e2]; exact out_rs hcf.2.2 hcf.1.1 k⟩
      · have e1 := spE_17 h g (fun q => k ((AllF_iff hcf.2.2 hcf.1.1).1 q))
        have e2 : rpE l t ch = 17 := by
          rcases rs_all (l := l) (ch := ch) hcf.1.1 with ⟨_, q⟩ | ⟨q, _⟩
          · exact rpE_17 h g (by rw [q]; rfl)
          · exact absurd q k
        exact ⟨by rw [e1, e2], by rw [spL_ne (by omega), rpL_ne (by omega)]⟩
  · have e1 := spE_bad (ch := ch) h
    have e2 := rpE_bad (ch := ch) h
    exact ⟨by rw [e1, e2], by rw [spL_ne (by omega), rpL_ne (by omega)]⟩
end Go.Proofs.Ytpecakgebhmnfaa
namespace Go.Proofs.Ytpecakgebhmnfaa
open Go Go.TH
attribute [local irreducible] W WO pt
set_option maxRecDepth 10000
set_option maxHeartbeats 1000000
theorem law_FairSpreads (w : World) (o : Value) (l : List (Int × Int)) (t ch : Int) (hR : RdF encP 2 w.heap.size w o l) (hc : CapS o l.length) : Ret Try.prog 6 [.agg #[o, .int .i64 t], .int .i64 ch].toArray w (.bool true) := by
  refine Ret.of mixed tyTab Try.func6 rfl rfl ?_
  replace hR : RdF encP 2 (fnCx mixed tyTab Try.f6.ntmps w).B (fnCx mixed tyTab Try.f6.ntmps w).w0 o l := hR
  have hoc := hR.sl.oc
  have hfr := sp_rp l t ch
  refine W.sreg ?_
  refine WO.boxA rfl rfl (fun b1 hb1 => ?_)
  refine WO.p rfl rfl ?_
  refine WO.nil ?_
  refine W.seq ?_
  refine W.sreg ?_
  refine WO.loadA rfl rfl (Cells.own Pick.head) rfl rfl ?_
  refine WO.callR rfl Try.call20 (fun L w hi => law_large w o l t (hR.later hi)) rfl ?_
  refine WO.nil ?_
  refine W.cond_bl rfl (fun c1 => ?_) (fun c1 => ?_)
  · first
    | (exfalso; omega)
    | (refine W.sreg ?_
       refine WO.callR rfl Try.call13 (fun L w hi => l_Works w) rfl ?_
       refine WO.p rfl rfl ?_
       refine WO.nil ?_
       refine W.ret ?_
       exact fin.ret (Res.one rfl (RV.tmp rfl)) rfl)
  · first
    | (exfalso; omega)
    | (refine W.skip ?_
       refine W.sreg ?_
       refine WO.loadA rfl rfl (Cells.own Pick.head) rfl rfl (WO.p rfl rfl ?_)
       refine WO.call rfl Try.call29 (fun L w hi => c_Spread w o l t ch (hR.later hi) hc) rfl ?_
       rintro _ _ ⟨r1, rfl, rfl⟩
       refine WO.p rfl rfl (WO.p rfl rfl (WO.p rfl rfl (WO.p rfl rfl (WO.p rfl rfl ?_))))
       refine WO.nil ?_
       refine W.sreg ?_
       refine WO.loadA rfl rfl (Cells.own (Pick.tail (Pick.head))) rfl rfl (WO.p rfl rfl ?_)
       refine WO.call rfl Try.call30 (fun L w hi => ref_Spread w o l t ch (hR.later hi) (by assumption)) rfl ?_
       rintro _ _ ⟨r2, rfl, rfl⟩
       rw [← hfr.1, ← hfr.2]
       refine WO.p rfl rfl (WO.p rfl rfl (WO.p rfl rfl (WO.p rfl rfl (WO.p rfl rfl ?_))))
       refine WO.nil ?_
       refine W.sreg ?_
       refine WO.p rfl rfl (WO.p rfl rfl ?_)
       refine WO.callR (r := .bool true) rfl Try.call31 (fun L w hi => ranges_t (law_ranges w r1 r2 (spL l t ch) (spL l t ch) (RdF.of_ow (e := 51) encP_ok (by repeat (first | exact Pick.head | apply Pick.tail)) hi) (RdF.of_ow (e := 51) encP_ok (by repeat (first | exact Pick.head | apply Pick.tail)) hi)) rfl) rfl ?_
       refine WO.p rfl rfl (WO.pg rfl rfl rfl (WO.pg rfl rfl rfl (WO.pg rfl rfl rfl (WO.p rfl rfl (WO.p rfl rfl ?_)))))
       refine WO.guard_bl rfl rfl (fun c2 => ?_) (fun c2 => ?_)
       · first
         | (exfalso; omega)
         | (refine WO.go' rfl ?_
            refine WO.callR rfl Try.call13 (fun L w hi => l_Works w) rfl ?_
            refine WO.p rfl rfl (WO.p rfl rfl ?_)
            refine WO.nil ?_
            refine W.ret ?_
            exact fin.ret (Res.one rfl (RV.tmp rfl)) rfl)
       · first
         | (exfalso; omega)
         | (refine WO.no rfl rfl (WO.p rfl rfl (WO.p rfl rfl ?_))
            refine WO.nil ?_
            refine W.ret ?_
            exact fin.ret (Res.one rfl (RV.tmp rfl)) rfl))
end Go.Proofs.Ytpecakgebhmnfaa
