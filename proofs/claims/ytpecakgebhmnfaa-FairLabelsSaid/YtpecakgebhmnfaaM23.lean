/-
  What is proved here: the reference's states. Conditions: none; each contract states its own.
  What is proved here: whether a state leads to another one, as the reference tells. Conditions: none; each contract states its own.
  What is proved here: the reference's labels. Conditions: none; each contract states its own.
-/
import Derived.Test.YtpecakgebhmnfaaM5
set_option linter.unusedVariables false
set_option linter.unusedSimpArgs false
namespace Go.Proofs.Ytpecakgebhmnfaa
open Go Go.TH
attribute [local irreducible] W WO pt
set_option maxRecDepth 10000
set_option maxHeartbeats 1000000
theorem ref_States (w : World) (v : Value) (l : List (Int × Int)) (t : Int) (hR : RdF encP 2 w.heap.size w v l) (hg : OkS l) (h24 : l.length ≤ 24) (hn : 1 ≤ l.length) :
    Ct Try.prog 49 [.agg #[v, .int .i64 t]].toArray w fun r w' => ∃ Hq, (∃ x : Value, r = x ∧ Hq = [OwE encRs 87 4 x (allR l)]) ∧ Inv w [] Hq w' := by
  refine Ct.ofI (X := Value) (p := fun x r => r = x) (Hx := fun x => [OwE encRs 87 4 x (allR l)]) mixed tyTab Try.func49 rfl rfl ?_
  replace hR : RdF encP 2 (fnCx mixed tyTab Try.f49.ntmps w).B (fnCx mixed tyTab Try.f49.ntmps w).w0 v l := hR
  have hoc := hR.sl.oc
  have hle := hR.sl.le
  refine W.sreg ?_
  refine WO.boxA rfl rfl (fun b1 hb1 => ?_)
  refine WO.p rfl rfl ?_
  refine WO.nil ?_
  refine W.sreg ?_
  refine WO.p rfl rfl ?_
  refine WO.nil ?_
  refine W.seq ?_
  refine W.sreg ?_
  refine WO.p rfl rfl ?_
  refine WO.nil ?_
  refine W.block ?_
  refine W.chg (owcNil (e := 87) (sz := 4)) ?_
  refine W.loop2 (fun (i : Nat) (o : Value) => 1 ≤ i ∧ i ≤ l.length)
    (fun (i : Nat) (o : Value) => [(1, .pointer (some ⟨b1, 0, none⟩)), (3, o), (4, .int .i64 (i : Int))])
    (fun (i : Nat) (o : Value) => [pt b1 (.cells #[v, .int .i64 t] 24 (0, 0)), OwE encRs 87 4 o ((allTo l i).map (rsK l))])
    (fun (i : Nat) (o : Value) => l.length - i) 1 (.slice none 0 0)
    (by exact ⟨by omega, by omega⟩) ⟨rfl, rfl, rfl, trivial⟩ (by repeat (first | exact Sub.nil | refine Sub.cons (by repeat (first | exact Pick.head | apply Pick.tail)) ?_)) ?_
  rintro i o ⟨hi1, hi2⟩
  refine W.seq ?_
  refine W.sreg ?_
  refine WO.p rfl rfl (WO.field0 rfl rfl rfl (WO.load rfl rfl (Cell.own Pick.head rfl) rfl ?_))
  refine' WO.len (n := _) rfl rfl ?hs rfl ?_
  case hs => (first | exact hR.sl)
  refine WO.p rfl rfl ?_
  refine WO.nil ?_
  refine W.cond_bl rfl (fun c1 => ?_) (fun c1 => ?_)
  · first
    | (exfalso; omega)
    | (refine W.skip ?_
       refine W.seq ?_
       refine W.block ?_
       have g1 := hg _ (getD_mem (i := i - 1) (by omega) (0, 0))
       have g2 := hg _ (getD_mem (i := i) (by omega) (0, 0))
       have v1 := wid_ok g1
       have v2 := wid_ok g2
       have e1 : wid (l.getD (i - 1) (0, 0)) = w1 l i := rfl
       have e2 : wid (l.getD i (0, 0)) = w2 l i := rfl
       rw [e1] at v1
       rw [e2] at v2
       unfold OkG at g1 g2
       have hsl := allTo_len hg (i := i) (by omega)
       have hkl : (stK l i).length ≤ 75 := stK_le hg (by omega)
       refine W.sreg ?_
       refine WO.field0 rfl rfl rfl (WO.load rfl rfl (Cell.own Pick.head rfl) rfl (WO.p rfl rfl (WO.ar rfl rfl rfl (by (first | (unfold in64; omega) | (unfold in64; omega))) rfl ?_)))
       refine' WO.indexAddrZ (n := _) rfl rfl rfl ?hs ?h00 ?h1 rfl ?_
       case hs => (first | exact hR.sl)
       case h00 => omega
       case h1 => (first | omega | (simp; omega))
       refine WO.field0 rfl rfl rfl ?_
       refine' WO.load (v := _) rfl rfl ?hc rfl ?_
       case hc => (first | (refine RdF.loZ hR (i := i - 1) (by omega) ?_; omega))
       refine WO.p rfl rfl ?_
       refine WO.nil ?_
       refine W.block ?_
       rw [show allTo l i = allTo l i ++ (stK l i).take (0 * w2 l i * 3) by simp]
       refine W.loop3 (fun (a : Nat) (za : Int) (o : Value) => a ≤ w1 l i ∧ za = (l.getD (i - 1) (0, 0)).1 + (a : Int))
         (fun (a : Nat) (za : Int) (o : Value) => [(1, .pointer (some ⟨b1, 0, none⟩)), (3, o), (4, .int .i64 (i : Int)), (5, .int .i64 za)])
         (fun (a : Nat) (za : Int) (o : Value) => [pt b1 (.cells #[v, .int .i64 t] 24 (0, 0)), OwE encRs 87 4 o ((allTo l i ++ (stK l i).take (a * w2 l i * 3)).map (rsK l))])
         (fun (a : Nat) (za : Int) (o : Value) => w1 l i - a) 0 _ _
         (by exact ⟨Nat.zero_le _, by omega⟩) ⟨rfl, rfl, rfl, rfl, trivial⟩ (by repeat (first | exact Sub.nil | refine Sub.cons (by repeat (first | exact Pick.head | apply Pick.tail)) ?_)) ?_
       rintro a za o ⟨ha, rfl⟩
       refine W.seq ?_
       refine W.sreg ?_
       refine WO.p rfl rfl (WO.field0 rfl rfl rfl (WO.load rfl rfl (Cell.own Pick.head rfl) rfl (WO.p rfl rfl (WO.ar rfl rfl rfl (by (first | (unfold in64; omega) | (unfold in64; omega))) rfl ?_))))
       refine' WO.indexAddrZ (n := _) rfl rfl rfl ?hs ?h00 ?h1 rfl ?_
       case hs => (first | exact hR.sl)
       case h00 => omega
       case h1 => (first | omega | (simp; omega))
       refine WO.field rfl rfl rfl ?_
       refine' WO.load (v := _) rfl rfl ?hc rfl ?_
       case hc => (first | (refine RdF.hiZ hR (i := i - 1) (by omega) ?_; omega))
       refine WO.p rfl rfl ?_
       refine WO.nil ?_
       refine W.cond_bl rfl (fun c2 => ?_) (fun c2 => ?_)
       · first
         | (exfalso; omega)
         | (refine W.skip ?_
            refine W.seq ?_
            refine W.block ?_
            refine W.sreg ?_
            refine WO.field0 rfl rfl rfl (WO.load rfl rfl (Cell.own Pick.head rfl) rfl (WO.p rfl rfl ?_))
            refine' WO.indexAddr (n := _) (i := _) rfl rfl rfl ?hs ?h1 rfl ?_
            case hs => (first | exact hR.sl)
            case h1 => (first | omega | (simp; omega))
            refine WO.field0 rfl rfl rfl ?_
            refine' WO.load (v := _) rfl rfl ?hc rfl ?_
            case hc => (first | (refine RdF.loZ hR (i := i) (by omega) rfl))
            refine WO.p rfl rfl ?_
            refine WO.nil ?_
            refine W.block ?_
            rw [show a * w2 l i * 3 = (a * w2 l i + 0) * 3 by omega]
            refine W.loop3 (fun (b : Nat) (zb : Int) (o : Value) => b ≤ w2 l i ∧ zb = (l.getD i (0, 0)).1 + (b : Int))
              (fun (b : Nat) (zb : Int) (o : Value) => [(1, .pointer (some ⟨b1, 0, none⟩)), (3, o), (4, .int .i64 (i : Int)), (5, .int .i64 ((l.getD (i - 1) (0, 0)).1 + (a : Int))), (6, .int .i64 zb)])
              (fun (b : Nat) (zb : Int) (o : Value) => [pt b1 (.cells #[v, .int .i64 t] 24 (0, 0)), OwE encRs 87 4 o ((allTo l i ++ (stK l i).take ((a * w2 l i + b) * 3)).map (rsK l))])
              (fun (b : Nat) (zb : Int) (o : Value) => w2 l i - b) 0 _ _
              (by exact ⟨Nat.zero_le _, by omega⟩) ⟨rfl, rfl, rfl, rfl, rfl, trivial⟩ (by repeat (first | exact Sub.nil | refine Sub.cons (by repeat (first | exact Pick.head | apply Pick.tail)) ?_)) ?_
            rintro b zb o ⟨hb, rfl⟩
            refine W.seq ?_
            refine W.sreg ?_
            refine WO.p rfl rfl (WO.field0 rfl rfl rfl (WO.load rfl rfl (Cell.own Pick.head rfl) rfl (WO.p rfl rfl ?_)))
            refine' WO.indexAddr (n := _) (i := _) rfl rfl rfl ?hs ?h1 rfl ?_
            case hs => (first | exact hR.sl)
            case h1 => (first | omega | (simp; omega))
            refine WO.field rfl rfl rfl ?_
            refine' WO.load (v := _) rfl rfl ?hc rfl ?_
            case hc => (first | (refine RdF.hiZ hR (i := i) (by omega) rfl))
            refine WO.p rfl rfl ?_
            refine WO.nil ?_
            refine W.cond_bl rfl (fun c3 => ?_) (fun c3 => ?_)
            · first
              | (exfalso; omega)
              | (refine W.skip ?_
                 refine W.seq ?_
                 refine W.block ?_
                 refine W.sreg ?_
                 refine WO.p rfl rfl ?_
                 refine WO.nil ?_
                 refine W.block ?_
                 rw [show (a * w2 l i + b) * 3 = (a * w2 l i + b) * 3 + 0 from rfl]
                 refine W.loop2 (fun (s : Nat) (o : Value) => s ≤ 3)
                   (fun (s : Nat) (o : Value) => [(1, .pointer (some ⟨b1, 0, none⟩)), (3, o), (4, .int .i64 (i : Int)), (5, .int .i64 ((l.getD (i - 1) (0, 0)).1 + (a : Int))), (6, .int .i64 ((l.getD i (0, 0)).1 + (b : Int))), (7, .int .i64 (s : Int))])
                   (fun (s : Nat) (o : Value) => [pt b1 (.cells #[v, .int .i64 t] 24 (0, 0)), OwE encRs 87 4 o ((allTo l i ++ (stK l i).take ((a * w2 l i + b) * 3 + s)).map (rsK l))])
                   (fun (s : Nat) (o : Value) => 3 - s) 0 _
                   (by exact Nat.zero_le _) ⟨rfl, rfl, rfl, rfl, rfl, rfl, trivial⟩ (by repeat (first | exact Sub.nil | refine Sub.cons (by repeat (first | exact Pick.head | apply Pick.tail)) ?_)) ?_
                 rintro s o hs
                 refine W.seq ?_
                 refine W.sreg ?_
                 refine WO.p rfl rfl (WO.p rfl rfl ?_)
                 refine WO.nil ?_
                 refine W.cond_bl rfl (fun c4 => ?_) (fun c4 => ?_)
                 · first
                   | (exfalso; omega)
                   | (refine W.skip ?_
                      refine W.seq ?_
                      refine W.block ?_
                      refine W.region ?_
                      refine WO.p rfl rfl (WO.p rfl rfl (WO.p rfl rfl (WO.p rfl rfl (WO.p rfl rfl ?_))))
                      refine' WO.build (cs := _) rfl rfl rfl ?hf rfl ?_
                      case hf => (conv => lhs; simp [-List.getD_eq_getElem?_getD, fillL, vcl, wrl, TTab.pl?.lget']) <;> rfl
                      refine' WO.buildSl (cs := _) rfl rfl rfl rfl ?hf rfl rfl ?hl rfl (fun v2 => ?_)
                      case hf => (conv => lhs; simp [-List.getD_eq_getElem?_getD, fillL, vcl, wrl, TTab.pl?.lget']) <;> rfl
                      case hl => rfl
                      refine' WO.appendE (enc := encRs) (m := 1) (xs := (allTo l i ++ (stK l i).take ((a * w2 l i + b) * 3 + s)).map (rsK l)) (ys := [rsK l (i, a, b, s)]) encRs_ok rfl rfl rfl rfl rfl (by repeat (first | exact Pick.head | apply Pick.tail)) (isSl_lit (by omega) (fun _ => ⟨_, _, rfl⟩)) (by omega) rfl (OwC.cells .head) (by rw [List.length_map, List.length_append, List.length_take]; omega) (by rw [List.length_map, List.length_append, List.length_take]; omega) rfl (fun g c => ?_)
                      rw [show (allTo l i ++ (stK l i).take ((a * w2 l i + b) * 3 + s)).map (rsK l) ++ [rsK l (i, a, b, s)] = (allTo l i ++ (stK l i).take ((a * w2 l i + b) * 3 + (s + 1))).map (rsK l) by rw [← Nat.add_assoc, stsV_take (by omega) (by omega) (by omega) rfl, ← List.append_assoc, List.map_append (l₂ := [_])]; rfl]
                      refine WO.p rfl rfl ?_
                      refine WO.nil ?_
                      refine W.region ?_
                      refine WO.p rfl rfl (WO.ar rfl rfl rfl (by (first | (unfold in64; omega) | (unfold in64; omega))) rfl (WO.p rfl rfl ?_))
                      refine WO.nil ?_
                      refine' ⟨s + 1, _, ?hp, ?hmu, ⟨rfl, rfl, rfl, rfl, rfl, rfl, trivial⟩, ?hS⟩
                      case hS => repeat (first | exact Sub.nil | refine Sub.cons (by repeat (first | exact Pick.head | apply Pick.tail)) ?_)
                      case hp => omega
                      case hmu => omega)
                 · first
                   | (exfalso; omega)
                   | (refine W.exit (blk_same ?_)
                      obtain rfl : s = 3 := by omega
                      rw [show (a * w2 l i + b) * 3 + 3 = (a * w2 l i + (b + 1)) * 3 by omega]
                      refine W.region ?_
                      refine WO.p rfl rfl (WO.ar rfl rfl rfl (by (first | (unfold in64; omega) | (unfold in64; omega))) rfl (WO.p rfl rfl ?_))
                      refine WO.nil ?_
                      refine' ⟨b + 1, _, _, ?hp, ?hmu, ⟨rfl, rfl, rfl, rfl, rfl, trivial⟩, ?hS⟩
                      case hS => repeat (first | exact Sub.nil | refine Sub.cons (by repeat (first | exact Pick.head | apply Pick.tail)) ?_)
                      case hp => exact ⟨by omega, by omega⟩
                      case hmu => omega))
            · first
              | (exfalso; omega)
              | (refine W.exit (blk_same ?_)
                 obtain rfl : b = w2 l i := by omega
                 rw [show (a * w2 l i + w2 l i) * 3 = (a + 1) * w2 l i * 3 by rw [Nat.add_mul a 1, Nat.one_mul]]
                 refine W.region ?_
                 refine WO.p rfl rfl (WO.ar rfl rfl rfl (by (first | (unfold in64; omega) | (unfold in64; omega))) rfl (WO.p rfl rfl ?_))
                 refine WO.nil ?_
                 refine' ⟨a + 1, _, _, ?hp, ?hmu, ⟨rfl, rfl, rfl, rfl, trivial⟩, ?hS⟩
                 case hS => repeat (first | exact Sub.nil | refine Sub.cons (by repeat (first | exact Pick.head | apply Pick.tail)) ?_)
                 case hp => exact ⟨by omega, by omega⟩
                 case hmu => omega))
       · first
         | (exfalso; omega)
         | (refine W.exit (blk_same ?_)
            obtain rfl : a = w1 l i := by omega
            rw [← stK_len, List.take_length, ← allTo_succ hi1]
            refine W.region ?_
            refine WO.p rfl rfl (WO.ar rfl rfl rfl (by (first | (unfold in64; omega) | (unfold in64; omega))) rfl (WO.p rfl rfl ?_))
            refine WO.nil ?_
            refine' ⟨i + 1, _, ?hp, ?hmu, ⟨rfl, rfl, rfl, trivial⟩, ?hS⟩
            case hS => repeat (first | exact Sub.nil | refine Sub.cons (by repeat (first | exact Pick.head | apply Pick.tail)) ?_)
            case hp => exact ⟨by omega, by omega⟩
            case hmu => omega))
  · first
    | (exfalso; omega)
    | (refine W.exit (blk_same ?_)
       refine W.sreg ?_
       refine WO.p rfl rfl (WO.p rfl rfl ?_)
       refine WO.nil ?_
       refine W.ret ?_
       obtain rfl : i = l.length := by omega
       exact fin.ret (Res.one rfl (RV.tmp rfl)) ⟨_, rfl, fun h hs => Sub.sat (by repeat (first | exact Sub.nil | refine Sub.cons (by repeat (first | exact Pick.head | apply Pick.tail)) ?_)) hs⟩)
end Go.Proofs.Ytpecakgebhmnfaa
namespace Go.Proofs.Ytpecakgebhmnfaa
open Go Go.TH
attribute [local irreducible] W WO pt
set_option maxRecDepth 10000
set_option maxHeartbeats 1000000
theorem ref_Leads (w : World) (v : Value) (t : Int) (ho : v.oneCell' = true) (i i' s s' : Nat) (A B A' B' : Int) (ht : 0 ≤ t ∧ t ≤ 1000000) (hi : i ≤ 100) (h1 : -2000000 ≤ A ∧ A ≤ 2000000) (h2 : -2000000 ≤ B ∧ B ≤ 2000000) (h3 : -2000000 ≤ B' ∧ B' ≤ 2000000) (hs : s ≤ 2) :
    Ret Try.prog 50 [.agg #[v, .int .i64 t], .agg #[.int .i64 (i : Int), .int .i64 A, .int .i64 B, .int .i64 (s : Int)], .agg #[.int .i64 (i' : Int), .int .i64 A', .int .i64 B', .int .i64 (s' : Int)]].toArray w (.tuple #[.int .i64 ((ldR t (i, A, B, s) (i', A', B', s')).getD 0), .bool (ldR t (i, A, B, s) (i', A', B', s')).isSome]) := by
  refine Ret.of mixed tyTab Try.func50 rfl rfl ?_
  have hdd : ldD (i, A, B, s) (i', A', B', s') = A - 2 * B + B' := rfl
  have hab : 0 ≤ ab (A - 2 * B + B') ∧ ab (A - 2 * B + B') ≤ 8000000 := by unfold ab; omega
  refine W.sreg ?_
  refine WO.boxA rfl rfl (fun b1 hb1 => ?_)
  refine WO.boxA rfl rfl (fun b2 hb2 => ?_)
  refine WO.boxA rfl rfl (fun b3 hb3 => ?_)
  refine WO.p rfl rfl (WO.p rfl rfl ?_)
  refine WO.nil ?_
  refine W.seq ?_
  refine W.sreg ?_
  refine WO.field0 rfl rfl rfl (WO.load rfl rfl (Cell.own Pick.head rfl) rfl (WO.field0 rfl rfl rfl (WO.load rfl rfl (Cell.own (Pick.tail (Pick.head)) rfl) rfl (WO.ar rfl rfl rfl (by (first | (unfold in64; omega) | (unfold in64; omega))) rfl (WO.p rfl rfl (WO.p rfl rfl ?_))))))
  refine WO.guard_bl rfl rfl (fun c1 => ?_) (fun c1 => ?_)
  · first
    | (exfalso; omega)
    | (refine WO.no rfl rfl (WO.no rfl rfl (WO.no rfl rfl (WO.no rfl rfl (WO.no rfl rfl (WO.p rfl rfl ?_)))))
       refine WO.nil ?_
       refine W.cond_t rfl ?_
       refine W.sreg ?_
       refine WO.p rfl rfl (WO.p rfl rfl ?_)
       refine WO.nil ?_
       refine W.ret ?_
       first | (rw [ld_none1 (by show i' ≠ i + 1 ∨ A' ≠ B; omega)]; exact fin.ret (Res.two rfl (RV.tmp rfl) (RV.tmp rfl)) rfl) | (have hz : sg s (A - 2 * B + B') = 1 := sg_1 (by omega); first | (rw [ld_none2 hno hz (by show s' ≠ 1; omega)]; exact fin.ret (Res.two rfl (RV.tmp rfl) (RV.tmp rfl)) rfl) | (rw [ld_some hno hz (by show ¬ s' ≠ 1; omega) (chg_0 hz (by show ¬ (s ≠ 0 ∧ 1 ≠ s); omega))]; exact fin.ret (Res.two rfl (RV.tmp rfl) (RV.tmp rfl)) (by show Value.tuple _ = Value.tuple #[.int .i64 (ab (A - 2 * B + B') + t * (((0 : Nat) : Int))), .bool true]; simp)) | (rw [ld_some hno hz (by show ¬ s' ≠ 1; omega) (chg_1 hz (by show s ≠ 0 ∧ 1 ≠ s; omega))]; exact fin.ret (Res.two rfl (RV.tmp rfl) (RV.tmp rfl)) (by show Value.tuple _ = Value.tuple #[.int .i64 (ab (A - 2 * B + B') + t * (((1 : Nat) : Int))), .bool true]; simp))) | (have hz : sg s (A - 2 * B + B') = 2 := sg_2 (by omega); first | (rw [ld_none2 hno hz (by show s' ≠ 2; omega)]; exact fin.ret (Res.two rfl (RV.tmp rfl) (RV.tmp rfl)) rfl) | (rw [ld_some hno hz (by show ¬ s' ≠ 2; omega) (chg_0 hz (by show ¬ (s ≠ 0 ∧ 2 ≠ s); omega))]; exact fin.ret (Res.two rfl (RV.tmp rfl) (RV.tmp rfl)) (by show Value.tuple _ = Value.tuple #[.int .i64 (ab (A - 2 * B + B') + t * (((0 : Nat) : Int))), .bool true]; simp)) | (rw [ld_some hno hz (by show ¬ s' ≠ 2; omega) (chg_1 hz (by show s ≠ 0 ∧ 2 ≠ s; omega))]; exact fin.ret (Res.two rfl (RV.tmp rfl) (RV.tmp rfl)) (by show Value.tuple _ = Value.tuple #[.int .i64 (ab (A - 2 * B + B') + t * (((1 : Nat) : Int))), .bool true]; simp))) | (have hz : sg s (A - 2 * B + B') = s := sg_0 (by omega) (by omega); first | (rw [ld_none2 hno hz (by show s' ≠ s; omega)]; exact fin.ret (Res.two rfl (RV.tmp rfl) (RV.tmp rfl)) rfl) | (rw [ld_some hno hz (by show ¬ s' ≠ s; omega) (chg_0 hz (by show ¬ (s ≠ 0 ∧ s ≠ s); omega))]; exact fin.ret (Res.two rfl (RV.tmp rfl) (RV.tmp rfl)) (by show Value.tuple _ = Value.tuple #[.int .i64 (ab (A - 2 * B + B') + t * (((0 : Nat) : Int))), .bool true]; simp))))
  · first
    | (exfalso; omega)
    | (refine WO.go' rfl (WO.fieldL rfl rfl rfl (WO.go' rfl (WO.load rfl rfl (Cell.own Pick.head rfl) rfl (WO.go' rfl (WO.fieldL rfl rfl rfl (WO.go' rfl (WO.load rfl rfl (Cell.own (Pick.tail (Pick.head)) rfl) rfl (WO.pg rfl rfl rfl (WO.p rfl rfl ?_)))))))))
       refine WO.nil ?_
       refine W.cond_bl rfl (fun c2 => ?_) (fun c2 => ?_)
       · first
         | (exfalso; omega)
         | (refine W.sreg ?_
            refine WO.p rfl rfl (WO.p rfl rfl ?_)
            refine WO.nil ?_
            refine W.ret ?_
            first | (rw [ld_none1 (by show i' ≠ i + 1 ∨ A' ≠ B; omega)]; exact fin.ret (Res.two rfl (RV.tmp rfl) (RV.tmp rfl)) rfl) | (have hz : sg s (A - 2 * B + B') = 1 := sg_1 (by omega); first | (rw [ld_none2 hno hz (by show s' ≠ 1; omega)]; exact fin.ret (Res.two rfl (RV.tmp rfl) (RV.tmp rfl)) rfl) | (rw [ld_some hno hz (by show ¬ s' ≠ 1; omega) (chg_0 hz (by show ¬ (s ≠ 0 ∧ 1 ≠ s); omega))]; exact fin.ret (Res.two rfl (RV.tmp rfl) (RV.tmp rfl)) (by show Value.tuple _ = Value.tuple #[.int .i64 (ab (A - 2 * B + B') + t * (((0 : Nat) : Int))), .bool true]; simp)) | (rw [ld_some hno hz (by show ¬ s' ≠ 1; omega) (chg_1 hz (by show s ≠ 0 ∧ 1 ≠ s; omega))]; exact fin.ret (Res.two rfl (RV.tmp rfl) (RV.tmp rfl)) (by show Value.tuple _ = Value.tuple #[.int .i64 (ab (A - 2 * B + B') + t * (((1 : Nat) : Int))), .bool true]; simp))) | (have hz : sg s (A - 2 * B + B') = 2 := sg_2 (by omega); first | (rw [ld_none2 hno hz (by show s' ≠ 2; omega)]; exact fin.ret (Res.two rfl (RV.tmp rfl) (RV.tmp rfl)) rfl) | (rw [ld_some hno hz (by show ¬ s' ≠ 2; omega) (chg_0 hz (by show ¬ (s ≠ 0 ∧ 2 ≠ s); omega))]; exact fin.ret (Res.two rfl (RV.tmp rfl) (RV.tmp rfl)) (by show Value.tuple _ = Value.tuple #[.int .i64 (ab (A - 2 * B + B') + t * (((0 : Nat) : Int))), .bool true]; simp)) | (rw [ld_some hno hz (by show ¬ s' ≠ 2; omega) (chg_1 hz (by show s ≠ 0 ∧ 2 ≠ s; omega))]; exact fin.ret (Res.two rfl (RV.tmp rfl) (RV.tmp rfl)) (by show Value.tuple _ = Value.tuple #[.int .i64 (ab (A - 2 * B + B') + t * (((1 : Nat) : Int))), .bool true]; simp))) | (have hz : sg s (A - 2 * B + B') = s := sg_0 (by omega) (by omega); first | (rw [ld_none2 hno hz (by show s' ≠ s; omega)]; exact fin.ret (Res.two rfl (RV.tmp rfl) (RV.tmp rfl)) rfl) | (rw [ld_some hno hz (by show ¬ s' ≠ s; omega) (chg_0 hz (by show ¬ (s ≠ 0 ∧ s ≠ s); omega))]; exact fin.ret (Res.two rfl (RV.tmp rfl) (RV.tmp rfl)) (by show Value.tuple _ = Value.tuple #[.int .i64 (ab (A - 2 * B + B') + t * (((0 : Nat) : Int))), .bool true]; simp))))
       · first
         | (exfalso; omega)
         | (refine W.skip ?_
            refine W.sreg ?_
            refine WO.fieldL rfl rfl rfl (WO.load rfl rfl (Cell.own (Pick.tail (Pick.head)) rfl) rfl (WO.fieldL rfl rfl rfl (WO.load rfl rfl (Cell.own (Pick.tail (Pick.head)) rfl) rfl (WO.ar rfl rfl rfl (by (first | (unfold in64; omega) | (unfold in64; omega))) rfl (WO.ar rfl rfl rfl (by (first | (unfold in64; omega) | (unfold in64; omega))) rfl (WO.fieldL rfl rfl rfl (WO.load rfl rfl (Cell.own Pick.head rfl) rfl (WO.ar rfl rfl rfl (by (first | (unfold in64; omega) | (unfold in64; omega))) rfl (WO.p rfl rfl ?_)))))))))
            refine WO.nil ?_
            refine W.sreg ?_
            refine WO.fieldL rfl rfl rfl (WO.load rfl rfl (Cell.own (Pick.tail (Pick.head)) rfl) rfl (WO.p rfl rfl ?_))
            refine WO.nil ?_
            refine W.seq ?_
            have hno : ¬ (i' ≠ i + 1 ∨ A' ≠ B) := by omega
            refine W.sreg ?_
            refine WO.p rfl rfl (WO.p rfl rfl ?_)
            refine WO.nil ?_
            refine W.cond_bl rfl (fun c3 => ?_) (fun c3 => ?_)
            · first
              | (exfalso; omega)
              | (refine W.region ?_
                 refine WO.p rfl rfl ?_
                 refine WO.nil ?_
                 refine W.seq ?_
                 refine W.sreg ?_
                 refine WO.p rfl rfl (WO.p rfl rfl ?_)
                 refine WO.nil ?_
                 refine W.cond_bl rfl (fun c4 => ?_) (fun c4 => ?_)
                 · first
                   | (exfalso; omega)
                   | (refine W.region ?_
                      refine WO.p rfl rfl ?_
                      refine WO.nil ?_
                      refine W.seq ?_
                      refine W.sreg ?_
                      refine WO.fieldL rfl rfl rfl (WO.load rfl rfl (Cell.own Pick.head rfl) rfl (WO.p rfl rfl (WO.p rfl rfl ?_)))
                      refine WO.nil ?_
                      refine W.cond_bl rfl (fun c5 => ?_) (fun c5 => ?_)
                      · first
                        | (exfalso; omega)
                        | (refine W.sreg ?_
                           refine WO.p rfl rfl (WO.p rfl rfl ?_)
                           refine WO.nil ?_
                           refine W.ret ?_
                           first | (rw [ld_none1 (by show i' ≠ i + 1 ∨ A' ≠ B; omega)]; exact fin.ret (Res.two rfl (RV.tmp rfl) (RV.tmp rfl)) rfl) | (have hz : sg s (A - 2 * B + B') = 1 := sg_1 (by omega); first | (rw [ld_none2 hno hz (by show s' ≠ 1; omega)]; exact fin.ret (Res.two rfl (RV.tmp rfl) (RV.tmp rfl)) rfl) | (rw [ld_some hno hz (by show ¬ s' ≠ 1; omega) (chg_0 hz (by show ¬ (s ≠ 0 ∧ 1 ≠ s); omega))]; exact fin.ret (Res.two rfl (RV.tmp rfl) (RV.tmp rfl)) (by show Value.tuple _ = Value.tuple #[.int .i64 (ab (A - 2 * B + B') + t * (((0 : Nat) : Int))), .bool true]; simp)) | (rw [ld_some hno hz (by show ¬ s' ≠ 1; omega) (chg_1 hz (by show s ≠ 0 ∧ 1 ≠ s; omega))]; exact fin.ret (Res.two rfl (RV.tmp rfl) (RV.tmp rfl)) (by show Value.tuple _ = Value.tuple #[.int .i64 (ab (A - 2 * B + B') + t * (((1 : Nat) : Int))), .bool true]; simp))) | (have hz : sg s (A - 2 * B + B') = 2 := sg_2 (by omega); first | (rw [ld_none2 hno hz (by show s' ≠ 2; omega)]; exact fin.ret (Res.two rfl (RV.tmp rfl) (RV.tmp rfl)) rfl) | (rw [ld_some hno hz (by show ¬ s' ≠ 2; omega) (chg_0 hz (by show ¬ (s ≠ 0 ∧ 2 ≠ s); omega))]; exact fin.ret (Res.two rfl (RV.tmp rfl) (RV.tmp rfl)) (by show Value.tuple _ = Value.tuple #[.int .i64 (ab (A - 2 * B + B') + t * (((0 : Nat) : Int))), .bool true]; simp)) | (rw [ld_some hno hz (by show ¬ s' ≠ 2; omega) (chg_1 hz (by show s ≠ 0 ∧ 2 ≠ s; omega))]; exact fin.ret (Res.two rfl (RV.tmp rfl) (RV.tmp rfl)) (by show Value.tuple _ = Value.tuple #[.int .i64 (ab (A - 2 * B + B') + t * (((1 : Nat) : Int))), .bool true]; simp))) | (have hz : sg s (A - 2 * B + B') = s := sg_0 (by omega) (by omega); first | (rw [ld_none2 hno hz (by show s' ≠ s; omega)]; exact fin.ret (Res.two rfl (RV.tmp rfl) (RV.tmp rfl)) rfl) | (rw [ld_some hno hz (by show ¬ s' ≠ s; omega) (chg_0 hz (by show ¬ (s ≠ 0 ∧ s ≠ s); omega))]; exact fin.ret (Res.two rfl (RV.tmp rfl) (RV.tmp rfl)) (by show Value.tuple _ = Value.tuple #[.int .i64 (ab (A - 2 * B + B') + t * (((0 : Nat) : Int))), .bool true]; simp))))
                      · first
                        | (exfalso; omega)
                        | (refine W.skip ?_
                           refine W.sreg ?_
                           refine WO.p rfl rfl ?_
                           refine WO.callR rfl Try.call56 (fun L w hi => ref_amount w _ (by omega)) rfl ?_
                           refine WO.p rfl rfl ?_
                           refine WO.nil ?_
                           refine W.seq ?_
                           refine W.sreg ?_
                           refine WO.fieldL rfl rfl rfl (WO.load rfl rfl (Cell.own (Pick.tail (Pick.head)) rfl) rfl (WO.p rfl rfl (WO.p rfl rfl ?_)))
                           refine WO.guard_bl rfl rfl (fun c6 => ?_) (fun c6 => ?_)
                           · first
                             | (exfalso; omega)
                             | (refine WO.pg rfl rfl rfl (WO.pg rfl rfl rfl (WO.p rfl rfl (WO.p rfl rfl ?_)))
                                refine WO.guard_bl rfl rfl (fun c7 => ?_) (fun c7 => ?_)
                                · first
                                  | (exfalso; omega)
                                  | (refine WO.pg rfl rfl rfl (WO.go' rfl (WO.fieldL rfl rfl rfl (WO.go' rfl (WO.load rfl rfl (Cell.own (Pick.tail (Pick.head)) rfl) rfl (WO.pg rfl rfl rfl (WO.p rfl rfl ?_))))))
                                     refine WO.nil ?_
                                     refine W.cond_bl rfl (fun c8 => ?_) (fun c8 => ?_)
                                     · first
                                       | (exfalso; omega)
                                       | (refine W.region ?_
                                          refine WO.p rfl rfl (WO.fieldL rfl rfl rfl (WO.load rfl rfl (Cell.own (Pick.tail (Pick.tail (Pick.head))) rfl) rfl (WO.ar rfl rfl rfl (by (first | (unfold in64; omega) | (unfold in64; omega))) rfl (WO.p rfl rfl ?_))))
                                          refine WO.nil ?_
                                          refine W.sreg ?_
                                          refine WO.p rfl rfl (WO.p rfl rfl (WO.p rfl rfl ?_))
                                          refine WO.nil ?_
                                          refine W.ret ?_
                                          first | (rw [ld_none1 (by show i' ≠ i + 1 ∨ A' ≠ B; omega)]; exact fin.ret (Res.two rfl (RV.tmp rfl) (RV.tmp rfl)) rfl) | (have hz : sg s (A - 2 * B + B') = 1 := sg_1 (by omega); first | (rw [ld_none2 hno hz (by show s' ≠ 1; omega)]; exact fin.ret (Res.two rfl (RV.tmp rfl) (RV.tmp rfl)) rfl) | (rw [ld_some hno hz (by show ¬ s' ≠ 1; omega) (chg_0 hz (by show ¬ (s ≠ 0 ∧ 1 ≠ s); omega))]; exact fin.ret (Res.two rfl (RV.tmp rfl) (RV.tmp rfl)) (by show Value.tuple _ = Value.tuple #[.int .i64 (ab (A - 2 * B + B') + t * (((0 : Nat) : Int))), .bool true]; simp)) | (rw [ld_some hno hz (by show ¬ s' ≠ 1; omega) (chg_1 hz (by show s ≠ 0 ∧ 1 ≠ s; omega))]; exact fin.ret (Res.two rfl (RV.tmp rfl) (RV.tmp rfl)) (by show Value.tuple _ = Value.tuple #[.int .i64 (ab (A - 2 * B + B') + t * (((1 : Nat) : Int))), .bool true]; simp))) | (have hz : sg s (A - 2 * B + B') = 2 := sg_2 (by omega); first | (rw [ld_none2 hno hz (by show s' ≠ 2; omega)]; exact fin.ret (Res.two rfl (RV.tmp rfl) (RV.tmp rfl)) rfl) | (rw [ld_some hno hz (by show ¬ s' ≠ 2; omega) (chg_0 hz (by show ¬ (s ≠ 0 ∧ 2 ≠ s); omega))]; exact fin.ret (Res.two rfl (RV.tmp rfl) (RV.tmp rfl)) (by show Value.tuple _ = Value.tuple #[.int .i64 (ab (A - 2 * B + B') + t * (((0 : Nat) : Int))), .bool true]; simp)) | (rw [ld_some hno hz (by show ¬ s' ≠ 2; omega) (chg_1 hz (by show s ≠ 0 ∧ 2 ≠ s; omega))]; exact fin.ret (Res.two rfl (RV.tmp rfl) (RV.tmp rfl)) (by show Value.tuple _ = Value.tuple #[.int .i64 (ab (A - 2 * B + B') + t * (((1 : Nat) : Int))), .bool true]; simp))) | (have hz : sg s (A - 2 * B + B') = s := sg_0 (by omega) (by omega); first | (rw [ld_none2 hno hz (by show s' ≠ s; omega)]; exact fin.ret (Res.two rfl (RV.tmp rfl) (RV.tmp rfl)) rfl) | (rw [ld_some hno hz (by show ¬ s' ≠ s; omega) (chg_0 hz (by show ¬ (s ≠ 0 ∧ s ≠ s); omega))]; exact fin.ret (Res.two rfl (RV.tmp rfl) (RV.tmp rfl)) (by show Value.tuple _ = Value.tuple #[.int .i64 (ab (A - 2 * B + B') + t * (((0 : Nat) : Int))), .bool true]; simp))))
                                     · first
                                       | (exfalso; omega)
                                       | (refine W.skip ?_
                                          refine W.sreg ?_
                                          refine WO.p rfl rfl (WO.p rfl rfl (WO.p rfl rfl ?_))
                                          refine WO.nil ?_
                                          refine W.ret ?_
                                          first | (rw [ld_none1 (by show i' ≠ i + 1 ∨ A' ≠ B; omega)]; exact fin.ret (Res.two rfl (RV.tmp rfl) (RV.tmp rfl)) rfl) | (have hz : sg s (A - 2 * B + B') = 1 := sg_1 (by omega); first | (rw [ld_none2 hno hz (by show s' ≠ 1; omega)]; exact fin.ret (Res.two rfl (RV.tmp rfl) (RV.tmp rfl)) rfl) | (rw [ld_some hno hz (by show ¬ s' ≠ 1; omega) (chg_0 hz (by show ¬ (s ≠ 0 ∧ 1 ≠ s); omega))]; exact fin.ret (Res.two rfl (RV.tmp rfl) (RV.tmp rfl)) (by show Value.tuple _ = Value.tuple #[.int .i64 (ab (A - 2 * B + B') + t * (((0 : Nat) : Int))), .bool true]; simp)) | (rw [ld_some hno hz (by show ¬ s' ≠ 1; omega) (chg_1 hz (by show s ≠ 0 ∧ 1 ≠ s; omega))]; exact fin.ret (Res.two rfl (RV.tmp rfl) (RV.tmp rfl)) (by show Value.tuple _ = Value.tuple #[.int .i64 (ab (A - 2 * B + B') + t * (((1 : Nat) : Int))), .bool true]; simp))) | (have hz : sg s (A - 2 * B + B') = 2 := sg_2 (by omega); first | (rw [ld_none2 hno hz (by show s' ≠ 2; omega)]; exact fin.ret (Res.two rfl (RV.tmp rfl) (RV.tmp rfl)) rfl) | (rw [ld_some hno hz (by show ¬ s' ≠ 2; omega) (chg_0 hz (by show ¬ (s ≠ 0 ∧ 2 ≠ s); omega))]; exact fin.ret (Res.two rfl (RV.tmp rfl) (RV.tmp rfl)) (by show Value.tuple _ = Value.tuple #[.int .i64 (ab (A - 2 * B + B') + t * (((0 : Nat) : Int))), .bool true]; simp)) | (rw [ld_some hno hz (by show ¬ s' ≠ 2; omega) (chg_1 hz (by show s ≠ 0 ∧ 2 ≠ s; omega))]; exact fin.ret (Res.two rfl (RV.tmp rfl) (RV.tmp rfl)) (by show Value.tuple _ = Value.tuple #[.int .i64 (ab (A - 2 * B + B') + t * (((1 : Nat) : Int))), .bool true]; simp))) | (have hz : sg s (A - 2 * B + B') = s := sg_0 (by omega) (by omega); first | (rw [ld_none2 hno hz (by show s' ≠ s; omega)]; exact fin.ret (Res.two rfl (RV.tmp rfl) (RV.tmp rfl)) rfl) | (rw [ld_some hno hz (by show ¬ s' ≠ s; omega) (chg_0 hz (by show ¬ (s ≠ 0 ∧ s ≠ s); omega))]; exact fin.ret (Res.two rfl (RV.tmp rfl) (RV.tmp rfl)) (by show Value.tuple _ = Value.tuple #[.int .i64 (ab (A - 2 * B + B') + t * (((0 : Nat) : Int))), .bool true]; simp)))))
                                · first
                                  | (exfalso; omega)
                                  | (refine WO.no rfl rfl (WO.no rfl rfl (WO.no rfl rfl (WO.no rfl rfl (WO.p rfl rfl ?_))))
                                     refine WO.nil ?_
                                     refine W.cond_f rfl ?_
                                     refine W.skip ?_
                                     refine W.sreg ?_
                                     refine WO.p rfl rfl (WO.p rfl rfl (WO.p rfl rfl ?_))
                                     refine WO.nil ?_
                                     refine W.ret ?_
                                     first | (rw [ld_none1 (by show i' ≠ i + 1 ∨ A' ≠ B; omega)]; exact fin.ret (Res.two rfl (RV.tmp rfl) (RV.tmp rfl)) rfl) | (have hz : sg s (A - 2 * B + B') = 1 := sg_1 (by omega); first | (rw [ld_none2 hno hz (by show s' ≠ 1; omega)]; exact fin.ret (Res.two rfl (RV.tmp rfl) (RV.tmp rfl)) rfl) | (rw [ld_some hno hz (by show ¬ s' ≠ 1; omega) (chg_0 hz (by show ¬ (s ≠ 0 ∧ 1 ≠ s); omega))]; exact fin.ret (Res.two rfl (RV.tmp rfl) (RV.tmp rfl)) (by show Value.tuple _ = Value.tuple #[.int .i64 (ab (A - 2 * B + B') + t * (((0 : Nat) : Int))), .bool true]; simp)) | (rw [ld_some hno hz (by show ¬ s' ≠ 1; omega) (chg_1 hz (by show s ≠ 0 ∧ 1 ≠ s; omega))]; exact fin.ret (Res.two rfl (RV.tmp rfl) (RV.tmp rfl)) (by show Value.tuple _ = Value.tuple #[.int .i64 (ab (A - 2 * B + B') + t * (((1 : Nat) : Int))), .bool true]; simp))) | (have hz : sg s (A - 2 * B + B') = 2 := sg_2 (by omega); first | (rw [ld_none2 hno hz (by show s' ≠ 2; omega)]; exact fin.ret (Res.two rfl (RV.tmp rfl) (RV.tmp rfl)) rfl) | (rw [ld_some hno hz (by show ¬ s' ≠ 2; omega) (chg_0 hz (by show ¬ (s ≠ 0 ∧ 2 ≠ s); omega))]; exact fin.ret (Res.two rfl (RV.tmp rfl) (RV.tmp rfl)) (by show Value.tuple _ = Value.tuple #[.int .i64 (ab (A - 2 * B + B') + t * (((0 : Nat) : Int))), .bool true]; simp)) | (rw [ld_some hno hz (by show ¬ s' ≠ 2; omega) (chg_1 hz (by show s ≠ 0 ∧ 2 ≠ s; omega))]; exact fin.ret (Res.two rfl (RV.tmp rfl) (RV.tmp rfl)) (by show Value.tuple _ = Value.tuple #[.int .i64 (ab (A - 2 * B + B') + t * (((1 : Nat) : Int))), .bool true]; simp))) | (have hz : sg s (A - 2 * B + B') = s := sg_0 (by omega) (by omega); first | (rw [ld_none2 hno hz (by show s' ≠ s; omega)]; exact fin.ret (Res.two rfl (RV.tmp rfl) (RV.tmp rfl)) rfl) | (rw [ld_some hno hz (by show ¬ s' ≠ s; omega) (chg_0 hz (by show ¬ (s ≠ 0 ∧ s ≠ s); omega))]; exact fin.ret (Res.two rfl (RV.tmp rfl) (RV.tmp rfl)) (by show Value.tuple _ = Value.tuple #[.int .i64 (ab (A - 2 * B + B') + t * (((0 : Nat) : Int))), .bool true]; simp)))))
                           · first
                             | (exfalso; omega)
                             | (refine WO.no rfl rfl (WO.no rfl rfl (WO.p rfl rfl (WO.p rfl rfl (WO.no rfl rfl (WO.no rfl rfl (WO.no rfl rfl (WO.no rfl rfl (WO.p rfl rfl ?_))))))))
                                refine WO.nil ?_
                                refine W.cond_f rfl ?_
                                refine W.skip ?_
                                refine W.sreg ?_
                                refine WO.p rfl rfl (WO.p rfl rfl (WO.p rfl rfl ?_))
                                refine WO.nil ?_
                                refine W.ret ?_
                                first | (rw [ld_none1 (by show i' ≠ i + 1 ∨ A' ≠ B; omega)]; exact fin.ret (Res.two rfl (RV.tmp rfl) (RV.tmp rfl)) rfl) | (have hz : sg s (A - 2 * B + B') = 1 := sg_1 (by omega); first | (rw [ld_none2 hno hz (by show s' ≠ 1; omega)]; exact fin.ret (Res.two rfl (RV.tmp rfl) (RV.tmp rfl)) rfl) | (rw [ld_some hno hz (by show ¬ s' ≠ 1; omega) (chg_0 hz (by show ¬ (s ≠ 0 ∧ 1 ≠ s); omega))]; exact fin.ret (Res.two rfl (RV.tmp rfl) (RV.tmp rfl)) (by show Value.tuple _ = Value.tuple #[.int .i64 (ab (A - 2 * B + B') + t * (((0 : Nat) : Int))), .bool true]; simp)) | (rw [ld_some hno hz (by show ¬ s' ≠ 1; omega) (chg_1 hz (by show s ≠ 0 ∧ 1 ≠ s; omega))]; exact fin.ret (Res.two rfl (RV.tmp rfl) (RV.tmp rfl)) (by show Value.tuple _ = Value.tuple #[.int .i64 (ab (A - 2 * B + B') + t * (((1 : Nat) : Int))), .bool true]; simp))) | (have hz : sg s (A - 2 * B + B') = 2 := sg_2 (by omega); first | (rw [ld_none2 hno hz (by show s' ≠ 2; omega)]; exact fin.ret (Res.two rfl (RV.tmp rfl) (RV.tmp rfl)) rfl) | (rw [ld_some hno hz (by show ¬ s' ≠ 2; omega) (chg_0 hz (by show ¬ (s ≠ 0 ∧ 2 ≠ s); omega))]; exact fin.ret (Res.two rfl (RV.tmp rfl) (RV.tmp rfl)) (by show Value.tuple _ = Value.tuple #[.int .i64 (ab (A - 2 * B + B') + t * (((0 : Nat) : Int))), .bool true]; simp)) | (rw [ld_some hno hz (by show ¬ s' ≠ 2; omega) (chg_1 hz (by show s ≠ 0 ∧ 2 ≠ s; omega))]; exact fin.ret (Res.two rfl (RV.tmp rfl) (RV.tmp rfl)) (by show Value.tuple _ = Value.tuple #[.int .i64 (ab (A - 2 * B + B') + t * (((1 : Nat) : Int))), .bool true]; simp))) | (have hz : sg s (A - 2 * B + B') = s := sg_0 (by omega) (by omega); first | (rw [ld_none2 hno hz (by show s' ≠ s; omega)]; exact fin.ret (Res.two rfl (RV.tmp rfl) (RV.tmp rfl)) rfl) | (rw [ld_some hno hz (by show ¬ s' ≠ s; omega) (chg_0 hz (by show ¬ (s ≠ 0 ∧ s ≠ s); omega))]; exact fin.ret (Res.two rfl (RV.tmp rfl) (RV.tmp rfl)) (by show Value.tuple _ = Value.tuple #[.int .i64 (ab (A - 2 * B + B') + t * (((0 : Nat) : Int))), .bool true]; simp))))))
                 · first
                   | (exfalso; omega)
                   | (refine W.skip ?_
                      refine W.seq ?_
                      refine W.sreg ?_
                      refine WO.fieldL rfl rfl rfl (WO.load rfl rfl (Cell.own Pick.head rfl) rfl (WO.p rfl rfl (WO.p rfl rfl ?_)))
                      refine WO.nil ?_
                      refine W.cond_bl rfl (fun c5 => ?_) (fun c5 => ?_)
                      · first
                        | (exfalso; omega)
                        | (refine W.sreg ?_
                           refine WO.p rfl rfl (WO.p rfl rfl ?_)
                           refine WO.nil ?_
                           refine W.ret ?_
                           first | (rw [ld_none1 (by show i' ≠ i + 1 ∨ A' ≠ B; omega)]; exact fin.ret (Res.two rfl (RV.tmp rfl) (RV.tmp rfl)) rfl) | (have hz : sg s (A - 2 * B + B') = 1 := sg_1 (by omega); first | (rw [ld_none2 hno hz (by show s' ≠ 1; omega)]; exact fin.ret (Res.two rfl (RV.tmp rfl) (RV.tmp rfl)) rfl) | (rw [ld_some hno hz (by show ¬ s' ≠ 1; omega) (chg_0 hz (by show ¬ (s ≠ 0 ∧ 1 ≠ s); omega))]; exact fin.ret (Res.two rfl (RV.tmp rfl) (RV.tmp rfl)) (by show Value.tuple _ = Value.tuple #[.int .i64 (ab (A - 2 * B + B') + t * (((0 : Nat) : Int))), .bool true]; simp)) | (rw [ld_some hno hz (by show ¬ s' ≠ 1; omega) (chg_1 hz (by show s ≠ 0 ∧ 1 ≠ s; omega))]; exact fin.ret (Res.two rfl (RV.tmp rfl) (RV.tmp rfl)) (by show Value.tuple _ = Value.tuple #[.int .i64 (ab (A - 2 * B + B') + t * (((1 : Nat) : Int))), .bool true]; simp))) | (have hz : sg s (A - 2 * B + B') = 2 := sg_2 (by omega); first | (rw [ld_none2 hno hz (by show s' ≠ 2; omega)]; exact fin.ret (Res.two rfl (RV.tmp rfl) (RV.tmp rfl)) rfl) | (rw [ld_some hno hz (by show ¬ s' ≠ 2; omega) (chg_0 hz (by show ¬ (s ≠ 0 ∧ 2 ≠ s); omega))]; exact fin.ret (Res.two rfl (RV.tmp rfl) (RV.tmp rfl)) (by show Value.tuple _ = Value.tuple #[.int .i64 (ab (A - 2 * B + B') + t * (((0 : Nat) : Int))), .bool true]; simp)) | (rw [ld_some hno hz (by show ¬ s' ≠ 2; omega) (chg_1 hz (by show s ≠ 0 ∧ 2 ≠ s; omega))]; exact fin.ret (Res.two rfl (RV.tmp rfl) (RV.tmp rfl)) (by show Value.tuple _ = Value.tuple #[.int .i64 (ab (A - 2 * B + B') + t * (((1 : Nat) : Int))), .bool true]; simp))) | (have hz : sg s (A - 2 * B + B') = s := sg_0 (by omega) (by omega); first | (rw [ld_none2 hno hz (by show s' ≠ s; omega)]; exact fin.ret (Res.two rfl (RV.tmp rfl) (RV.tmp rfl)) rfl) | (rw [ld_some hno hz (by show ¬ s' ≠ s; omega) (chg_0 hz (by show ¬ (s ≠ 0 ∧ s ≠ s); omega))]; exact fin.ret (Res.two rfl (RV.tmp rfl) (RV.tmp rfl)) (by show Value.tuple _ = Value.tuple #[.int .i64 (ab (A - 2 * B + B') + t * (((0 : Nat) : Int))), .bool true]; simp))))
                      · first
                        | (exfalso; omega)
                        | (refine W.skip ?_
                           refine W.sreg ?_
                           refine WO.p rfl rfl ?_
                           refine WO.callR rfl Try.call56 (fun L w hi => ref_amount w _ (by omega)) rfl ?_
                           refine WO.p rfl rfl ?_
                           refine WO.nil ?_
                           refine W.seq ?_
                           refine W.sreg ?_
                           refine WO.fieldL rfl rfl rfl (WO.load rfl rfl (Cell.own (Pick.tail (Pick.head)) rfl) rfl (WO.p rfl rfl (WO.p rfl rfl ?_)))
                           refine WO.guard_bl rfl rfl (fun c6 => ?_) (fun c6 => ?_)
                           · first
                             | (exfalso; omega)
                             | (refine WO.pg rfl rfl rfl (WO.pg rfl rfl rfl (WO.p rfl rfl (WO.p rfl rfl ?_)))
                                refine WO.guard_bl rfl rfl (fun c7 => ?_) (fun c7 => ?_)
                                · first
                                  | (exfalso; omega)
                                  | (refine WO.pg rfl rfl rfl (WO.go' rfl (WO.fieldL rfl rfl rfl (WO.go' rfl (WO.load rfl rfl (Cell.own (Pick.tail (Pick.head)) rfl) rfl (WO.pg rfl rfl rfl (WO.p rfl rfl ?_))))))
                                     refine WO.nil ?_
                                     refine W.cond_bl rfl (fun c8 => ?_) (fun c8 => ?_)
                                     · first
                                       | (exfalso; omega)
                                       | (refine W.region ?_
                                          refine WO.p rfl rfl (WO.fieldL rfl rfl rfl (WO.load rfl rfl (Cell.own (Pick.tail (Pick.tail (Pick.head))) rfl) rfl (WO.ar rfl rfl rfl (by (first | (unfold in64; omega) | (unfold in64; omega))) rfl (WO.p rfl rfl ?_))))
                                          refine WO.nil ?_
                                          refine W.sreg ?_
                                          refine WO.p rfl rfl (WO.p rfl rfl (WO.p rfl rfl ?_))
                                          refine WO.nil ?_
                                          refine W.ret ?_
                                          first | (rw [ld_none1 (by show i' ≠ i + 1 ∨ A' ≠ B; omega)]; exact fin.ret (Res.two rfl (RV.tmp rfl) (RV.tmp rfl)) rfl) | (have hz : sg s (A - 2 * B + B') = 1 := sg_1 (by omega); first | (rw [ld_none2 hno hz (by show s' ≠ 1; omega)]; exact fin.ret (Res.two rfl (RV.tmp rfl) (RV.tmp rfl)) rfl) | (rw [ld_some hno hz (by show ¬ s' ≠ 1; omega) (chg_0 hz (by show ¬ (s ≠ 0 ∧ 1 ≠ s); omega))]; exact fin.ret (Res.two rfl (RV.tmp rfl) (RV.tmp rfl)) (by show Value.tuple _ = Value.tuple #[.int .i64 (ab (A - 2 * B + B') + t * (((0 : Nat) : Int))), .bool true]; simp)) | (rw [ld_some hno hz (by show ¬ s' ≠ 1; omega) (chg_1 hz (by show s ≠ 0 ∧ 1 ≠ s; omega))]; exact fin.ret (Res.two rfl (RV.tmp rfl) (RV.tmp rfl)) (by show Value.tuple _ = Value.tuple #[.int .i64 (ab (A - 2 * B + B') + t * (((1 : Nat) : Int))), .bool true]; simp))) | (have hz : sg s (A - 2 * B + B') = 2 := sg_2 (by omega); first | (rw [ld_none2 hno hz (by show s' ≠ 2; omega)]; exact fin.ret (Res.two rfl (RV.tmp rfl) (RV.tmp rfl)) rfl) | (rw [ld_some hno hz (by show ¬ s' ≠ 2; omega) (chg_0 hz (by show ¬ (s ≠ 0 ∧ 2 ≠ s); omega))]; exact fin.ret (Res.two rfl (RV.tmp rfl) (RV.tmp rfl)) (by show Value.tuple _ = Value.tuple #[.int .i64 (ab (A - 2 * B + B') + t * (((0 : Nat) : Int))), .bool true]; simp)) | (rw [ld_some hno hz (by show ¬ s' ≠ 2; omega) (chg_1 hz (by show s ≠ 0 ∧ 2 ≠ s; omega))]; exact fin.ret (Res.two rfl (RV.tmp rfl) (RV.tmp rfl)) (by show Value.tuple _ = Value.tuple #[.int .i64 (ab (A - 2 * B + B') + t * (((1 : Nat) : Int))), .bool true]; simp))) | (have hz : sg s (A - 2 * B + B') = s := sg_0 (by omega) (by omega); first | (rw [ld_none2 hno hz (by show s' ≠ s; omega)]; exact fin.ret (Res.two rfl (RV.tmp rfl) (RV.tmp rfl)) rfl) | (rw [ld_some hno hz (by show ¬ s' ≠ s; omega) (chg_0 hz (by show ¬ (s ≠ 0 ∧ s ≠ s); omega))]; exact fin.ret (Res.two rfl (RV.tmp rfl) (RV.tmp rfl)) (by show Value.tuple _ = Value.tuple #[.int .i64 (ab (A - 2 * B + B') + t * (((0 : Nat) : Int))), .bool true]; simp))))
                                     · first
                                       | (exfalso; omega)
                                       | (refine W.skip ?_
                                          refine W.sreg ?_
                                          refine WO.p rfl rfl (WO.p rfl rfl (WO.p rfl rfl ?_))
                                          refine WO.nil ?_
                                          refine W.ret ?_
                                          first | (rw [ld_none1 (by show i' ≠ i + 1 ∨ A' ≠ B; omega)]; exact fin.ret (Res.two rfl (RV.tmp rfl) (RV.tmp rfl)) rfl) | (have hz : sg s (A - 2 * B + B') = 1 := sg_1 (by omega); first | (rw [ld_none2 hno hz (by show s' ≠ 1; omega)]; exact fin.ret (Res.two rfl (RV.tmp rfl) (RV.tmp rfl)) rfl) | (rw [ld_some hno hz (by show ¬ s' ≠ 1; omega) (chg_0 hz (by show ¬ (s ≠ 0 ∧ 1 ≠ s); omega))]; exact fin.ret (Res.two rfl (RV.tmp rfl) (RV.tmp rfl)) (by show Value.tuple _ = Value.tuple #[.int .i64 (ab (A - 2 * B + B') + t * (((0 : Nat) : Int))), .bool true]; simp)) | (rw [ld_some hno hz (by show ¬ s' ≠ 1; omega) (chg_1 hz (by show s ≠ 0 ∧ 1 ≠ s; omega))]; exact fin.ret (Res.two rfl (RV.tmp rfl) (RV.tmp rfl)) (by show Value.tuple _ = Value.tuple #[.int .i64 (ab (A - 2 * B + B') + t * (((1 : Nat) : Int))), .bool true]; simp))) | (have hz : sg s (A - 2 * B + B') = 2 := sg_2 (by omega); first | (rw [ld_none2 hno hz (by show s' ≠ 2; omega)]; exact fin.ret (Res.two rfl (RV.tmp rfl) (RV.tmp rfl)) rfl) | (rw [ld_some hno hz (by show ¬ s' ≠ 2; omega) (chg_0 hz (by show ¬ (s ≠ 0 ∧ 2 ≠ s); omega))]; exact fin.ret (Res.two rfl (RV.tmp rfl) (RV.tmp rfl)) (by show Value.tuple _ = Value.tuple #[.int .i64 (ab (A - 2 * B + B') + t * (((0 : Nat) : Int))), .bool true]; simp)) | (rw [ld_some hno hz (by show ¬ s' ≠ 2; omega) (chg_1 hz (by show s ≠ 0 ∧ 2 ≠ s; omega))]; exact fin.ret (Res.two rfl (RV.tmp rfl) (RV.tmp rfl)) (by show Value.tuple _ = Value.tuple #[.int .i64 (ab (A - 2 * B + B') + t * (((1 : Nat) : Int))), .bool true]; simp))) | (have hz : sg s (A - 2 * B + B') = s := sg_0 (by omega) (by omega); first | (rw [ld_none2 hno hz (by show s' ≠ s; omega)]; exact fin.ret (Res.two rfl (RV.tmp rfl) (RV.tmp rfl)) rfl) | (rw [ld_some hno hz (by show ¬ s' ≠ s; omega) (chg_0 hz (by show ¬ (s ≠ 0 ∧ s ≠ s); omega))]; exact fin.ret (Res.two rfl (RV.tmp rfl) (RV.tmp rfl)) (by show Value.tuple _ = Value.tuple #[.int .i64 (ab (A - 2 * B + B') + t * (((0 : Nat) : Int))), .bool true]; simp)))))
                                · first
                                  | (exfalso; omega)
                                  | (refine WO.no rfl rfl (WO.no rfl rfl (WO.no rfl rfl (WO.no rfl rfl (WO.p rfl rfl ?_))))
                                     refine WO.nil ?_
                                     refine W.cond_f rfl ?_
                                     refine W.skip ?_
                                     refine W.sreg ?_
                                     refine WO.p rfl rfl (WO.p rfl rfl (WO.p rfl rfl ?_))
                                     refine WO.nil ?_
                                     refine W.ret ?_
                                     first | (rw [ld_none1 (by show i' ≠ i + 1 ∨ A' ≠ B; omega)]; exact fin.ret (Res.two rfl (RV.tmp rfl) (RV.tmp rfl)) rfl) | (have hz : sg s (A - 2 * B + B') = 1 := sg_1 (by omega); first | (rw [ld_none2 hno hz (by show s' ≠ 1; omega)]; exact fin.ret (Res.two rfl (RV.tmp rfl) (RV.tmp rfl)) rfl) | (rw [ld_some hno hz (by show ¬ s' ≠ 1; omega) (chg_0 hz (by show ¬ (s ≠ 0 ∧ 1 ≠ s); omega))]; exact fin.ret (Res.two rfl (RV.tmp rfl) (RV.tmp rfl)) (by show Value.tuple _ = Value.tuple #[.int .i64 (ab (A - 2 * B + B') + t * (((0 : Nat) : Int))), .bool true]; simp)) | (rw [ld_some hno hz (by show ¬ s' ≠ 1; omega) (chg_1 hz (by show s ≠ 0 ∧ 1 ≠ s; omega))]; exact fin.ret (Res.two rfl (RV.tmp rfl) (RV.tmp rfl)) (by show Value.tuple _ = Value.tuple #[.int .i64 (ab (A - 2 * B + B') + t * (((1 : Nat) : Int))), .bool true]; simp))) | (have hz : sg s (A - 2 * B + B') = 2 := sg_2 (by omega); first | (rw [ld_none2 hno hz (by show s' ≠ 2; omega)]; exact fin.ret (Res.two rfl (RV.tmp rfl) (RV.tmp rfl)) rfl) | (rw [ld_some hno hz (by show ¬ s' ≠ 2; omega) (chg_0 hz (by show ¬ (s ≠ 0 ∧ 2 ≠ s); omega))]; exact fin.ret (Res.two rfl (RV.tmp rfl) (RV.tmp rfl)) (by show Value.tuple _ = Value.tuple #[.int .i64 (ab (A - 2 * B + B') + t * (((0 : Nat) : Int))), .bool true]; simp)) | (rw [ld_some hno hz (by show ¬ s' ≠ 2; omega) (chg_1 hz (by show s ≠ 0 ∧ 2 ≠ s; omega))]; exact fin.ret (Res.two rfl (RV.tmp rfl) (RV.tmp rfl)) (by show Value.tuple _ = Value.tuple #[.int .i64 (ab (A - 2 * B + B') + t * (((1 : Nat) : Int))), .bool true]; simp))) | (have hz : sg s (A - 2 * B + B') = s := sg_0 (by omega) (by omega); first | (rw [ld_none2 hno hz (by show s' ≠ s; omega)]; exact fin.ret (Res.two rfl (RV.tmp rfl) (RV.tmp rfl)) rfl) | (rw [ld_some hno hz (by show ¬ s' ≠ s; omega) (chg_0 hz (by show ¬ (s ≠ 0 ∧ s ≠ s); omega))]; exact fin.ret (Res.two rfl (RV.tmp rfl) (RV.tmp rfl)) (by show Value.tuple _ = Value.tuple #[.int .i64 (ab (A - 2 * B + B') + t * (((0 : Nat) : Int))), .bool true]; simp)))))
                           · first
                             | (exfalso; omega)
                             | (refine WO.no rfl rfl (WO.no rfl rfl (WO.p rfl rfl (WO.p rfl rfl (WO.no rfl rfl (WO.no rfl rfl (WO.no rfl rfl (WO.no rfl rfl (WO.p rfl rfl ?_))))))))
                                refine WO.nil ?_
                                refine W.cond_f rfl ?_
                                refine W.skip ?_
                                refine W.sreg ?_
                                refine WO.p rfl rfl (WO.p rfl rfl (WO.p rfl rfl ?_))
                                refine WO.nil ?_
                                refine W.ret ?_
                                first | (rw [ld_none1 (by show i' ≠ i + 1 ∨ A' ≠ B; omega)]; exact fin.ret (Res.two rfl (RV.tmp rfl) (RV.tmp rfl)) rfl) | (have hz : sg s (A - 2 * B + B') = 1 := sg_1 (by omega); first | (rw [ld_none2 hno hz (by show s' ≠ 1; omega)]; exact fin.ret (Res.two rfl (RV.tmp rfl) (RV.tmp rfl)) rfl) | (rw [ld_some hno hz (by show ¬ s' ≠ 1; omega) (chg_0 hz (by show ¬ (s ≠ 0 ∧ 1 ≠ s); omega))]; exact fin.ret (Res.two rfl (RV.tmp rfl) (RV.tmp rfl)) (by show Value.tuple _ = Value.tuple #[.int .i64 (ab (A - 2 * B + B') + t * (((0 : Nat) : Int))), .bool true]; simp)) | (rw [ld_some hno hz (by show ¬ s' ≠ 1; omega) (chg_1 hz (by show s ≠ 0 ∧ 1 ≠ s; omega))]; exact fin.ret (Res.two rfl (RV.tmp rfl) (RV.tmp rfl)) (by show Value.tuple _ = Value.tuple #[.int .i64 (ab (A - 2 * B + B') + t * (((1 : Nat) : Int))), .bool true]; simp))) | (have hz : sg s (A - 2 * B + B') = 2 := sg_2 (by omega); first | (rw [ld_none2 hno hz (by show s' ≠ 2; omega)]; exact fin.ret (Res.two rfl (RV.tmp rfl) (RV.tmp rfl)) rfl) | (rw [ld_some hno hz (by show ¬ s' ≠ 2; omega) (chg_0 hz (by show ¬ (s ≠ 0 ∧ 2 ≠ s); omega))]; exact fin.ret (Res.two rfl (RV.tmp rfl) (RV.tmp rfl)) (by show Value.tuple _ = Value.tuple #[.int .i64 (ab (A - 2 * B + B') + t * (((0 : Nat) : Int))), .bool true]; simp)) | (rw [ld_some hno hz (by show ¬ s' ≠ 2; omega) (chg_1 hz (by show s ≠ 0 ∧ 2 ≠ s; omega))]; exact fin.ret (Res.two rfl (RV.tmp rfl) (RV.tmp rfl)) (by show Value.tuple _ = Value.tuple #[.int .i64 (ab (A - 2 * B + B') + t * (((1 : Nat) : Int))), .bool true]; simp))) | (have hz : sg s (A - 2 * B + B') = s := sg_0 (by omega) (by omega); first | (rw [ld_none2 hno hz (by show s' ≠ s; omega)]; exact fin.ret (Res.two rfl (RV.tmp rfl) (RV.tmp rfl)) rfl) | (rw [ld_some hno hz (by show ¬ s' ≠ s; omega) (chg_0 hz (by show ¬ (s ≠ 0 ∧ s ≠ s); omega))]; exact fin.ret (Res.two rfl (RV.tmp rfl) (RV.tmp rfl)) (by show Value.tuple _ = Value.tuple #[.int .i64 (ab (A - 2 * B + B') + t * (((0 : Nat) : Int))), .bool true]; simp)))))))
            · first
              | (exfalso; omega)
              | (refine W.skip ?_
                 refine W.seq ?_
                 refine W.sreg ?_
                 refine WO.p rfl rfl (WO.p rfl rfl ?_)
                 refine WO.nil ?_
                 refine W.cond_bl rfl (fun c4 => ?_) (fun c4 => ?_)
                 · first
                   | (exfalso; omega)
                   | (refine W.region ?_
                      refine WO.p rfl rfl ?_
                      refine WO.nil ?_
                      refine W.seq ?_
                      refine W.sreg ?_
                      refine WO.fieldL rfl rfl rfl (WO.load rfl rfl (Cell.own Pick.head rfl) rfl (WO.p rfl rfl (WO.p rfl rfl ?_)))
                      refine WO.nil ?_
                      refine W.cond_bl rfl (fun c5 => ?_) (fun c5 => ?_)
                      · first
                        | (exfalso; omega)
                        | (refine W.sreg ?_
                           refine WO.p rfl rfl (WO.p rfl rfl ?_)
                           refine WO.nil ?_
                           refine W.ret ?_
                           first | (rw [ld_none1 (by show i' ≠ i + 1 ∨ A' ≠ B; omega)]; exact fin.ret (Res.two rfl (RV.tmp rfl) (RV.tmp rfl)) rfl) | (have hz : sg s (A - 2 * B + B') = 1 := sg_1 (by omega); first | (rw [ld_none2 hno hz (by show s' ≠ 1; omega)]; exact fin.ret (Res.two rfl (RV.tmp rfl) (RV.tmp rfl)) rfl) | (rw [ld_some hno hz (by show ¬ s' ≠ 1; omega) (chg_0 hz (by show ¬ (s ≠ 0 ∧ 1 ≠ s); omega))]; exact fin.ret (Res.two rfl (RV.tmp rfl) (RV.tmp rfl)) (by show Value.tuple _ = Value.tuple #[.int .i64 (ab (A - 2 * B + B') + t * (((0 : Nat) : Int))), .bool true]; simp)) | (rw [ld_some hno hz (by show ¬ s' ≠ 1; omega) (chg_1 hz (by show s ≠ 0 ∧ 1 ≠ s; omega))]; exact fin.ret (Res.two rfl (RV.tmp rfl) (RV.tmp rfl)) (by show Value.tuple _ = Value.tuple #[.int .i64 (ab (A - 2 * B + B') + t * (((1 : Nat) : Int))), .bool true]; simp))) | (have hz : sg s (A - 2 * B + B') = 2 := sg_2 (by omega); first | (rw [ld_none2 hno hz (by show s' ≠ 2; omega)]; exact fin.ret (Res.two rfl (RV.tmp rfl) (RV.tmp rfl)) rfl) | (rw [ld_some hno hz (by show ¬ s' ≠ 2; omega) (chg_0 hz (by show ¬ (s ≠ 0 ∧ 2 ≠ s); omega))]; exact fin.ret (Res.two rfl (RV.tmp rfl) (RV.tmp rfl)) (by show Value.tuple _ = Value.tuple #[.int .i64 (ab (A - 2 * B + B') + t * (((0 : Nat) : Int))), .bool true]; simp)) | (rw [ld_some hno hz (by show ¬ s' ≠ 2; omega) (chg_1 hz (by show s ≠ 0 ∧ 2 ≠ s; omega))]; exact fin.ret (Res.two rfl (RV.tmp rfl) (RV.tmp rfl)) (by show Value.tuple _ = Value.tuple #[.int .i64 (ab (A - 2 * B + B') + t * (((1 : Nat) : Int))), .bool true]; simp))) | (have hz : sg s (A - 2 * B + B') = s := sg_0 (by omega) (by omega); first | (rw [ld_none2 hno hz (by show s' ≠ s; omega)]; exact fin.ret (Res.two rfl (RV.tmp rfl) (RV.tmp rfl)) rfl) | (rw [ld_some hno hz (by show ¬ s' ≠ s; omega) (chg_0 hz (by show ¬ (s ≠ 0 ∧ s ≠ s); omega))]; exact fin.ret (Res.two rfl (RV.tmp rfl) (RV.tmp rfl)) (by show Value.tuple _ = Value.tuple #[.int .i64 (ab (A - 2 * B + B') + t * (((0 : Nat) : Int))), .bool true]; simp))))
                      · first
                        | (exfalso; omega)
                        | (refine W.skip ?_
                           refine W.sreg ?_
                           refine WO.p rfl rfl ?_
                           refine WO.callR rfl Try.call56 (fun L w hi => ref_amount w _ (by omega)) rfl ?_
                           refine WO.p rfl rfl ?_
                           refine WO.nil ?_
                           refine W.seq ?_
                           refine W.sreg ?_
                           refine WO.fieldL rfl rfl rfl (WO.load rfl rfl (Cell.own (Pick.tail (Pick.head)) rfl) rfl (WO.p rfl rfl (WO.p rfl rfl ?_)))
                           refine WO.guard_bl rfl rfl (fun c6 => ?_) (fun c6 => ?_)
                           · first
                             | (exfalso; omega)
                             | (refine WO.pg rfl rfl rfl (WO.pg rfl rfl rfl (WO.p rfl rfl (WO.p rfl rfl ?_)))
                                refine WO.guard_bl rfl rfl (fun c7 => ?_) (fun c7 => ?_)
                                · first
                                  | (exfalso; omega)
                                  | (refine WO.pg rfl rfl rfl (WO.go' rfl (WO.fieldL rfl rfl rfl (WO.go' rfl (WO.load rfl rfl (Cell.own (Pick.tail (Pick.head)) rfl) rfl (WO.pg rfl rfl rfl (WO.p rfl rfl ?_))))))
                                     refine WO.nil ?_
                                     refine W.cond_bl rfl (fun c8 => ?_) (fun c8 => ?_)
                                     · first
                                       | (exfalso; omega)
                                       | (refine W.region ?_
                                          refine WO.p rfl rfl (WO.fieldL rfl rfl rfl (WO.load rfl rfl (Cell.own (Pick.tail (Pick.tail (Pick.head))) rfl) rfl (WO.ar rfl rfl rfl (by (first | (unfold in64; omega) | (unfold in64; omega))) rfl (WO.p rfl rfl ?_))))
                                          refine WO.nil ?_
                                          refine W.sreg ?_
                                          refine WO.p rfl rfl (WO.p rfl rfl (WO.p rfl rfl ?_))
                                          refine WO.nil ?_
                                          refine W.ret ?_
                                          first | (rw [ld_none1 (by show i' ≠ i + 1 ∨ A' ≠ B; omega)]; exact fin.ret (Res.two rfl (RV.tmp rfl) (RV.tmp rfl)) rfl) | (have hz : sg s (A - 2 * B + B') = 1 := sg_1 (by omega); first | (rw [ld_none2 hno hz (by show s' ≠ 1; omega)]; exact fin.ret (Res.two rfl (RV.tmp rfl) (RV.tmp rfl)) rfl) | (rw [ld_some hno hz (by show ¬ s' ≠ 1; omega) (chg_0 hz (by show ¬ (s ≠ 0 ∧ 1 ≠ s); omega))]; exact fin.ret (Res.two rfl (RV.tmp rfl) (RV.tmp rfl)) (by show Value.tuple _ = Value.tuple #[.int .i64 (ab (A - 2 * B + B') + t * (((0 : Nat) : Int))), .bool true]; simp)) | (rw [ld_some hno hz (by show ¬ s' ≠ 1; omega) (chg_1 hz (by show s ≠ 0 ∧ 1 ≠ s; omega))]; exact fin.ret (Res.two rfl (RV.tmp rfl) (RV.tmp rfl)) (by show Value.tuple _ = Value.tuple #[.int .i64 (ab (A - 2 * B + B') + t * (((1 : Nat) : Int))), .bool true]; simp))) | (have hz : sg s (A - 2 * B + B') = 2 := sg_2 (by omega); first | (rw [ld_none2 hno hz (by show s' ≠ 2; omega)]; exact fin.ret (Res.two rfl (RV.tmp rfl) (RV.tmp rfl)) rfl) | (rw [ld_some hno hz (by show ¬ s' ≠ 2; omega) (chg_0 hz (by show ¬ (s ≠ 0 ∧ 2 ≠ s); omega))]; exact fin.ret (Res.two rfl (RV.tmp rfl) (RV.tmp rfl)) (by show Value.tuple _ = Value.tuple #[.int .i64 (ab (A - 2 * B + B') + t * (((0 : Nat) : Int))), .bool true]; simp)) | (rw [ld_some hno hz (by show ¬ s' ≠ 2; omega) (chg_1 hz (by show s ≠ 0 ∧ 2 ≠ s; omega))]; exact fin.ret (Res.two rfl (RV.tmp rfl) (RV.tmp rfl)) (by show Value.tuple _ = Value.tuple #[.int .i64 (ab (A - 2 * B + B') + t * (((1 : Nat) : Int))), .bool true]; simp))) | (have hz : sg s (A - 2 * B + B') = s := sg_0 (by omega) (by omega); first | (rw [ld_none2 hno hz (by show s' ≠ s; omega)]; exact fin.ret (Res.two rfl (RV.tmp rfl) (RV.tmp rfl)) rfl) | (rw [ld_some hno hz (by show ¬ s' ≠ s; omega) (chg_0 hz (by show ¬ (s ≠ 0 ∧ s ≠ s); omega))]; exact fin.ret (Res.two rfl (RV.tmp rfl) (RV.tmp rfl)) (by show Value.tuple _ = Value.tuple #[.int .i64 (ab (A - 2 * B + B') + t * (((0 : Nat) : Int))), .bool true]; simp))))
                                     · first
                                       | (exfalso; omega)
                                       | (refine W.skip ?_
                                          refine W.sreg ?_
                                          refine WO.p rfl rfl (WO.p rfl rfl (WO.p rfl rfl ?_))
                                          refine WO.nil ?_
                                          refine W.ret ?_
                                          first | (rw [ld_none1 (by show i' ≠ i + 1 ∨ A' ≠ B; omega)]; exact fin.ret (Res.two rfl (RV.tmp rfl) (RV.tmp rfl)) rfl) | (have hz : sg s (A - 2 * B + B') = 1 := sg_1 (by omega); first | (rw [ld_none2 hno hz (by show s' ≠ 1; omega)]; exact fin.ret (Res.two rfl (RV.tmp rfl) (RV.tmp rfl)) rfl) | (rw [ld_some hno hz (by show ¬ s' ≠ 1; omega) (chg_0 hz (by show ¬ (s ≠ 0 ∧ 1 ≠ s); omega))]; exact fin.ret (Res.two rfl (RV.tmp rfl) (RV.tmp rfl)) (by show Value.tuple _ = Value.tuple #[.int .i64 (ab (A - 2 * B + B') + t * (((0 : Nat) : Int))), .bool true]; simp)) | (rw [ld_some hno hz (by show ¬ s' ≠ 1; omega) (chg_1 hz (by show s ≠ 0 ∧ 1 ≠ s; omega))]; exact fin.ret (Res.two rfl (RV.tmp rfl) (RV.tmp rfl)) (by show Value.tuple _ = Value.tuple #[.int .i64 (ab (A - 2 * B + B') + t * (((1 : Nat) : Int))), .bool true]; simp))) | (have hz : sg s (A - 2 * B + B') = 2 := sg_2 (by omega); first | (rw [ld_none2 hno hz (by show s' ≠ 2; omega)]; exact fin.ret (Res.two rfl (RV.tmp rfl) (RV.tmp rfl)) rfl) | (rw [ld_some hno hz (by show ¬ s' ≠ 2; omega) (chg_0 hz (by show ¬ (s ≠ 0 ∧ 2 ≠ s); omega))]; exact fin.ret (Res.two rfl (RV.tmp rfl) (RV.tmp rfl)) (by show Value.tuple _ = Value.tuple #[.int .i64 (ab (A - 2 * B + B') + t * (((0 : Nat) : Int))), .bool true]; simp)) | (rw [ld_some hno hz (by show ¬ s' ≠ 2; omega) (chg_1 hz (by show s ≠ 0 ∧ 2 ≠ s; omega))]; exact fin.ret (Res.two rfl (RV.tmp rfl) (RV.tmp rfl)) (by show Value.tuple _ = Value.tuple #[.int .i64 (ab (A - 2 * B + B') + t * (((1 : Nat) : Int))), .bool true]; simp))) | (have hz : sg s (A - 2 * B + B') = s := sg_0 (by omega) (by omega); first | (rw [ld_none2 hno hz (by show s' ≠ s; omega)]; exact fin.ret (Res.two rfl (RV.tmp rfl) (RV.tmp rfl)) rfl) | (rw [ld_some hno hz (by show ¬ s' ≠ s; omega) (chg_0 hz (by show ¬ (s ≠ 0 ∧ s ≠ s); omega))]; exact fin.ret (Res.two rfl (RV.tmp rfl) (RV.tmp rfl)) (by show Value.tuple _ = Value.tuple #[.int .i64 (ab (A - 2 * B + B') + t * (((0 : Nat) : Int))), .bool true]; simp)))))
                                · first
                                  | (exfalso; omega)
                                  | (refine WO.no rfl rfl (WO.no rfl rfl (WO.no rfl rfl (WO.no rfl rfl (WO.p rfl rfl ?_))))
                                     refine WO.nil ?_
                                     refine W.cond_f rfl ?_
                                     refine W.skip ?_
                                     refine W.sreg ?_
                                     refine WO.p rfl rfl (WO.p rfl rfl (WO.p rfl rfl ?_))
                                     refine WO.nil ?_
                                     refine W.ret ?_
                                     first | (rw [ld_none1 (by show i' ≠ i + 1 ∨ A' ≠ B; omega)]; exact fin.ret (Res.two rfl (RV.tmp rfl) (RV.tmp rfl)) rfl) | (have hz : sg s (A - 2 * B + B') = 1 := sg_1 (by omega); first | (rw [ld_none2 hno hz (by show s' ≠ 1; omega)]; exact fin.ret (Res.two rfl (RV.tmp rfl) (RV.tmp rfl)) rfl) | (rw [ld_some hno hz (by show ¬ s' ≠ 1; omega) (chg_0 hz (by show ¬ (s ≠ 0 ∧ 1 ≠ s); omega))]; exact fin.ret (Res.two rfl (RV.tmp rfl) (RV.tmp rfl)) (by show Value.tuple _ = Value.tuple #[.int .i64 (ab (A - 2 * B + B') + t * (((0 : Nat) : Int))), .bool true]; simp)) | (rw [ld_some hno hz (by show ¬ s' ≠ 1; omega) (chg_1 hz (by show s ≠ 0 ∧ 1 ≠ s; omega))]; exact fin.ret (Res.two rfl (RV.tmp rfl) (RV.tmp rfl)) (by show Value.tuple _ = Value.tuple #[.int .i64 (ab (A - 2 * B + B') + t * (((1 : Nat) : Int))), .bool true]; simp))) | (have hz : sg s (A - 2 * B + B') = 2 := sg_2 (by omega); first | (rw [ld_none2 hno hz (by show s' ≠ 2; omega)]; exact fin.ret (Res.two rfl (RV.tmp rfl) (RV.tmp rfl)) rfl) | (rw [ld_some hno hz (by show ¬ s' ≠ 2; omega) (chg_0 hz (by show ¬ (s ≠ 0 ∧ 2 ≠ s); omega))]; exact fin.ret (Res.two rfl (RV.tmp rfl) (RV.tmp rfl)) (by show Value.tuple _ = Value.tuple #[.int .i64 (ab (A - 2 * B + B') + t * (((0 : Nat) : Int))), .bool true]; simp)) | (rw [ld_some hno hz (by show ¬ s' ≠ 2; omega) (chg_1 hz (by show s ≠ 0 ∧ 2 ≠ s; omega))]; exact fin.ret (Res.two rfl (RV.tmp rfl) (RV.tmp rfl)) (by show Value.tuple _ = Value.tuple #[.int .i64 (ab (A - 2 * B + B') + t * (((1 : Nat) : Int))), .bool true]; simp))) | (have hz : sg s (A - 2 * B + B') = s := sg_0 (by omega) (by omega); first | (rw [ld_none2 hno hz (by show s' ≠ s; omega)]; exact fin.ret (Res.two rfl (RV.tmp rfl) (RV.tmp rfl)) rfl) | (rw [ld_some hno hz (by show ¬ s' ≠ s; omega) (chg_0 hz (by show ¬ (s ≠ 0 ∧ s ≠ s); omega))]; exact fin.ret (Res.two rfl (RV.tmp rfl) (RV.tmp rfl)) (by show Value.tuple _ = Value.tuple #[.int .i64 (ab (A - 2 * B + B') + t * (((0 : Nat) : Int))), .bool true]; simp)))))
                           · first
                             | (exfalso; omega)
                             | (refine WO.no rfl rfl (WO.no rfl rfl (WO.p rfl rfl (WO.p rfl rfl (WO.no rfl rfl (WO.no rfl rfl (WO.no rfl rfl (WO.no rfl rfl (WO.p rfl rfl ?_))))))))
                                refine WO.nil ?_
                                refine W.cond_f rfl ?_
                                refine W.skip ?_
                                refine W.sreg ?_
                                refine WO.p rfl rfl (WO.p rfl rfl (WO.p rfl rfl ?_))
                                refine WO.nil ?_
                                refine W.ret ?_
                                first | (rw [ld_none1 (by show i' ≠ i + 1 ∨ A' ≠ B; omega)]; exact fin.ret (Res.two rfl (RV.tmp rfl) (RV.tmp rfl)) rfl) | (have hz : sg s (A - 2 * B + B') = 1 := sg_1 (by omega); first | (rw [ld_none2 hno hz (by show s' ≠ 1; omega)]; exact fin.ret (Res.two rfl (RV.tmp rfl) (RV.tmp rfl)) rfl) | (rw [ld_some hno hz (by show ¬ s' ≠ 1; omega) (chg_0 hz (by show ¬ (s ≠ 0 ∧ 1 ≠ s); omega))]; exact fin.ret (Res.two rfl (RV.tmp rfl) (RV.tmp rfl)) (by show Value.tuple _ = Value.tuple #[.int .i64 (ab (A - 2 * B + B') + t * (((0 : Nat) : Int))), .bool true]; simp)) | (rw [ld_some hno hz (by show ¬ s' ≠ 1; omega) (chg_1 hz (by show s ≠ 0 ∧ 1 ≠ s; omega))]; exact fin.ret (Res.two rfl (RV.tmp rfl) (RV.tmp rfl)) (by show Value.tuple _ = Value.tuple #[.int .i64 (ab (A - 2 * B + B') + t * (((1 : Nat) : Int))), .bool true]; simp))) | (have hz : sg s (A - 2 * B + B') = 2 := sg_2 (by omega); first | (rw [ld_none2 hno hz (by show s' ≠ 2; omega)]; exact fin.ret (Res.two rfl (RV.tmp rfl) (RV.tmp rfl)) rfl) | (rw [ld_some hno hz (by show ¬ s' ≠ 2; omega) (chg_0 hz (by show ¬ (s ≠ 0 ∧ 2 ≠ s); omega))]; exact fin.ret (Res.two rfl (RV.tmp rfl) (RV.tmp rfl)) (by show Value.tuple _ = Value.tuple #[.int .i64 (ab (A - 2 * B + B') + t * (((0 : Nat) : Int))), .bool true]; simp)) | (rw [ld_some hno hz (by show ¬ s' ≠ 2; omega) (chg_1 hz (by show s ≠ 0 ∧ 2 ≠ s; omega))]; exact fin.ret (Res.two rfl (RV.tmp rfl) (RV.tmp rfl)) (by show Value.tuple _ = Value.tuple #[.int .i64 (ab (A - 2 * B + B') + t * (((1 : Nat) : Int))), .bool true]; simp))) | (have hz : sg s (A - 2 * B + B') = s := sg_0 (by omega) (by omega); first | (rw [ld_none2 hno hz (by show s' ≠ s; omega)]; exact fin.ret (Res.two rfl (RV.tmp rfl) (RV.tmp rfl)) rfl) | (rw [ld_some hno hz (by show ¬ s' ≠ s; omega) (chg_0 hz (by show ¬ (s ≠ 0 ∧ s ≠ s); omega))]; exact fin.ret (Res.two rfl (RV.tmp rfl) (RV.tmp rfl)) (by show Value.tuple _ = Value.tuple #[.int .i64 (ab (A - 2 * B + B') + t * (((0 : Nat) : Int))), .bool true]; simp))))))
                 · first
                   | (exfalso; omega)
                   | (refine W.skip ?_
                      refine W.seq ?_
                      refine W.sreg ?_
                      refine WO.fieldL rfl rfl rfl (WO.load rfl rfl (Cell.own Pick.head rfl) rfl (WO.p rfl rfl (WO.p rfl rfl ?_)))
                      refine WO.nil ?_
                      refine W.cond_bl rfl (fun c5 => ?_) (fun c5 => ?_)
                      · first
                        | (exfalso; omega)
                        | (refine W.sreg ?_
                           refine WO.p rfl rfl (WO.p rfl rfl ?_)
                           refine WO.nil ?_
                           refine W.ret ?_
                           first | (rw [ld_none1 (by show i' ≠ i + 1 ∨ A' ≠ B; omega)]; exact fin.ret (Res.two rfl (RV.tmp rfl) (RV.tmp rfl)) rfl) | (have hz : sg s (A - 2 * B + B') = 1 := sg_1 (by omega); first | (rw [ld_none2 hno hz (by show s' ≠ 1; omega)]; exact fin.ret (Res.two rfl (RV.tmp rfl) (RV.tmp rfl)) rfl) | (rw [ld_some hno hz (by show ¬ s' ≠ 1; omega) (chg_0 hz (by show ¬ (s ≠ 0 ∧ 1 ≠ s); omega))]; exact fin.ret (Res.two rfl (RV.tmp rfl) (RV.tmp rfl)) (by show Value.tuple _ = Value.tuple #[.int .i64 (ab (A - 2 * B + B') + t * (((0 : Nat) : Int))), .bool true]; simp)) | (rw [ld_some hno hz (by show ¬ s' ≠ 1; omega) (chg_1 hz (by show s ≠ 0 ∧ 1 ≠ s; omega))]; exact fin.ret (Res.two rfl (RV.tmp rfl) (RV.tmp rfl)) (by show Value.tuple _ = Value.tuple #[.int .i64 (ab (A - 2 * B + B') + t * (((1 : Nat) : Int))), .bool true]; simp))) | (have hz : sg s (A - 2 * B + B') = 2 := sg_2 (by omega); first | (rw [ld_none2 hno hz (by show s' ≠ 2; omega)]; exact fin.ret (Res.two rfl (RV.tmp rfl) (RV.tmp rfl)) rfl) | (rw [ld_some hno hz (by show ¬ s' ≠ 2; omega) (chg_0 hz (by show ¬ (s ≠ 0 ∧ 2 ≠ s); omega))]; exact fin.ret (Res.two rfl (RV.tmp rfl) (RV.tmp rfl)) (by show Value.tuple _ = Value.tuple #[.int .i64 (ab (A - 2 * B + B') + t * (((0 : Nat) : Int))), .bool true]; simp)) | (rw [ld_some hno hz (by show ¬ s' ≠ 2; omega) (chg_1 hz (by show s ≠ 0 ∧ 2 ≠ s; omega))]; exact fin.ret (Res.two rfl (RV.tmp rfl) (RV.tmp rfl)) (by show Value.tuple _ = Value.tuple #[.int .i64 (ab (A - 2 * B + B') + t * (((1 : Nat) : Int))), .bool true]; simp))) | (have hz : sg s (A - 2 * B + B') = s := sg_0 (by omega) (by omega); first | (rw [ld_none2 hno hz (by show s' ≠ s; omega)]; exact fin.ret (Res.two rfl (RV.tmp rfl) (RV.tmp rfl)) rfl) | (rw [ld_some hno hz (by show ¬ s' ≠ s; omega) (chg_0 hz (by show ¬ (s ≠ 0 ∧ s ≠ s); omega))]; exact fin.ret (Res.two rfl (RV.tmp rfl) (RV.tmp rfl)) (by show Value.tuple _ = Value.tuple #[.int .i64 (ab (A - 2 * B + B') + t * (((0 : Nat) : Int))), .bool true]; simp))))
                      · first
                        | (exfalso; omega)
                        | (refine W.skip ?_
                           refine W.sreg ?_
                           refine WO.p rfl rfl ?_
                           refine WO.callR rfl Try.call56 (fun L w hi => ref_amount w _ (by omega)) rfl ?_
                           refine WO.p rfl rfl ?_
                           refine WO.nil ?_
                           refine W.seq ?_
                           refine W.sreg ?_
                           refine WO.fieldL rfl rfl rfl (WO.load rfl rfl (Cell.own (Pick.tail (Pick.head)) rfl) rfl (WO.p rfl rfl (WO.p rfl rfl ?_)))
                           refine WO.guard_bl rfl rfl (fun c6 => ?_) (fun c6 => ?_)
                           · first
                             | (exfalso; omega)
                             | (refine WO.pg rfl rfl rfl (WO.pg rfl rfl rfl (WO.p rfl rfl (WO.p rfl rfl ?_)))
                                refine WO.guard_bl rfl rfl (fun c7 => ?_) (fun c7 => ?_)
                                · first
                                  | (exfalso; omega)
                                  | (refine WO.pg rfl rfl rfl (WO.go' rfl (WO.fieldL rfl rfl rfl (WO.go' rfl (WO.load rfl rfl (Cell.own (Pick.tail (Pick.head)) rfl) rfl (WO.pg rfl rfl rfl (WO.p rfl rfl ?_))))))
                                     refine WO.nil ?_
                                     refine W.cond_bl rfl (fun c8 => ?_) (fun c8 => ?_)
                                     · first
                                       | (exfalso; omega)
                                       | (refine W.region ?_
                                          refine WO.p rfl rfl (WO.fieldL rfl rfl rfl (WO.load rfl rfl (Cell.own (Pick.tail (Pick.tail (Pick.head))) rfl) rfl (WO.ar rfl rfl rfl (by (first | (unfold in64; omega) | (unfold in64; omega))) rfl (WO.p rfl rfl ?_))))
                                          refine WO.nil ?_
                                          refine W.sreg ?_
                                          refine WO.p rfl rfl (WO.p rfl rfl (WO.p rfl rfl ?_))
                                          refine WO.nil ?_
                                          refine W.ret ?_
                                          first | (rw [ld_none1 (by show i' ≠ i + 1 ∨ A' ≠ B; omega)]; exact fin.ret (Res.two rfl (RV.tmp rfl) (RV.tmp rfl)) rfl) | (have hz : sg s (A - 2 * B + B') = 1 := sg_1 (by omega); first | (rw [ld_none2 hno hz (by show s' ≠ 1; omega)]; exact fin.ret (Res.two rfl (RV.tmp rfl) (RV.tmp rfl)) rfl) | (rw [ld_some hno hz (by show ¬ s' ≠ 1; omega) (chg_0 hz (by show ¬ (s ≠ 0 ∧ 1 ≠ s); omega))]; exact fin.ret (Res.two rfl (RV.tmp rfl) (RV.tmp rfl)) (by show Value.tuple _ = Value.tuple #[.int .i64 (ab (A - 2 * B + B') + t * (((0 : Nat) : Int))), .bool true]; simp)) | (rw [ld_some hno hz (by show ¬ s' ≠ 1; omega) (chg_1 hz (by show s ≠ 0 ∧ 1 ≠ s; omega))]; exact fin.ret (Res.two rfl (RV.tmp rfl) (RV.tmp rfl)) (by show Value.tuple _ = Value.tuple #[.int .i64 (ab (A - 2 * B + B') + t * (((1 : Nat) : Int))), .bool true]; simp))) | (have hz : sg s (A - 2 * B + B') = 2 := sg_2 (by omega); first | (rw [ld_none2 hno hz (by show s' ≠ 2; omega)]; exact fin.ret (Res.two rfl (RV.tmp rfl) (RV.tmp rfl)) rfl) | (rw [ld_some hno hz (by show ¬ s' ≠ 2; omega) (chg_0 hz (by show ¬ (s ≠ 0 ∧ 2 ≠ s); omega))]; exact fin.ret (Res.two rfl (RV.tmp rfl) (RV.tmp rfl)) (by show Value.tuple _ = Value.tuple #[.int .i64 (ab (A - 2 * B + B') + t * (((0 : Nat) : Int))), .bool true]; simp)) | (rw [ld_some hno hz (by show ¬ s' ≠ 2; omega) (chg_1 hz (by show s ≠ 0 ∧ 2 ≠ s; omega))]; exact fin.ret (Res.two rfl (RV.tmp rfl) (RV.tmp rfl)) (by show Value.tuple _ = Value.tuple #[.int .i64 (ab (A - 2 * B + B') + t * (((1 : Nat) : Int))), .bool true]; simp))) | (have hz : sg s (A - 2 * B + B') = s := sg_0 (by omega) (by omega); first | (rw [ld_none2 hno hz (by show s' ≠ s; omega)]; exact fin.ret (Res.two rfl (RV.tmp rfl) (RV.tmp rfl)) rfl) | (rw [ld_some hno hz (by show ¬ s' ≠ s; omega) (chg_0 hz (by show ¬ (s ≠ 0 ∧ s ≠ s); omega))]; exact fin.ret (Res.two rfl (RV.tmp rfl) (RV.tmp rfl)) (by show Value.tuple _ = Value.tuple #[.int .i64 (ab (A - 2 * B + B') + t * (((0 : Nat) : Int))), .bool true]; simp))))
                                     · first
                                       | (exfalso; omega)
                                       | (refine W.skip ?_
                                          refine W.sreg ?_
                                          refine WO.p rfl rfl (WO.p rfl rfl (WO.p rfl rfl ?_))
                                          refine WO.nil ?_
                                          refine W.ret ?_
                                          first | (rw [ld_none1 (by show i' ≠ i + 1 ∨ A' ≠ B; omega)]; exact fin.ret (Res.two rfl (RV.tmp rfl) (RV.tmp rfl)) rfl) | (have hz : sg s (A - 2 * B + B') = 1 := sg_1 (by omega); first | (rw [ld_none2 hno hz (by show s' ≠ 1; omega)]; exact fin.ret (Res.two rfl (RV.tmp rfl) (RV.tmp rfl)) rfl) | (rw [ld_some hno hz (by show ¬ s' ≠ 1; omega) (chg_0 hz (by show ¬ (s ≠ 0 ∧ 1 ≠ s); omega))]; exact fin.ret (Res.two rfl (RV.tmp rfl) (RV.tmp rfl)) (by show Value.tuple _ = Value.tuple #[.int .i64 (ab (A - 2 * B + B') + t * (((0 : Nat) : Int))), .bool true]; simp)) | (rw [ld_some hno hz (by show ¬ s' ≠ 1; omega) (chg_1 hz (by show s ≠ 0 ∧ 1 ≠ s; omega))]; exact fin.ret (Res.two rfl (RV.tmp rfl) (RV.tmp rfl)) (by show Value.tuple _ = Value.tuple #[.int .i64 (ab (A - 2 * B + B') + t * (((1 : Nat) : Int))), .bool true]; simp))) | (have hz : sg s (A - 2 * B + B') = 2 := sg_2 (by omega); first | (rw [ld_none2 hno hz (by show s' ≠ 2; omega)]; exact fin.ret (Res.two rfl (RV.tmp rfl) (RV.tmp rfl)) rfl) | (rw [ld_some hno hz (by show ¬ s' ≠ 2; omega) (chg_0 hz (by show ¬ (s ≠ 0 ∧ 2 ≠ s); omega))]; exact fin.ret (Res.two rfl (RV.tmp rfl) (RV.tmp rfl)) (by show Value.tuple _ = Value.tuple #[.int .i64 (ab (A - 2 * B + B') + t * (((0 : Nat) : Int))), .bool true]; simp)) | (rw [ld_some hno hz (by show ¬ s' ≠ 2; omega) (chg_1 hz (by show s ≠ 0 ∧ 2 ≠ s; omega))]; exact fin.ret (Res.two rfl (RV.tmp rfl) (RV.tmp rfl)) (by show Value.tuple _ = Value.tuple #[.int .i64 (ab (A - 2 * B + B') + t * (((1 : Nat) : Int))), .bool true]; simp))) | (have hz : sg s (A - 2 * B + B') = s := sg_0 (by omega) (by omega); first | (rw [ld_none2 hno hz (by show s' ≠ s; omega)]; exact fin.ret (Res.two rfl (RV.tmp rfl) (RV.tmp rfl)) rfl) | (rw [ld_some hno hz (by show ¬ s' ≠ s; omega) (chg_0 hz (by show ¬ (s ≠ 0 ∧ s ≠ s); omega))]; exact fin.ret (Res.two rfl (RV.tmp rfl) (RV.tmp rfl)) (by show Value.tuple _ = Value.tuple #[.int .i64 (ab (A - 2 * B + B') + t * (((0 : Nat) : Int))), .bool true]; simp)))))
                                · first
                                  | (exfalso; omega)
                                  | (refine WO.no rfl rfl (WO.no rfl rfl (WO.no rfl rfl (WO.no rfl rfl (WO.p rfl rfl ?_))))
                                     refine WO.nil ?_
                                     refine W.cond_f rfl ?_
                                     refine W.skip ?_
                                     refine W.sreg ?_
                                     refine WO.p rfl rfl (WO.p rfl rfl (WO.p rfl rfl ?_))
                                     refine WO.nil ?_
                                     refine W.ret ?_
                                     first | (rw [ld_none1 (by show i' ≠ i + 1 ∨ A' ≠ B; omega)]; exact fin.ret (Res.two rfl (RV.tmp rfl) (RV.tmp rfl)) rfl) | (have hz : sg s (A - 2 * B + B') = 1 := sg_1 (by omega); first | (rw [ld_none2 hno hz (by show s' ≠ 1; omega)]; exact fin.ret (Res.two rfl (RV.tmp rfl) (RV.tmp rfl)) rfl) | (rw [ld_some hno hz (by show ¬ s' ≠ 1; omega) (chg_0 hz (by show ¬ (s ≠ 0 ∧ 1 ≠ s); omega))]; exact fin.ret (Res.two rfl (RV.tmp rfl) (RV.tmp rfl)) (by show Value.tuple _ = Value.tuple #[.int .i64 (ab (A - 2 * B + B') + t * (((0 : Nat) : Int))), .bool true]; simp)) | (rw [ld_some hno hz (by show ¬ s' ≠ 1; omega) (chg_1 hz (by show s ≠ 0 ∧ 1 ≠ s; omega))]; exact fin.ret (Res.two rfl (RV.tmp rfl) (RV.tmp rfl)) (by show Value.tuple _ = Value.tuple #[.int .i64 (ab (A - 2 * B + B') + t * (((1 : Nat) : Int))), .bool true]; simp))) | (have hz : sg s (A - 2 * B + B') = 2 := sg_2 (by omega); first | (rw [ld_none2 hno hz (by show s' ≠ 2; omega)]; exact fin.ret (Res.two rfl (RV.tmp rfl) (RV.tmp rfl)) rfl) | (rw [ld_some hno hz (by show ¬ s' ≠ 2; omega) (chg_0 hz (by show ¬ (s ≠ 0 ∧ 2 ≠ s); omega))]; exact fin.ret (Res.two rfl (RV.tmp rfl) (RV.tmp rfl)) (by show Value.tuple _ = Value.tuple #[.int .i64 (ab (A - 2 * B + B') + t * (((0 : Nat) : Int))), .bool true]; simp)) | (rw [ld_some hno hz (by show ¬ s' ≠ 2; omega) (chg_1 hz (by show s ≠ 0 ∧ 2 ≠ s; omega))]; exact fin.ret (Res.two rfl (RV.tmp rfl) (RV.tmp rfl)) (by show Value.tuple _ = Value.tuple #[.int .i64 (ab (A - 2 * B + B') + t * (((1 : Nat) : Int))), .bool true]; simp))) | (have hz : sg s (A - 2 * B + B') = s := sg_0 (by omega) (by omega); first | (rw [ld_none2 hno hz (by show s' ≠ s; omega)]; exact fin.ret (Res.two rfl (RV.tmp rfl) (RV.tmp rfl)) rfl) | (rw [ld_some hno hz (by show ¬ s' ≠ s; omega) (chg_0 hz (by show ¬ (s ≠ 0 ∧ s ≠ s); omega))]; exact fin.ret (Res.two rfl (RV.tmp rfl) (RV.tmp rfl)) (by show Value.tuple _ = Value.tuple #[.int .i64 (ab (A - 2 * B + B') + t * (((0 : Nat) : Int))), .bool true]; simp)))))
                           · first
                             | (exfalso; omega)
                             | (refine WO.no rfl rfl (WO.no rfl rfl (WO.p rfl rfl (WO.p rfl rfl (WO.no rfl rfl (WO.no rfl rfl (WO.no rfl rfl (WO.no rfl rfl (WO.p rfl rfl ?_))))))))
                                refine WO.nil ?_
                                refine W.cond_f rfl ?_
                                refine W.skip ?_
                                refine W.sreg ?_
                                refine WO.p rfl rfl (WO.p rfl rfl (WO.p rfl rfl ?_))
                                refine WO.nil ?_
                                refine W.ret ?_
                                first | (rw [ld_none1 (by show i' ≠ i + 1 ∨ A' ≠ B; omega)]; exact fin.ret (Res.two rfl (RV.tmp rfl) (RV.tmp rfl)) rfl) | (have hz : sg s (A - 2 * B + B') = 1 := sg_1 (by omega); first | (rw [ld_none2 hno hz (by show s' ≠ 1; omega)]; exact fin.ret (Res.two rfl (RV.tmp rfl) (RV.tmp rfl)) rfl) | (rw [ld_some hno hz (by show ¬ s' ≠ 1; omega) (chg_0 hz (by show ¬ (s ≠ 0 ∧ 1 ≠ s); omega))]; exact fin.ret (Res.two rfl (RV.tmp rfl) (RV.tmp rfl)) (by show Value.tuple _ = Value.tuple #[.int .i64 (ab (A - 2 * B + B') + t * (((0 : Nat) : Int))), .bool true]; simp)) | (rw [ld_some hno hz (by show ¬ s' ≠ 1; omega) (chg_1 hz (by show s ≠ 0 ∧ 1 ≠ s; omega))]; exact fin.ret (Res.two rfl (RV.tmp rfl) (RV.tmp rfl)) (by show Value.tuple _ = Value.tuple #[.int .i64 (ab (A - 2 * B + B') + t * (((1 : Nat) : Int))), .bool true]; simp))) | (have hz : sg s (A - 2 * B + B') = 2 := sg_2 (by omega); first | (rw [ld_none2 hno hz (by show s' ≠ 2; omega)]; exact fin.ret (Res.two rfl (RV.tmp rfl) (RV.tmp rfl)) rfl) | (rw [ld_some hno hz (by show ¬ s' ≠ 2; omega) (chg_0 hz (by show ¬ (s ≠ 0 ∧ 2 ≠ s); omega))]; exact fin.ret (Res.two rfl (RV.tmp rfl) (RV.tmp rfl)) (by show Value.tuple _ = Value.tuple #[.int .i64 (ab (A - 2 * B + B') + t * (((0 : Nat) : Int))), .bool true]; simp)) | (rw [ld_some hno hz (by show ¬ s' ≠ 2; omega) (chg_1 hz (by show s ≠ 0 ∧ 2 ≠ s; omega))]; exact fin.ret (Res.two rfl (RV.tmp rfl) (RV.tmp rfl)) (by show Value.tuple _ = Value.tuple #[.int .i64 (ab (A - 2 * B + B') + t * (((1 : Nat) : Int))), .bool true]; simp))) | (have hz : sg s (A - 2 * B + B') = s := sg_0 (by omega) (by omega); first | (rw [ld_none2 hno hz (by show s' ≠ s; omega)]; exact fin.ret (Res.two rfl (RV.tmp rfl) (RV.tmp rfl)) rfl) | (rw [ld_some hno hz (by show ¬ s' ≠ s; omega) (chg_0 hz (by show ¬ (s ≠ 0 ∧ s ≠ s); omega))]; exact fin.ret (Res.two rfl (RV.tmp rfl) (RV.tmp rfl)) (by show Value.tuple _ = Value.tuple #[.int .i64 (ab (A - 2 * B + B') + t * (((0 : Nat) : Int))), .bool true]; simp)))))))))
end Go.Proofs.Ytpecakgebhmnfaa
namespace Go.Proofs.Ytpecakgebhmnfaa
open Go Go.TH
attribute [local irreducible] W WO pt
set_option maxRecDepth 10000
set_option maxHeartbeats 1000000
theorem ref_Labels (w : World) (v : Value) (l : List (Int × Int)) (t : Int) (hR : RdF encP 2 w.heap.size w v l) (hcf : chkF l t = 0) :
    Ct Try.prog 28 [.agg #[v, .int .i64 t]].toArray w fun r w' => ∃ Hq, (∃ x : Value, r = x ∧ Hq = [OwE encI 2 1 x (rlL l t)]) ∧ Inv w [] Hq w' := by
  refine Ct.ofI (X := Value) (p := fun x r => r = x) (Hx := fun x => [OwE encI 2 1 x (rlL l t)]) mixed tyTab Try.func28 rfl rfl ?_
  replace hR : RdF encP 2 (fnCx mixed tyTab Try.f28.ntmps w).B (fnCx mixed tyTab Try.f28.ntmps w).w0 v l := hR
  have hoc := hR.sl.oc
  replace hcf := chkF0.1 hcf
  have hC : OkC 1 t := ⟨.inr rfl, hcf.2.1⟩
  have hg := hcf.2.2
  have hal := allL_len hg hcf.1.2
  refine W.sreg ?_
  refine WO.boxA rfl rfl (fun b1 hb1 => ?_)
  refine WO.p rfl rfl ?_
  refine WO.nil ?_
  refine W.sreg ?_
  refine WO.loadA rfl rfl (Cells.own Pick.head) rfl rfl ?_
  refine WO.call rfl Try.call49 (fun L w hi => ref_States w v l t (hR.later hi) hg hcf.1.2 hcf.1.1) rfl ?_
  rintro rv _ ⟨_, rfl, rfl⟩
  refine WO.fact (OwE.sl (enc := encRs) (e := 87) (sz := 4) (v := rv) (xs := allR l) Pick.head) (fun hrv => ?_)
  rw [allR_len] at hrv
  refine WO.p rfl rfl ?_
  refine WO.nil ?_
  refine W.sreg ?_
  refine WO.p rfl rfl ?_
  refine' WO.len (n := _) rfl rfl ?hs rfl ?_
  case hs => (first | exact hrv)
  refine WO.makeI (n := (allL l).length) rfl rfl rfl rfl (by omega) (by omega) rfl (fun ob => ?_)
  refine WO.p rfl rfl ?_
  refine WO.nil ?_
  refine W.seq ?_
  refine W.sreg ?_
  refine WO.p rfl rfl ?_
  refine WO.nil ?_
  refine W.block ?_
  refine W.loop2 (fun (j : Nat) (out : List Int) => j ≤ (allL l).length ∧ out.length = (allL l).length ∧ ∀ i, i < j → out.getD i 0 = iniK (kAt l i))
    (fun (j : Nat) (out : List Int) => [(1, .pointer (some ⟨b1, 0, none⟩)), (3, rv), (4, .slice (some ⟨ob, 0, none⟩) (allL l).length (allL l).length), (5, .int .i64 (j : Int))])
    (fun (j : Nat) (out : List Int) => [pt b1 (.cells #[v, .int .i64 t] 24 (0, 0)), OwE encRs 87 4 rv (allR l), OwE encI 2 1 (.slice (some ⟨ob, 0, none⟩) (allL l).length (allL l).length) out])
    (fun (j : Nat) (out : List Int) => (allL l).length - j) 0 (List.replicate (allL l).length 0)
    (by exact ⟨Nat.zero_le _, List.length_replicate, fun i hi => absurd hi (Nat.not_lt_zero i)⟩) ⟨rfl, rfl, rfl, rfl, trivial⟩ (by repeat (first | exact Sub.nil | refine Sub.cons (by repeat (first | exact Pick.head | apply Pick.tail)) ?_)) ?_
  rintro j out ⟨hj, hol, hoi⟩
  refine W.seq ?_
  refine W.sreg ?_
  refine WO.p rfl rfl (WO.p rfl rfl ?_)
  refine' WO.len (n := _) rfl rfl ?hs rfl ?_
  case hs => (first | exact hrv)
  refine WO.p rfl rfl ?_
  refine WO.nil ?_
  refine W.cond_bl rfl (fun c1 => ?_) (fun c1 => ?_)
  · first
    | (exfalso; omega)
    | (refine W.skip ?_
       refine W.seq ?_
       refine W.block ?_
       refine W.sreg ?_
       refine WO.p rfl rfl (WO.p rfl rfl ?_)
       refine' WO.indexAddr (n := _) (i := _) rfl rfl rfl ?hs ?h1 rfl ?_
       case hs => (first | exact isSl_lit (n := (allL l).length) (c := (allL l).length) (by omega) (fun _ => ⟨_, _, rfl⟩))
       case h1 => (first | omega | (simp; omega))
       refine WO.storeE (n := 1099511627776) (i := j) (xs := out) encI_ok rfl rfl rfl rfl (by repeat (first | exact Pick.head | apply Pick.tail)) (by omega) ?_
       refine WO.nil ?_
       refine W.sreg ?_
       refine WO.p rfl rfl (WO.p rfl rfl ?_)
       refine' WO.indexAddr (n := _) (i := _) rfl rfl rfl ?hs ?h1 rfl ?_
       case hs => (first | exact hrv)
       case h1 => (first | omega | (simp; omega))
       refine WO.field0 rfl rfl rfl ?_
       refine' WO.load (v := _) rfl rfl ?hc rfl ?_
       case hc => (first | (refine OwR.c0 (l := l) (j := j) ?_ (by omega); exact (by repeat (first | exact Sub.nil | refine Sub.cons (by repeat (first | exact Pick.head | apply Pick.tail)) ?_))))
       refine WO.p rfl rfl (WO.p rfl rfl ?_)
       refine WO.guard_bl rfl rfl (fun c2 => ?_) (fun c2 => ?_)
       · first
         | (exfalso; omega)
         | (refine WO.pg rfl rfl rfl (WO.pg rfl rfl rfl (WO.go' rfl ?_))
            refine' WO.indexAddr (n := _) (i := _) rfl rfl rfl ?hs ?h1 rfl ?_
            case hs => (first | exact hrv)
            case h1 => (first | omega | (simp; omega))
            refine WO.go' rfl (WO.field rfl rfl rfl (WO.go' rfl ?_))
            refine' WO.load (v := _) rfl rfl ?hc rfl ?_
            case hc => (first | (refine OwR.c3 (l := l) (j := j) ?_ (by omega); exact (by repeat (first | exact Sub.nil | refine Sub.cons (by repeat (first | exact Pick.head | apply Pick.tail)) ?_))))
            refine WO.pg rfl rfl rfl (WO.p rfl rfl ?_)
            refine WO.nil ?_
            refine W.cond_bl rfl (fun c3 => ?_) (fun c3 => ?_)
            · first
              | (exfalso; omega)
              | (refine W.region ?_
                 refine WO.p rfl rfl (WO.p rfl rfl ?_)
                 refine' WO.indexAddr (n := _) (i := _) rfl rfl rfl ?hs ?h1 rfl ?_
                 case hs => (first | exact isSl_lit (n := (allL l).length) (c := (allL l).length) (by omega) (fun _ => ⟨_, _, rfl⟩))
                 case h1 => (first | omega | (simp; omega))
                 refine WO.storeE (n := 0) (i := j) (xs := out.set j 1099511627776) encI_ok rfl rfl rfl rfl (by repeat (first | exact Pick.head | apply Pick.tail)) (by rw [List.length_set]; omega) ?_
                 refine WO.nil ?_
                 refine W.region ?_
                 refine WO.p rfl rfl (WO.ar rfl rfl rfl (by (first | (unfold in64; omega) | (unfold in64; omega))) rfl (WO.p rfl rfl ?_))
                 refine WO.nil ?_
                 refine' ⟨j + 1, _, ?hp, ?hmu, ⟨rfl, rfl, rfl, rfl, trivial⟩, ?hS⟩
                 case hS => repeat (first | exact Sub.nil | refine Sub.cons (by repeat (first | exact Pick.head | apply Pick.tail)) ?_)
                 case hp => exact ⟨by omega, by simp [hol], fun i hi => by first | (rw [List.set_set, getD_set (by omega)]; by_cases e : i = j; (subst e; rw [if_pos rfl]; exact (if_pos (show (kAt l i).1 = 1 ∧ (kAt l i).2.2.2 = 0 by omega)).symm); (rw [if_neg e]; exact hoi i (by omega))) | (rw [getD_set (by omega)]; by_cases e : i = j; (subst e; rw [if_pos rfl]; exact (if_neg (show ¬ ((kAt l i).1 = 1 ∧ (kAt l i).2.2.2 = 0) by omega)).symm); (rw [if_neg e]; exact hoi i (by omega)))⟩
                 case hmu => omega)
            · first
              | (exfalso; omega)
              | (refine W.skip ?_
                 refine W.region ?_
                 refine WO.p rfl rfl (WO.ar rfl rfl rfl (by (first | (unfold in64; omega) | (unfold in64; omega))) rfl (WO.p rfl rfl ?_))
                 refine WO.nil ?_
                 refine' ⟨j + 1, _, ?hp, ?hmu, ⟨rfl, rfl, rfl, rfl, trivial⟩, ?hS⟩
                 case hS => repeat (first | exact Sub.nil | refine Sub.cons (by repeat (first | exact Pick.head | apply Pick.tail)) ?_)
                 case hp => exact ⟨by omega, by simp [hol], fun i hi => by first | (rw [List.set_set, getD_set (by omega)]; by_cases e : i = j; (subst e; rw [if_pos rfl]; exact (if_pos (show (kAt l i).1 = 1 ∧ (kAt l i).2.2.2 = 0 by omega)).symm); (rw [if_neg e]; exact hoi i (by omega))) | (rw [getD_set (by omega)]; by_cases e : i = j; (subst e; rw [if_pos rfl]; exact (if_neg (show ¬ ((kAt l i).1 = 1 ∧ (kAt l i).2.2.2 = 0) by omega)).symm); (rw [if_neg e]; exact hoi i (by omega)))⟩
                 case hmu => omega))
       · first
         | (exfalso; omega)
         | (refine WO.no rfl rfl (WO.no rfl rfl (WO.no rfl rfl (WO.no rfl rfl (WO.no rfl rfl (WO.no rfl rfl (WO.p rfl rfl ?_))))))
            refine WO.nil ?_
            refine W.cond_f rfl ?_
            refine W.skip ?_
            refine W.region ?_
            refine WO.p rfl rfl (WO.ar rfl rfl rfl (by (first | (unfold in64; omega) | (unfold in64; omega))) rfl (WO.p rfl rfl ?_))
            refine WO.nil ?_
            refine' ⟨j + 1, _, ?hp, ?hmu, ⟨rfl, rfl, rfl, rfl, trivial⟩, ?hS⟩
            case hS => repeat (first | exact Sub.nil | refine Sub.cons (by repeat (first | exact Pick.head | apply Pick.tail)) ?_)
            case hp => exact ⟨by omega, by simp [hol], fun i hi => by first | (rw [List.set_set, getD_set (by omega)]; by_cases e : i = j; (subst e; rw [if_pos rfl]; exact (if_pos (show (kAt l i).1 = 1 ∧ (kAt l i).2.2.2 = 0 by omega)).symm); (rw [if_neg e]; exact hoi i (by omega))) | (rw [getD_set (by omega)]; by_cases e : i = j; (subst e; rw [if_pos rfl]; exact (if_neg (show ¬ ((kAt l i).1 = 1 ∧ (kAt l i).2.2.2 = 0) by omega)).symm); (rw [if_neg e]; exact hoi i (by omega)))⟩
            case hmu => omega))
  · first
    | (exfalso; omega)
    | (refine W.exit (blk_same ?_)
       refine W.seq ?_
       obtain rfl : out = iniL l := list_eqD (by rw [hol, iniL_len]) (fun i hi => by rw [hoi i (by omega), iniL_get (by omega)])
       refine W.sreg ?_
       refine WO.p rfl rfl ?_
       refine WO.nil ?_
       refine W.block ?_
       refine W.loop (fun (i : Nat) => i ≤ (allL l).length)
         (fun (i : Nat) => [(1, .pointer (some ⟨b1, 0, none⟩)), (3, rv), (4, .slice (some ⟨ob, 0, none⟩) (allL l).length (allL l).length), (6, .int .i64 (i : Int))])
         (fun (i : Nat) => [pt b1 (.cells #[v, .int .i64 t] 24 (0, 0)), OwE encRs 87 4 rv (allR l), OwE encI 2 1 (.slice (some ⟨ob, 0, none⟩) (allL l).length (allL l).length) (refTo l t i)])
         (fun (i : Nat) => (allL l).length - i) 0
         (by exact Nat.zero_le _) ⟨rfl, rfl, rfl, rfl, trivial⟩ (by repeat (first | exact Sub.nil | refine Sub.cons (by repeat (first | exact Pick.head | apply Pick.tail)) ?_)) ?_
       rintro i hi
       refine W.seq ?_
       refine W.sreg ?_
       refine WO.p rfl rfl (WO.p rfl rfl ?_)
       refine' WO.len (n := _) rfl rfl ?hs rfl ?_
       case hs => (first | exact hrv)
       refine WO.p rfl rfl ?_
       refine WO.nil ?_
       refine W.cond_bl rfl (fun c2 => ?_) (fun c2 => ?_)
       · first
         | (exfalso; omega)
         | (refine W.skip ?_
            refine W.seq ?_
            refine W.block ?_
            have hoki := kAt_ok (l := l) (i := i) (by omega)
            have hki : (kAt l i).1 ≤ 24 := by have := hoki.2.1; omega
            refine W.sreg ?_
            refine WO.p rfl rfl (WO.ar rfl rfl rfl (by (first | (unfold in64; omega) | (unfold in64; omega))) rfl (WO.p rfl rfl ?_))
            refine WO.nil ?_
            refine W.block ?_
            refine W.loop2 (fun (d : Nat) (out : List Int) => i + 1 + d ≤ (allL l).length ∧ out = rN l t i (refTo l t i) d ∧ BdL (allL l).length out)
              (fun (d : Nat) (out : List Int) => [(1, .pointer (some ⟨b1, 0, none⟩)), (3, rv), (4, .slice (some ⟨ob, 0, none⟩) (allL l).length (allL l).length), (6, .int .i64 (i : Int)), (7, .int .i64 ((i + 1 + d : Nat) : Int))])
              (fun (d : Nat) (out : List Int) => [pt b1 (.cells #[v, .int .i64 t] 24 (0, 0)), OwE encRs 87 4 rv (allR l), OwE encI 2 1 (.slice (some ⟨ob, 0, none⟩) (allL l).length (allL l).length) out])
              (fun (d : Nat) (out : List Int) => (allL l).length - d) 0 _
              (by exact ⟨by omega, rfl, refTo_bd hg hC (by omega)⟩) ⟨rfl, rfl, rfl, rfl, rfl, trivial⟩ (by repeat (first | exact Sub.nil | refine Sub.cons (by repeat (first | exact Pick.head | apply Pick.tail)) ?_)) ?_
            rintro d out ⟨hd, hout, hob⟩
            have hol := hob.1
            refine W.seq ?_
            refine W.seq ?_
            refine W.drawD 16 [.r 0 [], .r 1 [], .r 2 [], .r 3 [], .r 4 [], .r 5 [], .r 6 [], .r 7 [], .r 8 [], .b 9 [], .r 10 [], .r 11 [], .r 12 [], .r 13 [], .b 14 [], .r 15 []] [] (A0 := []) (Sub.refl _) (by kernel_rfl) ?_ ?_
            · exact (ALok.r (ALok.r (ALok.r (ALok.r (ALok.r (ALok.r (ALok.r (ALok.r (ALok.r (ALok.b (ALok.r (ALok.r (ALok.r (ALok.r (ALok.b (ALok.r ALok.nil))))))))))))))))
            refine' DT.r rfl rfl rfl ?hq ?_
            case hq =>
              refine WO.p rfl rfl ?_
              exact WO.nil ⟨rfl, rfl⟩
            refine' DT.r rfl rfl rfl ?hq ?_
            case hq =>
              refine WO.p rfl rfl ?_
              exact WO.nil ⟨rfl, rfl⟩
            refine' DT.r rfl rfl rfl ?hq ?_
            case hq =>
              refine' WO.len (n := _) rfl rfl ?hs rfl ?_
              case hs => (first | exact hrv)
              exact WO.nil ⟨rfl, rfl⟩
            refine' DT.r rfl rfl rfl ?hq ?_
            case hq =>
              refine WO.p rfl rfl ?_
              exact WO.nil ⟨rfl, rfl⟩
            refine' DT.rB rfl rfl rfl ?hq (fun c3 => ?_) (fun c3 => ?_)
            case hq =>
              refine WO.p rfl rfl ?_
              exact WO.nil ⟨rfl, rfl⟩
            · first
              | (exfalso; omega)
              | (refine' DT.r rfl rfl rfl ?hq ?_
                 case hq =>
                   refine WO.pg rfl rfl rfl ?_
                   exact WO.nil ⟨rfl, rfl⟩
                 refine' DT.r rfl rfl rfl ?hq ?_
                 case hq =>
                   refine WO.pg rfl rfl rfl ?_
                   exact WO.nil ⟨rfl, rfl⟩
                 refine' DT.r rfl rfl rfl ?hq ?_
                 case hq =>
                   refine WO.go' rfl ?_
                   refine' WO.indexAddr (n := _) (i := _) rfl rfl rfl ?hs ?h1 rfl ?_
                   case hs => (first | exact hrv)
                   case h1 => (first | omega | (simp; omega))
                   exact WO.nil ⟨rfl, rfl⟩
                 refine' DT.r rfl rfl rfl ?hq ?_
                 case hq =>
                   refine WO.go' rfl (WO.field0 rfl rfl rfl ?_)
                   exact WO.nil ⟨rfl, rfl⟩
                 refine' DT.b rfl rfl rfl ?hq ?_
                 case hq =>
                   refine WO.go' rfl ?_
                   refine' WO.load (v := _) rfl rfl ?hc rfl ?_
                   case hc => (first | (refine OwR.c0 (l := l) (j := i + 1 + d) ?_ (by omega); exact (by repeat (first | exact Sub.nil | refine Sub.cons (by repeat (first | exact Pick.head | apply Pick.tail)) ?_))))
                   exact WO.nil ⟨rfl, rfl⟩
                 refine' DT.r rfl rfl rfl ?hq ?_
                 case hq =>
                   refine WO.pg rfl rfl rfl ?_
                   exact WO.nil ⟨rfl, rfl⟩
                 refine' DT.r rfl rfl rfl ?hq ?_
                 case hq =>
                   refine WO.pg rfl rfl rfl ?_
                   exact WO.nil ⟨rfl, rfl⟩
                 refine' DT.r rfl rfl rfl ?hq ?_
                 case hq =>
                   refine WO.go' rfl ?_
                   refine' WO.indexAddr (n := _) (i := _) rfl rfl rfl ?hs ?h1 rfl ?_
                   case hs => (first | exact hrv)
                   case h1 => (first | omega | (simp; omega))
                   exact WO.nil ⟨rfl, rfl⟩
                 refine' DT.r rfl rfl rfl ?hq ?_
                 case hq =>
                   refine WO.go' rfl (WO.field0 rfl rfl rfl ?_)
                   exact WO.nil ⟨rfl, rfl⟩
                 refine' DT.b rfl rfl rfl ?hq ?_
                 case hq =>
                   refine WO.go' rfl ?_
                   refine' WO.load (v := _) rfl rfl ?hc rfl ?_
                   case hc => (first | (refine OwR.c0 (l := l) (j := i) ?_ (by omega); exact (by repeat (first | exact Sub.nil | refine Sub.cons (by repeat (first | exact Pick.head | apply Pick.tail)) ?_))))
                   exact WO.nil ⟨rfl, rfl⟩
                 refine' DT.r rfl rfl rfl ?hq ?_
                 case hq =>
                   refine WO.go' rfl (WO.ar rfl rfl rfl (by (first | (unfold in64; omega) | (unfold in64; omega))) rfl ?_)
                   exact WO.nil ⟨rfl, rfl⟩
                 refine DT.nil [_, _, _] rfl ?_
                 refine WO.pg rfl rfl rfl (WO.p rfl rfl ?_)
                 refine WO.nil ?_
                 refine W.cond_bl rfl (fun c4 => ?_) (fun c4 => ?_)
                 · first
                   | (exfalso; omega)
                   | (refine W.skip ?_
                      refine W.seq ?_
                      refine W.block ?_
                      refine W.seq ?_
                      have hbi := kAt_bd hg hoki
                      have hbK := kAt_bd hg (kAt_ok (l := l) (i := i + 1 + d) (by omega))
                      have hss := hoki.2.2.2.2
                      have hlb := ldAt_bd hg hC (i := i) (K := i + 1 + d) (by omega) (by omega)
                      have hoi := hob.2 i
                      have hoK := hob.2 (i + 1 + d)
                      refine W.drawD 14 [.b 0 [], .r 1 [], .r 2 [], .r 3 [], .b 4 [], .r 5 [], .r 6 [], .r 7 [], .b 8 [], .b 9 [], .r 10 [], .r 11 [], .r 12 [], .r 13 []] [] (A0 := []) (Sub.refl _) (by kernel_rfl) ?_ ?_
                      · exact (ALok.b (ALok.r (ALok.r (ALok.r (ALok.b (ALok.r (ALok.r (ALok.r (ALok.b (ALok.b (ALok.r (ALok.r (ALok.r (ALok.r ALok.nil))))))))))))))
                      refine' DT.b rfl rfl rfl ?hq ?_
                      case hq =>
                        refine WO.loadA rfl rfl (Cells.own Pick.head) rfl rfl ?_
                        exact WO.nil ⟨rfl, rfl⟩
                      refine' DT.r rfl rfl rfl ?hq ?_
                      case hq =>
                        refine WO.p rfl rfl ?_
                        exact WO.nil ⟨rfl, rfl⟩
                      refine' DT.r rfl rfl rfl ?hq ?_
                      case hq =>
                        refine WO.p rfl rfl ?_
                        exact WO.nil ⟨rfl, rfl⟩
                      refine' DT.r rfl rfl rfl ?hq ?_
                      case hq =>
                        refine' WO.indexAddr (n := _) (i := _) rfl rfl rfl ?hs ?h1 rfl ?_
                        case hs => (first | exact hrv)
                        case h1 => (first | omega | (simp; omega))
                        exact WO.nil ⟨rfl, rfl⟩
                      refine' DT.b rfl rfl rfl ?hq ?_
                      case hq =>
                        refine' WO.loadA (vs := _) rfl rfl ?hc ?hl rfl ?_
                        case hc => (first | (refine OwR.cells (l := l) (j := i) ?_ (by omega); exact (by repeat (first | exact Sub.nil | refine Sub.cons (by repeat (first | exact Pick.head | apply Pick.tail)) ?_))))
                        case hl => rfl
                        exact WO.nil ⟨rfl, rfl⟩
                      refine' DT.r rfl rfl rfl ?hq ?_
                      case hq =>
                        refine WO.p rfl rfl ?_
                        exact WO.nil ⟨rfl, rfl⟩
                      refine' DT.r rfl rfl rfl ?hq ?_
                      case hq =>
                        refine WO.p rfl rfl ?_
                        exact WO.nil ⟨rfl, rfl⟩
                      refine' DT.r rfl rfl rfl ?hq ?_
                      case hq =>
                        refine' WO.indexAddr (n := _) (i := _) rfl rfl rfl ?hs ?h1 rfl ?_
                        case hs => (first | exact hrv)
                        case h1 => (first | omega | (simp; omega))
                        exact WO.nil ⟨rfl, rfl⟩
                      refine' DT.b rfl rfl rfl ?hq ?_
                      case hq =>
                        refine' WO.loadA (vs := _) rfl rfl ?hc ?hl rfl ?_
                        case hc => (first | (refine OwR.cells (l := l) (j := i + 1 + d) ?_ (by omega); exact (by repeat (first | exact Sub.nil | refine Sub.cons (by repeat (first | exact Pick.head | apply Pick.tail)) ?_))))
                        case hl => rfl
                        exact WO.nil ⟨rfl, rfl⟩
                      refine' DT.b rfl rfl rfl ?hq ?_
                      case hq =>
                        refine WO.callR (r := .tuple #[.int .i64 ((ldAt l t i (i + 1 + d)).getD 0), .bool (bl ((ldAt l t i (i + 1 + d)).isSome = true))]) rfl Try.call50 (fun L w hi => by rw [bl_isSome]; exact ref_Leads w v t hoc (kAt l i).1 (kAt l (i + 1 + d)).1 (kAt l i).2.2.2 (kAt l (i + 1 + d)).2.2.2 (rsK l (kAt l i)).2.1 (rsK l (kAt l i)).2.2.1 (rsK l (kAt l (i + 1 + d))).2.1 (rsK l (kAt l (i + 1 + d))).2.2.1 hcf.2.1 (by omega) hbi.1 hbi.2 hbK.2 (by omega)) rfl ?_
                        exact WO.nil ⟨rfl, rfl⟩
                      refine' DT.r rfl rfl rfl ?hq ?_
                      case hq =>
                        refine WO.p rfl rfl ?_
                        exact WO.nil ⟨rfl, rfl⟩
                      refine' DT.r rfl rfl rfl ?hq ?_
                      case hq =>
                        refine WO.p rfl rfl ?_
                        exact WO.nil ⟨rfl, rfl⟩
                      refine' DT.r rfl rfl rfl ?hq ?_
                      case hq =>
                        refine WO.p rfl rfl ?_
                        exact WO.nil ⟨rfl, rfl⟩
                      refine' DT.r rfl rfl rfl ?hq ?_
                      case hq =>
                        refine WO.p rfl rfl ?_
                        exact WO.nil ⟨rfl, rfl⟩
                      refine DT.nil [_, _, _] rfl ?_
                      refine WO.p rfl rfl ?_
                      refine WO.nil ?_
                      refine W.sreg ?_
                      refine WO.p rfl rfl (WO.p rfl rfl ?_)
                      refine WO.guard_bl rfl rfl (fun c5 => ?_) (fun c5 => ?_)
                      · first
                        | (exfalso; omega)
                        | (refine WO.pg rfl rfl rfl (WO.pg rfl rfl rfl (WO.go' rfl ?_))
                           refine' WO.indexAddr (n := _) (i := _) rfl rfl rfl ?hs ?h1 rfl ?_
                           case hs => (first | exact isSl_lit (n := (allL l).length) (c := (allL l).length) (by omega) (fun _ => ⟨_, _, rfl⟩))
                           case h1 => (first | omega | (simp; omega))
                           refine WO.go' rfl ?_
                           refine' WO.load (v := _) rfl rfl ?hc rfl ?_
                           case hc => (first | (refine owE_cellS (e := 2) (xs := out) (x := out.getD i 0) (i := i) ?_ (by omega) rfl rfl; exact (by repeat (first | exact Sub.nil | refine Sub.cons (by repeat (first | exact Pick.head | apply Pick.tail)) ?_))))
                           refine WO.pg rfl rfl rfl (WO.p rfl rfl ?_)
                           refine WO.nil ?_
                           refine W.cond_bl rfl (fun c6 => ?_) (fun c6 => ?_)
                           · first
                             | (exfalso; omega)
                             | (refine W.drawD 13 [.r 0 [], .r 1 [], .r 2 [], .r 3 [], .r 4 [], .b 5 [], .r 6 [], .r 7 [], .r 8 [], .b 9 [], .r 10 [], .r 11 [], .r 12 []] [] (A0 := []) (Sub.refl _) (by kernel_rfl) ?_ ?_
                                · exact (ALok.r (ALok.r (ALok.r (ALok.r (ALok.r (ALok.b (ALok.r (ALok.r (ALok.r (ALok.b (ALok.r (ALok.r (ALok.r ALok.nil)))))))))))))
                                refine' DT.r rfl rfl rfl ?hq ?_
                                case hq =>
                                  refine WO.p rfl rfl ?_
                                  exact WO.nil ⟨rfl, rfl⟩
                                refine' DT.r rfl rfl rfl ?hq ?_
                                case hq =>
                                  refine WO.p rfl rfl ?_
                                  exact WO.nil ⟨rfl, rfl⟩
                                refine' DT.r rfl rfl rfl ?hq ?_
                                case hq =>
                                  refine WO.p rfl rfl ?_
                                  exact WO.nil ⟨rfl, rfl⟩
                                refine' DT.r rfl rfl rfl ?hq ?_
                                case hq =>
                                  refine WO.p rfl rfl ?_
                                  exact WO.nil ⟨rfl, rfl⟩
                                refine' DT.r rfl rfl rfl ?hq ?_
                                case hq =>
                                  refine' WO.indexAddr (n := _) (i := _) rfl rfl rfl ?hs ?h1 rfl ?_
                                  case hs => (first | exact isSl_lit (n := (allL l).length) (c := (allL l).length) (by omega) (fun _ => ⟨_, _, rfl⟩))
                                  case h1 => (first | omega | (simp; omega))
                                  exact WO.nil ⟨rfl, rfl⟩
                                refine' DT.b rfl rfl rfl ?hq ?_
                                case hq =>
                                  refine' WO.load (v := _) rfl rfl ?hc rfl ?_
                                  case hc => (first | (refine owE_cellS (e := 2) (xs := out) (x := out.getD (i + 1 + d) 0) (i := i + 1 + d) ?_ (by omega) rfl rfl; exact (by repeat (first | exact Sub.nil | refine Sub.cons (by repeat (first | exact Pick.head | apply Pick.tail)) ?_))))
                                  exact WO.nil ⟨rfl, rfl⟩
                                refine' DT.r rfl rfl rfl ?hq ?_
                                case hq =>
                                  refine WO.p rfl rfl ?_
                                  exact WO.nil ⟨rfl, rfl⟩
                                refine' DT.r rfl rfl rfl ?hq ?_
                                case hq =>
                                  refine WO.p rfl rfl ?_
                                  exact WO.nil ⟨rfl, rfl⟩
                                refine' DT.r rfl rfl rfl ?hq ?_
                                case hq =>
                                  refine' WO.indexAddr (n := _) (i := _) rfl rfl rfl ?hs ?h1 rfl ?_
                                  case hs => (first | exact isSl_lit (n := (allL l).length) (c := (allL l).length) (by omega) (fun _ => ⟨_, _, rfl⟩))
                                  case h1 => (first | omega | (simp; omega))
                                  exact WO.nil ⟨rfl, rfl⟩
                                refine' DT.b rfl rfl rfl ?hq ?_
                                case hq =>
                                  refine' WO.load (v := _) rfl rfl ?hc rfl ?_
                                  case hc => (first | (refine owE_cellS (e := 2) (xs := out) (x := out.getD i 0) (i := i) ?_ (by omega) rfl rfl; exact (by repeat (first | exact Sub.nil | refine Sub.cons (by repeat (first | exact Pick.head | apply Pick.tail)) ?_))))
                                  exact WO.nil ⟨rfl, rfl⟩
                                refine' DT.r rfl rfl rfl ?hq ?_
                                case hq =>
                                  refine WO.p rfl rfl ?_
                                  exact WO.nil ⟨rfl, rfl⟩
                                refine' DT.r rfl rfl rfl ?hq ?_
                                case hq =>
                                  refine WO.ar rfl rfl rfl (by (first | (unfold in64; omega) | (unfold in64; omega))) rfl ?_
                                  exact WO.nil ⟨rfl, rfl⟩
                                refine' DT.r rfl rfl rfl ?hq ?_
                                case hq =>
                                  refine WO.min2 rfl rfl rfl ?_
                                  exact WO.nil ⟨rfl, rfl⟩
                                refine DT.nil [_, _, _] rfl ?_
                                refine' WO.indexAddr (n := _) (i := _) rfl rfl rfl ?hs ?h1 rfl ?_
                                case hs => (first | exact isSl_lit (n := (allL l).length) (c := (allL l).length) (by omega) (fun _ => ⟨_, _, rfl⟩))
                                case h1 => (first | omega | (simp; omega))
                                refine WO.storeE (n := min (out.getD (i + 1 + d) 0) (out.getD i 0 + (ldAt l t i (i + 1 + d)).getD 0)) (i := i + 1 + d) (xs := out) encI_ok rfl rfl rfl rfl (by repeat (first | exact Pick.head | apply Pick.tail)) (by omega) ?_
                                refine WO.nil ?_
                                have hrs : rN l t i (refTo l t i) (d + 1) = rS l t i (i + 1 + d) out := by rw [hout]; rfl
                                first | rw [show out.set (i + 1 + d) (min (out.getD (i + 1 + d) 0) (out.getD i 0 + (ldAt l t i (i + 1 + d)).getD 0)) = rS l t i (i + 1 + d) out from (if_pos ⟨by assumption, by assumption⟩).symm] | rw [show OwE encI 2 1 (.slice (some ⟨ob, 0, none⟩) (allL l).length (allL l).length) out = OwE encI 2 1 (.slice (some ⟨ob, 0, none⟩) (allL l).length (allL l).length) (rS l t i (i + 1 + d) out) from by rw [show rS l t i (i + 1 + d) out = out from if_neg (fun x => by first | exact absurd x.2 (by assumption) | (have := x.1; simp_all))]]
                                refine W.region ?_
                                refine WO.p rfl rfl (WO.ar rfl rfl rfl (by (first | (unfold in64; omega) | (unfold in64; omega))) rfl (WO.p rfl rfl ?_))
                                refine WO.nil ?_
                                refine' ⟨d + 1, _, ?hp, ?hmu, ⟨rfl, rfl, rfl, rfl, rfl, trivial⟩, ?hS⟩
                                case hS => repeat (first | exact Sub.nil | refine Sub.cons (by repeat (first | exact Pick.head | apply Pick.tail)) ?_)
                                case hp => exact ⟨by omega, hrs.symm, hob.step hg hC (by omega) (by omega)⟩
                                case hmu => omega)
                           · first
                             | (exfalso; omega)
                             | (refine W.skip ?_
                                have hrs : rN l t i (refTo l t i) (d + 1) = rS l t i (i + 1 + d) out := by rw [hout]; rfl
                                first | rw [show out.set (i + 1 + d) (min (out.getD (i + 1 + d) 0) (out.getD i 0 + (ldAt l t i (i + 1 + d)).getD 0)) = rS l t i (i + 1 + d) out from (if_pos ⟨by assumption, by assumption⟩).symm] | rw [show OwE encI 2 1 (.slice (some ⟨ob, 0, none⟩) (allL l).length (allL l).length) out = OwE encI 2 1 (.slice (some ⟨ob, 0, none⟩) (allL l).length (allL l).length) (rS l t i (i + 1 + d) out) from by rw [show rS l t i (i + 1 + d) out = out from if_neg (fun x => by first | exact absurd x.2 (by assumption) | (have := x.1; simp_all))]]
                                refine W.region ?_
                                refine WO.p rfl rfl (WO.ar rfl rfl rfl (by (first | (unfold in64; omega) | (unfold in64; omega))) rfl (WO.p rfl rfl ?_))
                                refine WO.nil ?_
                                refine' ⟨d + 1, _, ?hp, ?hmu, ⟨rfl, rfl, rfl, rfl, rfl, trivial⟩, ?hS⟩
                                case hS => repeat (first | exact Sub.nil | refine Sub.cons (by repeat (first | exact Pick.head | apply Pick.tail)) ?_)
                                case hp => exact ⟨by omega, hrs.symm, hob.step hg hC (by omega) (by omega)⟩
                                case hmu => omega))
                      · first
                        | (exfalso; omega)
                        | (refine WO.no rfl rfl (WO.no rfl rfl (WO.no rfl rfl (WO.no rfl rfl (WO.no rfl rfl (WO.p rfl rfl ?_)))))
                           refine WO.nil ?_
                           refine W.cond_f rfl ?_
                           refine W.skip ?_
                           have hrs : rN l t i (refTo l t i) (d + 1) = rS l t i (i + 1 + d) out := by rw [hout]; rfl
                           first | rw [show out.set (i + 1 + d) (min (out.getD (i + 1 + d) 0) (out.getD i 0 + (ldAt l t i (i + 1 + d)).getD 0)) = rS l t i (i + 1 + d) out from (if_pos ⟨by assumption, by assumption⟩).symm] | rw [show OwE encI 2 1 (.slice (some ⟨ob, 0, none⟩) (allL l).length (allL l).length) out = OwE encI 2 1 (.slice (some ⟨ob, 0, none⟩) (allL l).length (allL l).length) (rS l t i (i + 1 + d) out) from by rw [show rS l t i (i + 1 + d) out = out from if_neg (fun x => by first | exact absurd x.2 (by assumption) | (have := x.1; simp_all))]]
                           refine W.region ?_
                           refine WO.p rfl rfl (WO.ar rfl rfl rfl (by (first | (unfold in64; omega) | (unfold in64; omega))) rfl (WO.p rfl rfl ?_))
                           refine WO.nil ?_
                           refine' ⟨d + 1, _, ?hp, ?hmu, ⟨rfl, rfl, rfl, rfl, rfl, trivial⟩, ?hS⟩
                           case hS => repeat (first | exact Sub.nil | refine Sub.cons (by repeat (first | exact Pick.head | apply Pick.tail)) ?_)
                           case hp => exact ⟨by omega, hrs.symm, hob.step hg hC (by omega) (by omega)⟩
                           case hmu => omega))
                 · first
                   | (exfalso; omega)
                   | (refine W.exit (blk_same ?_)
                      rw [hout, refTo_succ (t := t) (i := i) (d := d) (by omega) (by omega) (by omega)]
                      refine W.region ?_
                      refine WO.p rfl rfl (WO.ar rfl rfl rfl (by (first | (unfold in64; omega) | (unfold in64; omega))) rfl (WO.p rfl rfl ?_))
                      refine WO.nil ?_
                      refine' ⟨i + 1, ?hp, ?hmu, ⟨rfl, rfl, rfl, rfl, trivial⟩, ?hS⟩
                      case hS => repeat (first | exact Sub.nil | refine Sub.cons (by repeat (first | exact Pick.head | apply Pick.tail)) ?_)
                      case hp => omega
                      case hmu => omega))
            · first
              | (exfalso; omega)
              | (refine' DT.r rfl rfl rfl ?hq ?_
                 case hq =>
                   refine WO.no rfl rfl ?_
                   exact WO.nil ⟨rfl, rfl⟩
                 refine' DT.r rfl rfl rfl ?hq ?_
                 case hq =>
                   refine WO.no rfl rfl ?_
                   exact WO.nil ⟨rfl, rfl⟩
                 refine' DT.r rfl rfl rfl ?hq ?_
                 case hq =>
                   refine WO.no rfl rfl ?_
                   exact WO.nil ⟨rfl, rfl⟩
                 refine' DT.r rfl rfl rfl ?hq ?_
                 case hq =>
                   refine WO.no rfl rfl ?_
                   exact WO.nil ⟨rfl, rfl⟩
                 refine' DT.b rfl rfl rfl ?hq ?_
                 case hq =>
                   refine WO.no rfl rfl ?_
                   exact WO.nil ⟨rfl, rfl⟩
                 refine' DT.r rfl rfl rfl ?hq ?_
                 case hq =>
                   refine WO.no rfl rfl ?_
                   exact WO.nil ⟨rfl, rfl⟩
                 refine' DT.r rfl rfl rfl ?hq ?_
                 case hq =>
                   refine WO.no rfl rfl ?_
                   exact WO.nil ⟨rfl, rfl⟩
                 refine' DT.r rfl rfl rfl ?hq ?_
                 case hq =>
                   refine WO.no rfl rfl ?_
                   exact WO.nil ⟨rfl, rfl⟩
                 refine' DT.r rfl rfl rfl ?hq ?_
                 case hq =>
                   refine WO.no rfl rfl ?_
                   exact WO.nil ⟨rfl, rfl⟩
                 refine' DT.b rfl rfl rfl ?hq ?_
                 case hq =>
                   refine WO.no rfl rfl ?_
                   exact WO.nil ⟨rfl, rfl⟩
                 refine' DT.r rfl rfl rfl ?hq ?_
                 case hq =>
                   refine WO.no rfl rfl ?_
                   exact WO.nil ⟨rfl, rfl⟩
                 refine DT.nil [_, _, _] rfl ?_
                 refine WO.no rfl rfl (WO.p rfl rfl ?_)
                 refine WO.nil ?_
                 refine W.cond_f rfl ?_
                 refine W.exit (blk_same ?_)
                 rw [hout, refTo_succ (t := t) (i := i) (d := d) (by omega) (by omega) (by omega)]
                 refine W.region ?_
                 refine WO.p rfl rfl (WO.ar rfl rfl rfl (by (first | (unfold in64; omega) | (unfold in64; omega))) rfl (WO.p rfl rfl ?_))
                 refine WO.nil ?_
                 refine' ⟨i + 1, ?hp, ?hmu, ⟨rfl, rfl, rfl, rfl, trivial⟩, ?hS⟩
                 case hS => repeat (first | exact Sub.nil | refine Sub.cons (by repeat (first | exact Pick.head | apply Pick.tail)) ?_)
                 case hp => omega
                 case hmu => omega))
       · first
         | (exfalso; omega)
         | (refine W.exit (blk_same ?_)
            obtain rfl : i = (allL l).length := by omega
            refine W.sreg ?_
            refine WO.p rfl rfl (WO.p rfl rfl ?_)
            refine WO.nil ?_
            refine W.ret ?_
            exact fin.ret (Res.one rfl (RV.tmp rfl)) ⟨_, rfl, fun h hs => Sub.sat (by repeat (first | exact Sub.nil | refine Sub.cons (by repeat (first | exact Pick.head | apply Pick.tail)) ?_)) hs⟩))
end Go.Proofs.Ytpecakgebhmnfaa
