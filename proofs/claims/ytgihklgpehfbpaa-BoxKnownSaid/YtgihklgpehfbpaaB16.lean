/-
  What is proved here: the program's test of a true hull. Conditions: none; each contract states its own.
-/
import Derived.Test.YtgihklgpehfbpaaB15
namespace Go.Proofs.Ytgihklgpehfbpaa
open Go Go.TH
attribute [local irreducible] W WO pt
set_option maxRecDepth 10000
set_option maxHeartbeats 1000000
section
variable {rows : List (List (Int × Int))} {ys : List (List Int)} {i k : Nat} {e e' : Int} {X : Prop}
/-- places 0 to k - 1 of row i are within the hull -/
def rowTo (rows : List (List (Int × Int))) (ys : List (List Int)) (i k : Nat) : Prop := ∀ k', k' < k → ((rows.getD i []).getD k' (0, 0)).1 ≤ (ys.getD i []).getD k' 0 ∧ (ys.getD i []).getD k' 0 ≤ ((rows.getD i []).getD k' (0, 0)).2
theorem rowTo_t (h : e = 0 ↔ X ∧ rowTo rows ys i k) (hc : ((rows.getD i []).getD k (0, 0)).1 ≤ (ys.getD i []).getD k 0 ∧ (ys.getD i []).getD k 0 ≤ ((rows.getD i []).getD k (0, 0)).2) : e = 0 ↔ X ∧ rowTo rows ys i (k + 1) := by
  rw [h]
  refine and_congr_right fun _ => ⟨fun h j hj => ?_, fun h j hj => h j (by omega)⟩
  rcases Nat.lt_or_ge j k with h1 | h1
  · exact h j h1
  · obtain rfl : j = k := by omega
    exact hc
theorem rowTo_f (hc : ¬ (((rows.getD i []).getD k (0, 0)).1 ≤ (ys.getD i []).getD k 0 ∧ (ys.getD i []).getD k 0 ≤ ((rows.getD i []).getD k (0, 0)).2)) : (3 : Int) = 0 ↔ X ∧ rowTo rows ys i (k + 1) := by
  constructor
  · intro h; omega
  · intro h; exact absurd (h.2 k (by omega)) hc
theorem rowsTo (hk : (ys.getD i []).length ≤ k) (hk' : k ≤ (ys.getD i []).length) (h : e = 0 ↔ ∀ j, j < i → rowIn rows ys j) (h' : e' = 0 ↔ e = 0 ∧ rowTo rows ys i k) : e' = 0 ↔ ∀ j, j < i + 1 → rowIn rows ys j := by
  obtain rfl : k = (ys.getD i []).length := by omega
  rw [h', h]
  constructor
  · rintro ⟨h1, h2⟩ j hj
    rcases Nat.lt_or_ge j i with h3 | h3
    · exact h1 j h3
    · obtain rfl : j = i := by omega
      exact h2
  · intro h1; exact ⟨fun j hj => h1 j (by omega), h1 i (by omega)⟩
end
theorem ct34 {sp st : Int} {rows : List (List (Int × Int))} {ys : List (List Int)} (h : ¬ chkHull sp st rows ≠ 0) (h1 : ys.length = rows.length) (h2 : ∀ i, i < ys.length → (ys.getD i []).length = (rows.getD i []).length) (h3 : ¬ ∀ i, i < ys.length → rowIn rows ys i) : 3 = chkTrue sp st rows ys := by
  rw [chkTrue, if_neg h, if_neg (fun x => x h1), if_neg (fun x => x h2), if_pos h3]
theorem c_CheckTrue (w : World) (sp st : Int) (o o' : Value) (rv rv' : List Value) (rows : List (List (Int × Int))) (ys : List (List Int)) (hR : RdR encP 2 w.heap.size w o rv rows) (hR' : RdR encI 1 w.heap.size w o' rv' ys) :
    Ret Try.prog 20 [.agg #[.int .i64 sp, .int .i64 st, o], o'].toArray w (.int .i64 (chkTrue sp st rows ys)) := by
  refine Ret.of mixed tyTab Try.func20 rfl rfl ?_
  replace hR : RdR encP 2 (fnCx mixed tyTab Try.f20.ntmps w).B (fnCx mixed tyTab Try.f20.ntmps w).w0 o rv rows := hR
  replace hR' : RdR encI 1 (fnCx mixed tyTab Try.f20.ntmps w).B (fnCx mixed tyTab Try.f20.ntmps w).w0 o' rv' ys := hR'
  have hle := hR.sl.le
  have hle' := hR'.sl.le
  refine W.sreg ?_
  refine WO.boxA rfl rfl (fun b1 hb1 => ?_)
  refine WO.p rfl rfl ?_
  refine WO.nil ?_
  refine W.seq ?_
  refine W.sreg ?_
  refine WO.loadA rfl rfl (Cells.own Pick.head) rfl rfl ?_
  refine WO.callR (r := .int .i64 (chkHull sp st rows)) rfl Try.call18 (fun L w hi => c_CheckHull w sp st o rv rows (hR.later hi)) rfl ?_
  refine WO.p rfl rfl ?_
  refine WO.nil ?_
  refine W.sreg ?_
  refine WO.p rfl rfl (WO.p rfl rfl ?_)
  refine WO.nil ?_
  refine W.cond_bl rfl (fun c1 => ?_) (fun c1 => ?_)
  · first
    | (exfalso; omega)
    | (refine W.sreg ?_
       refine WO.p rfl rfl (WO.p rfl rfl ?_)
       refine WO.nil ?_
       refine W.ret ?_
       refine fin.ret (Res.one rfl (RV.tmp rfl)) ?_
       refine congrArg (Value.int .i64) ?_
       first | exact ct1 (by assumption) | exact ct2 (by assumption) (by omega) | exact ct3 (by assumption) (by omega) (i := i) (by omega) (by omega) | exact he.elim (fun h0 => by subst h0; exact ct5 (by assumption) (by omega) (fun j hj => hs j (by omega)) (fun j hj => hin.1 rfl j (by omega))) (fun h0 => by subst h0; exact ct34 (by assumption) (by omega) (fun j hj => hs j (by omega)) (fun h => absurd (hin.2 (fun j hj => h j (by omega))) (by omega))))
  · first
    | (exfalso; omega)
    | (refine W.skip ?_
       refine W.seq ?_
       refine W.sreg ?_
       refine WO.p rfl rfl ?_
       refine' WO.len (n := _) rfl rfl ?hs rfl ?_
       case hs => (first | exact hR.sl | exact hR'.sl | (refine (hR.row _ ?_).sl; omega) | (refine (hR'.row _ ?_).sl; omega))
       refine WO.fieldL rfl rfl rfl (WO.load rfl rfl (Cell.own Pick.head rfl) rfl ?_)
       refine' WO.len (n := _) rfl rfl ?hs rfl ?_
       case hs => (first | exact hR.sl | exact hR'.sl | (refine (hR.row _ ?_).sl; omega) | (refine (hR'.row _ ?_).sl; omega))
       refine WO.p rfl rfl ?_
       refine WO.nil ?_
       refine W.cond_bl rfl (fun c2 => ?_) (fun c2 => ?_)
       · first
         | (exfalso; omega)
         | (refine W.sreg ?_
            refine WO.p rfl rfl ?_
            refine WO.nil ?_
            refine W.ret ?_
            refine fin.ret (Res.one rfl (RV.tmp rfl)) ?_
            refine congrArg (Value.int .i64) ?_
            first | exact ct1 (by assumption) | exact ct2 (by assumption) (by omega) | exact ct3 (by assumption) (by omega) (i := i) (by omega) (by omega) | exact he.elim (fun h0 => by subst h0; exact ct5 (by assumption) (by omega) (fun j hj => hs j (by omega)) (fun j hj => hin.1 rfl j (by omega))) (fun h0 => by subst h0; exact ct34 (by assumption) (by omega) (fun j hj => hs j (by omega)) (fun h => absurd (hin.2 (fun j hj => h j (by omega))) (by omega))))
       · first
         | (exfalso; omega)
         | (refine W.skip ?_
            refine W.sreg ?_
            refine WO.p rfl rfl ?_
            refine WO.nil ?_
            refine W.seq ?_
            refine W.sreg ?_
            refine WO.p rfl rfl ?_
            refine' WO.len (n := _) rfl rfl ?hs rfl ?_
            case hs => (first | exact hR.sl | exact hR'.sl | (refine (hR.row _ ?_).sl; omega) | (refine (hR'.row _ ?_).sl; omega))
            refine WO.p rfl rfl ?_
            refine WO.nil ?_
            refine W.block ?_
            refine W.loop2 (fun (i : Nat) (e : Int) => i ≤ ys.length ∧ (∀ j, j < i → (ys.getD j []).length = (rows.getD j []).length) ∧ (e = 0 ∨ e = 3) ∧ (e = 0 ↔ ∀ j, j < i → rowIn rows ys j))
              (fun (i : Nat) (e : Int) => [(24, .int .i64 (i : Int)), (23, .int .i64 (ys.length : Int)), (22, o'), (6, .int .i64 e), (2, .pointer (some ⟨b1, 0, none⟩))])
              (fun (i : Nat) (e : Int) => [pt b1 (.cells #[.int .i64 sp, .int .i64 st, o] 24 (0, 0))])
              (fun (i : Nat) (e : Int) => ys.length - i) 0 0
              (by exact ⟨by omega, fun j hj => by omega, .inl rfl, fun _ j hj => by omega, fun _ => rfl⟩) ⟨rfl, rfl, rfl, rfl, rfl, trivial⟩ (by repeat (first | exact Sub.nil | refine Sub.cons (by repeat (first | exact Pick.head | apply Pick.tail)) ?_)) ?_
            rintro i e ⟨hi, hs, he, hin⟩
            refine W.sreg ?_
            refine WO.p rfl rfl ?_
            refine WO.nil ?_
            refine W.seq ?_
            refine W.cond_bl rfl (fun c3 => ?_) (fun c3 => ?_)
            · first
              | (exfalso; omega)
              | (refine W.skip ?_
                 refine W.seq ?_
                 refine W.block ?_
                 refine W.sreg ?_
                 refine WO.p rfl rfl ?_
                 refine' WO.indexAddr (n := _) (i := _) rfl rfl rfl ?hs ?h1 rfl ?_
                 case hs => (first | exact hR.sl | exact hR'.sl | (refine (hR.row _ ?_).sl; omega) | (refine (hR'.row _ ?_).sl; omega))
                 case h1 => (first | omega | (simp; omega))
                 refine' WO.load (v := _) rfl rfl ?hc rfl ?_
                 case hc => (first | (refine hR.cellV ?_; omega) | (refine hR'.cellV ?_; omega) | (refine (hR.row _ ?_).cell0 ?_ (0, 0) ?_ <;> first | rfl | omega) | (refine (hR.row _ ?_).cellAt ?_ (0, 0) ?_ <;> first | rfl | omega) | (refine (hR'.row _ ?_).cell0 ?_ 0 ?_ <;> first | rfl | omega))
                 refine WO.p rfl rfl (WO.p rfl rfl ?_)
                 refine WO.nil ?_
                 refine W.seq ?_
                 refine W.sreg ?_
                 refine WO.p rfl rfl ?_
                 refine' WO.len (n := _) rfl rfl ?hs rfl ?_
                 case hs => (first | exact hR.sl | exact hR'.sl | (refine (hR.row _ ?_).sl; omega) | (refine (hR'.row _ ?_).sl; omega))
                 refine WO.fieldL rfl rfl rfl (WO.load rfl rfl (Cell.own Pick.head rfl) rfl (WO.p rfl rfl ?_))
                 refine' WO.indexAddr (n := _) (i := _) rfl rfl rfl ?hs ?h1 rfl ?_
                 case hs => (first | exact hR.sl | exact hR'.sl | (refine (hR.row _ ?_).sl; omega) | (refine (hR'.row _ ?_).sl; omega))
                 case h1 => (first | omega | (simp; omega))
                 refine' WO.load (v := _) rfl rfl ?hc rfl ?_
                 case hc => (first | (refine hR.cellV ?_; omega) | (refine hR'.cellV ?_; omega) | (refine (hR.row _ ?_).cell0 ?_ (0, 0) ?_ <;> first | rfl | omega) | (refine (hR.row _ ?_).cellAt ?_ (0, 0) ?_ <;> first | rfl | omega) | (refine (hR'.row _ ?_).cell0 ?_ 0 ?_ <;> first | rfl | omega))
                 refine' WO.len (n := _) rfl rfl ?hs rfl ?_
                 case hs => (first | exact hR.sl | exact hR'.sl | (refine (hR.row _ ?_).sl; omega) | (refine (hR'.row _ ?_).sl; omega))
                 refine WO.p rfl rfl ?_
                 refine WO.nil ?_
                 refine W.cond_bl rfl (fun c4 => ?_) (fun c4 => ?_)
                 · first
                   | (exfalso; omega)
                   | (refine W.sreg ?_
                      refine WO.p rfl rfl ?_
                      refine WO.nil ?_
                      refine W.ret ?_
                      refine fin.ret (Res.one rfl (RV.tmp rfl)) ?_
                      refine congrArg (Value.int .i64) ?_
                      first | exact ct1 (by assumption) | exact ct2 (by assumption) (by omega) | exact ct3 (by assumption) (by omega) (i := i) (by omega) (by omega) | exact he.elim (fun h0 => by subst h0; exact ct5 (by assumption) (by omega) (fun j hj => hs j (by omega)) (fun j hj => hin.1 rfl j (by omega))) (fun h0 => by subst h0; exact ct34 (by assumption) (by omega) (fun j hj => hs j (by omega)) (fun h => absurd (hin.2 (fun j hj => h j (by omega))) (by omega))))
                 · first
                   | (exfalso; omega)
                   | (refine W.skip ?_
                      refine W.sreg ?_
                      refine WO.p rfl rfl ?_
                      refine' WO.len (n := _) rfl rfl ?hs rfl ?_
                      case hs => (first | exact hR.sl | exact hR'.sl | (refine (hR.row _ ?_).sl; omega) | (refine (hR'.row _ ?_).sl; omega))
                      refine WO.p rfl rfl ?_
                      refine WO.nil ?_
                      refine W.block ?_
                      refine W.loop2 (fun (k : Nat) (e' : Int) => k ≤ (ys.getD i []).length ∧ (e' = 0 ∨ e' = 3) ∧ (e' = 0 ↔ e = 0 ∧ rowTo rows ys i k))
                        (fun (k : Nat) (e' : Int) => [(24, .int .i64 (i : Int)), (23, .int .i64 (ys.length : Int)), (22, o'), (40, .int .i64 (k : Int)), (39, .int .i64 ((ys.getD i []).length : Int)), (38, rv'.getD i undef), (7, .int .i64 (i : Int)), (6, .int .i64 e'), (2, .pointer (some ⟨b1, 0, none⟩))])
                        (fun (k : Nat) (e' : Int) => [pt b1 (.cells #[.int .i64 sp, .int .i64 st, o] 24 (0, 0))])
                        (fun (k : Nat) (e' : Int) => (ys.getD i []).length - k) 0 e
                        (by exact ⟨by omega, he, fun h => ⟨h, fun j hj => by omega⟩, fun h => h.1⟩) ⟨rfl, rfl, rfl, rfl, rfl, rfl, rfl, rfl, rfl, trivial⟩ (by repeat (first | exact Sub.nil | refine Sub.cons (by repeat (first | exact Pick.head | apply Pick.tail)) ?_)) ?_
                      rintro k e' ⟨hk, he', hin'⟩
                      have hlk := (hR'.row i (by omega)).sl.le
                      refine W.sreg ?_
                      refine WO.p rfl rfl ?_
                      refine WO.nil ?_
                      refine W.seq ?_
                      refine W.cond_bl rfl (fun c5 => ?_) (fun c5 => ?_)
                      · first
                        | (exfalso; omega)
                        | (refine W.skip ?_
                           refine W.seq ?_
                           refine W.block ?_
                           refine W.sreg ?_
                           refine WO.p rfl rfl ?_
                           refine' WO.indexAddr (n := _) (i := _) rfl rfl rfl ?hs ?h1 rfl ?_
                           case hs => (first | exact hR.sl | exact hR'.sl | (refine (hR.row _ ?_).sl; omega) | (refine (hR'.row _ ?_).sl; omega))
                           case h1 => (first | omega | (simp; omega))
                           refine' WO.load (v := _) rfl rfl ?hc rfl ?_
                           case hc => (first | (refine hR.cellV ?_; omega) | (refine hR'.cellV ?_; omega) | (refine (hR.row _ ?_).cell0 ?_ (0, 0) ?_ <;> first | rfl | omega) | (refine (hR.row _ ?_).cellAt ?_ (0, 0) ?_ <;> first | rfl | omega) | (refine (hR'.row _ ?_).cell0 ?_ 0 ?_ <;> first | rfl | omega))
                           refine WO.p rfl rfl (WO.p rfl rfl ?_)
                           refine WO.nil ?_
                           refine W.seq ?_
                           refine W.drawD 20 [.r 0 [], .b 1 [], .r 2 [], .r 3 [], .b 4 [], .r 5 [], .r 6 [], .r 7 [], .b 8 [], .r 9 [], .b 10 [], .r 11 [], .r 12 [], .b 13 [], .r 14 [], .r 15 [], .r 16 [], .b 17 [], .r 18 [], .c 19 []] [] (A0 := []) (Sub.refl _) (by kernel_rfl) ?_ ?_
                           · exact (ALok.r (ALok.b (ALok.r (ALok.r (ALok.b (ALok.r (ALok.r (ALok.r (ALok.b (ALok.r (ALok.b (ALok.r (ALok.r (ALok.b (ALok.r (ALok.r (ALok.r (ALok.b (ALok.r (ALok.c ALok.nil))))))))))))))))))))
                           refine' DT.r rfl rfl rfl ?hq ?_
                           case hq =>
                             refine WO.fieldL rfl rfl rfl ?_
                             exact WO.nil ⟨rfl, rfl⟩
                           refine' DT.b rfl rfl rfl ?hq ?_
                           case hq =>
                             refine WO.load rfl rfl (Cell.own Pick.head rfl) rfl ?_
                             exact WO.nil ⟨rfl, rfl⟩
                           refine' DT.r rfl rfl rfl ?hq ?_
                           case hq =>
                             refine WO.p rfl rfl ?_
                             exact WO.nil ⟨rfl, rfl⟩
                           refine' DT.r rfl rfl rfl ?hq ?_
                           case hq =>
                             refine' WO.indexAddr (n := _) (i := _) rfl rfl rfl ?hs ?h1 rfl ?_
                             case hs => (first | exact hR.sl | exact hR'.sl | (refine (hR.row _ ?_).sl; omega) | (refine (hR'.row _ ?_).sl; omega))
                             case h1 => (first | omega | (simp; omega))
                             exact WO.nil ⟨rfl, rfl⟩
                           refine' DT.b rfl rfl rfl ?hq ?_
                           case hq =>
                             refine' WO.load (v := _) rfl rfl ?hc rfl ?_
                             case hc => (first | (refine hR.cellV ?_; omega) | (refine hR'.cellV ?_; omega) | (refine (hR.row _ ?_).cell0 ?_ (0, 0) ?_ <;> first | rfl | omega) | (refine (hR.row _ ?_).cellAt ?_ (0, 0) ?_ <;> first | rfl | omega) | (refine (hR'.row _ ?_).cell0 ?_ 0 ?_ <;> first | rfl | omega))
                             exact WO.nil ⟨rfl, rfl⟩
                           refine' DT.r rfl rfl rfl ?hq ?_
                           case hq =>
                             refine WO.p rfl rfl ?_
                             exact WO.nil ⟨rfl, rfl⟩
                           refine' DT.r rfl rfl rfl ?hq ?_
                           case hq =>
                             refine' WO.indexAddr (n := _) (i := _) rfl rfl rfl ?hs ?h1 rfl ?_
                             case hs => (first | exact hR.sl | exact hR'.sl | (refine (hR.row _ ?_).sl; omega) | (refine (hR'.row _ ?_).sl; omega))
                             case h1 => (first | omega | (simp; omega))
                             exact WO.nil ⟨rfl, rfl⟩
                           refine' DT.r rfl rfl rfl ?hq ?_
                           case hq =>
                             refine WO.field0 rfl rfl rfl ?_
                             exact WO.nil ⟨rfl, rfl⟩
                           refine' DT.b rfl rfl rfl ?hq ?_
                           case hq =>
                             refine' WO.load (v := _) rfl rfl ?hc rfl ?_
                             case hc => (first | (refine hR.cellV ?_; omega) | (refine hR'.cellV ?_; omega) | (refine (hR.row _ ?_).cell0 ?_ (0, 0) ?_ <;> first | rfl | omega) | (refine (hR.row _ ?_).cellAt ?_ (0, 0) ?_ <;> first | rfl | omega) | (refine (hR'.row _ ?_).cell0 ?_ 0 ?_ <;> first | rfl | omega))
                             exact WO.nil ⟨rfl, rfl⟩
                           refine' DT.r rfl rfl rfl ?hq ?_
                           case hq =>
                             refine WO.fieldL rfl rfl rfl ?_
                             exact WO.nil ⟨rfl, rfl⟩
                           refine' DT.b rfl rfl rfl ?hq ?_
                           case hq =>
                             refine WO.load rfl rfl (Cell.own Pick.head rfl) rfl ?_
                             exact WO.nil ⟨rfl, rfl⟩
                           refine' DT.r rfl rfl rfl ?hq ?_
                           case hq =>
                             refine WO.p rfl rfl ?_
                             exact WO.nil ⟨rfl, rfl⟩
                           refine' DT.r rfl rfl rfl ?hq ?_
                           case hq =>
                             refine' WO.indexAddr (n := _) (i := _) rfl rfl rfl ?hs ?h1 rfl ?_
                             case hs => (first | exact hR.sl | exact hR'.sl | (refine (hR.row _ ?_).sl; omega) | (refine (hR'.row _ ?_).sl; omega))
                             case h1 => (first | omega | (simp; omega))
                             exact WO.nil ⟨rfl, rfl⟩
                           refine' DT.b rfl rfl rfl ?hq ?_
                           case hq =>
                             refine' WO.load (v := _) rfl rfl ?hc rfl ?_
                             case hc => (first | (refine hR.cellV ?_; omega) | (refine hR'.cellV ?_; omega) | (refine (hR.row _ ?_).cell0 ?_ (0, 0) ?_ <;> first | rfl | omega) | (refine (hR.row _ ?_).cellAt ?_ (0, 0) ?_ <;> first | rfl | omega) | (refine (hR'.row _ ?_).cell0 ?_ 0 ?_ <;> first | rfl | omega))
                             exact WO.nil ⟨rfl, rfl⟩
                           refine' DT.r rfl rfl rfl ?hq ?_
                           case hq =>
                             refine WO.p rfl rfl ?_
                             exact WO.nil ⟨rfl, rfl⟩
                           refine' DT.r rfl rfl rfl ?hq ?_
                           case hq =>
                             refine' WO.indexAddr (n := _) (i := _) rfl rfl rfl ?hs ?h1 rfl ?_
                             case hs => (first | exact hR.sl | exact hR'.sl | (refine (hR.row _ ?_).sl; omega) | (refine (hR'.row _ ?_).sl; omega))
                             case h1 => (first | omega | (simp; omega))
                             exact WO.nil ⟨rfl, rfl⟩
                           refine' DT.r rfl rfl rfl ?hq ?_
                           case hq =>
                             refine WO.field rfl rfl rfl ?_
                             exact WO.nil ⟨rfl, rfl⟩
                           refine' DT.b rfl rfl rfl ?hq ?_
                           case hq =>
                             refine' WO.load (v := _) rfl rfl ?hc rfl ?_
                             case hc => (first | (refine hR.cellV ?_; omega) | (refine hR'.cellV ?_; omega) | (refine (hR.row _ ?_).cell0 ?_ (0, 0) ?_ <;> first | rfl | omega) | (refine (hR.row _ ?_).cellAt ?_ (0, 0) ?_ <;> first | rfl | omega) | (refine (hR'.row _ ?_).cell0 ?_ 0 ?_ <;> first | rfl | omega))
                             exact WO.nil ⟨rfl, rfl⟩
                           refine' DT.r rfl rfl rfl ?hq ?_
                           case hq =>
                             refine WO.p rfl rfl ?_
                             exact WO.nil ⟨rfl, rfl⟩
                           refine DT.c [_] rfl rfl rfl rfl ?_
                           refine' WO.buildSl (cs := _) rfl rfl rfl rfl ?hf rfl rfl ?hl rfl (fun v2 => ?_)
                           case hf => (conv => lhs; simp [-List.getD_eq_getElem?_getD, fillL, vcl, wrl, TTab.pl?.lget']) <;> rfl
                           case hl => rfl
                           refine WO.nil ⟨_, [_], rfl, rfl, (Keep.r (Keep.b (Keep.r (Keep.r (Keep.r (Keep.b (Keep.r (Keep.r (Keep.b (Keep.r (Keep.b (Keep.r (Keep.r (Keep.r (Keep.b (Keep.r (Keep.r (Keep.b (Keep.r Keep.nil))))))))))))))))))), ?_⟩
                           refine DT.nil [_, _] rfl ?_
                           refine WO.callR rfl Try.call46 (fun L w hi => btw_one w _ _ ((ys.getD i []).getD k 0) _ hi) rfl ?_
                           refine WO.p rfl rfl ?_
                           refine WO.nil ?_
                           refine W.cond_nbl rfl (fun c6 => ?_) (fun c6 => ?_)
                           · first
                             | (exfalso; omega)
                             | (refine W.region ?_
                                refine WO.p rfl rfl ?_
                                refine WO.nil ?_
                                refine W.region ?_
                                refine WO.ar rfl rfl rfl (by (first | (unfold in64; omega))) rfl (WO.p rfl rfl ?_)
                                refine WO.nil ?_
                                refine' ⟨k + 1, _, ?hp, ?hmu, ⟨rfl, rfl, rfl, rfl, rfl, rfl, rfl, rfl, rfl, trivial⟩, ?hS⟩
                                case hS => repeat (first | exact Sub.nil | refine Sub.cons (by repeat (first | exact Pick.head | apply Pick.tail)) ?_)
                                case hp => exact ⟨by omega, by first | exact he' | exact .inr rfl, by first | exact rowTo_t hin' (by assumption) | exact rowTo_f (by assumption)⟩
                                case hmu => omega)
                           · first
                             | (exfalso; omega)
                             | (refine W.skip ?_
                                refine W.region ?_
                                refine WO.ar rfl rfl rfl (by (first | (unfold in64; omega))) rfl (WO.p rfl rfl ?_)
                                refine WO.nil ?_
                                refine' ⟨k + 1, _, ?hp, ?hmu, ⟨rfl, rfl, rfl, rfl, rfl, rfl, rfl, rfl, rfl, trivial⟩, ?hS⟩
                                case hS => repeat (first | exact Sub.nil | refine Sub.cons (by repeat (first | exact Pick.head | apply Pick.tail)) ?_)
                                case hp => exact ⟨by omega, by first | exact he' | exact .inr rfl, by first | exact rowTo_t hin' (by assumption) | exact rowTo_f (by assumption)⟩
                                case hmu => omega))
                      · first
                        | (exfalso; omega)
                        | (refine W.exit (blk_same ?_)
                           refine W.region ?_
                           refine WO.ar rfl rfl rfl (by (first | (unfold in64; omega))) rfl (WO.p rfl rfl ?_)
                           refine WO.nil ?_
                           refine' ⟨i + 1, _, ?hp, ?hmu, ⟨rfl, rfl, rfl, rfl, rfl, trivial⟩, ?hS⟩
                           case hS => repeat (first | exact Sub.nil | refine Sub.cons (by repeat (first | exact Pick.head | apply Pick.tail)) ?_)
                           case hp => exact ⟨by omega, fun j hj => by rcases Nat.lt_or_ge j i with h | h; exact hs j h; obtain rfl : j = i := (by omega); omega, he', rowsTo (by omega) hk hin hin'⟩
                           case hmu => omega)))
            · first
              | (exfalso; omega)
              | (refine W.exit (blk_same ?_)
                 refine W.sreg ?_
                 refine WO.p rfl rfl (WO.p rfl rfl ?_)
                 refine WO.nil ?_
                 refine W.ret ?_
                 refine fin.ret (Res.one rfl (RV.tmp rfl)) ?_
                 refine congrArg (Value.int .i64) ?_
                 first | exact ct1 (by assumption) | exact ct2 (by assumption) (by omega) | exact ct3 (by assumption) (by omega) (i := i) (by omega) (by omega) | exact he.elim (fun h0 => by subst h0; exact ct5 (by assumption) (by omega) (fun j hj => hs j (by omega)) (fun j hj => hin.1 rfl j (by omega))) (fun h0 => by subst h0; exact ct34 (by assumption) (by omega) (fun j hj => hs j (by omega)) (fun h => absurd (hin.2 (fun j hj => h j (by omega))) (by omega))))))
end Go.Proofs.Ytgihklgpehfbpaa

