/-
  What is proved here: the reference's test of a true hull. Conditions: none; each contract states its own.
-/
import Derived.Test.YtgihklgpehfbpaaB7
namespace Go.Proofs.Ytgihklgpehfbpaa
open Go Go.TH
attribute [local irreducible] W WO pt
set_option maxRecDepth 10000
/-- row i of the offsets is within row i of the hull -/
def rowIn (rows : List (List (Int × Int))) (ys : List (List Int)) (i : Nat) : Prop := ∀ k, k < (ys.getD i []).length → ((rows.getD i []).getD k (0, 0)).1 ≤ (ys.getD i []).getD k 0 ∧ (ys.getD i []).getD k 0 ≤ ((rows.getD i []).getD k (0, 0)).2
instance (rows : List (List (Int × Int))) (ys : List (List Int)) (i : Nat) : Decidable (rowIn rows ys i) := by unfold rowIn; infer_instance
def chkTrue (sp st : Int) (rows : List (List (Int × Int))) (ys : List (List Int)) : Int :=
  if chkHull sp st rows ≠ 0 then chkHull sp st rows
  else if ys.length ≠ rows.length then 15
  else if ¬ ∀ i, i < ys.length → (ys.getD i []).length = (rows.getD i []).length then 15
  else if ¬ ∀ i, i < ys.length → rowIn rows ys i then 3
  else 0
section
variable {sp st : Int} {rows : List (List (Int × Int))} {ys : List (List Int)}
theorem ct1 (h : chkHull sp st rows ≠ 0) : chkHull sp st rows = chkTrue sp st rows ys := by rw [chkTrue, if_pos h]
theorem ct2 (h : ¬ chkHull sp st rows ≠ 0) (h1 : ys.length ≠ rows.length) : 15 = chkTrue sp st rows ys := by rw [chkTrue, if_neg h, if_pos h1]
theorem ct3 (h : ¬ chkHull sp st rows ≠ 0) (h1 : ys.length = rows.length) {i : Nat} (hi : i < ys.length) (h2 : (ys.getD i []).length ≠ (rows.getD i []).length) : 15 = chkTrue sp st rows ys := by
  rw [chkTrue, if_neg h, if_neg (fun x => x h1), if_pos (fun x => h2 (x i hi))]
theorem ct4 (h : ¬ chkHull sp st rows ≠ 0) (h1 : ys.length = rows.length) (h2 : ∀ i, i < ys.length → (ys.getD i []).length = (rows.getD i []).length) {i k : Nat} (hi : i < ys.length) (hk : k < (ys.getD i []).length)
    (h3 : (ys.getD i []).getD k 0 < ((rows.getD i []).getD k (0, 0)).1 ∨ ((rows.getD i []).getD k (0, 0)).2 < (ys.getD i []).getD k 0) : 3 = chkTrue sp st rows ys := by
  rw [chkTrue, if_neg h, if_neg (fun x => x h1), if_neg (fun x => x h2), if_pos (fun x => ?_)]
  have := x i hi k hk
  omega
theorem ct5 (h : ¬ chkHull sp st rows ≠ 0) (h1 : ys.length = rows.length) (h2 : ∀ i, i < ys.length → (ys.getD i []).length = (rows.getD i []).length) (h3 : ∀ i, i < ys.length → rowIn rows ys i) : 0 = chkTrue sp st rows ys := by
  rw [chkTrue, if_neg h, if_neg (fun x => x h1), if_neg (fun x => x h2), if_neg (fun x => x h3)]
end
theorem ref_CheckTrue (w : World) (sp st : Int) (o o' : Value) (rv rv' : List Value) (rows : List (List (Int × Int))) (ys : List (List Int)) (hR : RdR encP 2 w.heap.size w o rv rows) (hR' : RdR encI 1 w.heap.size w o' rv' ys) :
    Ret Try.prog 21 [.agg #[.int .i64 sp, .int .i64 st, o], o'].toArray w (.int .i64 (chkTrue sp st rows ys)) := by
  refine Ret.of mixed tyTab Try.func21 rfl rfl ?_
  replace hR : RdR encP 2 (fnCx mixed tyTab Try.f21.ntmps w).B (fnCx mixed tyTab Try.f21.ntmps w).w0 o rv rows := hR
  replace hR' : RdR encI 1 (fnCx mixed tyTab Try.f21.ntmps w).B (fnCx mixed tyTab Try.f21.ntmps w).w0 o' rv' ys := hR'
  have hle := hR.sl.le
  have hle' := hR'.sl.le
  refine W.sreg ?_
  refine WO.boxA rfl rfl (fun b1 hb1 => ?_)
  refine WO.p rfl rfl ?_
  refine WO.nil ?_
  refine W.seq ?_
  refine W.sreg ?_
  refine WO.loadA rfl rfl (Cells.own Pick.head) rfl rfl ?_
  refine WO.callR (r := .int .i64 (chkHull sp st rows)) rfl Try.call19 (fun L w hi => ref_checkHull w sp st o rv rows (hR.later hi)) rfl ?_
  refine WO.p rfl rfl ?_
  refine WO.nil ?_
  refine W.cond_bl rfl (fun c1 => ?_) (fun c1 => ?_)
  · first
    | (exfalso; omega)
    | (refine W.sreg ?_
       refine WO.loadA rfl rfl (Cells.own Pick.head) rfl rfl ?_
       refine WO.callR (r := .int .i64 (chkHull sp st rows)) rfl Try.call19 (fun L w hi => ref_checkHull w sp st o rv rows (hR.later hi)) rfl ?_
       refine WO.p rfl rfl ?_
       refine WO.nil ?_
       refine W.ret ?_
       refine fin.ret (Res.one rfl (RV.tmp rfl)) ?_
       refine congrArg (Value.int .i64) ?_
       first | exact ct1 (by assumption) | exact ct2 (by assumption) (by omega) | exact ct3 (by assumption) (by omega) (i := i) (by omega) (by omega) | exact ct4 (by assumption) (by omega) hlen (i := i) (k := k) (by omega) (by omega) (by omega) | exact ct5 (by assumption) (by omega) hlen (fun j hj => hin j (by omega)))
  · first
    | (exfalso; omega)
    | (refine W.skip ?_
       refine W.seq ?_
       refine W.sreg ?_
       refine WO.p rfl rfl ?_
       refine' WO.len (n := _) rfl rfl ?hs rfl ?_
       case hs => (first | exact hR.sl | exact hR'.sl | (refine (hR.row _ ?_).sl; omega) | (refine (hR'.row _ ?_).sl; omega))
       refine WO.fieldL rfl rfl rfl (WO.load rfl rfl (Cell.own Pick.head rfl) rfl ?_)
       refine' WO.len (n := _) rfl rfl ?hs rfl ?_
       case hs => (first | exact hR.sl | exact hR'.sl | (refine (hR.row _ ?_).sl; omega) | (refine (hR'.row _ ?_).sl; omega))
       refine WO.p rfl rfl ?_
       refine WO.nil ?_
       refine W.cond_bl rfl (fun c2 => ?_) (fun c2 => ?_)
       · first
         | (exfalso; omega)
         | (refine W.sreg ?_
            refine WO.p rfl rfl ?_
            refine WO.nil ?_
            refine W.ret ?_
            refine fin.ret (Res.one rfl (RV.tmp rfl)) ?_
            refine congrArg (Value.int .i64) ?_
            first | exact ct1 (by assumption) | exact ct2 (by assumption) (by omega) | exact ct3 (by assumption) (by omega) (i := i) (by omega) (by omega) | exact ct4 (by assumption) (by omega) hlen (i := i) (k := k) (by omega) (by omega) (by omega) | exact ct5 (by assumption) (by omega) hlen (fun j hj => hin j (by omega)))
       · first
         | (exfalso; omega)
         | (refine W.skip ?_
            refine W.seq ?_
            refine W.sreg ?_
            refine WO.p rfl rfl ?_
            refine WO.nil ?_
            refine W.block ?_
            refine W.loop (fun (i : Nat) => i ≤ ys.length ∧ ∀ j, j < i → (ys.getD j []).length = (rows.getD j []).length)
              (fun (i : Nat) => [(5, .int .i64 (i : Int)), (1, o'), (2, .pointer (some ⟨b1, 0, none⟩))])
              (fun (i : Nat) => [pt b1 (.cells #[.int .i64 sp, .int .i64 st, o] 24 (0, 0))])
              (fun (i : Nat) => ys.length - i) 0
              (by exact ⟨by omega, fun j hj => by omega⟩) ⟨rfl, rfl, rfl, trivial⟩ (by repeat (first | exact Sub.nil | refine Sub.cons (by repeat (first | exact Pick.head | apply Pick.tail)) ?_)) ?_
            rintro i ⟨hi, hs⟩
            refine W.seq ?_
            refine W.sreg ?_
            refine WO.p rfl rfl (WO.p rfl rfl ?_)
            refine' WO.len (n := _) rfl rfl ?hs rfl ?_
            case hs => (first | exact hR.sl | exact hR'.sl | (refine (hR.row _ ?_).sl; omega) | (refine (hR'.row _ ?_).sl; omega))
            refine WO.p rfl rfl ?_
            refine WO.nil ?_
            refine W.cond_bl rfl (fun c3 => ?_) (fun c3 => ?_)
            · first
              | (exfalso; omega)
              | (refine W.skip ?_
                 refine W.seq ?_
                 refine W.block ?_
                 refine W.seq ?_
                 refine W.drawD 11 [.r 0 [], .r 1 [], .r 2 [], .b 3 [], .r 4 [], .r 5 [], .b 6 [], .r 7 [], .r 8 [], .b 9 [], .r 10 []] [] (A0 := []) (Sub.refl _) (by kernel_rfl) ?_ ?_
                 · exact (ALok.r (ALok.r (ALok.r (ALok.b (ALok.r (ALok.r (ALok.b (ALok.r (ALok.r (ALok.b (ALok.r ALok.nil)))))))))))
                 refine' DT.r rfl rfl rfl ?hq ?_
                 case hq =>
                   refine WO.p rfl rfl ?_
                   exact WO.nil ⟨rfl, rfl⟩
                 refine' DT.r rfl rfl rfl ?hq ?_
                 case hq =>
                   refine WO.p rfl rfl ?_
                   exact WO.nil ⟨rfl, rfl⟩
                 refine' DT.r rfl rfl rfl ?hq ?_
                 case hq =>
                   refine' WO.indexAddr (n := _) (i := _) rfl rfl rfl ?hs ?h1 rfl ?_
                   case hs => (first | exact hR.sl | exact hR'.sl | (refine (hR.row _ ?_).sl; omega) | (refine (hR'.row _ ?_).sl; omega))
                   case h1 => (first | omega | (simp; omega))
                   exact WO.nil ⟨rfl, rfl⟩
                 refine' DT.b rfl rfl rfl ?hq ?_
                 case hq =>
                   refine' WO.load (v := _) rfl rfl ?hc rfl ?_
                   case hc => (first | (refine hR.cellV ?_; omega) | (refine hR'.cellV ?_; omega) | (refine (hR.row _ ?_).cell0 ?_ (0, 0) ?_ <;> first | rfl | omega) | (refine (hR.row _ ?_).cellAt ?_ (0, 0) ?_ <;> first | rfl | omega) | (refine (hR'.row _ ?_).cell0 ?_ 0 ?_ <;> first | rfl | omega))
                   exact WO.nil ⟨rfl, rfl⟩
                 refine' DT.r rfl rfl rfl ?hq ?_
                 case hq =>
                   refine' WO.len (n := _) rfl rfl ?hs rfl ?_
                   case hs => (first | exact hR.sl | exact hR'.sl | (refine (hR.row _ ?_).sl; omega) | (refine (hR'.row _ ?_).sl; omega))
                   exact WO.nil ⟨rfl, rfl⟩
                 refine' DT.r rfl rfl rfl ?hq ?_
                 case hq =>
                   refine WO.fieldL rfl rfl rfl ?_
                   exact WO.nil ⟨rfl, rfl⟩
                 refine' DT.b rfl rfl rfl ?hq ?_
                 case hq =>
                   refine WO.load rfl rfl (Cell.own Pick.head rfl) rfl ?_
                   exact WO.nil ⟨rfl, rfl⟩
                 refine' DT.r rfl rfl rfl ?hq ?_
                 case hq =>
                   refine WO.p rfl rfl ?_
                   exact WO.nil ⟨rfl, rfl⟩
                 refine' DT.r rfl rfl rfl ?hq ?_
                 case hq =>
                   refine' WO.indexAddr (n := _) (i := _) rfl rfl rfl ?hs ?h1 rfl ?_
                   case hs => (first | exact hR.sl | exact hR'.sl | (refine (hR.row _ ?_).sl; omega) | (refine (hR'.row _ ?_).sl; omega))
                   case h1 => (first | omega | (simp; omega))
                   exact WO.nil ⟨rfl, rfl⟩
                 refine' DT.b rfl rfl rfl ?hq ?_
                 case hq =>
                   refine' WO.load (v := _) rfl rfl ?hc rfl ?_
                   case hc => (first | (refine hR.cellV ?_; omega) | (refine hR'.cellV ?_; omega) | (refine (hR.row _ ?_).cell0 ?_ (0, 0) ?_ <;> first | rfl | omega) | (refine (hR.row _ ?_).cellAt ?_ (0, 0) ?_ <;> first | rfl | omega) | (refine (hR'.row _ ?_).cell0 ?_ 0 ?_ <;> first | rfl | omega))
                   exact WO.nil ⟨rfl, rfl⟩
                 refine' DT.r rfl rfl rfl ?hq ?_
                 case hq =>
                   refine' WO.len (n := _) rfl rfl ?hs rfl ?_
                   case hs => (first | exact hR.sl | exact hR'.sl | (refine (hR.row _ ?_).sl; omega) | (refine (hR'.row _ ?_).sl; omega))
                   exact WO.nil ⟨rfl, rfl⟩
                 refine DT.nil [_] rfl ?_
                 refine WO.p rfl rfl ?_
                 refine WO.nil ?_
                 refine W.cond_bl rfl (fun c4 => ?_) (fun c4 => ?_)
                 · first
                   | (exfalso; omega)
                   | (refine W.sreg ?_
                      refine WO.p rfl rfl ?_
                      refine WO.nil ?_
                      refine W.ret ?_
                      refine fin.ret (Res.one rfl (RV.tmp rfl)) ?_
                      refine congrArg (Value.int .i64) ?_
                      first | exact ct1 (by assumption) | exact ct2 (by assumption) (by omega) | exact ct3 (by assumption) (by omega) (i := i) (by omega) (by omega) | exact ct4 (by assumption) (by omega) hlen (i := i) (k := k) (by omega) (by omega) (by omega) | exact ct5 (by assumption) (by omega) hlen (fun j hj => hin j (by omega)))
                 · first
                   | (exfalso; omega)
                   | (refine W.skip ?_
                      refine W.region ?_
                      refine WO.p rfl rfl (WO.ar rfl rfl rfl (by (first | (unfold in64; omega))) rfl (WO.p rfl rfl ?_))
                      refine WO.nil ?_
                      refine' ⟨i + 1, ?hp, ?hmu, ⟨rfl, rfl, rfl, trivial⟩, ?hS⟩
                      case hS => repeat (first | exact Sub.nil | refine Sub.cons (by repeat (first | exact Pick.head | apply Pick.tail)) ?_)
                      case hp => exact ⟨by omega, fun j hj => by rcases Nat.lt_or_ge j i with h | h; exact hs j h; obtain rfl : j = i := (by omega); omega⟩
                      case hmu => omega))
            · first
              | (exfalso; omega)
              | (refine W.exit (blk_same ?_)
                 refine W.seq ?_
                 refine W.sreg ?_
                 refine WO.p rfl rfl ?_
                 refine WO.nil ?_
                 refine W.block ?_
                 refine W.loop (fun (i : Nat) => i ≤ ys.length ∧ (∀ j, j < ys.length → (ys.getD j []).length = (rows.getD j []).length) ∧ ∀ j, j < i → rowIn rows ys j)
                   (fun (i : Nat) => [(6, .int .i64 (i : Int)), (1, o'), (2, .pointer (some ⟨b1, 0, none⟩))])
                   (fun (i : Nat) => [pt b1 (.cells #[.int .i64 sp, .int .i64 st, o] 24 (0, 0))])
                   (fun (i : Nat) => ys.length - i) 0
                   (by exact ⟨by omega, fun j hj => hs j (by omega), fun j hj => by omega⟩) ⟨rfl, rfl, rfl, trivial⟩ (by repeat (first | exact Sub.nil | refine Sub.cons (by repeat (first | exact Pick.head | apply Pick.tail)) ?_)) ?_
                 rintro i ⟨hi, hlen, hin⟩
                 refine W.seq ?_
                 refine W.sreg ?_
                 refine WO.p rfl rfl (WO.p rfl rfl ?_)
                 refine' WO.len (n := _) rfl rfl ?hs rfl ?_
                 case hs => (first | exact hR.sl | exact hR'.sl | (refine (hR.row _ ?_).sl; omega) | (refine (hR'.row _ ?_).sl; omega))
                 refine WO.p rfl rfl ?_
                 refine WO.nil ?_
                 refine W.cond_bl rfl (fun c5 => ?_) (fun c5 => ?_)
                 · first
                   | (exfalso; omega)
                   | (refine W.skip ?_
                      refine W.seq ?_
                      refine W.block ?_
                      refine W.sreg ?_
                      refine WO.p rfl rfl ?_
                      refine WO.nil ?_
                      refine W.block ?_
                      refine W.loop (fun (k : Nat) => k ≤ (ys.getD i []).length ∧ ∀ k', k' < k → ((rows.getD i []).getD k' (0, 0)).1 ≤ (ys.getD i []).getD k' 0 ∧ (ys.getD i []).getD k' 0 ≤ ((rows.getD i []).getD k' (0, 0)).2)
                        (fun (k : Nat) => [(6, .int .i64 (i : Int)), (7, .int .i64 (k : Int)), (1, o'), (2, .pointer (some ⟨b1, 0, none⟩))])
                        (fun (k : Nat) => [pt b1 (.cells #[.int .i64 sp, .int .i64 st, o] 24 (0, 0))])
                        (fun (k : Nat) => (ys.getD i []).length - k) 0
                        (by exact ⟨by omega, fun j hj => by omega⟩) ⟨rfl, rfl, rfl, rfl, trivial⟩ (by repeat (first | exact Sub.nil | refine Sub.cons (by repeat (first | exact Pick.head | apply Pick.tail)) ?_)) ?_
                      rintro k ⟨hk, hkk⟩
                      have hlk := (hR'.row i (by omega)).sl.le
                      have hli := hlen i (by omega)
                      refine W.seq ?_
                      refine W.sreg ?_
                      refine WO.p rfl rfl (WO.p rfl rfl (WO.p rfl rfl ?_))
                      refine' WO.indexAddr (n := _) (i := _) rfl rfl rfl ?hs ?h1 rfl ?_
                      case hs => (first | exact hR.sl | exact hR'.sl | (refine (hR.row _ ?_).sl; omega) | (refine (hR'.row _ ?_).sl; omega))
                      case h1 => (first | omega | (simp; omega))
                      refine' WO.load (v := _) rfl rfl ?hc rfl ?_
                      case hc => (first | (refine hR.cellV ?_; omega) | (refine hR'.cellV ?_; omega) | (refine (hR.row _ ?_).cell0 ?_ (0, 0) ?_ <;> first | rfl | omega) | (refine (hR.row _ ?_).cellAt ?_ (0, 0) ?_ <;> first | rfl | omega) | (refine (hR'.row _ ?_).cell0 ?_ 0 ?_ <;> first | rfl | omega))
                      refine' WO.len (n := _) rfl rfl ?hs rfl ?_
                      case hs => (first | exact hR.sl | exact hR'.sl | (refine (hR.row _ ?_).sl; omega) | (refine (hR'.row _ ?_).sl; omega))
                      refine WO.p rfl rfl ?_
                      refine WO.nil ?_
                      refine W.cond_bl rfl (fun c6 => ?_) (fun c6 => ?_)
                      · first
                        | (exfalso; omega)
                        | (refine W.skip ?_
                           refine W.seq ?_
                           refine W.block ?_
                           refine W.seq ?_
                           refine W.drawD 34 [.r 0 [], .r 1 [], .r 2 [], .b 3 [], .r 4 [], .r 5 [], .b 6 [], .r 7 [], .b 8 [], .r 9 [], .r 10 [], .b 11 [], .r 12 [], .r 13 [], .r 14 [], .b 15 [], .r 16 [], .r 17 [], .r 18 [], .r 19 [], .r 20 [], .b 21 [], .r 22 [], .r 23 [], .b 24 [], .r 25 [], .b 26 [], .r 27 [], .r 28 [], .b 29 [], .r 30 [], .r 31 [], .r 32 [], .b 33 []] [] (A0 := []) (Sub.refl _) (by kernel_rfl) ?_ ?_
                           · exact (ALok.r (ALok.r (ALok.r (ALok.b (ALok.r (ALok.r (ALok.b (ALok.r (ALok.b (ALok.r (ALok.r (ALok.b (ALok.r (ALok.r (ALok.r (ALok.b (ALok.r (ALok.r (ALok.r (ALok.r (ALok.r (ALok.b (ALok.r (ALok.r (ALok.b (ALok.r (ALok.b (ALok.r (ALok.r (ALok.b (ALok.r (ALok.r (ALok.r (ALok.b ALok.nil))))))))))))))))))))))))))))))))))
                           refine' DT.r rfl rfl rfl ?hq ?_
                           case hq =>
                             refine WO.p rfl rfl ?_
                             exact WO.nil ⟨rfl, rfl⟩
                           refine' DT.r rfl rfl rfl ?hq ?_
                           case hq =>
                             refine WO.p rfl rfl ?_
                             exact WO.nil ⟨rfl, rfl⟩
                           refine' DT.r rfl rfl rfl ?hq ?_
                           case hq =>
                             refine' WO.indexAddr (n := _) (i := _) rfl rfl rfl ?hs ?h1 rfl ?_
                             case hs => (first | exact hR.sl | exact hR'.sl | (refine (hR.row _ ?_).sl; omega) | (refine (hR'.row _ ?_).sl; omega))
                             case h1 => (first | omega | (simp; omega))
                             exact WO.nil ⟨rfl, rfl⟩
                           refine' DT.b rfl rfl rfl ?hq ?_
                           case hq =>
                             refine' WO.load (v := _) rfl rfl ?hc rfl ?_
                             case hc => (first | (refine hR.cellV ?_; omega) | (refine hR'.cellV ?_; omega) | (refine (hR.row _ ?_).cell0 ?_ (0, 0) ?_ <;> first | rfl | omega) | (refine (hR.row _ ?_).cellAt ?_ (0, 0) ?_ <;> first | rfl | omega) | (refine (hR'.row _ ?_).cell0 ?_ 0 ?_ <;> first | rfl | omega))
                             exact WO.nil ⟨rfl, rfl⟩
                           refine' DT.r rfl rfl rfl ?hq ?_
                           case hq =>
                             refine WO.p rfl rfl ?_
                             exact WO.nil ⟨rfl, rfl⟩
                           refine' DT.r rfl rfl rfl ?hq ?_
                           case hq =>
                             refine' WO.indexAddr (n := _) (i := _) rfl rfl rfl ?hs ?h1 rfl ?_
                             case hs => (first | exact hR.sl | exact hR'.sl | (refine (hR.row _ ?_).sl; omega) | (refine (hR'.row _ ?_).sl; omega))
                             case h1 => (first | omega | (simp; omega))
                             exact WO.nil ⟨rfl, rfl⟩
                           refine' DT.b rfl rfl rfl ?hq ?_
                           case hq =>
                             refine' WO.load (v := _) rfl rfl ?hc rfl ?_
                             case hc => (first | (refine hR.cellV ?_; omega) | (refine hR'.cellV ?_; omega) | (refine (hR.row _ ?_).cell0 ?_ (0, 0) ?_ <;> first | rfl | omega) | (refine (hR.row _ ?_).cellAt ?_ (0, 0) ?_ <;> first | rfl | omega) | (refine (hR'.row _ ?_).cell0 ?_ 0 ?_ <;> first | rfl | omega))
                             exact WO.nil ⟨rfl, rfl⟩
                           refine' DT.r rfl rfl rfl ?hq ?_
                           case hq =>
                             refine WO.fieldL rfl rfl rfl ?_
                             exact WO.nil ⟨rfl, rfl⟩
                           refine' DT.b rfl rfl rfl ?hq ?_
                           case hq =>
                             refine WO.load rfl rfl (Cell.own Pick.head rfl) rfl ?_
                             exact WO.nil ⟨rfl, rfl⟩
                           refine' DT.r rfl rfl rfl ?hq ?_
                           case hq =>
                             refine WO.p rfl rfl ?_
                             exact WO.nil ⟨rfl, rfl⟩
                           refine' DT.r rfl rfl rfl ?hq ?_
                           case hq =>
                             refine' WO.indexAddr (n := _) (i := _) rfl rfl rfl ?hs ?h1 rfl ?_
                             case hs => (first | exact hR.sl | exact hR'.sl | (refine (hR.row _ ?_).sl; omega) | (refine (hR'.row _ ?_).sl; omega))
                             case h1 => (first | omega | (simp; omega))
                             exact WO.nil ⟨rfl, rfl⟩
                           refine' DT.b rfl rfl rfl ?hq ?_
                           case hq =>
                             refine' WO.load (v := _) rfl rfl ?hc rfl ?_
                             case hc => (first | (refine hR.cellV ?_; omega) | (refine hR'.cellV ?_; omega) | (refine (hR.row _ ?_).cell0 ?_ (0, 0) ?_ <;> first | rfl | omega) | (refine (hR.row _ ?_).cellAt ?_ (0, 0) ?_ <;> first | rfl | omega) | (refine (hR'.row _ ?_).cell0 ?_ 0 ?_ <;> first | rfl | omega))
                             exact WO.nil ⟨rfl, rfl⟩
                           refine' DT.r rfl rfl rfl ?hq ?_
                           case hq =>
                             refine WO.p rfl rfl ?_
                             exact WO.nil ⟨rfl, rfl⟩
                           refine' DT.r rfl rfl rfl ?hq ?_
                           case hq =>
                             refine' WO.indexAddr (n := _) (i := _) rfl rfl rfl ?hs ?h1 rfl ?_
                             case hs => (first | exact hR.sl | exact hR'.sl | (refine (hR.row _ ?_).sl; omega) | (refine (hR'.row _ ?_).sl; omega))
                             case h1 => (first | omega | (simp; omega))
                             exact WO.nil ⟨rfl, rfl⟩
                           refine' DT.r rfl rfl rfl ?hq ?_
                           case hq =>
                             refine WO.field0 rfl rfl rfl ?_
                             exact WO.nil ⟨rfl, rfl⟩
                           refine' DT.b rfl rfl rfl ?hq ?_
                           case hq =>
                             refine' WO.load (v := _) rfl rfl ?hc rfl ?_
                             case hc => (first | (refine hR.cellV ?_; omega) | (refine hR'.cellV ?_; omega) | (refine (hR.row _ ?_).cell0 ?_ (0, 0) ?_ <;> first | rfl | omega) | (refine (hR.row _ ?_).cellAt ?_ (0, 0) ?_ <;> first | rfl | omega) | (refine (hR'.row _ ?_).cell0 ?_ 0 ?_ <;> first | rfl | omega))
                             exact WO.nil ⟨rfl, rfl⟩
                           refine' DT.r rfl rfl rfl ?hq ?_
                           case hq =>
                             refine WO.p rfl rfl ?_
                             exact WO.nil ⟨rfl, rfl⟩
                           refine' DT.rB rfl rfl rfl ?hq (fun c7 => ?_) (fun c7 => ?_)
                           case hq =>
                             refine WO.p rfl rfl ?_
                             exact WO.nil ⟨rfl, rfl⟩
                           · first
                             | (exfalso; omega)
                             | (refine' DT.r rfl rfl rfl ?hq ?_
                                case hq =>
                                  refine WO.no rfl rfl ?_
                                  exact WO.nil ⟨rfl, rfl⟩
                                refine' DT.r rfl rfl rfl ?hq ?_
                                case hq =>
                                  refine WO.no rfl rfl ?_
                                  exact WO.nil ⟨rfl, rfl⟩
                                refine' DT.r rfl rfl rfl ?hq ?_
                                case hq =>
                                  refine WO.no rfl rfl ?_
                                  exact WO.nil ⟨rfl, rfl⟩
                                refine' DT.b rfl rfl rfl ?hq ?_
                                case hq =>
                                  refine WO.no rfl rfl ?_
                                  exact WO.nil ⟨rfl, rfl⟩
                                refine' DT.r rfl rfl rfl ?hq ?_
                                case hq =>
                                  refine WO.no rfl rfl ?_
                                  exact WO.nil ⟨rfl, rfl⟩
                                refine' DT.r rfl rfl rfl ?hq ?_
                                case hq =>
                                  refine WO.no rfl rfl ?_
                                  exact WO.nil ⟨rfl, rfl⟩
                                refine' DT.b rfl rfl rfl ?hq ?_
                                case hq =>
                                  refine WO.no rfl rfl ?_
                                  exact WO.nil ⟨rfl, rfl⟩
                                refine' DT.r rfl rfl rfl ?hq ?_
                                case hq =>
                                  refine WO.no rfl rfl ?_
                                  exact WO.nil ⟨rfl, rfl⟩
                                refine' DT.b rfl rfl rfl ?hq ?_
                                case hq =>
                                  refine WO.no rfl rfl ?_
                                  exact WO.nil ⟨rfl, rfl⟩
                                refine' DT.r rfl rfl rfl ?hq ?_
                                case hq =>
                                  refine WO.no rfl rfl ?_
                                  exact WO.nil ⟨rfl, rfl⟩
                                refine' DT.r rfl rfl rfl ?hq ?_
                                case hq =>
                                  refine WO.no rfl rfl ?_
                                  exact WO.nil ⟨rfl, rfl⟩
                                refine' DT.b rfl rfl rfl ?hq ?_
                                case hq =>
                                  refine WO.no rfl rfl ?_
                                  exact WO.nil ⟨rfl, rfl⟩
                                refine' DT.r rfl rfl rfl ?hq ?_
                                case hq =>
                                  refine WO.no rfl rfl ?_
                                  exact WO.nil ⟨rfl, rfl⟩
                                refine' DT.r rfl rfl rfl ?hq ?_
                                case hq =>
                                  refine WO.no rfl rfl ?_
                                  exact WO.nil ⟨rfl, rfl⟩
                                refine' DT.r rfl rfl rfl ?hq ?_
                                case hq =>
                                  refine WO.no rfl rfl ?_
                                  exact WO.nil ⟨rfl, rfl⟩
                                refine' DT.b rfl rfl rfl ?hq ?_
                                case hq =>
                                  refine WO.no rfl rfl ?_
                                  exact WO.nil ⟨rfl, rfl⟩
                                refine DT.nil [_] rfl ?_
                                refine WO.no rfl rfl (WO.p rfl rfl ?_)
                                refine WO.nil ?_
                                refine W.cond_t rfl ?_
                                refine W.sreg ?_
                                refine WO.p rfl rfl ?_
                                refine WO.nil ?_
                                refine W.ret ?_
                                refine fin.ret (Res.one rfl (RV.tmp rfl)) ?_
                                refine congrArg (Value.int .i64) ?_
                                first | exact ct1 (by assumption) | exact ct2 (by assumption) (by omega) | exact ct3 (by assumption) (by omega) (i := i) (by omega) (by omega) | exact ct4 (by assumption) (by omega) hlen (i := i) (k := k) (by omega) (by omega) (by omega) | exact ct5 (by assumption) (by omega) hlen (fun j hj => hin j (by omega)))
                           · first
                             | (exfalso; omega)
                             | (refine' DT.r rfl rfl rfl ?hq ?_
                                case hq =>
                                  refine WO.pg rfl rfl rfl ?_
                                  exact WO.nil ⟨rfl, rfl⟩
                                refine' DT.r rfl rfl rfl ?hq ?_
                                case hq =>
                                  refine WO.pg rfl rfl rfl ?_
                                  exact WO.nil ⟨rfl, rfl⟩
                                refine' DT.r rfl rfl rfl ?hq ?_
                                case hq =>
                                  refine WO.go' rfl ?_
                                  refine' WO.indexAddr (n := _) (i := _) rfl rfl rfl ?hs ?h1 rfl ?_
                                  case hs => (first | exact hR.sl | exact hR'.sl | (refine (hR.row _ ?_).sl; omega) | (refine (hR'.row _ ?_).sl; omega))
                                  case h1 => (first | omega | (simp; omega))
                                  exact WO.nil ⟨rfl, rfl⟩
                                refine' DT.b rfl rfl rfl ?hq ?_
                                case hq =>
                                  refine WO.go' rfl ?_
                                  refine' WO.load (v := _) rfl rfl ?hc rfl ?_
                                  case hc => (first | (refine hR.cellV ?_; omega) | (refine hR'.cellV ?_; omega) | (refine (hR.row _ ?_).cell0 ?_ (0, 0) ?_ <;> first | rfl | omega) | (refine (hR.row _ ?_).cellAt ?_ (0, 0) ?_ <;> first | rfl | omega) | (refine (hR'.row _ ?_).cell0 ?_ 0 ?_ <;> first | rfl | omega))
                                  exact WO.nil ⟨rfl, rfl⟩
                                refine' DT.r rfl rfl rfl ?hq ?_
                                case hq =>
                                  refine WO.pg rfl rfl rfl ?_
                                  exact WO.nil ⟨rfl, rfl⟩
                                refine' DT.r rfl rfl rfl ?hq ?_
                                case hq =>
                                  refine WO.go' rfl ?_
                                  refine' WO.indexAddr (n := _) (i := _) rfl rfl rfl ?hs ?h1 rfl ?_
                                  case hs => (first | exact hR.sl | exact hR'.sl | (refine (hR.row _ ?_).sl; omega) | (refine (hR'.row _ ?_).sl; omega))
                                  case h1 => (first | omega | (simp; omega))
                                  exact WO.nil ⟨rfl, rfl⟩
                                refine' DT.b rfl rfl rfl ?hq ?_
                                case hq =>
                                  refine WO.go' rfl ?_
                                  refine' WO.load (v := _) rfl rfl ?hc rfl ?_
                                  case hc => (first | (refine hR.cellV ?_; omega) | (refine hR'.cellV ?_; omega) | (refine (hR.row _ ?_).cell0 ?_ (0, 0) ?_ <;> first | rfl | omega) | (refine (hR.row _ ?_).cellAt ?_ (0, 0) ?_ <;> first | rfl | omega) | (refine (hR'.row _ ?_).cell0 ?_ 0 ?_ <;> first | rfl | omega))
                                  exact WO.nil ⟨rfl, rfl⟩
                                refine' DT.r rfl rfl rfl ?hq ?_
                                case hq =>
                                  refine WO.go' rfl (WO.fieldL rfl rfl rfl ?_)
                                  exact WO.nil ⟨rfl, rfl⟩
                                refine' DT.b rfl rfl rfl ?hq ?_
                                case hq =>
                                  refine WO.go' rfl (WO.load rfl rfl (Cell.own Pick.head rfl) rfl ?_)
                                  exact WO.nil ⟨rfl, rfl⟩
                                refine' DT.r rfl rfl rfl ?hq ?_
                                case hq =>
                                  refine WO.pg rfl rfl rfl ?_
                                  exact WO.nil ⟨rfl, rfl⟩
                                refine' DT.r rfl rfl rfl ?hq ?_
                                case hq =>
                                  refine WO.go' rfl ?_
                                  refine' WO.indexAddr (n := _) (i := _) rfl rfl rfl ?hs ?h1 rfl ?_
                                  case hs => (first | exact hR.sl | exact hR'.sl | (refine (hR.row _ ?_).sl; omega) | (refine (hR'.row _ ?_).sl; omega))
                                  case h1 => (first | omega | (simp; omega))
                                  exact WO.nil ⟨rfl, rfl⟩
                                refine' DT.b rfl rfl rfl ?hq ?_
                                case hq =>
                                  refine WO.go' rfl ?_
                                  refine' WO.load (v := _) rfl rfl ?hc rfl ?_
                                  case hc => (first | (refine hR.cellV ?_; omega) | (refine hR'.cellV ?_; omega) | (refine (hR.row _ ?_).cell0 ?_ (0, 0) ?_ <;> first | rfl | omega) | (refine (hR.row _ ?_).cellAt ?_ (0, 0) ?_ <;> first | rfl | omega) | (refine (hR'.row _ ?_).cell0 ?_ 0 ?_ <;> first | rfl | omega))
                                  exact WO.nil ⟨rfl, rfl⟩
                                refine' DT.r rfl rfl rfl ?hq ?_
                                case hq =>
                                  refine WO.pg rfl rfl rfl ?_
                                  exact WO.nil ⟨rfl, rfl⟩
                                refine' DT.r rfl rfl rfl ?hq ?_
                                case hq =>
                                  refine WO.go' rfl ?_
                                  refine' WO.indexAddr (n := _) (i := _) rfl rfl rfl ?hs ?h1 rfl ?_
                                  case hs => (first | exact hR.sl | exact hR'.sl | (refine (hR.row _ ?_).sl; omega) | (refine (hR'.row _ ?_).sl; omega))
                                  case h1 => (first | omega | (simp; omega))
                                  exact WO.nil ⟨rfl, rfl⟩
                                refine' DT.r rfl rfl rfl ?hq ?_
                                case hq =>
                                  refine WO.go' rfl (WO.field rfl rfl rfl ?_)
                                  exact WO.nil ⟨rfl, rfl⟩
                                refine' DT.b rfl rfl rfl ?hq ?_
                                case hq =>
                                  refine WO.go' rfl ?_
                                  refine' WO.load (v := _) rfl rfl ?hc rfl ?_
                                  case hc => (first | (refine hR.cellV ?_; omega) | (refine hR'.cellV ?_; omega) | (refine (hR.row _ ?_).cell0 ?_ (0, 0) ?_ <;> first | rfl | omega) | (refine (hR.row _ ?_).cellAt ?_ (0, 0) ?_ <;> first | rfl | omega) | (refine (hR'.row _ ?_).cell0 ?_ 0 ?_ <;> first | rfl | omega))
                                  exact WO.nil ⟨rfl, rfl⟩
                                refine DT.nil [_] rfl ?_
                                refine WO.pg rfl rfl rfl (WO.p rfl rfl ?_)
                                refine WO.nil ?_
                                refine W.cond_bl rfl (fun c8 => ?_) (fun c8 => ?_)
                                · first
                                  | (exfalso; omega)
                                  | (refine W.sreg ?_
                                     refine WO.p rfl rfl ?_
                                     refine WO.nil ?_
                                     refine W.ret ?_
                                     refine fin.ret (Res.one rfl (RV.tmp rfl)) ?_
                                     refine congrArg (Value.int .i64) ?_
                                     first | exact ct1 (by assumption) | exact ct2 (by assumption) (by omega) | exact ct3 (by assumption) (by omega) (i := i) (by omega) (by omega) | exact ct4 (by assumption) (by omega) hlen (i := i) (k := k) (by omega) (by omega) (by omega) | exact ct5 (by assumption) (by omega) hlen (fun j hj => hin j (by omega)))
                                · first
                                  | (exfalso; omega)
                                  | (refine W.skip ?_
                                     refine W.region ?_
                                     refine WO.p rfl rfl (WO.ar rfl rfl rfl (by (first | (unfold in64; omega))) rfl (WO.p rfl rfl ?_))
                                     refine WO.nil ?_
                                     refine' ⟨k + 1, ?hp, ?hmu, ⟨rfl, rfl, rfl, rfl, trivial⟩, ?hS⟩
                                     case hS => repeat (first | exact Sub.nil | refine Sub.cons (by repeat (first | exact Pick.head | apply Pick.tail)) ?_)
                                     case hp => exact ⟨by omega, fun j hj => by rcases Nat.lt_or_ge j k with h | h; exact hkk j h; obtain rfl : j = k := (by omega); omega⟩
                                     case hmu => omega)))
                      · first
                        | (exfalso; omega)
                        | (refine W.exit (blk_same ?_)
                           refine W.region ?_
                           refine WO.p rfl rfl (WO.ar rfl rfl rfl (by (first | (unfold in64; omega))) rfl (WO.p rfl rfl ?_))
                           refine WO.nil ?_
                           refine' ⟨i + 1, ?hp, ?hmu, ⟨rfl, rfl, rfl, trivial⟩, ?hS⟩
                           case hS => repeat (first | exact Sub.nil | refine Sub.cons (by repeat (first | exact Pick.head | apply Pick.tail)) ?_)
                           case hp => exact ⟨by omega, hlen, fun j hj => by rcases Nat.lt_or_ge j i with h | h; exact hin j h; obtain rfl : j = i := (by omega); exact fun k' hk' => hkk k' (by omega)⟩
                           case hmu => omega))
                 · first
                   | (exfalso; omega)
                   | (refine W.exit (blk_same ?_)
                      refine W.sreg ?_
                      refine WO.p rfl rfl ?_
                      refine WO.nil ?_
                      refine W.ret ?_
                      refine fin.ret (Res.one rfl (RV.tmp rfl)) ?_
                      refine congrArg (Value.int .i64) ?_
                      first | exact ct1 (by assumption) | exact ct2 (by assumption) (by omega) | exact ct3 (by assumption) (by omega) (i := i) (by omega) (by omega) | exact ct4 (by assumption) (by omega) hlen (i := i) (k := k) (by omega) (by omega) (by omega) | exact ct5 (by assumption) (by omega) hlen (fun j hj => hin j (by omega))))))
end Go.Proofs.Ytgihklgpehfbpaa

