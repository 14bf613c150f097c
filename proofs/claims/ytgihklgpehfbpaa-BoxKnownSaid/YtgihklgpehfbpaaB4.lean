/-
  What is proved here: contracts of small functions (which hulls are too great, equal lists, spans). Conditions: none; each contract states its own.
-/
import Derived.Test.YtgihklgpehfbpaaB3
namespace Go.Proofs.Ytgihklgpehfbpaa
open Go Go.TH
attribute [local irreducible] W WO pt
set_option maxRecDepth 10000
theorem take_full {α : Type} {l r : List α} {i : Nat} (h : l.length ≤ i) (hl : l.length = r.length) (e : l.take i = r.take i) : l = r := by
  rw [List.take_of_length_le h, List.take_of_length_le (by omega)] at e; exact e
theorem take_ext {α : Type} {l r : List (List α)} {i : Nat} (e : l.take i = r.take i) (h : i < l.length) (h' : i < r.length) (he : l.getD i [] = r.getD i []) : l.take (i + 1) = r.take (i + 1) := by
  rw [take_succ_getD h [], take_succ_getD h' [], e, he]
theorem law_same (w : World) (o o' : Value) (rv rv' : List Value) (xs ys : List (List Int)) (hR : RdR encI 1 w.heap.size w o rv xs) (hR' : RdR encI 1 w.heap.size w o' rv' ys) :
    Ret Try.prog 38 [o, o'].toArray w (.bool (decide (xs = ys))) := by
  refine Ret.of mixed tyTab Try.func38 rfl rfl ?_
  replace hR : RdR encI 1 (fnCx mixed tyTab Try.f38.ntmps w).B (fnCx mixed tyTab Try.f38.ntmps w).w0 o rv xs := hR
  replace hR' : RdR encI 1 (fnCx mixed tyTab Try.f38.ntmps w).B (fnCx mixed tyTab Try.f38.ntmps w).w0 o' rv' ys := hR'
  have hle := hR.sl.le
  have hle' := hR'.sl.le
  refine W.sreg ?_
  refine WO.p rfl rfl ?_
  refine WO.nil ?_
  refine W.seq ?_
  refine W.sreg ?_
  refine WO.p rfl rfl ?_
  refine' WO.len (n := _) rfl rfl ?hs rfl ?_
  case hs => (first | exact hR.sl | exact hR'.sl | (refine (hR.row _ ?_).sl; omega) | (refine (hR'.row _ ?_).sl; omega))
  refine WO.p rfl rfl ?_
  refine' WO.len (n := _) rfl rfl ?hs rfl ?_
  case hs => (first | exact hR.sl | exact hR'.sl | (refine (hR.row _ ?_).sl; omega) | (refine (hR'.row _ ?_).sl; omega))
  refine WO.p rfl rfl ?_
  refine WO.nil ?_
  refine W.cond_bl rfl (fun c1 => ?_) (fun c1 => ?_)
  · first
    | (exfalso; omega)
    | (refine W.sreg ?_
       refine WO.p rfl rfl ?_
       refine WO.nil ?_
       refine W.ret ?_
       refine fin.ret (Res.one rfl (RV.tmp rfl)) ?_
       refine congrArg Value.bool ?_
       first | (symm; refine decide_eq_false ?_; intro e; subst e; omega) | (symm; refine decide_eq_true ?_; exact take_full (by omega) hl hall))
  · first
    | (exfalso; omega)
    | (refine W.skip ?_
       refine W.seq ?_
       refine W.sreg ?_
       refine WO.p rfl rfl ?_
       refine WO.nil ?_
       refine W.block ?_
       refine W.loop (fun (i : Nat) => xs.length = ys.length ∧ i ≤ xs.length ∧ xs.take i = ys.take i)
         (fun (i : Nat) => [(5, .int .i64 (i : Int)), (0, o), (1, o')])
         (fun (i : Nat) => [])
         (fun (i : Nat) => xs.length - i) 0
         (by exact ⟨by omega, by omega, by simp⟩) ⟨rfl, rfl, rfl, trivial⟩ (by repeat (first | exact Sub.nil | refine Sub.cons (by repeat (first | exact Pick.head | apply Pick.tail)) ?_)) ?_
       rintro i ⟨hl, hi, hall⟩
       refine W.seq ?_
       refine W.sreg ?_
       refine WO.p rfl rfl (WO.p rfl rfl ?_)
       refine' WO.len (n := _) rfl rfl ?hs rfl ?_
       case hs => (first | exact hR.sl | exact hR'.sl | (refine (hR.row _ ?_).sl; omega) | (refine (hR'.row _ ?_).sl; omega))
       refine WO.p rfl rfl ?_
       refine WO.nil ?_
       refine W.cond_bl rfl (fun c2 => ?_) (fun c2 => ?_)
       · first
         | (exfalso; omega)
         | (refine W.skip ?_
            refine W.seq ?_
            refine W.block ?_
            refine W.seq ?_
            refine W.seq ?_
            refine W.drawD 10 [.r 0 [], .r 1 [], .r 2 [], .b 3 [], .r 4 [], .r 5 [], .r 6 [], .r 7 [], .b 8 [], .r 9 []] [] (A0 := []) (Sub.refl _) (by kernel_rfl) ?_ ?_
            · exact (ALok.r (ALok.r (ALok.r (ALok.b (ALok.r (ALok.r (ALok.r (ALok.r (ALok.b (ALok.r ALok.nil))))))))))
            refine' DT.r rfl rfl rfl ?hq ?_
            case hq =>
              refine WO.p rfl rfl ?_
              exact WO.nil ⟨rfl, rfl⟩
            refine' DT.r rfl rfl rfl ?hq ?_
            case hq =>
              refine WO.p rfl rfl ?_
              exact WO.nil ⟨rfl, rfl⟩
            refine' DT.r rfl rfl rfl ?hq ?_
            case hq =>
              refine' WO.indexAddr (n := _) (i := _) rfl rfl rfl ?hs ?h1 rfl ?_
              case hs => (first | exact hR.sl | exact hR'.sl | (refine (hR.row _ ?_).sl; omega) | (refine (hR'.row _ ?_).sl; omega))
              case h1 => (first | omega | (simp; omega))
              exact WO.nil ⟨rfl, rfl⟩
            refine' DT.b rfl rfl rfl ?hq ?_
            case hq =>
              refine' WO.load (v := _) rfl rfl ?hc rfl ?_
              case hc => (first | (refine hR.cellV ?_; omega) | (refine hR'.cellV ?_; omega) | (refine (hR.row _ ?_).cell0 ?_ 0 ?_ <;> first | rfl | omega) | (refine (hR'.row _ ?_).cell0 ?_ 0 ?_ <;> first | rfl | omega))
              exact WO.nil ⟨rfl, rfl⟩
            refine' DT.r rfl rfl rfl ?hq ?_
            case hq =>
              refine' WO.len (n := _) rfl rfl ?hs rfl ?_
              case hs => (first | exact hR.sl | exact hR'.sl | (refine (hR.row _ ?_).sl; omega) | (refine (hR'.row _ ?_).sl; omega))
              exact WO.nil ⟨rfl, rfl⟩
            refine' DT.r rfl rfl rfl ?hq ?_
            case hq =>
              refine WO.p rfl rfl ?_
              exact WO.nil ⟨rfl, rfl⟩
            refine' DT.r rfl rfl rfl ?hq ?_
            case hq =>
              refine WO.p rfl rfl ?_
              exact WO.nil ⟨rfl, rfl⟩
            refine' DT.r rfl rfl rfl ?hq ?_
            case hq =>
              refine' WO.indexAddr (n := _) (i := _) rfl rfl rfl ?hs ?h1 rfl ?_
              case hs => (first | exact hR.sl | exact hR'.sl | (refine (hR.row _ ?_).sl; omega) | (refine (hR'.row _ ?_).sl; omega))
              case h1 => (first | omega | (simp; omega))
              exact WO.nil ⟨rfl, rfl⟩
            refine' DT.b rfl rfl rfl ?hq ?_
            case hq =>
              refine' WO.load (v := _) rfl rfl ?hc rfl ?_
              case hc => (first | (refine hR.cellV ?_; omega) | (refine hR'.cellV ?_; omega) | (refine (hR.row _ ?_).cell0 ?_ 0 ?_ <;> first | rfl | omega) | (refine (hR'.row _ ?_).cell0 ?_ 0 ?_ <;> first | rfl | omega))
              exact WO.nil ⟨rfl, rfl⟩
            refine' DT.r rfl rfl rfl ?hq ?_
            case hq =>
              refine' WO.len (n := _) rfl rfl ?hs rfl ?_
              case hs => (first | exact hR.sl | exact hR'.sl | (refine (hR.row _ ?_).sl; omega) | (refine (hR'.row _ ?_).sl; omega))
              exact WO.nil ⟨rfl, rfl⟩
            refine DT.nil [] rfl ?_
            refine WO.p rfl rfl ?_
            refine WO.nil ?_
            refine W.cond_bl rfl (fun c3 => ?_) (fun c3 => ?_)
            · first
              | (exfalso; omega)
              | (refine W.sreg ?_
                 refine WO.p rfl rfl ?_
                 refine WO.nil ?_
                 refine W.ret ?_
                 refine fin.ret (Res.one rfl (RV.tmp rfl)) ?_
                 refine congrArg Value.bool ?_
                 first | (symm; refine decide_eq_false ?_; intro e; subst e; omega) | (symm; refine decide_eq_true ?_; exact take_full (by omega) hl hall))
            · first
              | (exfalso; omega)
              | (refine W.skip ?_
                 refine W.sreg ?_
                 refine WO.p rfl rfl ?_
                 refine WO.nil ?_
                 refine W.block ?_
                 refine W.loop (fun (k : Nat) => (xs.getD i []).length = (ys.getD i []).length ∧ k ≤ (xs.getD i []).length ∧ (xs.getD i []).take k = (ys.getD i []).take k)
                   (fun (k : Nat) => [(5, .int .i64 (i : Int)), (6, .int .i64 (k : Int)), (0, o), (1, o')])
                   (fun (k : Nat) => [])
                   (fun (k : Nat) => (xs.getD i []).length - k) 0
                   (by exact ⟨by omega, by omega, by simp⟩) ⟨rfl, rfl, rfl, rfl, trivial⟩ (by repeat (first | exact Sub.nil | refine Sub.cons (by repeat (first | exact Pick.head | apply Pick.tail)) ?_)) ?_
                 rintro k ⟨hlr, hk, hkt⟩
                 have hlk := (hR.row i (by omega)).sl.le
                 refine W.seq ?_
                 refine W.sreg ?_
                 refine WO.p rfl rfl (WO.p rfl rfl (WO.p rfl rfl ?_))
                 refine' WO.indexAddr (n := _) (i := _) rfl rfl rfl ?hs ?h1 rfl ?_
                 case hs => (first | exact hR.sl | exact hR'.sl | (refine (hR.row _ ?_).sl; omega) | (refine (hR'.row _ ?_).sl; omega))
                 case h1 => (first | omega | (simp; omega))
                 refine' WO.load (v := _) rfl rfl ?hc rfl ?_
                 case hc => (first | (refine hR.cellV ?_; omega) | (refine hR'.cellV ?_; omega) | (refine (hR.row _ ?_).cell0 ?_ 0 ?_ <;> first | rfl | omega) | (refine (hR'.row _ ?_).cell0 ?_ 0 ?_ <;> first | rfl | omega))
                 refine' WO.len (n := _) rfl rfl ?hs rfl ?_
                 case hs => (first | exact hR.sl | exact hR'.sl | (refine (hR.row _ ?_).sl; omega) | (refine (hR'.row _ ?_).sl; omega))
                 refine WO.p rfl rfl ?_
                 refine WO.nil ?_
                 refine W.cond_bl rfl (fun c4 => ?_) (fun c4 => ?_)
                 · first
                   | (exfalso; omega)
                   | (refine W.skip ?_
                      refine W.seq ?_
                      refine W.block ?_
                      refine W.seq ?_
                      refine W.drawD 14 [.r 0 [], .r 1 [], .r 2 [], .b 3 [], .r 4 [], .r 5 [], .b 6 [], .r 7 [], .r 8 [], .r 9 [], .b 10 [], .r 11 [], .r 12 [], .b 13 []] [] (A0 := []) (Sub.refl _) (by kernel_rfl) ?_ ?_
                      · exact (ALok.r (ALok.r (ALok.r (ALok.b (ALok.r (ALok.r (ALok.b (ALok.r (ALok.r (ALok.r (ALok.b (ALok.r (ALok.r (ALok.b ALok.nil))))))))))))))
                      refine' DT.r rfl rfl rfl ?hq ?_
                      case hq =>
                        refine WO.p rfl rfl ?_
                        exact WO.nil ⟨rfl, rfl⟩
                      refine' DT.r rfl rfl rfl ?hq ?_
                      case hq =>
                        refine WO.p rfl rfl ?_
                        exact WO.nil ⟨rfl, rfl⟩
                      refine' DT.r rfl rfl rfl ?hq ?_
                      case hq =>
                        refine' WO.indexAddr (n := _) (i := _) rfl rfl rfl ?hs ?h1 rfl ?_
                        case hs => (first | exact hR.sl | exact hR'.sl | (refine (hR.row _ ?_).sl; omega) | (refine (hR'.row _ ?_).sl; omega))
                        case h1 => (first | omega | (simp; omega))
                        exact WO.nil ⟨rfl, rfl⟩
                      refine' DT.b rfl rfl rfl ?hq ?_
                      case hq =>
                        refine' WO.load (v := _) rfl rfl ?hc rfl ?_
                        case hc => (first | (refine hR.cellV ?_; omega) | (refine hR'.cellV ?_; omega) | (refine (hR.row _ ?_).cell0 ?_ 0 ?_ <;> first | rfl | omega) | (refine (hR'.row _ ?_).cell0 ?_ 0 ?_ <;> first | rfl | omega))
                        exact WO.nil ⟨rfl, rfl⟩
                      refine' DT.r rfl rfl rfl ?hq ?_
                      case hq =>
                        refine WO.p rfl rfl ?_
                        exact WO.nil ⟨rfl, rfl⟩
                      refine' DT.r rfl rfl rfl ?hq ?_
                      case hq =>
                        refine' WO.indexAddr (n := _) (i := _) rfl rfl rfl ?hs ?h1 rfl ?_
                        case hs => (first | exact hR.sl | exact hR'.sl | (refine (hR.row _ ?_).sl; omega) | (refine (hR'.row _ ?_).sl; omega))
                        case h1 => (first | omega | (simp; omega))
                        exact WO.nil ⟨rfl, rfl⟩
                      refine' DT.b rfl rfl rfl ?hq ?_
                      case hq =>
                        refine' WO.load (v := _) rfl rfl ?hc rfl ?_
                        case hc => (first | (refine hR.cellV ?_; omega) | (refine hR'.cellV ?_; omega) | (refine (hR.row _ ?_).cell0 ?_ 0 ?_ <;> first | rfl | omega) | (refine (hR'.row _ ?_).cell0 ?_ 0 ?_ <;> first | rfl | omega))
                        exact WO.nil ⟨rfl, rfl⟩
                      refine' DT.r rfl rfl rfl ?hq ?_
                      case hq =>
                        refine WO.p rfl rfl ?_
                        exact WO.nil ⟨rfl, rfl⟩
                      refine' DT.r rfl rfl rfl ?hq ?_
                      case hq =>
                        refine WO.p rfl rfl ?_
                        exact WO.nil ⟨rfl, rfl⟩
                      refine' DT.r rfl rfl rfl ?hq ?_
                      case hq =>
                        refine' WO.indexAddr (n := _) (i := _) rfl rfl rfl ?hs ?h1 rfl ?_
                        case hs => (first | exact hR.sl | exact hR'.sl | (refine (hR.row _ ?_).sl; omega) | (refine (hR'.row _ ?_).sl; omega))
                        case h1 => (first | omega | (simp; omega))
                        exact WO.nil ⟨rfl, rfl⟩
                      refine' DT.b rfl rfl rfl ?hq ?_
                      case hq =>
                        refine' WO.load (v := _) rfl rfl ?hc rfl ?_
                        case hc => (first | (refine hR.cellV ?_; omega) | (refine hR'.cellV ?_; omega) | (refine (hR.row _ ?_).cell0 ?_ 0 ?_ <;> first | rfl | omega) | (refine (hR'.row _ ?_).cell0 ?_ 0 ?_ <;> first | rfl | omega))
                        exact WO.nil ⟨rfl, rfl⟩
                      refine' DT.r rfl rfl rfl ?hq ?_
                      case hq =>
                        refine WO.p rfl rfl ?_
                        exact WO.nil ⟨rfl, rfl⟩
                      refine' DT.r rfl rfl rfl ?hq ?_
                      case hq =>
                        refine' WO.indexAddr (n := _) (i := _) rfl rfl rfl ?hs ?h1 rfl ?_
                        case hs => (first | exact hR.sl | exact hR'.sl | (refine (hR.row _ ?_).sl; omega) | (refine (hR'.row _ ?_).sl; omega))
                        case h1 => (first | omega | (simp; omega))
                        exact WO.nil ⟨rfl, rfl⟩
                      refine' DT.b rfl rfl rfl ?hq ?_
                      case hq =>
                        refine' WO.load (v := _) rfl rfl ?hc rfl ?_
                        case hc => (first | (refine hR.cellV ?_; omega) | (refine hR'.cellV ?_; omega) | (refine (hR.row _ ?_).cell0 ?_ 0 ?_ <;> first | rfl | omega) | (refine (hR'.row _ ?_).cell0 ?_ 0 ?_ <;> first | rfl | omega))
                        exact WO.nil ⟨rfl, rfl⟩
                      refine DT.nil [] rfl ?_
                      refine WO.p rfl rfl ?_
                      refine WO.nil ?_
                      refine W.cond_bl rfl (fun c5 => ?_) (fun c5 => ?_)
                      · first
                        | (exfalso; omega)
                        | (refine W.sreg ?_
                           refine WO.p rfl rfl ?_
                           refine WO.nil ?_
                           refine W.ret ?_
                           refine fin.ret (Res.one rfl (RV.tmp rfl)) ?_
                           refine congrArg Value.bool ?_
                           first | (symm; refine decide_eq_false ?_; intro e; subst e; omega) | (symm; refine decide_eq_true ?_; exact take_full (by omega) hl hall))
                      · first
                        | (exfalso; omega)
                        | (refine W.skip ?_
                           refine W.region ?_
                           refine WO.p rfl rfl (WO.ar rfl rfl rfl (by (first | (unfold in64; omega))) rfl (WO.p rfl rfl ?_))
                           refine WO.nil ?_
                           refine' ⟨k + 1, ?hp, ?hmu, ⟨rfl, rfl, rfl, rfl, trivial⟩, ?hS⟩
                           case hS => repeat (first | exact Sub.nil | refine Sub.cons (by repeat (first | exact Pick.head | apply Pick.tail)) ?_)
                           case hp => exact ⟨by omega, by omega, by rw [take_succ_getD (by omega) 0, take_succ_getD (by omega) 0, hkt]; congr 2; omega⟩
                           case hmu => omega))
                 · first
                   | (exfalso; omega)
                   | (refine W.exit (blk_same ?_)
                      refine W.region ?_
                      refine WO.p rfl rfl (WO.ar rfl rfl rfl (by (first | (unfold in64; omega))) rfl (WO.p rfl rfl ?_))
                      refine WO.nil ?_
                      refine' ⟨i + 1, ?hp, ?hmu, ⟨rfl, rfl, rfl, trivial⟩, ?hS⟩
                      case hS => repeat (first | exact Sub.nil | refine Sub.cons (by repeat (first | exact Pick.head | apply Pick.tail)) ?_)
                      case hp => exact ⟨by omega, by omega, take_ext hall (by omega) (by omega) (take_full (by omega) hlr hkt)⟩
                      case hmu => omega)))
       · first
         | (exfalso; omega)
         | (refine W.exit (blk_same ?_)
            refine W.sreg ?_
            refine WO.p rfl rfl ?_
            refine WO.nil ?_
            refine W.ret ?_
            refine fin.ret (Res.one rfl (RV.tmp rfl)) ?_
            refine congrArg Value.bool ?_
            first | (symm; refine decide_eq_false ?_; intro e; subst e; omega) | (symm; refine decide_eq_true ?_; exact take_full (by omega) hl hall)))
/-- has a hull, or have offsets, too many parts? -/
def grt (rows : List (List (Int × Int))) (ys : List (List Int)) : Bool := decide (14 < rows.length ∨ 14 < ys.length ∨ (∃ r ∈ rows, 12 < r.length) ∨ ∃ r ∈ ys, 12 < r.length)
theorem law_great (w : World) (sp st : Int) (o o' : Value) (rv rv' : List Value) (rows : List (List (Int × Int))) (ys : List (List Int)) (hR : RdR encP 2 w.heap.size w o rv rows) (hR' : RdR encI 1 w.heap.size w o' rv' ys) :
    Ret Try.prog 12 [.agg #[.int .i64 sp, .int .i64 st, o], o'].toArray w (.bool (grt rows ys)) := by
  refine Ret.of mixed tyTab Try.func12 rfl rfl ?_
  replace hR : RdR encP 2 (fnCx mixed tyTab Try.f12.ntmps w).B (fnCx mixed tyTab Try.f12.ntmps w).w0 o rv rows := hR
  replace hR' : RdR encI 1 (fnCx mixed tyTab Try.f12.ntmps w).B (fnCx mixed tyTab Try.f12.ntmps w).w0 o' rv' ys := hR'
  have hle := hR.sl.le
  have hle' := hR'.sl.le
  refine W.sreg ?_
  refine WO.boxA rfl rfl (fun b1 hb1 => ?_)
  refine WO.p rfl rfl ?_
  refine WO.nil ?_
  refine W.seq ?_
  refine W.sreg ?_
  refine WO.fieldL rfl rfl rfl (WO.load rfl rfl (Cell.own Pick.head rfl) rfl ?_)
  refine' WO.len (n := _) rfl rfl ?hs rfl ?_
  case hs => (first | exact hR.sl | exact hR'.sl | (refine (hR.row _ ?_).sl; omega) | (refine (hR'.row _ ?_).sl; omega))
  refine WO.p rfl rfl (WO.p rfl rfl ?_)
  refine WO.guard_bl rfl rfl (fun c1 => ?_) (fun c1 => ?_)
  · first
    | (exfalso; omega)
    | (refine WO.no rfl rfl (WO.no rfl rfl (WO.no rfl rfl (WO.p rfl rfl ?_)))
       refine WO.nil ?_
       refine W.cond_t rfl ?_
       refine W.sreg ?_
       refine WO.p rfl rfl ?_
       refine WO.nil ?_
       refine W.ret ?_
       refine fin.ret (Res.one rfl (RV.tmp rfl)) ?_
       refine congrArg Value.bool ?_
       unfold grt
       symm
       first | exact decide_eq_true (by omega) | exact decide_eq_true (.inr (.inr (.inl ⟨rows.getD i [], getD_mem (by omega) [], by omega⟩))) | exact decide_eq_true (.inr (.inr (.inr ⟨ys.getD j [], getD_mem (by omega) [], by omega⟩))) | (refine decide_eq_false ?_; rintro (h | h | ⟨r, h, h'⟩ | ⟨r, h, h'⟩) <;> first | omega | (have := hs1 r h; omega) | (have := all_len (by omega) hs2 r h; omega)))
  · first
    | (exfalso; omega)
    | (refine WO.pg rfl rfl rfl (WO.go' rfl ?_)
       refine' WO.len (n := _) rfl rfl ?hs rfl ?_
       case hs => (first | exact hR.sl | exact hR'.sl | (refine (hR.row _ ?_).sl; omega) | (refine (hR'.row _ ?_).sl; omega))
       refine WO.pg rfl rfl rfl (WO.p rfl rfl ?_)
       refine WO.nil ?_
       refine W.cond_bl rfl (fun c2 => ?_) (fun c2 => ?_)
       · first
         | (exfalso; omega)
         | (refine W.sreg ?_
            refine WO.p rfl rfl ?_
            refine WO.nil ?_
            refine W.ret ?_
            refine fin.ret (Res.one rfl (RV.tmp rfl)) ?_
            refine congrArg Value.bool ?_
            unfold grt
            symm
            first | exact decide_eq_true (by omega) | exact decide_eq_true (.inr (.inr (.inl ⟨rows.getD i [], getD_mem (by omega) [], by omega⟩))) | exact decide_eq_true (.inr (.inr (.inr ⟨ys.getD j [], getD_mem (by omega) [], by omega⟩))) | (refine decide_eq_false ?_; rintro (h | h | ⟨r, h, h'⟩ | ⟨r, h, h'⟩) <;> first | omega | (have := hs1 r h; omega) | (have := all_len (by omega) hs2 r h; omega)))
       · first
         | (exfalso; omega)
         | (refine W.skip ?_
            refine W.seq ?_
            refine W.sreg ?_
            refine WO.p rfl rfl ?_
            refine WO.nil ?_
            refine W.block ?_
            refine W.loop (fun (i : Nat) => i ≤ rows.length ∧ ∀ r ∈ rows.take i, r.length ≤ 12)
              (fun (i : Nat) => [(5, .int .i64 (i : Int)), (1, o'), (2, .pointer (some ⟨b1, 0, none⟩))])
              (fun (i : Nat) => [pt b1 (.cells #[.int .i64 sp, .int .i64 st, o] 24 (0, 0))])
              (fun (i : Nat) => rows.length - i) 0
              (by exact ⟨by omega, by simp⟩) ⟨rfl, rfl, rfl, trivial⟩ (by repeat (first | exact Sub.nil | refine Sub.cons (by repeat (first | exact Pick.head | apply Pick.tail)) ?_)) ?_
            rintro i ⟨hi, hs⟩
            refine W.seq ?_
            refine W.sreg ?_
            refine WO.p rfl rfl (WO.fieldL rfl rfl rfl (WO.load rfl rfl (Cell.own Pick.head rfl) rfl ?_))
            refine' WO.len (n := _) rfl rfl ?hs rfl ?_
            case hs => (first | exact hR.sl | exact hR'.sl | (refine (hR.row _ ?_).sl; omega) | (refine (hR'.row _ ?_).sl; omega))
            refine WO.p rfl rfl ?_
            refine WO.nil ?_
            refine W.cond_bl rfl (fun c3 => ?_) (fun c3 => ?_)
            · first
              | (exfalso; omega)
              | (refine W.skip ?_
                 refine W.seq ?_
                 refine W.block ?_
                 refine W.sreg ?_
                 refine WO.fieldL rfl rfl rfl (WO.load rfl rfl (Cell.own Pick.head rfl) rfl (WO.p rfl rfl ?_))
                 refine' WO.indexAddr (n := _) (i := _) rfl rfl rfl ?hs ?h1 rfl ?_
                 case hs => (first | exact hR.sl | exact hR'.sl | (refine (hR.row _ ?_).sl; omega) | (refine (hR'.row _ ?_).sl; omega))
                 case h1 => (first | omega | (simp; omega))
                 refine' WO.load (v := _) rfl rfl ?hc rfl ?_
                 case hc => (first | (refine hR.cellV ?_; omega) | (refine hR'.cellV ?_; omega))
                 refine' WO.len (n := _) rfl rfl ?hs rfl ?_
                 case hs => (first | exact hR.sl | exact hR'.sl | (refine (hR.row _ ?_).sl; omega) | (refine (hR'.row _ ?_).sl; omega))
                 refine WO.p rfl rfl ?_
                 refine WO.nil ?_
                 refine W.cond_bl rfl (fun c4 => ?_) (fun c4 => ?_)
                 · first
                   | (exfalso; omega)
                   | (refine W.sreg ?_
                      refine WO.p rfl rfl ?_
                      refine WO.nil ?_
                      refine W.ret ?_
                      refine fin.ret (Res.one rfl (RV.tmp rfl)) ?_
                      refine congrArg Value.bool ?_
                      unfold grt
                      symm
                      first | exact decide_eq_true (by omega) | exact decide_eq_true (.inr (.inr (.inl ⟨rows.getD i [], getD_mem (by omega) [], by omega⟩))) | exact decide_eq_true (.inr (.inr (.inr ⟨ys.getD j [], getD_mem (by omega) [], by omega⟩))) | (refine decide_eq_false ?_; rintro (h | h | ⟨r, h, h'⟩ | ⟨r, h, h'⟩) <;> first | omega | (have := hs1 r h; omega) | (have := all_len (by omega) hs2 r h; omega)))
                 · first
                   | (exfalso; omega)
                   | (refine W.skip ?_
                      refine W.region ?_
                      refine WO.p rfl rfl (WO.ar rfl rfl rfl (by (first | (unfold in64; omega))) rfl (WO.p rfl rfl ?_))
                      refine WO.nil ?_
                      refine' ⟨i + 1, ?hp, ?hmu, ⟨rfl, rfl, rfl, trivial⟩, ?hS⟩
                      case hS => repeat (first | exact Sub.nil | refine Sub.cons (by repeat (first | exact Pick.head | apply Pick.tail)) ?_)
                      case hp => exact ⟨by omega, all_succ (by omega) [] hs (by omega)⟩
                      case hmu => omega))
            · first
              | (exfalso; omega)
              | (refine W.exit (blk_same ?_)
                 refine W.seq ?_
                 refine W.sreg ?_
                 refine WO.p rfl rfl ?_
                 refine WO.nil ?_
                 refine W.block ?_
                 refine W.loop (fun (j : Nat) => j ≤ ys.length ∧ (∀ r ∈ rows, r.length ≤ 12) ∧ ∀ r ∈ ys.take j, r.length ≤ 12)
                   (fun (j : Nat) => [(6, .int .i64 (j : Int)), (1, o')])
                   (fun (j : Nat) => [])
                   (fun (j : Nat) => ys.length - j) 0
                   (by exact ⟨by omega, all_len (by omega) hs, by simp⟩) ⟨rfl, rfl, trivial⟩ (by repeat (first | exact Sub.nil | refine Sub.cons (by repeat (first | exact Pick.head | apply Pick.tail)) ?_)) ?_
                 rintro j ⟨hj, hs1, hs2⟩
                 refine W.seq ?_
                 refine W.sreg ?_
                 refine WO.p rfl rfl (WO.p rfl rfl ?_)
                 refine' WO.len (n := _) rfl rfl ?hs rfl ?_
                 case hs => (first | exact hR.sl | exact hR'.sl | (refine (hR.row _ ?_).sl; omega) | (refine (hR'.row _ ?_).sl; omega))
                 refine WO.p rfl rfl ?_
                 refine WO.nil ?_
                 refine W.cond_bl rfl (fun c5 => ?_) (fun c5 => ?_)
                 · first
                   | (exfalso; omega)
                   | (refine W.skip ?_
                      refine W.seq ?_
                      refine W.block ?_
                      refine W.sreg ?_
                      refine WO.p rfl rfl (WO.p rfl rfl ?_)
                      refine' WO.indexAddr (n := _) (i := _) rfl rfl rfl ?hs ?h1 rfl ?_
                      case hs => (first | exact hR.sl | exact hR'.sl | (refine (hR.row _ ?_).sl; omega) | (refine (hR'.row _ ?_).sl; omega))
                      case h1 => (first | omega | (simp; omega))
                      refine' WO.load (v := _) rfl rfl ?hc rfl ?_
                      case hc => (first | (refine hR.cellV ?_; omega) | (refine hR'.cellV ?_; omega))
                      refine' WO.len (n := _) rfl rfl ?hs rfl ?_
                      case hs => (first | exact hR.sl | exact hR'.sl | (refine (hR.row _ ?_).sl; omega) | (refine (hR'.row _ ?_).sl; omega))
                      refine WO.p rfl rfl ?_
                      refine WO.nil ?_
                      refine W.cond_bl rfl (fun c6 => ?_) (fun c6 => ?_)
                      · first
                        | (exfalso; omega)
                        | (refine W.sreg ?_
                           refine WO.p rfl rfl ?_
                           refine WO.nil ?_
                           refine W.ret ?_
                           refine fin.ret (Res.one rfl (RV.tmp rfl)) ?_
                           refine congrArg Value.bool ?_
                           unfold grt
                           symm
                           first | exact decide_eq_true (by omega) | exact decide_eq_true (.inr (.inr (.inl ⟨rows.getD i [], getD_mem (by omega) [], by omega⟩))) | exact decide_eq_true (.inr (.inr (.inr ⟨ys.getD j [], getD_mem (by omega) [], by omega⟩))) | (refine decide_eq_false ?_; rintro (h | h | ⟨r, h, h'⟩ | ⟨r, h, h'⟩) <;> first | omega | (have := hs1 r h; omega) | (have := all_len (by omega) hs2 r h; omega)))
                      · first
                        | (exfalso; omega)
                        | (refine W.skip ?_
                           refine W.region ?_
                           refine WO.p rfl rfl (WO.ar rfl rfl rfl (by (first | (unfold in64; omega))) rfl (WO.p rfl rfl ?_))
                           refine WO.nil ?_
                           refine' ⟨j + 1, ?hp, ?hmu, ⟨rfl, rfl, trivial⟩, ?hS⟩
                           case hS => repeat (first | exact Sub.nil | refine Sub.cons (by repeat (first | exact Pick.head | apply Pick.tail)) ?_)
                           case hp => exact ⟨by omega, hs1, all_succ (by omega) [] hs2 (by omega)⟩
                           case hmu => omega))
                 · first
                   | (exfalso; omega)
                   | (refine W.exit (blk_same ?_)
                      refine W.sreg ?_
                      refine WO.p rfl rfl ?_
                      refine WO.nil ?_
                      refine W.ret ?_
                      refine fin.ret (Res.one rfl (RV.tmp rfl)) ?_
                      refine congrArg Value.bool ?_
                      unfold grt
                      symm
                      first | exact decide_eq_true (by omega) | exact decide_eq_true (.inr (.inr (.inl ⟨rows.getD i [], getD_mem (by omega) [], by omega⟩))) | exact decide_eq_true (.inr (.inr (.inr ⟨ys.getD j [], getD_mem (by omega) [], by omega⟩))) | (refine decide_eq_false ?_; rintro (h | h | ⟨r, h, h'⟩ | ⟨r, h, h'⟩) <;> first | omega | (have := hs1 r h; omega) | (have := all_len (by omega) hs2 r h; omega))))))
end Go.Proofs.Ytgihklgpehfbpaa

