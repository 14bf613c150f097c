/-
  What is proved here: the program's end, span and bound. Conditions: none; each contract states its own.
-/
import Derived.Test.YtgihklgpehfbpaaB25
namespace Go.Proofs.Ytgihklgpehfbpaa
open Go Go.TH
attribute [local irreducible] W WO pt
set_option maxRecDepth 10000
set_option maxHeartbeats 2000000
theorem val_bd {sp st what : Int} {rows : List (List (Int × Int))} {ys : List (List Int)} (hv : HV sp st rows) (tv : TV rows ys) : Bd (valQ sp st ys what).1 (valQ sp st ys what).2 := by
  obtain ⟨⟨a1, a1'⟩, a2, a2'⟩ := tN_bound hv tv what
  obtain ⟨x1, x2, x3, x4, x5⟩ := red_cross a1 a2
  unfold Bd valQ
  omega
theorem pair_eq {a b : Int × Int} (h : (a.1, a.2) = (b.1, b.2)) : a = b := by cases a; cases b; exact h
theorem pair_ne {a b : Int × Int} (h : ¬ (a.1, a.2) = (b.1, b.2)) : a ≠ b := fun e => h (by rw [e])
/-- what the pieces of a table say -/
def tbP (v : Value) (rv : List Value) (ys : List (List Int)) (n : Nat) : List HP := [OwC 53 1 v n rv, RowsE encI 2 1 rv ys]
theorem c_end (w : World) (p : Addr) (sp st what : Int) (high : Bool) (o : Value) (rv : List Value) (rows : List (List (Int × Int))) (hP : RdC w.heap.size w p (planCs sp st o what)) (hR : RdR encP 2 w.heap.size w o rv rows) (hv : HV sp st rows) (hw : 0 ≤ what ∧ what ≤ 2) :
    Ct Try.prog 50 [.pointer (some p), .int .i64 (sgn high)].toArray w fun v w' => ∃ Hq, (∃ x : Value × List Value × List (List Int), (v = .tuple #[x.1, .agg (encP (endV sp st what high rows)).toArray] ∧ IsEnd sp st what high rows x.2.2) ∧ Hq = [OwC 53 1 x.1 rows.length x.2.1, RowsE encI 2 1 x.2.1 x.2.2]) ∧ Inv w [] Hq w' := by
  refine Ct.ofI mixed tyTab Try.func50 rfl rfl ?_
  replace hR : RdR encP 2 (fnCx mixed tyTab Try.f50.ntmps w).B (fnCx mixed tyTab Try.f50.ntmps w).w0 o rv rows := hR
  replace hP : RdC (fnCx mixed tyTab Try.f50.ntmps w).B (fnCx mixed tyTab Try.f50.ntmps w).w0 p (planCs sp st o what) := hP
  have hPp := hP.part (us := [.int .i64 sp, .int .i64 st, o]) (fun j v h => by simp only [planCs]; exact part3 h)
  have hs := hv.small
  refine W.sreg ?_
  refine WO.p rfl rfl ?_
  refine WO.alloc rfl rfl rfl (fun b1 hb1 => ?_)
  refine WO.nil ?_
  refine W.scope ?_
  refine W.sreg ?_
  refine WO.p rfl rfl (WO.p rfl rfl (WO.field0 rfl rfl rfl ?_))
  refine' WO.loadA (vs := _) rfl rfl ?hc ?hl rfl ?_
  case hc => (first | exact hPp.cells)
  case hl => rfl
  refine WO.call (Post := fun v Hq => ∃ rv', Hq = [OwC 53 1 v rows.length rv', RowsE encI 2 1 rv' (endsOf true rows)]) rfl Try.call51 (fun L w hi => c_pick w sp st o rv rows _ true ch_65 (hR.later hi) hs.1 hs.2) rfl ?_
  rintro v1 _ ⟨rv1, rfl⟩
  refine WO.p rfl rfl ?_
  refine WO.nil ?_
  refine W.sreg ?_
  refine WO.p rfl rfl (WO.p rfl rfl ?_)
  refine WO.callR rfl Try.call42 (fun L w hi => c_value w p sp st what o v1 rv rv1 rows (endsOf true rows) (hP.later hi) (hR.later hi) (RdR.of_ow encI_ok (by repeat (first | exact Pick.head | apply Pick.tail)) (by repeat (first | exact Pick.head | apply Pick.tail)) hi) hv (ends_tv hv true) hw) rfl ?_
  refine WO.alloc rfl rfl rfl (fun b2 hb2 => ?_)
  refine WO.storeA rfl rfl rfl rfl Pick.head rfl rfl ?_
  refine WO.nil ?_
  refine W.seq ?_
  refine W.label ?_
  refine W.seq ?_
  refine W.block ?_
  refine W.loop3 (fun (ys : List (List Int)) (v : Value) (rv' : List Value) => TV rows ys)
    (fun (ys : List (List Int)) (v : Value) (rv' : List Value) => [(7, .pointer (some ⟨b2, 0, none⟩)), (6, v), (5, .pointer (some ⟨b1, 0, none⟩)), (1, .int .i64 (sgn high)), (0, .pointer (some p))])
    (fun (ys : List (List Int)) (v : Value) (rv' : List Value) => [pt b2 (.cells #[.int .i64 (valQ sp st ys what).1, .int .i64 (valQ sp st ys what).2] 29 (0, 0)), OwC 53 1 v rows.length rv', RowsE encI 2 1 rv' ys, pt b1 (.cells #[.int .i64 0, .int .i64 0] 29 (0, 0))])
    (fun (ys : List (List Int)) (v : Value) (rv' : List Value) => far sp st what high ys) (endsOf true rows) v1 rv1
    (by exact ends_tv hv true) ⟨rfl, rfl, rfl, rfl, rfl, trivial⟩ (by repeat (first | exact Sub.nil | refine Sub.cons (by repeat (first | exact Pick.head | apply Pick.tail)) ?_)) ?_
  rintro ys v rv' tv
  refine W.block ?_
  refine W.sreg ?_
  refine WO.p rfl rfl (WO.loadA rfl rfl (Cells.own Pick.head) rfl rfl (WO.p rfl rfl ?_))
  refine WO.call (Post := fun v Hq => ∃ x : Value × List Value, v = .tuple #[x.1, .int .i64 (partS what sp st (valQ sp st ys what).1 (valQ sp st ys what).2 high rows rows.length)] ∧ Hq = [OwC 53 1 x.1 rows.length x.2, RowsE encI 2 1 x.2 (exH what sp st (valQ sp st ys what).1 (valQ sp st ys what).2 high rows)]) rfl Try.call48 (fun L w hi => c_excess w p sp st what _ _ high o rv rows (hP.later hi) (hR.later hi) hv hw (val_bd hv tv)) rfl ?_
  rintro _ _ ⟨⟨v2, rv2⟩, rfl, rfl⟩
  refine WO.p rfl rfl (WO.p rfl rfl (WO.p rfl rfl (WO.p rfl rfl (WO.p rfl rfl ?_))))
  refine WO.nil ?_
  refine W.sreg ?_
  refine WO.p rfl rfl (WO.p rfl rfl ?_)
  refine WO.callR rfl Try.call42 (fun L w hi => c_value w p sp st what o v2 rv rv2 rows (exH what sp st (valQ sp st ys what).1 (valQ sp st ys what).2 high rows) (hP.later hi) (hR.later hi) (RdR.of_ow encI_ok (by repeat (first | exact Pick.head | apply Pick.tail)) (by repeat (first | exact Pick.head | apply Pick.tail)) hi) hv (exH_tv hv) hw) rfl ?_
  refine WO.alloc rfl rfl rfl (fun b3 hb3 => ?_)
  refine WO.storeA rfl rfl rfl rfl Pick.head rfl rfl ?_
  refine WO.nil ?_
  refine W.seq ?_
  refine W.sreg ?_
  refine WO.loadA rfl rfl (Cells.own Pick.head) rfl rfl (WO.loadA rfl rfl (Cells.own (Pick.tail (Pick.tail (Pick.tail (Pick.head))))) rfl rfl ?_)
  refine WO.eqT rfl rfl (eq29 _ _ _ _) rfl ?_
  refine WO.nil ?_
  refine W.cond_bl rfl (fun c1 => ?_) (fun c1 => ?_)
  · first
    | (exfalso; omega)
    | (refine W.exit (blk_other rfl (blk_same ?_))
       refine W.seq ?_
       have he := step_end hv tv hw (pair_eq c1)
       rw [endV_eq hv he]
       refine W.drawD 3 [.r 0 [], .b 1 [], .r 2 []] [] (A0 := [_]) (H0 := [_, _, _, _, _, _]) (.cons (Pick.tail (Pick.tail (Pick.tail (Pick.tail (Pick.tail (Pick.tail .head)))))) (.cons .head (.cons .head (.cons .head (.cons .head (.cons .head (.cons .head .nil))))))) (by kernel_rfl) ?_ ?_
       · exact (ALok.r (ALok.b (ALok.r ALok.nil)))
       refine' DT.r rfl rfl rfl ?hq ?_
       case hq =>
         refine WO.p rfl rfl ?_
         exact WO.nil ⟨rfl, rfl⟩
       refine' DT.b rfl rfl rfl ?hq ?_
       case hq =>
         refine WO.loadA rfl rfl (Cells.own (Pick.tail (Pick.tail (Pick.tail (Pick.head))))) rfl rfl ?_
         exact WO.nil ⟨rfl, rfl⟩
       refine' DT.r rfl rfl rfl ?hq ?_
       case hq =>
         refine WO.p rfl rfl ?_
         exact WO.nil ⟨rfl, rfl⟩
       refine DT.nil [_, _, _, _, _, _, _] rfl ?_
       refine WO.storeA rfl rfl rfl rfl Pick.head rfl rfl ?_
       refine WO.nil ?_
       refine W.ret ?_
       exact fin.ret (Res.two rfl (RV.tmp rfl) (RV.cell rfl rfl rfl (Cells.own Pick.head))) ⟨(_, _, ys), ⟨rfl, he⟩, fun h hs => Sub.sat (.cons (by repeat (first | exact Pick.head | apply Pick.tail)) (.cons (by repeat (first | exact Pick.head | apply Pick.tail)) .nil)) hs⟩)
  · first
    | (exfalso; omega)
    | (refine W.skip ?_
       refine W.drawD 3 [.r 0 [], .b 1 [6], .r 2 [6]] [6] (A0 := [_]) (H0 := [_, _, _, _, _, _]) (.cons (Pick.tail (Pick.tail (Pick.tail .head))) (.cons .head (.cons .head (.cons .head (.cons .head (.cons .head (.cons .head .nil))))))) (by kernel_rfl) ?_ ?_
       · exact (ALok.r (ALok.b (ALok.r ALok.nil)))
       refine' DT.r rfl rfl rfl ?hq ?_
       case hq =>
         refine WO.p rfl rfl ?_
         exact WO.nil ⟨rfl, rfl⟩
       refine' DT.b rfl rfl rfl ?hq ?_
       case hq =>
         refine WO.loadA rfl rfl (Cells.own Pick.head) rfl rfl ?_
         exact WO.nil ⟨rfl, rfl⟩
       refine' DT.r rfl rfl rfl ?hq ?_
       case hq =>
         refine WO.p rfl rfl ?_
         exact WO.nil ⟨rfl, rfl⟩
       refine DT.nil [_, _, _, _, _, _, _] rfl ?_
       refine WO.storeA rfl rfl rfl rfl Pick.head rfl rfl ?_
       refine WO.nil ?_
       refine' ⟨(exH what sp st (valQ sp st ys what).1 (valQ sp st ys what).2 high rows), v2, rv2, ?hp, ?hmu, ⟨rfl, rfl, rfl, rfl, rfl, trivial⟩, ?hS⟩
       case hS => repeat (first | exact Sub.nil | refine Sub.cons (by repeat (first | exact Pick.head | apply Pick.tail)) ?_)
       case hp => exact exH_tv hv
       case hmu => exact step_far hv tv hw (pair_ne c1))
end Go.Proofs.Ytgihklgpehfbpaa

