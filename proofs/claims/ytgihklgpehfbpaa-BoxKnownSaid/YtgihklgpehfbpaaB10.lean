/-
  What is proved here: the reference's volumes, how many true hulls there are, and its bounds. Conditions: none; each contract states its own.
-/
import Derived.Test.YtgihklgpehfbpaaB9
namespace Go.Proofs.Ytgihklgpehfbpaa
open Go Go.TH
attribute [local irreducible] W WO pt
set_option maxRecDepth 10000
/-- what Volumes answers -/
def volLo (sp st : Int) (rows : List (List (Int × Int))) (high : Bool) : Int × Int := if chkHull sp st rows = 0 then volV sp st rows (endsOf high rows) else (0, 0)
def volsR (sp st : Int) (rows : List (List (Int × Int))) : Value := .tuple #[.agg (encP (volLo sp st rows false) ++ encP (volLo sp st rows true)).toArray, .int .i64 (chkHull sp st rows)]
theorem volsR_0 {sp st : Int} {rows : List (List (Int × Int))} (h : chkHull sp st rows = 0) : .tuple #[.agg (encP (volV sp st rows (endsOf false rows)) ++ encP (volV sp st rows (endsOf true rows))).toArray, .int .i64 0] = volsR sp st rows := by
  unfold volsR volLo; rw [if_pos h, if_pos h, h]
theorem volsR_1 {sp st : Int} {rows : List (List (Int × Int))} (h : chkHull sp st rows ≠ 0) : .tuple #[.agg (encP (0, 0) ++ encP (0, 0)).toArray, .int .i64 (chkHull sp st rows)] = volsR sp st rows := by
  unfold volsR volLo; rw [if_neg h, if_neg h]
theorem HV.small {sp st : Int} {rows : List (List (Int × Int))} (h : HV sp st rows) : rows.length ≤ 1000 ∧ ∀ r ∈ rows, r.length ≤ 1000 := by
  have h1 := h.n; have h2 := h.m
  refine ⟨by omega, fun r hr => ?_⟩
  obtain ⟨i, hi, rfl⟩ := mem_getD [] hr
  rw [h.eq i hi]; omega
theorem ref_Volumes (w : World) (sp st : Int) (o : Value) (rv : List Value) (rows : List (List (Int × Int))) (hR : RdR encP 2 w.heap.size w o rv rows) :
    Ret Try.prog 35 [.agg #[.int .i64 sp, .int .i64 st, o]].toArray w (volsR sp st rows) := by
  refine Ret.of mixed tyTab Try.func35 rfl rfl ?_
  replace hR : RdR encP 2 (fnCx mixed tyTab Try.f35.ntmps w).B (fnCx mixed tyTab Try.f35.ntmps w).w0 o rv rows := hR
  refine W.sreg ?_
  refine WO.boxA rfl rfl (fun b1 hb1 => ?_)
  refine WO.alloc rfl rfl rfl (fun b2 hb2 => ?_)
  refine WO.p rfl rfl ?_
  refine WO.nil ?_
  refine W.seq ?_
  refine W.sreg ?_
  refine WO.loadA rfl rfl (Cells.own (Pick.tail (Pick.head))) rfl rfl ?_
  refine WO.callR (r := .int .i64 (chkHull sp st rows)) rfl Try.call19 (fun L w hi => ref_checkHull w sp st o rv rows (hR.later hi)) rfl ?_
  refine WO.p rfl rfl ?_
  refine WO.nil ?_
  refine W.cond_bl rfl (fun c1 => ?_) (fun c1 => ?_)
  · first
    | (exfalso; omega)
    | (refine W.sreg ?_
       refine' WO.build (cs := _) rfl rfl rfl ?hf rfl ?_
       case hf => (conv => lhs; simp [-List.getD_eq_getElem?_getD, fillL, vcl, wrl, TTab.pl?.lget']) <;> rfl
       refine WO.loadA rfl rfl (Cells.own (Pick.tail (Pick.head))) rfl rfl ?_
       refine WO.callR (r := .int .i64 (chkHull sp st rows)) rfl Try.call19 (fun L w hi => ref_checkHull w sp st o rv rows (hR.later hi)) rfl ?_
       refine WO.storeA rfl rfl rfl rfl Pick.head rfl rfl (WO.p rfl rfl ?_)
       refine WO.nil ?_
       refine W.ret ?_
       refine fin.ret (Res.two rfl (RV.cell rfl rfl rfl (Cells.own Pick.head)) (RV.tmp rfl)) ?_
       first | exact volsR_0 (by omega) | exact volsR_1 (by omega))
  · first
    | (exfalso; omega)
    | (refine W.skip ?_
       refine W.seq ?_
       refine W.drawD 9 [.b 0 [], .b 1 [], .c 2 [], .f 3 [], .r 4 [], .r 5 [], .r 6 [], .a 7 4 (.cells #[.int .i64 0, .int .i64 0] 29 (0, 0)), .s 8 []] [] (A0 := []) (Sub.refl _) (by kernel_rfl) ?_ ?_
       · exact (ALok.b (ALok.b (ALok.c (ALok.f (ALok.r (ALok.r (ALok.r (ALok.cons rfl rfl rfl rfl rfl (ALok.s ALok.nil)))))))))
       refine' DT.b rfl rfl rfl ?hq ?_
       case hq =>
         refine WO.loadA rfl rfl (Cells.own (Pick.tail (Pick.head))) rfl rfl ?_
         exact WO.nil ⟨rfl, rfl⟩
       refine' DT.b rfl rfl rfl ?hq ?_
       case hq =>
         refine WO.loadA rfl rfl (Cells.own (Pick.tail (Pick.head))) rfl rfl ?_
         exact WO.nil ⟨rfl, rfl⟩
       refine DT.c [_, _] rfl rfl rfl rfl ?_
       have hs := (HV.of (sp := sp) (st := st) (rows := rows) (by omega)).small
       refine WO.call (Post := fun v Hq => ∃ rv', Hq = [OwC 53 1 v rows.length rv', RowsE encI 2 1 rv' (endsOf false rows)]) rfl Try.call54 (fun L w hi => ref_End w sp st o rv rows false (hR.later hi) hs.1 hs.2) rfl ?_
       rintro v1 _ ⟨rv1, rfl⟩
       refine WO.nil ⟨_, [_, _], rfl, rfl, (Keep.b (Keep.b Keep.nil)), ?_⟩
       refine' DT.f [_, _, _, _] rfl rfl rfl rfl ?hq ?_
       case hq =>
         refine WO.callR (r := volR sp st rows (endsOf false rows)) rfl Try.call15 (fun L w hi => ref_Volume w sp st o v1 rv rv1 rows (endsOf false rows) (hR.later hi) (RdR.of_ow encI_ok (by repeat (first | exact Pick.head | apply Pick.tail)) (by repeat (first | exact Pick.head | apply Pick.tail)) hi)) rfl ?_
         exact WO.nil ⟨rfl, rfl⟩
       refine' DT.r rfl rfl rfl ?hq ?_
       case hq =>
         refine WO.p rfl rfl ?_
         exact WO.nil ⟨rfl, rfl⟩
       refine' DT.r rfl rfl rfl ?hq ?_
       case hq =>
         refine WO.p rfl rfl ?_
         exact WO.nil ⟨rfl, rfl⟩
       refine' DT.r rfl rfl rfl ?hq ?_
       case hq =>
         refine WO.p rfl rfl ?_
         exact WO.nil ⟨rfl, rfl⟩
       refine DT.a (fun b3 => ?_)
       refine DT.s [_, _, _, _, _] rfl rfl rfl ?_
       refine WO.storeA rfl rfl rfl rfl Pick.head rfl rfl ?_
       refine WO.nil ⟨[_, _, _], rfl, rfl, (Keep.a (Keep.r (Keep.r (Keep.r (Keep.f (Keep.c (Keep.b (Keep.b Keep.nil)))))))), ?_⟩
       refine DT.nil [_, _, _, _, _] rfl ?_
       refine WO.p rfl rfl ?_
       refine WO.nil ?_
       refine W.seq ?_
       refine W.drawD 9 [.b 0 [], .b 1 [], .c 2 [], .f 3 [], .r 4 [], .r 5 [], .r 6 [], .a 7 6 (.cells #[.int .i64 0, .int .i64 0] 29 (0, 0)), .s 8 []] [] (A0 := []) (Sub.refl _) (by kernel_rfl) ?_ ?_
       · exact (ALok.b (ALok.b (ALok.c (ALok.f (ALok.r (ALok.r (ALok.r (ALok.cons rfl rfl rfl rfl rfl (ALok.s ALok.nil)))))))))
       refine' DT.b rfl rfl rfl ?hq ?_
       case hq =>
         refine WO.loadA rfl rfl (Cells.own (Pick.tail (Pick.tail (Pick.tail (Pick.tail (Pick.head)))))) rfl rfl ?_
         exact WO.nil ⟨rfl, rfl⟩
       refine' DT.b rfl rfl rfl ?hq ?_
       case hq =>
         refine WO.loadA rfl rfl (Cells.own (Pick.tail (Pick.tail (Pick.tail (Pick.tail (Pick.head)))))) rfl rfl ?_
         exact WO.nil ⟨rfl, rfl⟩
       refine DT.c [_, _, _, _, _] rfl rfl rfl rfl ?_
       refine WO.call (Post := fun v Hq => ∃ rv', Hq = [OwC 53 1 v rows.length rv', RowsE encI 2 1 rv' (endsOf true rows)]) rfl Try.call54 (fun L w hi => ref_End w sp st o rv rows true (hR.later hi) hs.1 hs.2) rfl ?_
       rintro v2 _ ⟨rv2, rfl⟩
       refine WO.nil ⟨_, [_, _], rfl, rfl, (Keep.b (Keep.b Keep.nil)), ?_⟩
       refine' DT.f [_, _, _, _, _, _, _] rfl rfl rfl rfl ?hq ?_
       case hq =>
         refine WO.callR (r := volR sp st rows (endsOf true rows)) rfl Try.call15 (fun L w hi => ref_Volume w sp st o v2 rv rv2 rows (endsOf true rows) (hR.later hi) (RdR.of_ow encI_ok (by repeat (first | exact Pick.head | apply Pick.tail)) (by repeat (first | exact Pick.head | apply Pick.tail)) hi)) rfl ?_
         exact WO.nil ⟨rfl, rfl⟩
       refine' DT.r rfl rfl rfl ?hq ?_
       case hq =>
         refine WO.p rfl rfl ?_
         exact WO.nil ⟨rfl, rfl⟩
       refine' DT.r rfl rfl rfl ?hq ?_
       case hq =>
         refine WO.p rfl rfl ?_
         exact WO.nil ⟨rfl, rfl⟩
       refine' DT.r rfl rfl rfl ?hq ?_
       case hq =>
         refine WO.p rfl rfl ?_
         exact WO.nil ⟨rfl, rfl⟩
       refine DT.a (fun b4 => ?_)
       refine DT.s [_, _, _, _, _, _, _, _] rfl rfl rfl ?_
       refine WO.storeA rfl rfl rfl rfl Pick.head rfl rfl ?_
       refine WO.nil ⟨[_, _, _], rfl, rfl, (Keep.a (Keep.r (Keep.r (Keep.r (Keep.f (Keep.c (Keep.b (Keep.b Keep.nil)))))))), ?_⟩
       refine DT.nil [_, _, _, _, _, _, _, _] rfl ?_
       refine WO.p rfl rfl ?_
       refine WO.nil ?_
       refine W.sreg ?_
       refine WO.loadA rfl rfl (Cells.own (Pick.tail (Pick.tail (Pick.tail (Pick.head))))) rfl rfl (WO.loadA rfl rfl (Cells.own Pick.head) rfl rfl ?_)
       refine' WO.build (cs := _) rfl rfl rfl ?hf rfl ?_
       case hf => (conv => lhs; simp [-List.getD_eq_getElem?_getD, fillL, vcl, wrl, TTab.pl?.lget']) <;> rfl
       refine WO.storeA rfl rfl rfl rfl (Pick.tail (Pick.tail (Pick.tail (Pick.tail (Pick.tail (Pick.tail (Pick.head))))))) rfl rfl (WO.p rfl rfl ?_)
       refine WO.nil ?_
       refine W.ret ?_
       refine fin.ret (Res.two rfl (RV.cell rfl rfl rfl (Cells.own Pick.head)) (RV.tmp rfl)) ?_
       first | exact volsR_0 (by omega) | exact volsR_1 (by omega))
end Go.Proofs.Ytgihklgpehfbpaa

